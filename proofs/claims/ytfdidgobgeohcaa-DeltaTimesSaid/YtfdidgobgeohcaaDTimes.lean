/- The law DeltaTimes, walked. -/
import Derived.Test.YtfdidgobgeohcaaDelta9
import Derived.Test.YtfdidgobgeohcaaDLeft
import Derived.Deep.RegionHeld3
import Derived.Deep.DeepCutAuto
set_option linter.unusedVariables false
set_option linter.unusedSimpArgs false
namespace Go.Proofs.Ytfdidgobgeohcaa
open Go.RowKit

/-- In the order of the ticks, and of the tasks where these are the same. -/
def DOrd (ds : List DN) : Prop := ds.Pairwise fun x y => x.a < y.a ∨ (x.a = y.a ∧ x.t < y.t)

theorem dspan_le {a : Int} {ds : List DN} : ∀ x ∈ (dspan a ds).1, x.a ≤ a := by
  induction ds with
  | nil => simp [dspan]
  | cons x xs ih =>
    unfold dspan
    split
    · rename_i h
      intro y hy
      rcases List.mem_cons.1 hy with rfl | hy
      · exact h
      · exact ih y hy
    · simp
theorem dspan_gt {a : Int} {ds : List DN} (h : DOrd ds) : ∀ x ∈ (dspan a ds).2, a < x.a := by
  induction ds with
  | nil => simp [dspan]
  | cons x xs ih =>
    obtain ⟨h1, h2⟩ := List.pairwise_cons.1 h
    unfold dspan
    split
    · exact ih h2
    · rename_i hx
      intro y hy
      rcases List.mem_cons.1 hy with rfl | hy
      · omega
      · have := h1 y hy; omega
theorem DOrd.add {ds : List DN} (h : DOrd ds) (t a : Int) (B : Nat) (ht : ∀ x ∈ ds, x.t < t) : DOrd ((dspan a ds).1 ++ ⟨B, t, a⟩ :: (dspan a ds).2) := by
  have hd : DOrd ((dspan a ds).1 ++ (dspan a ds).2) := by rw [dspan_append]; exact h
  obtain ⟨h1, h2, h3⟩ := List.pairwise_append.1 hd
  refine List.pairwise_append.2 ⟨h1, List.pairwise_cons.2 ⟨fun y hy => .inl (dspan_gt h y hy), h2⟩, fun x hx y hy => ?_⟩
  rcases List.mem_cons.1 hy with rfl | hy
  · have := dspan_le x hx
    have h4 := ht x ((dspan_mem a ds x).1 (.inl hx))
    show x.a < a ∨ (x.a = a ∧ x.t < t)
    omega
  · exact h3 x hx y hy
theorem DOrd.dec {ds : List DN} (h : DOrd ds) : DOrd (ddec ds) := by
  unfold DOrd ddec at *
  rw [List.pairwise_map]
  exact h.imp fun {x y} hxy => by simp only; omega

/-- The tasks that a tick tells: rising, and just those whose last tick it is. -/
theorem told_spec {W w : World} {d : Nat} {ds : List DN} (h : DI W w d ds) (ho : DOrd ds) :
    ((dtold ds).map DN.t).Pairwise (· < ·) ∧ (∀ t, t ∈ (dtold ds).map DN.t ↔ dmem ds t 1) ∧ DOrd (drest ds) := by
  obtain ⟨h1, h2, h3⟩ := tick_spec h
  have hd := ho.dec
  rw [h1] at hd
  obtain ⟨h4, h5, _⟩ := List.pairwise_append.1 hd
  refine ⟨?_, fun t => ?_, h5⟩
  · rw [List.pairwise_map]
    refine List.Pairwise.imp_of_mem (fun {x y} hx hy hxy => ?_) h4
    have := h2 x hx
    have := h2 y hy
    omega
  · constructor
    · intro ht
      obtain ⟨z, hz, rfl⟩ := List.mem_map.1 ht
      have hz0 := h2 z hz
      obtain ⟨x, hx, rfl⟩ := ddec_mem.1 (show z ∈ ddec ds by rw [h1]; simp [hz])
      exact ⟨x, hx, rfl, by simp at hz0; omega⟩
    · rintro ⟨x, hx, rfl, hxa⟩
      have hm : (⟨x.b, x.t, x.a - 1⟩ : DN) ∈ ddec ds := ddec_mem.2 ⟨x, hx, rfl⟩
      rw [h1] at hm
      rcases List.mem_append.1 hm with hm | hm
      · exact List.mem_map.2 ⟨_, hm, rfl⟩
      · have := h3 _ hm
        simp at this
        omega

theorem rise_at {T : List Int} (h : T.Pairwise (· < ·)) {i : Int} (hi : i ∈ T) : T[(T.filter fun x => decide (x < i)).length]? = some i := by
  induction T with
  | nil => cases hi
  | cons x T ih =>
    obtain ⟨h1, h2⟩ := List.pairwise_cons.1 h
    rcases List.mem_cons.1 hi with rfl | hi
    · have : (i :: T).filter (fun x => decide (x < i)) = [] := by
        rw [List.filter_eq_nil_iff]
        intro y hy
        rcases List.mem_cons.1 hy with rfl | hy
        · simp
        · have := h1 y hy; simp; omega
      rw [this]; rfl
    · have := h1 i hi
      rw [List.filter_cons_of_pos (by simpa using this)]
      simpa using ih h2 hi
theorem rise_step {T : List Int} (h : T.Pairwise (· < ·)) (i : Int) : (T.filter fun x => decide (x < i + 1)).length = (T.filter fun x => decide (x < i)).length + (if i ∈ T then 1 else 0) := by
  induction T with
  | nil => simp
  | cons x T ih =>
    obtain ⟨h1, h2⟩ := List.pairwise_cons.1 h
    have ih := ih h2
    by_cases e : x = i
    · subst e
      have hno : x ∉ T := fun hm => by have := h1 x hm; omega
      rw [if_neg hno] at ih
      rw [if_pos (by simp), List.filter_cons_of_pos (by simp; omega), List.filter_cons_of_neg (by simp)]
      simp [ih]
    · have : (i ∈ x :: T) ↔ i ∈ T := by simp [Ne.symm e]
      simp only [this]
      by_cases hl : x < i
      · rw [List.filter_cons_of_pos (by simp; omega), List.filter_cons_of_pos (by simp; omega)]
        simp [ih]; omega
      · rw [List.filter_cons_of_neg (by simp; omega), List.filter_cons_of_neg (by simp; omega)]
        exact ih
theorem rise_all {T : List Int} {k : Int} (h : ∀ x ∈ T, x < k) : T.filter (fun x => decide (x < k)) = T := by
  rw [List.filter_eq_self]
  intro x hx
  simpa using h x hx
theorem rise_zero {T : List Int} (h : ∀ x ∈ T, 0 ≤ x) : T.filter (fun x => decide (x < ((0 : Nat) : Int))) = [] := by
  rw [List.filter_eq_nil_iff]
  intro x hx
  have := h x hx
  simp; omega

/-- Behind n - 1 ticks. -/
def DAfter (xs : List Int) (gone : Int) (n : Nat) (ds : List DN) : Prop := ∀ t a, dmem ds t a ↔ ∃ j : Nat, (j : Int) = t ∧ xs[j]? = some (a + n) ∧ 0 < a ∧ t ≠ gone
theorem DAfter.start {xs : List Int} {gone : Int} {ds ds1 : List DN} (h : DAdded xs xs.length ds) (h1 : ∀ t a, dmem ds1 t a ↔ dmem ds t a ∧ t ≠ gone) : DAfter xs gone 0 ds1 := by
  intro t a
  rw [h1 t a, h t a]
  constructor
  · rintro ⟨⟨j, h1, h2, h3, h4⟩, h5⟩; exact ⟨j, h2, by simpa using h3, h4, h5⟩
  · rintro ⟨j, h2, h3, h4, h5⟩
    have h3' : xs[j]? = some a := by simpa using h3
    exact ⟨⟨j, (List.getElem?_eq_some_iff.1 h3').1, h2, h3', h4⟩, h5⟩
theorem DAfter.tick {xs : List Int} {gone : Int} {n : Nat} {ds ds' : List DN} (h : DAfter xs gone n ds) (hm : ∀ t a, dmem ds' t a ↔ dmem ds t (a + 1) ∧ 0 < a) : DAfter xs gone (n + 1) ds' := by
  intro t a
  rw [hm t a, h t (a + 1)]
  have e : a + 1 + (n : Int) = a + ((n + 1 : Nat) : Int) := by omega
  rw [e]
  constructor
  · rintro ⟨⟨j, h1, h2, h3, h4⟩, h5⟩; exact ⟨j, h1, h2, h5, h4⟩
  · rintro ⟨j, h1, h2, h3, h4⟩; exact ⟨⟨j, h1, h2, by omega, h4⟩, h3⟩
theorem DAfter.told {xs : List Int} {gone : Int} {n : Nat} {ds : List DN} (h : DAfter xs gone n ds) (j : Nat) (hj : j < xs.length) : dmem ds j 1 ↔ xs[j] = (n : Int) + 1 ∧ (j : Int) ≠ gone := by
  rw [h j 1]
  constructor
  · rintro ⟨i, e, h1, _, h2⟩
    have : i = j := by omega
    subst this
    rw [List.getElem?_eq_getElem hj] at h1
    have : xs[i] = 1 + n := by simpa using h1
    exact ⟨by omega, h2⟩
  · rintro ⟨h1, h2⟩
    exact ⟨j, rfl, by rw [List.getElem?_eq_getElem hj, h1]; congr 1; omega, by omega, h2⟩
theorem DAfter.lt {xs : List Int} {gone : Int} {n : Nat} {ds : List DN} (h : DAfter xs gone n ds) {t a : Int} (hm : dmem ds t a) : 0 ≤ t ∧ t < xs.length := by
  obtain ⟨j, e, h1, _⟩ := (h t a).1 hm
  have := (List.getElem?_eq_some_iff.1 h1).1
  omega
theorem DAfter.nobody {xs : List Int} {gone : Int} {ds : List DN} (h : DAfter xs gone 60 ds) (hx : ∀ x ∈ xs, x ≤ 60) : ds = [] := by
  cases ds with
  | nil => rfl
  | cons z zs =>
    obtain ⟨j, e, h1, h2, _⟩ := (h z.t z.a).1 ⟨z, by simp, rfl, rfl⟩
    have hm := hx _ (List.mem_of_getElem? h1)
    omega

/-- What 'Remove' answers behind the adds. -/
theorem added_left {xs : List Int} {ds : List DN} (h : DAdded xs xs.length ds) (ht : (ds.map DN.t).Nodup) (gone : Int) :
    ((gone < 0 ∨ (xs.length : Int) ≤ gone) ∧ dleft gone ds = (0, false)) ∨ ∃ j : Nat, gone = j ∧ ∃ hj : j < xs.length, (xs[j] ≤ 0 ∧ dleft gone ds = (0, false)) ∨ (0 < xs[j] ∧ dleft gone ds = (xs[j], true)) := by
  by_cases hg : gone < 0 ∨ (xs.length : Int) ≤ gone
  · refine .inl ⟨hg, dleft_none fun a hm => ?_⟩
    obtain ⟨j, h1, h2, _⟩ := (h gone a).1 hm
    omega
  · obtain ⟨j, rfl⟩ := Int.eq_ofNat_of_zero_le (show 0 ≤ gone by omega)
    have hj : j < xs.length := by omega
    refine .inr ⟨j, rfl, hj, ?_⟩
    by_cases hp : 0 < xs[j]
    · exact .inr ⟨hp, dleft_of ht ((h j xs[j]).2 ⟨j, hj, rfl, List.getElem?_eq_getElem hj, hp⟩)⟩
    · refine .inl ⟨by omega, dleft_none fun a hm => ?_⟩
      obtain ⟨i, h1, h2, h3, h4⟩ := (h j a).1 hm
      have : i = j := by omega
      subst this
      rw [List.getElem?_eq_getElem hj] at h3
      have : xs[i] = a := by simpa using h3
      omega

theorem dok_added {xs : List Int} {k : Nat} {ds : List DN} (h : DAdded xs k ds) (hk : k < xs.length) (h16 : xs.length ≤ 16) : dok ds k xs[k] ↔ 0 < xs[k] := by
  have hnone : dfind (k : Int) ds = none := dfind_none.2 fun x hx e => by
    obtain ⟨j, h1, h2, _⟩ := (h x.t x.a).1 ⟨x, hx, rfl, rfl⟩
    omega
  exact ⟨fun h => h.2.2.2, fun h => ⟨hnone, by omega, by omega, h⟩⟩
theorem ord_added {xs : List Int} {k : Nat} {ds ds' : List DN} (h : DAdded xs k ds) (ho : DOrd ds) {a : Int} (h1 : dok ds k a → ∃ B, ds' = (dspan a ds).1 ++ ⟨B, k, a⟩ :: (dspan a ds).2) (h2 : ¬ dok ds k a → ds' = ds) : DOrd ds' := by
  by_cases hok : dok ds k a
  · obtain ⟨B, rfl⟩ := h1 hok
    exact ho.add k a B fun x hx => by
      obtain ⟨j, e1, e2, _⟩ := (h x.t x.a).1 ⟨x, hx, rfl, rfl⟩
      omega
  · rw [h2 hok]; exact ho
end Go.Proofs.Ytfdidgobgeohcaa
