/- Package delta: the list as a set of tasks with their ticks; its methods in these words. -/
import Derived.Test.YtgmdhjlbedgafaaDelta6
set_option linter.unusedVariables false
set_option linter.unusedSimpArgs false
namespace Go.Proofs.Ytgmdhjlbedgafaa
open Go.RowKit

def dmem (xs : List DN) (t a : Int) : Prop := ∃ x ∈ xs, x.t = t ∧ x.a = a

theorem dmem_append {ys zs : List DN} {t a : Int} : dmem (ys ++ zs) t a ↔ dmem ys t a ∨ dmem zs t a := by
  simp only [dmem, List.mem_append]
  constructor
  · rintro ⟨x, h | h, e⟩
    · exact .inl ⟨x, h, e⟩
    · exact .inr ⟨x, h, e⟩
  · rintro (⟨x, h, e⟩ | ⟨x, h, e⟩)
    · exact ⟨x, .inl h, e⟩
    · exact ⟨x, .inr h, e⟩
theorem dmem_cons {z : DN} {zs : List DN} {t a : Int} : dmem (z :: zs) t a ↔ (z.t = t ∧ z.a = a) ∨ dmem zs t a := by
  simp [dmem]

theorem tnd_unique {xs : List DN} (h : (xs.map DN.t).Nodup) {t a b : Int} (ha : dmem xs t a) (hb : dmem xs t b) : a = b := by
  induction xs with
  | nil => obtain ⟨x, hx, _⟩ := ha; cases hx
  | cons x xs ih =>
    obtain ⟨h1, h2⟩ := List.nodup_cons.1 h
    rw [dmem_cons] at ha hb
    rcases ha with ⟨e1, e2⟩ | ha <;> rcases hb with ⟨f1, f2⟩ | hb
    · omega
    · obtain ⟨y, hy, g1, g2⟩ := hb
      exact absurd (List.mem_map.2 ⟨y, hy, by rw [g1, e1]⟩) h1
    · obtain ⟨y, hy, g1, g2⟩ := ha
      exact absurd (List.mem_map.2 ⟨y, hy, by rw [g1, f1]⟩) h1
    · exact ih h2 ha hb

/-- What 'Left' answers, in these words. -/
theorem dleft_of {xs : List DN} (h : (xs.map DN.t).Nodup) {t a : Int} (hm : dmem xs t a) : dleft t xs = (a, true) := by
  unfold dleft
  cases hf : dfind t xs with
  | none =>
    obtain ⟨x, hx, e, _⟩ := hm
    exact absurd e (dfind_none.1 hf x hx)
  | some r =>
    obtain ⟨h1, h2, _⟩ := dfind_some hf
    have : dmem xs t r.2.1.a := ⟨r.2.1, by rw [h1]; simp, h2, rfl⟩
    rw [tnd_unique h hm this]
theorem dleft_none {xs : List DN} {t : Int} (hm : ∀ a, ¬ dmem xs t a) : dleft t xs = (0, false) := by
  unfold dleft
  cases hf : dfind t xs with
  | none => rfl
  | some r =>
    obtain ⟨h1, h2, _⟩ := dfind_some hf
    exact absurd ⟨r.2.1, by rw [h1]; simp, h2, rfl⟩ (hm r.2.1.a)

theorem dleft_cons (x : DN) (xs : List DN) (t : Int) : (dleft t (x :: xs)).2 = if x.t = t then true else (dleft t xs).2 := by
  have hc : dfind t (x :: xs) = if x.t = t then some ([], x, xs) else (dfind t xs).map fun r => (x :: r.1, r.2.1, r.2.2) := rfl
  unfold dleft
  rw [hc]
  by_cases e : x.t = t
  · simp [e]
  · rw [if_neg e, if_neg e]
    cases dfind t xs <;> rfl
/-- How many tasks below k wait. -/
theorem count_step {xs : List DN} (h : (xs.map DN.t).Nodup) (k : Int) : (xs.filter fun x => decide (x.t < k + 1)).length = (xs.filter fun x => decide (x.t < k)).length + (if (dleft k xs).2 = true then 1 else 0) := by
  induction xs with
  | nil => simp [dleft, dfind]
  | cons x xs ih =>
    obtain ⟨h1, h2⟩ := List.nodup_cons.1 h
    have ih := ih h2
    rw [dleft_cons]
    by_cases e : x.t = k
    · have hno : ¬ (dleft k xs).2 = true := by
        have : dfind k xs = none := dfind_none.2 fun y hy g => h1 (List.mem_map.2 ⟨y, hy, by rw [g, e]⟩)
        simp [dleft, this]
      rw [if_neg hno] at ih
      rw [if_pos e, if_pos rfl, List.filter_cons_of_pos (by simp; omega), List.filter_cons_of_neg (by simp; omega)]
      simp [ih]
    · rw [if_neg e]
      by_cases hl : x.t < k
      · rw [List.filter_cons_of_pos (by simp; omega), List.filter_cons_of_pos (by simp; omega)]
        simp [ih]; omega
      · rw [List.filter_cons_of_neg (by simp; omega), List.filter_cons_of_neg (by simp; omega)]
        exact ih
theorem count_le {xs : List DN} (h : (xs.map DN.t).Nodup) (h0 : ∀ x ∈ xs, 0 ≤ x.t) : ∀ k : Nat, (xs.filter fun x => decide (x.t < (k : Int))).length ≤ k
  | 0 => by
    have : (xs.filter fun x => decide (x.t < ((0 : Nat) : Int))) = [] := by
      rw [List.filter_eq_nil_iff]
      intro x hx
      have := h0 x hx
      simp; omega
    rw [this]; simp
  | k + 1 => by
    have h1 := count_le h h0 k
    have h2 := count_step h (k : Int)
    have : ((k + 1 : Nat) : Int) = (k : Int) + 1 := by omega
    rw [this, h2]
    split <;> omega
theorem count_all {xs : List DN} {k : Int} (h : ∀ x ∈ xs, x.t < k) : xs.filter (fun x => decide (x.t < k)) = xs := by
  rw [List.filter_eq_self]
  intro x hx
  simpa using h x hx

/-- A list of the law's own. -/
structure DI (W w : World) (d : Nat) (xs : List DN) : Prop where
  dl : DL w d xs
  own : ∀ k ∈ d :: xs.map DN.b, W.heap.size ≤ k
  upd : Upd [] W w
  pos : ∀ x ∈ xs, 0 < x.a
  tnd : (xs.map DN.t).Nodup
  rng : ∀ x ∈ xs, 0 ≤ x.t ∧ x.t < 16

theorem DI.len {W w : World} {d : Nat} {xs : List DN} (h : DI W w d xs) : xs.length ≤ 16 := by
  have h1 := count_le h.tnd (fun x hx => (h.rng x hx).1) 16
  rw [count_all (k := ((16 : Nat) : Int)) (fun x hx => (h.rng x hx).2)] at h1
  exact h1
theorem DI.keep {W w w' : World} {d : Nat} {xs : List DN} {S : List Nat} (h : DI W w d xs) (hu : Upd S w w') (hS : ∀ k ∈ S, w.heap.size ≤ k ∨ (W.heap.size ≤ k ∧ k ∉ d :: xs.map DN.b)) : DI W w' d xs := by
  refine ⟨h.dl.keep hu fun k hk hk2 => ?_, h.own, h.upd.then hu fun i hi => .inr ?_, h.pos, h.tnd, h.rng⟩
  · rcases hS k hk2 with h1 | h1
    · have := h.dl.lt k hk; omega
    · exact h1.2 hk
  · have := h.upd.size
    rcases hS i hi with h1 | h1
    · omega
    · exact h1.1

theorem dspan_mem (a : Int) (xs : List DN) (x : DN) : x ∈ (dspan a xs).1 ∨ x ∈ (dspan a xs).2 ↔ x ∈ xs := by
  rw [← List.mem_append, dspan_append]
theorem nodup_mid {α : Type} {ys zs : List α} {z : α} : (ys ++ z :: zs).Nodup ↔ z ∉ ys ++ zs ∧ (ys ++ zs).Nodup := by
  rw [List.nodup_append, List.nodup_append, List.nodup_cons]
  constructor
  · rintro ⟨h1, ⟨h2, h3⟩, h4⟩
    exact ⟨fun hm => by
      rcases List.mem_append.1 hm with hm | hm
      · exact h4 z hm z (by simp) rfl
      · exact h2 hm, h1, h3, fun a ha b hb => h4 a ha b (by simp [hb])⟩
  · rintro ⟨h1, h2, h3, h4⟩
    refine ⟨h2, ⟨fun hm => h1 (by simp [hm]), h3⟩, fun a ha b hb => ?_⟩
    rcases List.mem_cons.1 hb with rfl | hb
    · rintro rfl; exact h1 (by simp [ha])
    · exact h4 a ha b hb

/-- Is a new task taken? -/
def dok (xs : List DN) (t a : Int) : Prop := dfind t xs = none ∧ 0 ≤ t ∧ t < 16 ∧ 0 < a
instance (xs : List DN) (t a : Int) : Decidable (dok xs t a) := by
  unfold dok
  have : Decidable (dfind t xs = none) := by cases dfind t xs <;> simp <;> infer_instance
  infer_instance

def DIAdd (W w : World) (d : Nat) (xs : List DN) (t a : Int) (e : Ending) (w' : World) : Prop :=
  ∃ xs', e = .returned (.bool (decide (dok xs t a))) ∧ DI W w' d xs' ∧ Upd (d :: xs.map DN.b) w w' ∧ (∀ t' a', dmem xs' t' a' ↔ dmem xs t' a' ∨ (dok xs t a ∧ t' = t ∧ a' = a)) ∧ (dok xs t a → ∃ B, xs' = (dspan a xs).1 ++ ⟨B, t, a⟩ :: (dspan a xs).2) ∧ (¬ dok xs t a → xs' = xs)

theorem DI.add {W w : World} {d : Nat} {xs : List DN} (h : DI W w d xs) (t a : Int) (ha0 : 0 ≤ a) (ha : a ≤ 4294967295) :
    Calls Try.prog 6 #[.pointer (some ⟨d, 0, none⟩), .int .i64 t, .int .u32 a] w (DIAdd W w d xs t a) := by
  have hl := h.len
  by_cases hok : dok xs t a
  · refine (dadd_yes t a h.dl hok.1 hok.2.1 hok.2.2.1 hok.2.2.2 ha (by omega)).mono ?_
    rintro e w' ⟨B, rfl, hB, hd, hu⟩
    have hsz := h.upd.size
    have hmem : ∀ x, x ∈ (dspan a xs).1 ++ ⟨B, t, a⟩ :: (dspan a xs).2 ↔ x = ⟨B, t, a⟩ ∨ x ∈ xs := by
      intro x
      rw [← dspan_mem a xs x]
      simp only [List.mem_append, List.mem_cons]
      constructor
      · rintro (h1 | h1 | h1)
        · exact .inr (.inl h1)
        · exact .inl h1
        · exact .inr (.inr h1)
      · rintro (h1 | h1 | h1)
        · exact .inr (.inl h1)
        · exact .inl h1
        · exact .inr (.inr h1)
    refine ⟨_, by simp [hok], ⟨hd, ?_, h.upd.then hu fun i hi => .inr (h.own i hi), ?_, ?_, ?_⟩, hu, ?_, fun _ => ⟨B, rfl⟩, fun hn => absurd hok hn⟩
    · intro k hk
      rcases List.mem_cons.1 hk with rfl | hk
      · exact h.own _ (by simp)
      · obtain ⟨x, hx, rfl⟩ := List.mem_map.1 hk
        rcases (hmem x).1 hx with rfl | hx
        · show W.heap.size ≤ B; omega
        · exact h.own _ (by simp; exact .inr ⟨x, hx, rfl⟩)
    · intro x hx
      rcases (hmem x).1 hx with rfl | hx
      · exact hok.2.2.2
      · exact h.pos x hx
    · rw [List.map_append, List.map_cons, nodup_mid, ← List.map_append, dspan_append]
      refine ⟨fun hm => ?_, h.tnd⟩
      obtain ⟨x, hx, e⟩ := List.mem_map.1 hm
      exact dfind_none.1 hok.1 x hx e
    · intro x hx
      rcases (hmem x).1 hx with rfl | hx
      · exact ⟨hok.2.1, hok.2.2.1⟩
      · exact h.rng x hx
    · intro t' a'
      constructor
      · rintro ⟨x, hx, e1, e2⟩
        rcases (hmem x).1 hx with rfl | hx
        · exact .inr ⟨hok, e1.symm, e2.symm⟩
        · exact .inl ⟨x, hx, e1, e2⟩
      · rintro (⟨x, hx, e1, e2⟩ | ⟨_, rfl, rfl⟩)
        · exact ⟨x, (hmem x).2 (.inr hx), e1, e2⟩
        · exact ⟨_, (hmem _).2 (.inl rfl), rfl, rfl⟩
  · refine (dadd_no t a h.dl ?_).mono ?_
    · unfold dok at hok
      by_cases h1 : dfind t xs = none
      · have : ¬ (0 ≤ t ∧ t < 16 ∧ 0 < a) := fun h2 => hok ⟨h1, h2⟩
        omega
      · exact .inl h1
    · rintro e w' ⟨rfl, rfl⟩
      exact ⟨xs, by simp [hok], h, Upd.refl _ _, by simp [hok], fun hn => absurd hn hok, fun _ => rfl⟩

def DIRem (W w : World) (d : Nat) (xs : List DN) (t : Int) (e : Ending) (w' : World) : Prop :=
  ∃ xs', e = .returned (.tuple #[.int .u32 (dleft t xs).1, .bool (dleft t xs).2]) ∧ DI W w' d xs' ∧ Upd (d :: xs.map DN.b) w w' ∧ (∀ t' a', dmem xs' t' a' ↔ dmem xs t' a' ∧ t' ≠ t) ∧ xs' = xs.filter fun x => decide (x.t ≠ t)

theorem DI.rem {W w : World} {d : Nat} {xs : List DN} (h : DI W w d xs) (t : Int) :
    Calls Try.prog 8 #[.pointer (some ⟨d, 0, none⟩), .int .i64 t] w (DIRem W w d xs t) := by
  have hl := h.len
  cases hf : dfind t xs with
  | none =>
    refine (drem_no t h.dl hf).mono ?_
    rintro e w' ⟨rfl, rfl⟩
    have hn := dfind_none.1 hf
    refine ⟨xs, by simp [dleft, hf], h, Upd.refl _ _, fun t' a' => ⟨fun hm => ⟨hm, ?_⟩, fun hm => hm.1⟩, ?_⟩
    · rintro rfl
      obtain ⟨x, hx, e, _⟩ := hm
      exact hn x hx e
    · symm
      rw [List.filter_eq_self]
      intro x hx
      simpa using hn x hx
  | some r =>
    obtain ⟨ys, z, zs⟩ := r
    obtain ⟨h1, h2, h3⟩ := dfind_some hf
    simp only at h1 h2 h3
    subst h1
    refine (drem_yes t h.dl hf (by omega)).mono ?_
    rintro e w' ⟨rfl, hd, hu⟩
    have htn : (ys.map DN.t ++ z.t :: zs.map DN.t).Nodup := by simpa using h.tnd
    obtain ⟨hz, htn'⟩ := nodup_mid.1 htn
    have hsub : ∀ x, x ∈ ys ++ zs → x ∈ ys ++ z :: zs := fun x hx => by
      rcases List.mem_append.1 hx with hx | hx <;> simp [hx]
    have hne : ∀ x ∈ ys ++ zs, x.t ≠ t := fun x hx e => hz (by rw [← List.map_append]; exact List.mem_map.2 ⟨x, hx, by rw [e, h2]⟩)
    refine ⟨ys ++ zs, by simp [dleft, hf], ⟨hd, ?_, h.upd.then hu fun i hi => .inr (h.own i hi), fun x hx => h.pos x (hsub x hx), by simpa using htn', fun x hx => h.rng x (hsub x hx)⟩, hu, fun t' a' => ?_, ?_⟩
    · intro k hk
      rcases List.mem_cons.1 hk with rfl | hk
      · exact h.own _ (by simp)
      · obtain ⟨x, hx, rfl⟩ := List.mem_map.1 hk
        exact h.own _ (List.mem_cons_of_mem _ (List.mem_map.2 ⟨x, hsub x hx, rfl⟩))
    · constructor
      · rintro ⟨x, hx, e1, e2⟩
        exact ⟨⟨x, hsub x hx, e1, e2⟩, e1 ▸ hne x hx⟩
      · rintro ⟨⟨x, hx, e1, e2⟩, hn⟩
        refine ⟨x, ?_, e1, e2⟩
        rcases List.mem_append.1 hx with hx | hx
        · simp [hx]
        · rcases List.mem_cons.1 hx with rfl | hx
          · exact absurd (e1.symm.trans h2) hn
          · simp [hx]
    · rw [List.filter_append, List.filter_cons_of_neg (by simp [h2]), ← List.filter_append]
      symm
      rw [List.filter_eq_self]
      intro x hx
      simpa using hne x hx
end Go.Proofs.Ytgmdhjlbedgafaa
