/- The document's list of who waits, sorted: a stable sort by what is left; it commutes with taking some away, and with a tick. -/
import Derived.Test.YtgmdhjlbedgafaaRefD4
import Derived.Test.YtgmdhjlbedgafaaDelta8
set_option linter.unusedVariables false
set_option linter.unusedSimpArgs false
namespace Go.Proofs.Ytgmdhjlbedgafaa
open Go.RowKit

def Srt (l : List (Int × Int)) : Prop := l.Pairwise fun x y => x.2 ≤ y.2
theorem rScan_spec (a : Int) (l : List (Int × Int)) : ∀ k, k ≤ l.length → (∀ i (hi : i < l.length), rScan a l k ≤ i → i < k → a < l[i].2) ∧ (∀ (h : 0 < rScan a l k) (h2 : rScan a l k - 1 < l.length), l[rScan a l k - 1].2 ≤ a)
  | 0, _ => ⟨fun i _ _ h => by omega, fun h => by simp [rScan] at h⟩
  | k + 1, hk => by
    have ih := rScan_spec a l k (by omega)
    have hu : rScan a l (k + 1) = if a < l[k].2 then rScan a l k else k + 1 := by
      show (if a < (l[k]?.getD (0, 0)).2 then _ else _) = _
      rw [List.getElem?_eq_getElem (by omega)]; rfl
    by_cases h : a < l[k].2
    · rw [if_pos h] at hu
      refine ⟨fun i hi h1 h2 => ?_, ?_⟩
      · rcases Nat.lt_or_ge i k with h3 | h3
        · exact ih.1 i hi (by omega) h3
        · obtain rfl : i = k := by omega
          exact h
      · intro h1 h2
        have h3 : 0 < rScan a l k := by omega
        have h4 : rScan a l k - 1 < l.length := by omega
        have := ih.2 h3 h4
        simp only [hu]
        exact this
    · rw [if_neg h] at hu
      refine ⟨fun i hi h1 h2 => by omega, fun h1 h2 => ?_⟩
      simp only [hu, Nat.add_sub_cancel]
      omega
theorem filter_all {α : Type} {p : α → Bool} {l : List α} (h : ∀ x ∈ l, p x = true) : l.filter p = l := List.filter_eq_self.2 h
theorem filter_none {α : Type} {p : α → Bool} {l : List α} (h : ∀ x ∈ l, ¬ p x = true) : l.filter p = [] := List.filter_eq_nil_iff.2 h
theorem srt_le {l : List (Int × Int)} (h : Srt l) {i j : Nat} (hi : i < l.length) (hj : j < l.length) (hij : i ≤ j) : l[i].2 ≤ l[j].2 := by
  rcases Nat.lt_or_ge i j with h1 | h1
  · exact List.pairwise_iff_getElem.1 h i j hi hj h1
  · obtain rfl : i = j := by omega
    exact Int.le_refl _
theorem rIns_eq {l : List (Int × Int)} (x : Int × Int) (h : Srt l) : rIns l x = l.filter (fun y => decide (y.2 ≤ x.2)) ++ x :: l.filter (fun y => decide (x.2 < y.2)) := by
  unfold rIns
  obtain ⟨h1, h2⟩ := rScan_spec x.2 l l.length (Nat.le_refl _)
  have hn := rScan_le x.2 l l.length
  generalize rScan x.2 l l.length = n at h1 h2 hn
  have ht : ∀ y ∈ l.take n, y.2 ≤ x.2 := by
    intro y hy
    obtain ⟨i, hi, rfl⟩ := List.getElem_of_mem hy
    rw [List.length_take] at hi
    rw [List.getElem_take]
    exact Int.le_trans (srt_le h (by omega) (by omega) (by omega)) (h2 (by omega) (by omega))
  have hd : ∀ y ∈ l.drop n, x.2 < y.2 := by
    intro y hy
    obtain ⟨i, hi, rfl⟩ := List.getElem_of_mem hy
    rw [List.length_drop] at hi
    rw [List.getElem_drop]
    exact h1 _ (by omega) (by omega) (by omega)
  have e1 : l.filter (fun y => decide (y.2 ≤ x.2)) = l.take n := by
    have : l.filter (fun y => decide (y.2 ≤ x.2)) = (l.take n ++ l.drop n).filter (fun y => decide (y.2 ≤ x.2)) := by rw [List.take_append_drop]
    rw [this, List.filter_append, filter_all (fun y hy => by simpa using ht y hy), filter_none (fun y hy => by have := hd y hy; simp; omega), List.append_nil]
  have e2 : l.filter (fun y => decide (x.2 < y.2)) = l.drop n := by
    have : l.filter (fun y => decide (x.2 < y.2)) = (l.take n ++ l.drop n).filter (fun y => decide (x.2 < y.2)) := by rw [List.take_append_drop]
    rw [this, List.filter_append, filter_none (fun y hy => by have := ht y hy; simp; omega), filter_all (fun y hy => by simpa using hd y hy), List.nil_append]
  rw [e1, e2]
theorem srt_filter {l : List (Int × Int)} (h : Srt l) (p : Int × Int → Bool) : Srt (l.filter p) := List.Pairwise.filter _ h
theorem srt_ins {l : List (Int × Int)} (x : Int × Int) (h : Srt l) : Srt (rIns l x) := by
  rw [rIns_eq x h]
  refine List.pairwise_append.2 ⟨srt_filter h _, List.pairwise_cons.2 ⟨fun y hy => ?_, srt_filter h _⟩, fun y hy z hz => ?_⟩
  · have := (List.mem_filter.1 hy).2
    simp at this
    omega
  · have h1 := (List.mem_filter.1 hy).2
    simp at h1
    rcases List.mem_cons.1 hz with rfl | hz
    · exact h1
    · have h2 := (List.mem_filter.1 hz).2
      simp at h2
      omega
theorem srt_fold : ∀ (L acc : List (Int × Int)), Srt acc → Srt (L.foldl rIns acc)
  | [], _, h => h
  | x :: xs, acc, h => srt_fold xs _ (srt_ins x h)
theorem srt_sort (L : List (Int × Int)) : Srt (rSort L) := srt_fold L [] List.Pairwise.nil
theorem srt_split {l : List (Int × Int)} (a : Int) (h : Srt l) : l.filter (fun y => decide (y.2 ≤ a)) ++ l.filter (fun y => decide (a < y.2)) = l := by
  induction l with
  | nil => rfl
  | cons y ys ih =>
    obtain ⟨h1, h2⟩ := List.pairwise_cons.1 h
    by_cases hy : y.2 ≤ a
    · rw [List.filter_cons_of_pos (by simpa using hy), List.filter_cons_of_neg (by simp; omega), List.cons_append, ih h2]
    · rw [List.filter_cons_of_neg (by simpa using hy), List.filter_cons_of_pos (by simp; omega), filter_none (fun z hz => by have := h1 z hz; simp; omega), filter_all (fun z hz => by have := h1 z hz; simp; omega), List.nil_append]
theorem filter_comm {α : Type} (p q : α → Bool) (l : List α) : (l.filter p).filter q = (l.filter q).filter p := by
  rw [List.filter_filter, List.filter_filter]
  congr 1
  funext x
  rw [Bool.and_comm]
theorem ins_filter {l : List (Int × Int)} (p : Int × Int → Bool) (x : Int × Int) (h : Srt l) : (rIns l x).filter p = if p x = true then rIns (l.filter p) x else l.filter p := by
  rw [rIns_eq x h, List.filter_append]
  by_cases hp : p x = true
  · rw [if_pos hp, List.filter_cons_of_pos hp, rIns_eq x (srt_filter h p), filter_comm p, filter_comm p]
  · rw [if_neg hp, List.filter_cons_of_neg hp, filter_comm _ p, filter_comm _ p]
    exact srt_split x.2 (srt_filter h p)
theorem fold_filter (p : Int × Int → Bool) : ∀ (L acc : List (Int × Int)), Srt acc → (L.foldl rIns acc).filter p = (L.filter p).foldl rIns (acc.filter p)
  | [], _, _ => rfl
  | x :: xs, acc, h => by
    rw [List.foldl_cons, fold_filter p xs _ (srt_ins x h), ins_filter p x h]
    by_cases hp : p x = true
    · rw [if_pos hp, List.filter_cons_of_pos hp, List.foldl_cons]
    · rw [if_neg hp, List.filter_cons_of_neg hp]
theorem sort_filter (p : Int × Int → Bool) (L : List (Int × Int)) : (rSort L).filter p = rSort (L.filter p) := fold_filter p L [] List.Pairwise.nil
theorem ins_same {l : List (Int × Int)} {x : Int × Int} (h : ∀ y ∈ l, y.2 = x.2) : rIns l x = l ++ [x] := by
  have hs : Srt l := by
    refine List.pairwise_iff_getElem.2 (fun i j hi hj _ => ?_)
    rw [h _ (List.getElem_mem hi), h _ (List.getElem_mem hj)]
    exact Int.le_refl _
  rw [rIns_eq x hs, filter_all (fun y hy => by simp [h y hy]), filter_none (fun y hy => by simp [h y hy])]
theorem fold_same (a : Int) : ∀ (L acc : List (Int × Int)), (∀ y ∈ acc, y.2 = a) → (∀ y ∈ L, y.2 = a) → L.foldl rIns acc = acc ++ L
  | [], acc, _, _ => by simp
  | x :: xs, acc, h, hL => by
    have hx : x.2 = a := hL x (by simp)
    rw [List.foldl_cons, ins_same (fun y hy => by rw [h y hy, hx]), fold_same a xs _ (fun y hy => by
      rcases List.mem_append.1 hy with hy | hy
      · exact h y hy
      · simp at hy; subst hy; exact hx) (fun y hy => hL y (by simp [hy]))]
    simp
theorem sort_same {L : List (Int × Int)} (a : Int) (h : ∀ y ∈ L, y.2 = a) : rSort L = L := fold_same a L [] (by simp) h
def dec1 (x : Int × Int) : Int × Int := (x.1, x.2 - 1)
theorem srt_map {l : List (Int × Int)} (h : Srt l) : Srt (l.map dec1) := by
  unfold Srt
  rw [List.pairwise_map]
  exact h.imp fun {x y} hxy => by simp only [dec1]; omega
theorem ins_map {l : List (Int × Int)} (x : Int × Int) (h : Srt l) : (rIns l x).map dec1 = rIns (l.map dec1) (dec1 x) := by
  rw [rIns_eq x h, rIns_eq _ (srt_map h), List.map_append, List.map_cons, List.filter_map, List.filter_map]
  have e1 : ((fun y : Int × Int => decide (y.2 ≤ (dec1 x).2)) ∘ dec1) = fun y => decide (y.2 ≤ x.2) := by
    funext y; simp only [Function.comp, dec1]; exact decide_eq_decide.2 (by omega)
  have e2 : ((fun y : Int × Int => decide ((dec1 x).2 < y.2)) ∘ dec1) = fun y => decide (x.2 < y.2) := by
    funext y; simp only [Function.comp, dec1]; exact decide_eq_decide.2 (by omega)
  rw [e1, e2]
theorem fold_map : ∀ (L acc : List (Int × Int)), Srt acc → (L.foldl rIns acc).map dec1 = (L.map dec1).foldl rIns (acc.map dec1)
  | [], _, _ => rfl
  | x :: xs, acc, h => by rw [List.foldl_cons, fold_map xs _ (srt_ins x h), ins_map x h, List.map_cons, List.foldl_cons]
theorem sort_map (L : List (Int × Int)) : (rSort L).map dec1 = rSort (L.map dec1) := fold_map L [] List.Pairwise.nil
theorem mem_ins {l : List (Int × Int)} {x y : Int × Int} : y ∈ rIns l x ↔ y = x ∨ y ∈ l := by
  unfold rIns
  have h : y ∈ l ↔ y ∈ l.take (rScan x.2 l l.length) ∨ y ∈ l.drop (rScan x.2 l l.length) := by rw [← List.mem_append, List.take_append_drop]
  rw [List.mem_append, List.mem_cons, h]
  constructor
  · rintro (h | h | h)
    · exact .inr (.inl h)
    · exact .inl h
    · exact .inr (.inr h)
  · rintro (h | h | h)
    · exact .inr (.inl h)
    · exact .inl h
    · exact .inr (.inr h)
theorem mem_fold {y : Int × Int} : ∀ (L acc : List (Int × Int)), y ∈ L.foldl rIns acc ↔ y ∈ acc ∨ y ∈ L
  | [], acc => by simp
  | x :: xs, acc => by
    rw [List.foldl_cons, mem_fold xs, mem_ins, List.mem_cons]
    constructor
    · rintro ((h | h) | h)
      · exact .inr (.inl h)
      · exact .inl h
      · exact .inr (.inr h)
    · rintro (h | h | h)
      · exact .inl (.inr h)
      · exact .inl (.inl h)
      · exact .inr h
theorem mem_sort {L : List (Int × Int)} {y : Int × Int} : y ∈ rSort L ↔ y ∈ L := by rw [rSort, mem_fold]; simp

/-! ## The program's list beside the document's -/
def pair (ds : List DN) : List (Int × Int) := ds.map fun x => (x.t, x.a)
def DR (ds : List DN) (L : List (Int × Int)) : Prop := pair ds = rSort L
theorem DR.nil : DR [] [] := rfl
theorem DR.len {ds : List DN} {L : List (Int × Int)} (h : DR ds L) : ds.length = L.length := by
  have := congrArg List.length h
  rw [rSort_length] at this
  simpa [pair] using this
theorem DR.mem {ds : List DN} {L : List (Int × Int)} (h : DR ds L) (t a : Int) : dmem ds t a ↔ (t, a) ∈ L := by
  rw [← mem_sort, ← h]
  constructor
  · rintro ⟨x, hx, rfl, rfl⟩
    exact List.mem_map.2 ⟨x, hx, rfl⟩
  · intro hm
    obtain ⟨x, hx, e⟩ := List.mem_map.1 hm
    simp only [Prod.mk.injEq] at e
    exact ⟨x, hx, e.1, e.2⟩
theorem dspan_filter {a : Int} {ds : List DN} (h : Srt (pair ds)) : pair (dspan a ds).1 = (pair ds).filter (fun y => decide (y.2 ≤ a)) ∧ pair (dspan a ds).2 = (pair ds).filter (fun y => decide (a < y.2)) := by
  induction ds with
  | nil => exact ⟨rfl, rfl⟩
  | cons x xs ih =>
    obtain ⟨h1, h2⟩ := List.pairwise_cons.1 (show Srt ((x.t, x.a) :: pair xs) from h)
    obtain ⟨i1, i2⟩ := ih h2
    show _ = ((x.t, x.a) :: pair xs).filter _ ∧ _ = ((x.t, x.a) :: pair xs).filter _
    unfold dspan
    by_cases hx : x.a ≤ a
    · rw [if_pos hx, List.filter_cons_of_pos (by simpa using hx), List.filter_cons_of_neg (by simp; omega), ← i1, ← i2]
      exact ⟨rfl, rfl⟩
    · rw [if_neg hx, List.filter_cons_of_neg (by simpa using hx), List.filter_cons_of_pos (by simp; omega), filter_none (fun y hy => by have := h1 y hy; simp only at this; simp; omega), filter_all (fun y hy => by have := h1 y hy; simp only at this; simp; omega)]
      exact ⟨rfl, rfl⟩
theorem DR.add {ds : List DN} {L : List (Int × Int)} (h : DR ds L) (B : Nat) (t a : Int) : DR ((dspan a ds).1 ++ ⟨B, t, a⟩ :: (dspan a ds).2) (L ++ [(t, a)]) := by
  have hs : Srt (pair ds) := by rw [h]; exact srt_sort L
  unfold DR
  rw [rSort_snoc, ← h, rIns_eq _ hs]
  obtain ⟨h1, h2⟩ := dspan_filter (a := a) hs
  rw [← h1, ← h2]
  simp [pair]
theorem pair_filter (ds : List DN) (p : Int × Int → Bool) : pair (ds.filter fun x => p (x.t, x.a)) = (pair ds).filter p := by
  unfold pair
  rw [List.filter_map]
  rfl
theorem DR.rem {ds : List DN} {L : List (Int × Int)} (h : DR ds L) (t : Int) : DR (ds.filter fun x => decide (x.t ≠ t)) (L.filter fun x => decide (x.1 ≠ t)) := by
  unfold DR
  rw [← sort_filter, ← h]
  exact pair_filter ds (fun x => decide (x.1 ≠ t))
theorem DR.tick {W w : World} {d : Nat} {ds : List DN} {L : List (Int × Int)} (h : DR ds L) (hd : DI W w d ds) : DR (drest ds) (rRest L) ∧ (dtold ds).map DN.t = rTold L := by
  obtain ⟨h1, h2, h3⟩ := tick_spec hd
  have e1 : dtold ds = (ddec ds).filter fun x => decide (x.a = 0) := by
    rw [h1, List.filter_append, filter_all (fun x hx => by simpa using h2 x hx), filter_none (fun x hx => by have := h3 x hx; simp; omega), List.append_nil]
  have e2 : drest ds = (ddec ds).filter fun x => decide (x.a ≠ 0) := by
    rw [h1, List.filter_append, filter_none (fun x hx => by simpa using h2 x hx), filter_all (fun x hx => by have := h3 x hx; simp; omega), List.nil_append]
  have e3 : pair (ddec ds) = (rSort L).map dec1 := by rw [← h]; simp [pair, ddec, dec1, Function.comp_def]
  refine ⟨?_, ?_⟩
  · unfold DR
    rw [e2, pair_filter (ddec ds) (fun x => decide (x.2 ≠ 0)), e3, sort_map, sort_filter]
    congr 1
    unfold rRest
    rw [List.filter_map]
    have : ((fun x : Int × Int => decide (x.2 ≠ 0)) ∘ dec1) = fun x => decide (x.2 ≠ 1) := by
      funext x; simp only [Function.comp, dec1]; exact decide_eq_decide.2 (by omega)
    rw [this]
    rfl
  · have e4 : (dtold ds).map DN.t = (pair (dtold ds)).map (·.1) := by simp [pair, Function.comp_def]
    rw [e4, e1, pair_filter (ddec ds) (fun x => decide (x.2 = 0)), e3, sort_map, sort_filter, List.filter_map]
    have : ((fun x : Int × Int => decide (x.2 = 0)) ∘ dec1) = fun x => decide (x.2 = 1) := by
      funext x; simp only [Function.comp, dec1]; exact decide_eq_decide.2 (by omega)
    rw [this, sort_same 0 (fun y hy => by
      obtain ⟨x, hx, rfl⟩ := List.mem_map.1 hy
      have := (List.mem_filter.1 hx).2
      simp at this
      simp only [dec1]; omega)]
    unfold rTold
    rw [List.map_map]
    rfl
theorem DR.told {ds : List DN} {L : List (Int × Int)} (h : DR ds L) : ds.map DN.t = (rSort L).map (·.1) := by rw [← h]; simp [pair, Function.comp_def]

/-! ## Where a task is -/
theorem plI_cases (t : Int) (L : List (Int × Int)) : (plI t 0 L = -1 ∧ ∀ x ∈ L, x.1 ≠ t) ∨ ∃ j a, plI t 0 L = (j : Nat) ∧ L[j]? = some (t, a) ∧ ∀ x ∈ L.take j, x.1 ≠ t := by
  have : ∀ (L : List (Int × Int)) (k : Nat), (plI t k L = -1 ∧ ∀ x ∈ L, x.1 ≠ t) ∨ ∃ j a, plI t k L = ((k + j : Nat) : Int) ∧ L[j]? = some (t, a) ∧ ∀ x ∈ L.take j, x.1 ≠ t := by
    intro L
    induction L with
    | nil => intro k; exact .inl ⟨rfl, by simp⟩
    | cons x xs ih =>
      intro k
      unfold plI
      by_cases hx : x.1 = t
      · rw [if_pos hx]
        refine .inr ⟨0, x.2, rfl, by rw [← hx]; rfl, by simp⟩
      · rw [if_neg hx]
        rcases ih (k + 1) with ⟨h1, h2⟩ | ⟨j, a, h1, h2, h3⟩
        · exact .inl ⟨h1, fun y hy => by
            rcases List.mem_cons.1 hy with rfl | hy
            · exact hx
            · exact h2 y hy⟩
        · refine .inr ⟨j + 1, a, by rw [h1]; congr 1; omega, by simpa using h2, fun y hy => ?_⟩
          rw [List.take_succ_cons] at hy
          rcases List.mem_cons.1 hy with rfl | hy
          · exact hx
          · exact h3 y hy
  rcases this L 0 with h | ⟨j, a, h1, h2, h3⟩
  · exact .inl h
  · exact .inr ⟨j, a, by rw [h1]; congr 1; omega, h2, h3⟩
theorem DR.ltnd {W w : World} {d : Nat} {ds : List DN} {L : List (Int × Int)} (h : DR ds L) (hd : DI W w d ds) {j : Nat} {t a : Int} (hj : L[j]? = some (t, a)) (hb : ∀ x ∈ L.take j, x.1 ≠ t) (hc : ((rSort L).filter fun x => decide (x.1 = t)).length ≤ 1) : L.take j ++ L.drop (j + 1) = L.filter fun x => decide (x.1 ≠ t) := by
  have hl := (List.getElem?_eq_some_iff.1 hj).1
  have hg : L[j] = (t, a) := (List.getElem?_eq_some_iff.1 hj).2
  have hs : L = L.take j ++ (t, a) :: L.drop (j + 1) := by rw [← hg, ← List.drop_eq_getElem_cons hl, List.take_append_drop]
  rw [sort_filter] at hc
  rw [rSort_length] at hc
  have h2 : ∀ x ∈ L.drop (j + 1), x.1 ≠ t := by
    intro x hx e
    have : ((L.take j ++ (t, a) :: L.drop (j + 1)).filter fun x => decide (x.1 = t)).length ≥ 2 := by
      rw [List.filter_append, List.filter_cons_of_pos (by simp), List.length_append, List.length_cons]
      have : 0 < ((L.drop (j + 1)).filter fun x => decide (x.1 = t)).length := List.length_pos_iff.2 (fun e0 => by
        have : x ∈ (L.drop (j + 1)).filter fun x => decide (x.1 = t) := List.mem_filter.2 ⟨hx, by simpa using e⟩
        rw [e0] at this
        cases this)
      omega
    rw [← hs] at this
    omega
  conv => rhs; rw [hs]
  rw [List.filter_append, List.filter_cons_of_neg (by simp), filter_all (fun x hx => by simpa using hb x hx), filter_all (fun x hx => by simpa using h2 x hx)]
end Go.Proofs.Ytgmdhjlbedgafaa
