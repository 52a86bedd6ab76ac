/- The plain law of ConfFirst: what stays right. -/
import Derived.Test.YtkjonflmokapcaaCF13
set_option linter.unusedVariables false
set_option linter.unusedSimpArgs false
namespace Go.Proofs.Ytkjonflmokapcaa
open Go.RowKit

theorem scan_some_ne {l : List Int} : ∀ {n : Nat} {f : Int} {i : Nat}, scan l n = some (f, i) → f ≠ 0 := by
  induction l with
  | nil => intro n f i h; cases h
  | cons g l ih =>
    intro n f i h
    unfold scan at h
    split at h
    · exact ih h
    · rename_i hg
      simp only [Option.some.injEq, Prod.mk.injEq] at h
      rw [← h.1]; exact hg
theorem scan_zero {l : List Int} : ∀ {n : Nat}, scan l n = none → ∀ x ∈ l, x = 0 := by
  induction l with
  | nil => intro n h x hx; cases hx
  | cons g l ih =>
    intro n h x hx
    unfold scan at h
    split at h
    · rename_i hg
      rcases List.mem_cons.1 hx with rfl | hx
      · exact hg
      · exact ih h x hx
    · cases h
theorem scan_all {l : List Int} (h : ∀ x ∈ l, x = 0) (n : Nat) : scan l n = none := scan_none (fun j hj => by
  rw [List.getElem?_eq_getElem hj]
  exact congrArg some (h _ (List.getElem_mem hj))) n
theorem bad_zero {c : CF} (h : c.bad.1 = 0) : ∀ p, 1 ≤ p → p < 5 → ∀ x ∈ c.faults p, x = 0 := by
  unfold CF.bad at h
  split at h
  · rename_i f i hs; exact absurd h (scan_some_ne hs)
  · rename_i h1
    split at h
    · rename_i f i hs; exact absurd h (scan_some_ne hs)
    · rename_i h2
      split at h
      · rename_i f i hs; exact absurd h (scan_some_ne hs)
      · rename_i h3
        split at h
        · rename_i f i hs; exact absurd h (scan_some_ne hs)
        · rename_i h4
          intro p hp1 hp5
          have : p = 1 ∨ p = 2 ∨ p = 3 ∨ p = 4 := by omega
          rcases this with rfl | rfl | rfl | rfl
          · exact scan_zero h1
          · exact scan_zero h2
          · exact scan_zero h3
          · exact scan_zero h4
theorem bad_of_zero {c : CF} (h : ∀ p, 1 ≤ p → p < 5 → ∀ x ∈ c.faults p, x = 0) : c.bad = (0, 0, 0) := bad_none fun p h1 h2 => scan_all (h p h1 h2) 0
theorem bad_fst {c : CF} (h : c.bad.1 = 0) : c.bad = (0, 0, 0) := bad_of_zero (bad_zero h)
/-- A task without its code. -/
def TK.bare (x : TK) : TK := ⟨x.p, false, none, 0, 0⟩
theorem TK.fault_zero {x : TK} (h : x.fault = 0) : (decide (0 ≤ x.p) && decide (x.p ≤ 31)) = true := by
  unfold TK.fault at h
  by_cases hd : (decide (0 ≤ x.p) && decide (x.p ≤ 31)) = true
  · exact hd
  · rw [if_neg hd] at h; cases h
theorem bare_bad {c : CF} (h : c.bad.1 = 0) : CF.bad ⟨c.ts.map TK.bare, c.ls, c.os, c.tk⟩ = (0, 0, 0) := by
  have hz := bad_zero h
  refine bad_of_zero fun p h1 h5 x hx => ?_
  have : p = 1 ∨ p = 2 ∨ p = 3 ∨ p = 4 := by omega
  rcases this with rfl | rfl | rfl | rfl
  · exact hz 1 (by omega) (by omega) x (by simpa [CF.faults] using hx)
  · simp only [CF.faults, List.map_map, List.mem_map, Function.comp] at hx
    obtain ⟨y, hy, rfl⟩ := hx
    have h0 := hz 2 (by omega) (by omega) y.fault (by simp only [CF.faults, List.mem_map]; exact ⟨y, hy, rfl⟩)
    have := TK.fault_zero h0
    unfold TK.fault TK.bare
    simp only
    rw [if_pos this, if_neg (by omega)]
  · exact hz 3 (by omega) (by omega) x (by simpa [CF.faults] using hx)
  · exact hz 4 (by omega) (by omega) x (by simpa [CF.faults] using hx)
theorem fewer_bad {ts : List TK} {ls : List LV} {os : List OBJ} {tk : Int} (n : Nat) (h : (CF.bad ⟨ts, ls, os, tk⟩).1 = 0) : CF.bad ⟨ts, ls, os.take n, tk⟩ = (0, 0, 0) := by
  have hz := bad_zero h
  refine bad_of_zero fun p h1 h5 x hx => ?_
  have : p = 1 ∨ p = 2 ∨ p = 3 ∨ p = 4 := by omega
  rcases this with rfl | rfl | rfl | rfl
  · have q := hz 1 (by omega) (by omega)
    simp only [CF.faults, List.mem_cons, List.not_mem_nil, or_false] at hx q
    rcases hx with rfl | rfl | rfl | rfl
    · exact q _ (.inl rfl)
    · exact q _ (.inr (.inl rfl))
    · have h3 := q _ (.inr (.inr (.inl rfl)))
      apply cntF_ok
      · omega
      · intro hlt
        have : (os.take n).length ≤ os.length := by simp; omega
        rw [cntF_high (by omega)] at h3
        cases h3
    · exact q _ (.inr (.inr (.inr rfl)))
  · exact hz 2 (by omega) (by omega) x (by simpa [CF.faults] using hx)
  · exact hz 3 (by omega) (by omega) x (by simpa [CF.faults] using hx)
  · simp only [CF.faults, List.mem_map] at hx
    obtain ⟨y, hy, rfl⟩ := hx
    exact hz 4 (by omega) (by omega) _ (by simp only [CF.faults, List.mem_map]; exact ⟨y, List.mem_of_mem_take hy, rfl⟩)
/-- A task whose priority may not be is told first, or what is told are counts. -/
theorem wrong_bad {x : TK} {ts : List TK} {ls : List LV} {os : List OBJ} {tk : Int} (h : x.p < 0 ∨ 31 < x.p) : CF.bad ⟨x :: ts, ls, os, tk⟩ = (2, 2, 0) ∨ (CF.bad ⟨x :: ts, ls, os, tk⟩).2.1 = 1 := by
  have hf : x.fault = 2 := by
    unfold TK.fault
    rw [if_neg]
    intro hd
    simp at hd
    omega
  unfold CF.bad
  split
  · exact .inr rfl
  · refine .inl ?_
    have : scan (CF.faults ⟨x :: ts, ls, os, tk⟩ 2) 0 = some (2, 0) := by
      simp only [CF.faults, List.map_cons, scan, hf]
      rfl
    rw [this]
    rfl
end Go.Proofs.Ytkjonflmokapcaa
