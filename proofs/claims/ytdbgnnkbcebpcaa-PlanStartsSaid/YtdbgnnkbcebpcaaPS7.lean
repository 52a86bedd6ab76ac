/- Package plan: Of, of a valid configuration. (printed by genct.py out of PS7.base) -/
import Derived.Test.YtdbgnnkbcebpcaaPS6
import Derived.Test.YtdbgnnkbcebpcaaCF12
import Derived.Deep.Cut
set_option linter.unusedVariables false
set_option linter.unusedSimpArgs false
namespace Go.Proofs.Ytdbgnnkbcebpcaa
open Go.RowKit
/-- A line of a plan. -/
structure LN where
  a : Int
  r : Int
  o : Int
def LN.cells (x : LN) : List Value := [.int .i64 1, .int .i64 x.a, .int .i64 x.r, .int .i64 1, .int .i64 0, .int .i64 x.o]
theorem ln_len (x : LN) : x.cells.length = 6 := rfl
def lsize (r : Int) : Int := sizeP 1 r 1 0
theorem lsize_bounds (r : Int) : 0 ≤ lsize r ∧ lsize r ≤ 260 := sizeP_bounds _ _ _ _
def lnOf (n r : Int) : LN := ⟨n, r, n + lsize r⟩
def lns : Int → List Int → List LN
  | _, [] => []
  | n, r :: l => lnOf n r :: lns (n + (lsize r + 1)) l
def sumL : List Int → Int
  | [] => 0
  | r :: l => (lsize r + 1) + sumL l
theorem sumL_snoc (l : List Int) (r : Int) : sumL (l ++ [r]) = sumL l + (lsize r + 1) := by
  induction l with
  | nil => simp [sumL]
  | cons x l ih => simp only [List.cons_append, sumL, ih]; omega
theorem lns_snoc (n : Int) (l : List Int) (r : Int) : lns n (l ++ [r]) = lns n l ++ [lnOf (n + sumL l) r] := by
  induction l generalizing n with
  | nil => simp [lns, sumL]
  | cons x l ih => simp only [List.cons_append, lns, sumL, ih, Int.add_assoc]
theorem lns_len (n : Int) (l : List Int) : (lns n l).length = l.length := by
  induction l generalizing n with
  | nil => rfl
  | cons x l ih => simp [lns, ih]
theorem sumL_bounds (l : List Int) : 0 ≤ sumL l ∧ sumL l ≤ 261 * l.length := by
  induction l with
  | nil => simp [sumL]
  | cons x l ih =>
    have h := lsize_bounds x
    simp only [sumL, List.length_cons]
    omega
theorem lns_at {n : Int} {l : List Int} : ∀ x ∈ lns n l, n ≤ x.a ∧ n ≤ x.o := by
  induction l generalizing n with
  | nil => simp [lns]
  | cons r l ih =>
    intro x hx
    simp only [lns, List.mem_cons] at hx
    have h := lsize_bounds r
    rcases hx with rfl | hx
    · simp only [lnOf]; omega
    · have := ih x hx; omega
def asks (n : Int) (k : Nat) : List Value := (List.range k).map fun (i : Nat) => Value.int .i64 (n + (i : Int))
theorem asks_succ (n : Int) (k : Nat) : asks n (k + 1) = asks n k ++ [.int .i64 (n + (k : Int))] := by simp [asks, List.range_succ]
theorem asks_len (n : Int) (k : Nat) : (asks n k).length = k := by simp [asks]
theorem scan_zero {l : List Int} : ∀ {n : Nat}, scan l n = none → ∀ x ∈ l, x = 0 := by
  induction l with
  | nil => simp
  | cons f l ih =>
    intro n h x hx
    rw [scan] at h
    split at h
    · rename_i h0
      simp only [List.mem_cons] at hx
      rcases hx with rfl | hx
      · exact h0
      · exact ih h x hx
    · cases h
theorem bad_scan {c : CF} (h : c.bad = (0, 0, 0)) : ∀ p, 1 ≤ p → p < 5 → scan (c.faults p) 0 = none := by
  unfold CF.bad at h
  have key : ∀ (o1 o2 o3 o4 : Option (Int × Nat)), (match o1 with | some (f, i) => (f, 1, (i : Int)) | none => match o2 with | some (f, i) => (f, 2, (i : Int)) | none => match o3 with | some (f, i) => (f, 3, (i : Int)) | none => match o4 with | some (f, i) => (f, (4 : Int), (i : Int)) | none => ((0 : Int), 0, 0)) = (0, 0, 0) → o1 = none ∧ o2 = none ∧ o3 = none ∧ o4 = none := by
    intro o1 o2 o3 o4 h
    rcases o1 with _ | ⟨f, i⟩
    · rcases o2 with _ | ⟨f, i⟩
      · rcases o3 with _ | ⟨f, i⟩
        · rcases o4 with _ | ⟨f, i⟩
          · simp
          · simp at h
        · simp at h
      · simp at h
    · simp at h
  obtain ⟨h1, h2, h3, h4⟩ := key _ _ _ _ h
  intro p hp hp5
  have : p = 1 ∨ p = 2 ∨ p = 3 ∨ p = 4 := by omega
  rcases this with rfl | rfl | rfl | rfl <;> assumption
theorem cntF_zero {n a b : Int} (h : cntF n a b = 0) : a ≤ n ∧ n ≤ b := by
  unfold cntF at h
  split at h
  · rename_i h1; simpa using h1
  · cases h
/-- What a valid configuration is. -/
theorem bad_valid {c : CF} (h : c.bad = (0, 0, 0)) : c.ts.length ≤ 16 ∧ c.ls.length ≤ 31 ∧ c.os.length ≤ 16 ∧ ∀ o ∈ c.os, rightB o.k o.cap o.wd o.rt = true := by
  have hs := bad_scan h
  have h1 := scan_zero (hs 1 (by omega) (by omega))
  have h4 := scan_zero (hs 4 (by omega) (by omega))
  simp only [CF.faults, List.mem_cons, List.not_mem_nil, or_false] at h1 h4
  have a1 := cntF_zero (h1 _ (.inl rfl))
  have a2 := cntF_zero (h1 _ (.inr (.inl rfl)))
  have a3 := cntF_zero (h1 _ (.inr (.inr (.inl rfl))))
  refine ⟨by omega, by omega, by omega, fun o ho => ?_⟩
  have h5 := h4 _ (List.mem_map_of_mem ho)
  unfold OBJ.fault at h5
  split at h5
  · split at h5
    · cases h5
    · split at h5
      · assumption
      · cases h5
  · cases h5
theorem cell_setO5 {w : World} {b i j : Nat} {v u : Value} (h : i ≠ j) (hc : w.cell? ⟨b, j, none⟩ = some u) : (w.setCell ⟨b, i, none⟩ v).cell? ⟨b, j, none⟩ = some u := by
  unfold World.cell? World.setCell at *
  simp only at hc ⊢
  rw [Array.getElem?_modify]
  simp only [if_true]
  cases hb : w.heap[b]? with
  | none => rw [hb] at hc; exact hc
  | some o =>
    rw [hb] at hc
    cases o with
    | cells c t f => simp at hc ⊢; rw [Array.getElem?_setIfInBounds]; rw [if_neg h]; exact hc
    | _ => simp_all
set_option maxRecDepth 100000 in
set_option maxHeartbeats 1000000 in
theorem ptake_c (n m : Int) (pb : Nat) (w : World) (hn0 : 0 ≤ n) (hn : n < 1000000) (hm0 : 0 ≤ m) (hm : m < 1000) (c4 : w.cell? ⟨pb, 4, none⟩ = some (.int .i64 n)) (f4 : w.frozen? ⟨pb, 4, none⟩ = false) :
    Calls Try.prog 61 #[.int .i64 m, .pointer (some ⟨pb, 0, none⟩)] w fun e w' => e = .returned (.int .i64 n) ∧ w.setCell ⟨pb, 4, none⟩ (.int .i64 (n + m)) = w' := by
  have hw : wrap64 (n + m) = n + m := by unfold wrap64; omega
  clear hn0 hn hm0 hm
  go_enter Try.func61, Try.ntmps61
  go_wp2
  go_ret
  exact ⟨rfl, rfl⟩
end Go.Proofs.Ytdbgnnkbcebpcaa
