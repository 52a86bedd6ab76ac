/- The contracts of package cell: what each method does to a memory that the call itself made. -/
import Derived.Test.YtdbgnnkbcebpcaaProg
import Derived.Test.YtdbgnnkbcebpcaaLaws
set_option linter.unusedVariables false
set_option linter.unusedSimpArgs false
namespace Go.Proofs.Ytdbgnnkbcebpcaa
open Go.RowKit

def u32s (xs : List Int) : List Value := xs.map (Value.int .u32)

theorem u32_cell {w : World} {g : Nat} {ys : List Int} {t : TypeId} {f : Nat × Nat} (h : w.heap[g]? = some (.cells (u32s ys).toArray t f)) {i : Nat} (hi : i < ys.length) : w.cell? ⟨g, i, none⟩ = some (.int .u32 ys[i]) := by
  rw [cell_of_heap h]; simp [u32s, List.getElem?_eq_getElem hi]

/-- A memory at block b, whose words lie in block g. -/
structure Mem (w : World) (b g : Nat) (lo st : Int) (xs : List Int) : Prop where
  hb : w.heap[b]? = some (.cells #[.int .i64 lo, .int .i64 st, .slice (some ⟨g, 0, none⟩) xs.length xs.length] 150 (0, 0))
  hg : w.heap[g]? = some (.cells (u32s xs).toArray 24 (0, 0))
  ne : b ≠ g
  len : xs.length ≤ 65536

theorem Mem.keep {w w' : World} {b g : Nat} {lo st : Int} {xs : List Int} (h : Mem w b g lo st xs) {S : List Nat} (hu : Upd S w w') (h1 : b ∉ S) (h2 : g ∉ S) : Mem w' b g lo st xs :=
  ⟨by rw [hu.block b (heap_lt h.hb) h1]; exact h.hb, by rw [hu.block g (heap_lt h.hg) h2]; exact h.hg, h.ne, h.len⟩

theorem Mem.c0 {w : World} {b g : Nat} {lo st : Int} {xs : List Int} (h : Mem w b g lo st xs) : w.cell? ⟨b, 0, none⟩ = some (.int .i64 lo) := by rw [cell_of_heap h.hb]; rfl
theorem Mem.c1 {w : World} {b g : Nat} {lo st : Int} {xs : List Int} (h : Mem w b g lo st xs) : w.cell? ⟨b, 1, none⟩ = some (.int .i64 st) := by rw [cell_of_heap h.hb]; rfl
theorem Mem.c2 {w : World} {b g : Nat} {lo st : Int} {xs : List Int} (h : Mem w b g lo st xs) : w.cell? ⟨b, 2, none⟩ = some (.slice (some ⟨g, 0, none⟩) xs.length xs.length) := by rw [cell_of_heap h.hb]; rfl
theorem Mem.cg {w : World} {b g : Nat} {lo st : Int} {xs : List Int} (h : Mem w b g lo st xs) {i : Nat} (hi : i < xs.length) : w.cell? ⟨g, i, none⟩ = some (.int .u32 xs[i]) := by rw [cell_of_heap h.hg]; simp [u32s, List.getElem?_eq_getElem hi]
theorem Mem.f {w : World} {b g : Nat} {lo st : Int} {xs : List Int} (h : Mem w b g lo st xs) (i : Nat) : w.frozen? ⟨b, i, none⟩ = false := frozen_of_heap h.hb i
theorem Mem.fg {w : World} {b g : Nat} {lo st : Int} {xs : List Int} (h : Mem w b g lo st xs) (i : Nat) : w.frozen? ⟨g, i, none⟩ = false := frozen_of_heap h.hg i

set_option maxHeartbeats 400000 in
theorem len_nil (w : World) : Calls Try.prog 67 #[.pointer none] w fun e w' => e = .returned (.int .i64 0) ∧ w = w' := by
  go_enter Try.func67, Try.ntmps67
  go_wp2
  go_ret
  exact ⟨rfl, rfl⟩

set_option maxHeartbeats 400000 in
theorem len_any {w : World} {b g : Nat} {lo st : Int} {xs : List Int} (h : Mem w b g lo st xs) :
    Calls Try.prog 67 #[.pointer (some ⟨b, 0, none⟩)] w fun e w' => e = .returned (.int .i64 xs.length) ∧ w = w' := by
  have c2 : w.cell? ⟨b, 2, none⟩ = some (.slice (some ⟨g, 0, none⟩) xs.length xs.length) := by rw [cell_of_heap h.hb]; rfl
  clear h
  go_enter Try.func67, Try.ntmps67
  go_wp2
  go_ret
  exact ⟨rfl, rfl⟩

set_option maxHeartbeats 400000 in
theorem there_any {w : World} {b g : Nat} {lo st : Int} {xs : List Int} (at' : Int) (h : Mem w b g lo st xs) :
    Calls Try.prog 84 #[.pointer (some ⟨b, 0, none⟩), .int .i64 at'] w fun e w' => e = .returned (.bool (decide (0 ≤ at') && decide (at' < xs.length))) ∧ w = w' := by
  by_cases h0 : 0 ≤ at'
  · go_enter Try.func84, Try.ntmps84
    go_wp2_with (go_at_call 67; refine (len_any h).mono ?_; rintro e w' ⟨rfl, rfl⟩)
    go_ret
    exact ⟨by simp [h0], rfl⟩
  · have h0' : decide (0 ≤ at') = false := by simpa using h0
    go_enter Try.func84, Try.ntmps84
    go_wp2
    go_ret
    exact ⟨by simp, rfl⟩

theorem not_there {i : Int} {n : Nat} (h : i < 0 ∨ (n : Int) ≤ i) : (decide (0 ≤ i) && decide (i < n)) = false := by
  rcases h with h | h
  · rw [decide_eq_false (by omega)]; rfl
  · rw [decide_eq_false (p := i < n) (by omega)]; simp

theorem u32s_set (xs : List Int) (i : Nat) (v : Int) : (u32s xs).toArray.setIfInBounds i (.int .u32 v) = (u32s (xs.set i v)).toArray := by simp [u32s, List.map_set]

theorem Mem.set {w : World} {b g : Nat} {lo st : Int} {xs : List Int} (h : Mem w b g lo st xs) (i : Nat) (v : Int) : Mem (w.setCell ⟨g, i, none⟩ (.int .u32 v)) b g lo st (xs.set i v) :=
  ⟨by rw [heap_set_other _ _ _ h.ne]; simpa using h.hb, by rw [heap_set h.hg, u32s_set], h.ne, by simpa using h.len⟩
theorem Mem.loads {w : World} {b g : Nat} {lo st : Int} {xs : List Int} (h : Mem w b g lo st xs) (n : Int) : Mem (w.setCell ⟨b, 0, none⟩ (.int .i64 n)) b g n st xs :=
  ⟨by rw [heap_set h.hb]; rfl, by rw [heap_set_other _ _ _ h.ne.symm]; exact h.hg, h.ne, h.len⟩
theorem Mem.stores {w : World} {b g : Nat} {lo st : Int} {xs : List Int} (h : Mem w b g lo st xs) (n : Int) : Mem (w.setCell ⟨b, 1, none⟩ (.int .i64 n)) b g lo n xs :=
  ⟨by rw [heap_set h.hb]; rfl, by rw [heap_set_other _ _ _ h.ne.symm]; exact h.hg, h.ne, h.len⟩
theorem Mem.drew {w : World} {b g : Nat} {lo st : Int} {xs : List Int} (h : Mem w b g lo st xs) : Mem w.drew b g lo st xs := ⟨h.hb, h.hg, h.ne, h.len⟩
theorem Mem.alloc {w : World} {b g : Nat} {lo st : Int} {xs : List Int} (h : Mem w b g lo st xs) (o : Obj) : Mem (w.alloc o) b g lo st xs :=
  h.keep ((Upd.refl [] w).alloc o) (by simp) (by simp)

set_option maxHeartbeats 400000 in
theorem store_any {w : World} {b g : Nat} {lo st : Int} {xs : List Int} (i : Nat) (v : Int) (h : Mem w b g lo st xs) (hi : i < xs.length) (hst0 : 0 ≤ st) (hst : st < 1000000) :
    Calls Try.prog 65 #[.pointer (some ⟨b, 0, none⟩), .int .i64 i, .int .u32 v] w fun e w' => e = .returned (.bool true) ∧ Mem w' b g lo (st + 1) (xs.set i v) ∧ Upd [b, g] w w' := by
  have c1 : w.cell? ⟨b, 1, none⟩ = some (.int .i64 st) := by rw [cell_of_heap h.hb]; rfl
  have f1 := frozen_of_heap h.hb 1
  have c2 : w.cell? ⟨b, 2, none⟩ = some (.slice (some ⟨g, 0, none⟩) xs.length xs.length) := by rw [cell_of_heap h.hb]; rfl
  have cg : w.cell? ⟨g, i, none⟩ = some (.int .u32 xs[i]) := by rw [cell_of_heap h.hg]; simp [u32s, List.getElem?_eq_getElem hi]
  have fg := frozen_of_heap h.hg i
  have hne := h.ne
  have hr : (decide (0 ≤ (i : Int)) && decide ((i : Int) < xs.length)) = true := by simp; omega
  have ht := there_any (i : Int) h
  rw [hr] at ht
  have HT := Lib.hid ht
  have HH := Lib.hid h
  clear ht hr h
  go_enter Try.func65, Try.ntmps65
  go_wp2_with (go_at_call 84; refine (HT.out).mono ?_; rintro e w' ⟨rfl, rfl⟩)
  go_ret
  exact ⟨rfl, (HH.out.stores _).set i v, ((Upd.refl _ _).setCell (by simp) _).setCell (by simp) _⟩

set_option maxHeartbeats 400000 in
theorem store_out {w : World} {b g : Nat} {lo st : Int} {xs : List Int} (i : Int) (v : Int) (h : Mem w b g lo st xs) (hi : i < 0 ∨ (xs.length : Int) ≤ i) :
    Calls Try.prog 65 #[.pointer (some ⟨b, 0, none⟩), .int .i64 i, .int .u32 v] w fun e w' => e = .returned (.bool false) ∧ w = w' := by
  have ht := there_any i h
  rw [not_there hi] at ht
  have HT := Lib.hid ht
  clear ht h hi
  go_enter Try.func65, Try.ntmps65
  go_wp2_with (go_at_call 84; refine (HT.out).mono ?_; rintro e w' ⟨rfl, rfl⟩)
  go_ret
  exact ⟨rfl, rfl⟩

/-! The closures of Swap, Or, And. -/
end Go.Proofs.Ytdbgnnkbcebpcaa
