/- The contracts of package cell: what each method does to a memory that the call itself made. -/
import Derived.Test.YtnnakiojfpnphaaProg
import Derived.Test.YtnnakiojfpnphaaLaws
set_option linter.unusedVariables false
set_option linter.unusedSimpArgs false
namespace Go.Proofs.Ytnnakiojfpnphaa
open Go.RowKit

def u32s (xs : List Int) : List Value := xs.map (Value.int .u32)

theorem u32_cell {w : World} {g : Nat} {ys : List Int} {t : TypeId} {f : Nat × Nat} (h : w.heap[g]? = some (.cells (u32s ys).toArray t f)) {i : Nat} (hi : i < ys.length) : w.cell? ⟨g, i, none⟩ = some (.int .u32 ys[i]) := by
  rw [cell_of_heap h]; simp [u32s, List.getElem?_eq_getElem hi]

/-- A memory at block b, whose words lie in block g. -/
structure Mem (w : World) (b g : Nat) (lo st : Int) (xs : List Int) : Prop where
  hb : w.heap[b]? = some (.cells #[.int .i64 lo, .int .i64 st, .slice (some ⟨g, 0, none⟩) xs.length xs.length] 76 (0, 0))
  hg : w.heap[g]? = some (.cells (u32s xs).toArray 32 (0, 0))
  ne : b ≠ g
  len : xs.length ≤ 65536

theorem Mem.keep {w w' : World} {b g : Nat} {lo st : Int} {xs : List Int} (h : Mem w b g lo st xs) {S : List Nat} (hu : Upd S w w') (h1 : b ∉ S) (h2 : g ∉ S) : Mem w' b g lo st xs :=
  ⟨by rw [hu.block b (heap_lt h.hb) h1]; exact h.hb, by rw [hu.block g (heap_lt h.hg) h2]; exact h.hg, h.ne, h.len⟩

theorem Mem.c0 {w : World} {b g : Nat} {lo st : Int} {xs : List Int} (h : Mem w b g lo st xs) : w.cell? ⟨b, 0, none⟩ = some (.int .i64 lo) := by rw [cell_of_heap h.hb]; rfl
theorem Mem.c1 {w : World} {b g : Nat} {lo st : Int} {xs : List Int} (h : Mem w b g lo st xs) : w.cell? ⟨b, 1, none⟩ = some (.int .i64 st) := by rw [cell_of_heap h.hb]; rfl
theorem Mem.c2 {w : World} {b g : Nat} {lo st : Int} {xs : List Int} (h : Mem w b g lo st xs) : w.cell? ⟨b, 2, none⟩ = some (.slice (some ⟨g, 0, none⟩) xs.length xs.length) := by rw [cell_of_heap h.hb]; rfl
theorem Mem.cg {w : World} {b g : Nat} {lo st : Int} {xs : List Int} (h : Mem w b g lo st xs) {i : Nat} (hi : i < xs.length) : w.cell? ⟨g, i, none⟩ = some (.int .u32 xs[i]) := by rw [cell_of_heap h.hg]; simp [u32s, List.getElem?_eq_getElem hi]
theorem Mem.f {w : World} {b g : Nat} {lo st : Int} {xs : List Int} (h : Mem w b g lo st xs) (i : Nat) : w.frozen? ⟨b, i, none⟩ = false := frozen_of_heap h.hb i
theorem Mem.fg {w : World} {b g : Nat} {lo st : Int} {xs : List Int} (h : Mem w b g lo st xs) (i : Nat) : w.frozen? ⟨g, i, none⟩ = false := frozen_of_heap h.hg i

set_option maxHeartbeats 400000 in
theorem len_nil (w : World) : Calls Try.prog 74 #[.pointer none] w fun e w' => e = .returned (.int .i64 0) ∧ w = w' := by
  go_enter Try.func74, Try.ntmps74
  go_wp2
  go_ret
  exact ⟨rfl, rfl⟩

set_option maxHeartbeats 400000 in
theorem len_any {w : World} {b g : Nat} {lo st : Int} {xs : List Int} (h : Mem w b g lo st xs) :
    Calls Try.prog 74 #[.pointer (some ⟨b, 0, none⟩)] w fun e w' => e = .returned (.int .i64 xs.length) ∧ w = w' := by
  have c2 : w.cell? ⟨b, 2, none⟩ = some (.slice (some ⟨g, 0, none⟩) xs.length xs.length) := by rw [cell_of_heap h.hb]; rfl
  clear h
  go_enter Try.func74, Try.ntmps74
  go_wp2
  go_ret
  exact ⟨rfl, rfl⟩

set_option maxHeartbeats 400000 in
theorem there_any {w : World} {b g : Nat} {lo st : Int} {xs : List Int} (at' : Int) (h : Mem w b g lo st xs) :
    Calls Try.prog 58 #[.pointer (some ⟨b, 0, none⟩), .int .i64 at'] w fun e w' => e = .returned (.bool (decide (0 ≤ at') && decide (at' < xs.length))) ∧ w = w' := by
  by_cases h0 : 0 ≤ at'
  · go_enter Try.func58, Try.ntmps58
    go_wp2_with (go_at_call 74; refine (len_any h).mono ?_; rintro e w' ⟨rfl, rfl⟩)
    go_ret
    exact ⟨by simp [h0], rfl⟩
  · have h0' : decide (0 ≤ at') = false := by simpa using h0
    go_enter Try.func58, Try.ntmps58
    go_wp2
    go_ret
    exact ⟨by simp, rfl⟩

set_option maxHeartbeats 400000 in
theorem load_any {w : World} {b g : Nat} {lo st : Int} {xs : List Int} (i : Nat) (h : Mem w b g lo st xs) (hi : i < xs.length) (hlo0 : 0 ≤ lo) (hlo : lo < 1000000) :
    Calls Try.prog 36 #[.pointer (some ⟨b, 0, none⟩), .int .i64 i] w fun e w' => e = .returned (.tuple #[.int .u32 xs[i], .bool true]) ∧ Mem w' b g (lo + 1) st xs ∧ Upd [b] w w' := by
  have c0 : w.cell? ⟨b, 0, none⟩ = some (.int .i64 lo) := by rw [cell_of_heap h.hb]; rfl
  have f0 := frozen_of_heap h.hb 0
  have c2 : w.cell? ⟨b, 2, none⟩ = some (.slice (some ⟨g, 0, none⟩) xs.length xs.length) := by rw [cell_of_heap h.hb]; rfl
  have cg : w.cell? ⟨g, i, none⟩ = some (.int .u32 xs[i]) := by rw [cell_of_heap h.hg]; simp [u32s, List.getElem?_eq_getElem hi]
  have hne := h.ne
  have hr : (decide (0 ≤ (i : Int)) && decide ((i : Int) < xs.length)) = true := by simp; omega
  have ht := there_any (i : Int) h
  rw [hr] at ht
  have HT := Lib.hid ht
  have HH := Lib.hid h
  clear ht hr h
  go_enter Try.func36, Try.ntmps36
  go_wp2_with (go_at_call 58; refine (HT.out).mono ?_; rintro e w' ⟨rfl, rfl⟩)
  go_ret2
  have h := HH.out
  exact ⟨rfl, ⟨by rw [heap_set h.hb]; rfl, by rw [heap_set_other _ _ _ h.ne.symm]; exact h.hg, h.ne, h.len⟩, (Upd.refl _ _).setCell (by simp) _⟩

theorem not_there {i : Int} {n : Nat} (h : i < 0 ∨ (n : Int) ≤ i) : (decide (0 ≤ i) && decide (i < n)) = false := by
  rcases h with h | h
  · rw [decide_eq_false (by omega)]; rfl
  · rw [decide_eq_false (p := i < n) (by omega)]; simp

set_option maxHeartbeats 400000 in
theorem load_out {w : World} {b g : Nat} {lo st : Int} {xs : List Int} (i : Int) (h : Mem w b g lo st xs) (hi : i < 0 ∨ (xs.length : Int) ≤ i) :
    Calls Try.prog 36 #[.pointer (some ⟨b, 0, none⟩), .int .i64 i] w fun e w' => e = .returned (.tuple #[.int .u32 0, .bool false]) ∧ w = w' := by
  have ht := there_any i h
  rw [not_there hi] at ht
  have HT := Lib.hid ht
  clear ht h hi
  go_enter Try.func36, Try.ntmps36
  go_wp2_with (go_at_call 58; refine (HT.out).mono ?_; rintro e w' ⟨rfl, rfl⟩)
  go_ret2
  exact ⟨rfl, rfl⟩

theorem u32s_set (xs : List Int) (i : Nat) (v : Int) : (u32s xs).toArray.setIfInBounds i (.int .u32 v) = (u32s (xs.set i v)).toArray := by simp [u32s, List.map_set]

theorem Mem.set {w : World} {b g : Nat} {lo st : Int} {xs : List Int} (h : Mem w b g lo st xs) (i : Nat) (v : Int) : Mem (w.setCell ⟨g, i, none⟩ (.int .u32 v)) b g lo st (xs.set i v) :=
  ⟨by rw [heap_set_other _ _ _ h.ne]; simpa using h.hb, by rw [heap_set h.hg, u32s_set], h.ne, by simpa using h.len⟩
theorem Mem.loads {w : World} {b g : Nat} {lo st : Int} {xs : List Int} (h : Mem w b g lo st xs) (n : Int) : Mem (w.setCell ⟨b, 0, none⟩ (.int .i64 n)) b g n st xs :=
  ⟨by rw [heap_set h.hb]; rfl, by rw [heap_set_other _ _ _ h.ne.symm]; exact h.hg, h.ne, h.len⟩
theorem Mem.stores {w : World} {b g : Nat} {lo st : Int} {xs : List Int} (h : Mem w b g lo st xs) (n : Int) : Mem (w.setCell ⟨b, 1, none⟩ (.int .i64 n)) b g lo n xs :=
  ⟨by rw [heap_set h.hb]; rfl, by rw [heap_set_other _ _ _ h.ne.symm]; exact h.hg, h.ne, h.len⟩
theorem Mem.drew {w : World} {b g : Nat} {lo st : Int} {xs : List Int} (h : Mem w b g lo st xs) : Mem w.drew b g lo st xs := ⟨h.hb, h.hg, h.ne, h.len⟩
theorem Mem.alloc {w : World} {b g : Nat} {lo st : Int} {xs : List Int} (h : Mem w b g lo st xs) (o : Obj) : Mem (w.alloc o) b g lo st xs :=
  h.keep ((Upd.refl [] w).alloc o) (by simp) (by simp)

set_option maxHeartbeats 400000 in
theorem store_any {w : World} {b g : Nat} {lo st : Int} {xs : List Int} (i : Nat) (v : Int) (h : Mem w b g lo st xs) (hi : i < xs.length) (hst0 : 0 ≤ st) (hst : st < 1000000) :
    Calls Try.prog 37 #[.pointer (some ⟨b, 0, none⟩), .int .i64 i, .int .u32 v] w fun e w' => e = .returned (.bool true) ∧ Mem w' b g lo (st + 1) (xs.set i v) ∧ Upd [b, g] w w' := by
  have c1 : w.cell? ⟨b, 1, none⟩ = some (.int .i64 st) := by rw [cell_of_heap h.hb]; rfl
  have f1 := frozen_of_heap h.hb 1
  have c2 : w.cell? ⟨b, 2, none⟩ = some (.slice (some ⟨g, 0, none⟩) xs.length xs.length) := by rw [cell_of_heap h.hb]; rfl
  have cg : w.cell? ⟨g, i, none⟩ = some (.int .u32 xs[i]) := by rw [cell_of_heap h.hg]; simp [u32s, List.getElem?_eq_getElem hi]
  have fg := frozen_of_heap h.hg i
  have hne := h.ne
  have hr : (decide (0 ≤ (i : Int)) && decide ((i : Int) < xs.length)) = true := by simp; omega
  have ht := there_any (i : Int) h
  rw [hr] at ht
  have HT := Lib.hid ht
  have HH := Lib.hid h
  clear ht hr h
  go_enter Try.func37, Try.ntmps37
  go_wp2_with (go_at_call 58; refine (HT.out).mono ?_; rintro e w' ⟨rfl, rfl⟩)
  go_ret
  exact ⟨rfl, (HH.out.stores _).set i v, ((Upd.refl _ _).setCell (by simp) _).setCell (by simp) _⟩

set_option maxHeartbeats 400000 in
theorem store_out {w : World} {b g : Nat} {lo st : Int} {xs : List Int} (i : Int) (v : Int) (h : Mem w b g lo st xs) (hi : i < 0 ∨ (xs.length : Int) ≤ i) :
    Calls Try.prog 37 #[.pointer (some ⟨b, 0, none⟩), .int .i64 i, .int .u32 v] w fun e w' => e = .returned (.bool false) ∧ w = w' := by
  have ht := there_any i h
  rw [not_there hi] at ht
  have HT := Lib.hid ht
  clear ht h hi
  go_enter Try.func37, Try.ntmps37
  go_wp2_with (go_at_call 58; refine (HT.out).mono ?_; rintro e w' ⟨rfl, rfl⟩)
  go_ret
  exact ⟨rfl, rfl⟩

/-! The closures of Swap, Or, And. -/
set_option maxHeartbeats 400000 in
theorem swap1_any (w : World) (c : Nat) (was v : Int) (hc : w.cell? ⟨c, 0, none⟩ = some (.int .u32 v)) :
    Calls Try.prog 56 #[.int .u32 was, .pointer (some ⟨c, 0, none⟩)] w fun e w' => e = .returned (.int .u32 v) ∧ w = w' := by
  go_enter Try.func56, Try.ntmps56
  go_wp2
  go_ret
  exact ⟨rfl, rfl⟩
set_option maxHeartbeats 400000 in
theorem or1_any (w : World) (c : Nat) (was v : Int) (hc : w.cell? ⟨c, 0, none⟩ = some (.int .u32 v)) :
    Calls Try.prog 59 #[.int .u32 was, .pointer (some ⟨c, 0, none⟩)] w fun e w' => e = .returned (.int .u32 (bits .or .u32 was v)) ∧ w = w' := by
  go_enter Try.func59, Try.ntmps59
  go_wp2
  go_ret
  exact ⟨rfl, rfl⟩
set_option maxHeartbeats 400000 in
theorem and1_any (w : World) (c : Nat) (was v : Int) (hc : w.cell? ⟨c, 0, none⟩ = some (.int .u32 v)) :
    Calls Try.prog 60 #[.int .u32 was, .pointer (some ⟨c, 0, none⟩)] w fun e w' => e = .returned (.int .u32 (bits .and .u32 was v)) ∧ w = w' := by
  go_enter Try.func60, Try.ntmps60
  go_wp2
  go_ret
  exact ⟨rfl, rfl⟩

set_option maxRecDepth 100000 in
set_option maxHeartbeats 400000 in
theorem put_any {w : World} {b g c : Nat} {lo st : Int} {xs : List Int} (i : Nat) (k : Nat) (r : Int) (h : Mem w b g lo st xs) (hi : i < xs.length) (hst0 : 0 ≤ st) (hst : st < 1000000) (hlo0 : 0 ≤ lo) (hlo : lo < 1000000)
    (hcf : ∀ (W : World) (A : Array Value), (callFunc k A).run Try.prog W = .ok (.enter k A) W)
    (hk : Calls Try.prog k #[.int .u32 xs[i], .pointer (some ⟨c, 0, none⟩)] w.drew fun e w' => e = .returned (.int .u32 r) ∧ w' = w.drew) :
    Calls Try.prog 55 #[.pointer (some ⟨b, 0, none⟩), .int .i64 i, .func (.func k) #[] #[.pointer (some ⟨c, 0, none⟩)]] w fun e w' => e = .returned (.tuple #[.int .u32 xs[i], .bool true]) ∧ Mem w' b g (lo + 1) (st + 1) (xs.set i r) ∧ Upd [b, g] w w' := by
  have c0 : w.cell? ⟨b, 0, none⟩ = some (.int .i64 lo) := by rw [cell_of_heap h.hb]; rfl
  have f0 := frozen_of_heap h.hb 0
  have c1 : w.cell? ⟨b, 1, none⟩ = some (.int .i64 st) := by rw [cell_of_heap h.hb]; rfl
  have f1 := frozen_of_heap h.hb 1
  have c2 : w.cell? ⟨b, 2, none⟩ = some (.slice (some ⟨g, 0, none⟩) xs.length xs.length) := by rw [cell_of_heap h.hb]; rfl
  have cg : w.cell? ⟨g, i, none⟩ = some (.int .u32 xs[i]) := by rw [cell_of_heap h.hg]; simp [u32s, List.getElem?_eq_getElem hi]
  have fg := frozen_of_heap h.hg i
  have hne := h.ne
  have hr : (decide (0 ≤ (i : Int)) && decide ((i : Int) < xs.length)) = true := by simp; omega
  have ht := there_any (i : Int) h
  rw [hr] at ht
  have HT := Lib.hid ht
  have HH := Lib.hid h
  have HK := Lib.hid hk
  clear ht hr h hk
  go_enter Try.func55, Try.ntmps55
  go_wp2_with (go_at_call 58; refine (HT.out).mono ?_; rintro e w' ⟨rfl, rfl⟩)
  refine wp_region_still_tail 9 (by kernel_rfl) (by kernel_rfl) ?_
  simp only [List.take_succ_cons, List.take_zero, List.drop_succ_cons, List.drop_zero]
  repeat still_step
  still_call HK.out
  repeat still_step
  refine wpStill_nil ?_
  change wpList _ _ _ _ _ w.drew
  go_wp2
  go_ret2
  exact ⟨rfl, ((HH.out.drew.set i r).loads _).stores _, (((Upd.refl _ _).drew.setCell (by simp) _).setCell (by simp) _).setCell (by simp) _⟩

set_option maxHeartbeats 400000 in
theorem put_out {w : World} {b g : Nat} {lo st : Int} {xs : List Int} (i : Int) (f : Value) (h : Mem w b g lo st xs) (hi : i < 0 ∨ (xs.length : Int) ≤ i) :
    Calls Try.prog 55 #[.pointer (some ⟨b, 0, none⟩), .int .i64 i, f] w fun e w' => e = .returned (.tuple #[.int .u32 0, .bool false]) ∧ w = w' := by
  have ht := there_any i h
  rw [not_there hi] at ht
  have HT := Lib.hid ht
  clear ht h hi
  go_enter Try.func55, Try.ntmps55
  go_wp2_with (go_at_call 58; refine (HT.out).mono ?_; rintro e w' ⟨rfl, rfl⟩)
  go_ret2
  exact ⟨rfl, rfl⟩

set_option maxHeartbeats 400000 in
theorem swap_any {w : World} {b g : Nat} {lo st : Int} {xs : List Int} (i : Nat) (v : Int) (h : Mem w b g lo st xs) (hi : i < xs.length) (hst0 : 0 ≤ st) (hst : st < 1000000) (hlo0 : 0 ≤ lo) (hlo : lo < 1000000) :
    Calls Try.prog 34 #[.pointer (some ⟨b, 0, none⟩), .int .i64 i, .int .u32 v] w fun e w' => e = .returned (.tuple #[.int .u32 xs[i], .bool true]) ∧ Mem w' b g (lo + 1) (st + 1) (xs.set i (v)) ∧ Upd [b, g] w w' := by
  have hp := put_any i 56 (v) (c := w.heap.size) (h.alloc (.cells #[.int .u32 v] 32)) hi hst0 hst hlo0 hlo (fun _ _ => by kernel_rfl)
    ((swap1_any _ w.heap.size xs[i] v (cell_of_heap (heap_alloc_new w _) 0)).mono fun _ _ ⟨a, b⟩ => ⟨a, b.symm⟩)
  have HP := Lib.hid hp
  have h1 : Upd [b, g] w (w.alloc (.cells #[.int .u32 v] 32)) := (Upd.refl _ _).alloc _
  clear hp h
  go_enter Try.func34, Try.ntmps34
  go_wp2_with (go_at_call 55; refine (HP.out).mono ?_; rintro e w' ⟨rfl, hm, hu⟩)
  go_ret2
  exact ⟨rfl, hm, h1.trans hu⟩
set_option maxHeartbeats 400000 in
theorem swap_out {w : World} {b g : Nat} {lo st : Int} {xs : List Int} (i : Int) (v : Int) (h : Mem w b g lo st xs) (hi : i < 0 ∨ (xs.length : Int) ≤ i) :
    Calls Try.prog 34 #[.pointer (some ⟨b, 0, none⟩), .int .i64 i, .int .u32 v] w fun e w' => e = .returned (.tuple #[.int .u32 0, .bool false]) ∧ Mem w' b g lo st xs ∧ Upd [] w w' := by
  have hp := put_out i (.func (.func 56) #[] #[.pointer (some ⟨w.heap.size, 0, none⟩)]) (h.alloc (.cells #[.int .u32 v] 32)) hi
  have HP := Lib.hid hp
  have h1 : Upd [] w (w.alloc (.cells #[.int .u32 v] 32)) := (Upd.refl _ _).alloc _
  have hm := h.alloc (.cells #[.int .u32 v] 32)
  clear hp h
  go_enter Try.func34, Try.ntmps34
  go_wp2_with (go_at_call 55; refine (HP.out).mono ?_; rintro e w' ⟨rfl, rfl⟩)
  go_ret2
  exact ⟨rfl, hm, h1⟩

set_option maxHeartbeats 400000 in
theorem or_any {w : World} {b g : Nat} {lo st : Int} {xs : List Int} (i : Nat) (v : Int) (h : Mem w b g lo st xs) (hi : i < xs.length) (hst0 : 0 ≤ st) (hst : st < 1000000) (hlo0 : 0 ≤ lo) (hlo : lo < 1000000) :
    Calls Try.prog 38 #[.pointer (some ⟨b, 0, none⟩), .int .i64 i, .int .u32 v] w fun e w' => e = .returned (.tuple #[.int .u32 xs[i], .bool true]) ∧ Mem w' b g (lo + 1) (st + 1) (xs.set i (bits .or .u32 xs[i] v)) ∧ Upd [b, g] w w' := by
  have hp := put_any i 59 (bits .or .u32 xs[i] v) (c := w.heap.size) (h.alloc (.cells #[.int .u32 v] 32)) hi hst0 hst hlo0 hlo (fun _ _ => by kernel_rfl)
    ((or1_any _ w.heap.size xs[i] v (cell_of_heap (heap_alloc_new w _) 0)).mono fun _ _ ⟨a, b⟩ => ⟨a, b.symm⟩)
  have HP := Lib.hid hp
  have h1 : Upd [b, g] w (w.alloc (.cells #[.int .u32 v] 32)) := (Upd.refl _ _).alloc _
  clear hp h
  go_enter Try.func38, Try.ntmps38
  go_wp2_with (go_at_call 55; refine (HP.out).mono ?_; rintro e w' ⟨rfl, hm, hu⟩)
  go_ret2
  exact ⟨rfl, hm, h1.trans hu⟩
set_option maxHeartbeats 400000 in
theorem or_out {w : World} {b g : Nat} {lo st : Int} {xs : List Int} (i : Int) (v : Int) (h : Mem w b g lo st xs) (hi : i < 0 ∨ (xs.length : Int) ≤ i) :
    Calls Try.prog 38 #[.pointer (some ⟨b, 0, none⟩), .int .i64 i, .int .u32 v] w fun e w' => e = .returned (.tuple #[.int .u32 0, .bool false]) ∧ Mem w' b g lo st xs ∧ Upd [] w w' := by
  have hp := put_out i (.func (.func 59) #[] #[.pointer (some ⟨w.heap.size, 0, none⟩)]) (h.alloc (.cells #[.int .u32 v] 32)) hi
  have HP := Lib.hid hp
  have h1 : Upd [] w (w.alloc (.cells #[.int .u32 v] 32)) := (Upd.refl _ _).alloc _
  have hm := h.alloc (.cells #[.int .u32 v] 32)
  clear hp h
  go_enter Try.func38, Try.ntmps38
  go_wp2_with (go_at_call 55; refine (HP.out).mono ?_; rintro e w' ⟨rfl, rfl⟩)
  go_ret2
  exact ⟨rfl, hm, h1⟩

set_option maxHeartbeats 400000 in
theorem and_any {w : World} {b g : Nat} {lo st : Int} {xs : List Int} (i : Nat) (v : Int) (h : Mem w b g lo st xs) (hi : i < xs.length) (hst0 : 0 ≤ st) (hst : st < 1000000) (hlo0 : 0 ≤ lo) (hlo : lo < 1000000) :
    Calls Try.prog 39 #[.pointer (some ⟨b, 0, none⟩), .int .i64 i, .int .u32 v] w fun e w' => e = .returned (.tuple #[.int .u32 xs[i], .bool true]) ∧ Mem w' b g (lo + 1) (st + 1) (xs.set i (bits .and .u32 xs[i] v)) ∧ Upd [b, g] w w' := by
  have hp := put_any i 60 (bits .and .u32 xs[i] v) (c := w.heap.size) (h.alloc (.cells #[.int .u32 v] 32)) hi hst0 hst hlo0 hlo (fun _ _ => by kernel_rfl)
    ((and1_any _ w.heap.size xs[i] v (cell_of_heap (heap_alloc_new w _) 0)).mono fun _ _ ⟨a, b⟩ => ⟨a, b.symm⟩)
  have HP := Lib.hid hp
  have h1 : Upd [b, g] w (w.alloc (.cells #[.int .u32 v] 32)) := (Upd.refl _ _).alloc _
  clear hp h
  go_enter Try.func39, Try.ntmps39
  go_wp2_with (go_at_call 55; refine (HP.out).mono ?_; rintro e w' ⟨rfl, hm, hu⟩)
  go_ret2
  exact ⟨rfl, hm, h1.trans hu⟩
set_option maxHeartbeats 400000 in
theorem and_out {w : World} {b g : Nat} {lo st : Int} {xs : List Int} (i : Int) (v : Int) (h : Mem w b g lo st xs) (hi : i < 0 ∨ (xs.length : Int) ≤ i) :
    Calls Try.prog 39 #[.pointer (some ⟨b, 0, none⟩), .int .i64 i, .int .u32 v] w fun e w' => e = .returned (.tuple #[.int .u32 0, .bool false]) ∧ Mem w' b g lo st xs ∧ Upd [] w w' := by
  have hp := put_out i (.func (.func 60) #[] #[.pointer (some ⟨w.heap.size, 0, none⟩)]) (h.alloc (.cells #[.int .u32 v] 32)) hi
  have HP := Lib.hid hp
  have h1 : Upd [] w (w.alloc (.cells #[.int .u32 v] 32)) := (Upd.refl _ _).alloc _
  have hm := h.alloc (.cells #[.int .u32 v] 32)
  clear hp h
  go_enter Try.func39, Try.ntmps39
  go_wp2_with (go_at_call 55; refine (HP.out).mono ?_; rintro e w' ⟨rfl, rfl⟩)
  go_ret2
  exact ⟨rfl, hm, h1⟩


end Go.Proofs.Ytnnakiojfpnphaa
