/- Package lock: a write: begun, made, taken, answered. -/
import Derived.Test.YtbjeojcnofpgfaaLock2
set_option linter.unusedVariables false
set_option linter.unusedSimpArgs false
namespace Go.Proofs.Ytbjeojcnofpgfaa
open Go.RowKit

set_option maxRecDepth 100000 in
set_option maxHeartbeats 1000000 in
theorem lw_done {w : World} {b : Nat} {n seq v0 f r0 : Int} (h : LW w b 127 [] n seq v0 f r0 true false) :
    Calls Try.prog 60 #[.pointer (some ⟨b, 0, none⟩)] w fun e w' => e = .returned (.tuple #[.agg #[.int .i64 0, .int .i64 0, .int .u32 0], .bool false]) ∧ Upd [] w w' := by
  obtain ⟨-, -, -, -, -, -, -, -, x17⟩ := h.cells
  have lb := heap_lt h.h
  have nb : w.heap.size ≠ b := by omega
  have nb' : b ≠ w.heap.size := by omega
  clear h
  go_enter Try.func60, Try.ntmps60
  go_wp2
  go_step3
  go_wp2
  rw [Exit.noGoto_ret]
  refine bodyPost_ret (v := .tuple #[.agg #[.int .i64 0, .int .i64 0, .int .u32 0], .bool false]) (by simp [results, Try.results60, go_sem]) rfl ?_
  refine ⟨rfl, ?_⟩
  exact (Upd.refl _ _).alloc _

set_option maxRecDepth 100000 in
set_option maxHeartbeats 1000000 in
theorem lw_result {w : World} {b : Nat} {n seq v0 f r0 : Int} (h : LW w b 127 [] n seq v0 f r0 true false) :
    Calls Try.prog 62 #[.pointer (some ⟨b, 0, none⟩)] w fun e w' => e = .returned (.tuple #[.agg #[.int .i64 f, .int .u32 r0, .int .u32 0, .int .u32 0, .int .u32 0], .bool true]) ∧ Upd [] w w' := by
  have lb := heap_lt h.h
  have nb : w.heap.size ≠ b := by omega
  have nb' : b ≠ w.heap.size := by omega
  have HA := Lib.hid (lock_answer (h.keep ((Upd.refl [] w).alloc (.cells #[.int .i64 0, .int .u32 0, .int .u32 0, .int .u32 0, .int .u32 0] 39)) (by simp)))
  clear h
  go_enter Try.func62, Try.ntmps62
  go_wp2_with (go_at_call 122; refine (HA.out).mono ?_; rintro e w1 ⟨rfl, hu1⟩; have HU1 := Lib.hid hu1; have hz := hu1.keepb (heap_alloc_new _ _) (by simp); have HZ := Lib.hid hz; have zf := fun j => frozen_of_heap hz j; have z0 := cell_of_heap hz 0; have z1 := cell_of_heap hz 1; have z2 := cell_of_heap hz 2; have z3 := cell_of_heap hz 3; have z4 := cell_of_heap hz 4; simp at z0 z1 z2 z3 z4; clear hz hu1)
  refine ret_result rfl (g := w.heap.size) (t := 39) (fr := (0, 0)) (x0 := .int .i64 f) (x1 := .int .u32 r0) (x2 := .int .u32 0) (x3 := .int .u32 0) (x4 := .int .u32 0) rfl rfl rfl (hg := ?hg) ?_
  case hg =>
    repeat (first | (with_reducible exact HZ.out) | (with_reducible apply heap_set2))
    all_goals rfl
  refine ⟨rfl, ?_⟩
  repeat (with_reducible refine Upd.setCell ?_ (by simp) _)
  exact ((Upd.refl _ _).alloc _).trans HU1.out

set_option maxRecDepth 100000 in
set_option maxHeartbeats 1000000 in
theorem lw_take {w : World} {b : Nat} {seq v0 f r0 : Int} (n : Nat) (g : Int) (hn : n < 4) (h : LW w b 127 [] n seq v0 f r0 true true) :
    Calls Try.prog 58 #[.pointer (some ⟨b, 0, none⟩), .int .u32 g] w fun e w' => e = .returned (.tuple #[]) ∧ LW w' b 127 [] (n + 1 : Nat) (if n = 0 then bits .andNot .u32 g 1 else seq) v0 f r0 true (decide (n < 3)) ∧ Upd [b] w w' := by
  obtain ⟨x0, x1, x2, x3, x4, x5, x6, x7, x17⟩ := h.cells
  have lb := heap_lt h.h
  have xf := fun j => frozen_of_heap h.h j
  have H := Lib.hid h.h
  clear h
  have hc : n = 0 ∨ n = 1 ∨ n = 2 ∨ n = 3 := by omega
  clear hn
  rcases hc with rfl | rfl | rfl | rfl
  all_goals
    go_enter Try.func58, Try.ntmps58
    go_wp2
    go_region
    go_wp2
    first | refine bodyPost_ret (results_none rfl _ _ _) rfl ?_ | go_end0
    refine ⟨rfl, ⟨?hg⟩, ?_⟩
    case hg =>
      unfold lockC at *
      repeat (first | (with_reducible exact H.out) | (with_reducible apply heap_set2) | (with_reducible apply heap_drew'))
      all_goals rfl
    repeat (first | (with_reducible refine Upd.setCell ?_ (by simp) _) | (with_reducible refine Upd.drew ?_))
    exact Upd.refl _ _

theorem lockC_one : (lockC 0 0 0 0 0 true true).toArray.all (·.oneCell') = true := by simp [lockC, Value.oneCell']
theorem info_lock : (Try.prog.info? 125).map (·.size) = some 18 := by kernel_rfl
set_option maxRecDepth 100000 in
set_option maxHeartbeats 1000000 in
theorem lock_begun (W : World) : Calls Try.prog 148 #[lockP] W fun e w' => e = .returned (.agg (lockC 0 0 0 0 0 true true).toArray) ∧ Upd [] W w' := by
  have HR := Lib.hid fun w => right_lock w
  unfold objV at HR
  unfold lockP lockC
  go_enter Try.func148, Try.ntmps148
  go_wp2_with (first
    | (go_at_call 94; refine (HR.out _).mono ?_; rintro e w1 ⟨rfl, hu1⟩; have HU1 := Lib.hid ((((((Upd.refl [] W).alloc _).alloc _).alloc _).alloc _).trans hu1); have hx1 := hu1.keepb (heap_alloc' (heap_alloc' (heap_alloc_at (w := W.alloc _) (g := W.heap.size + 1) _ (by simp)))) (by simp); have hx2 := hu1.keepb (heap_alloc' (heap_alloc_at (w := (W.alloc _).alloc _) (g := W.heap.size + 1 + 1) _ (by simp))) (by simp); have HX1 := Lib.hid hx1; have HX2 := Lib.hid hx2; have z17 := cell_of_heap hx2 17; have zf := fun j => frozen_of_heap hx2 j; simp at z17; clear hx1 hx2 hu1)
    | (refine wpList_load_row rfl 125 _ rfl (W.heap.size + 1 + 1) rfl _ _ (0, 0) _ (heap_set HX2.out 17 (.bool true)) Try.underlying125 rfl info_lock ?_)
    | (refine wpList_store_row rfl 125 _ _ rfl (W.heap.size + 1) (lockC 0 0 0 0 0 true true).toArray rfl rfl _ _ ((heap_set_other _ _ _ (by omega)).trans HX1.out) info_lock rfl lockC_one ?_; have HS := Lib.hid (setRow_heap _ _ _ (lockC 0 0 0 0 0 true true).toArray _ _ ((heap_set_other w1 17 (.bool true) (show W.heap.size + 1 ≠ W.heap.size + 1 + 1 by omega)).trans HX1.out))))
  refine bodyPost_ret (v := .agg (lockC 0 0 0 0 0 true true).toArray) (results_cell_row rfl _ _ (W.heap.size + 1) _ _ (0, 0) _ rfl HS.out Try.underlying125 rfl info_lock) rfl ?_
  refine ⟨rfl, ?_⟩
  have h1 : Upd [W.heap.size + 1 + 1] w1 (w1.setCell ⟨W.heap.size + 1 + 1, 17, none⟩ (.bool true)) := (Upd.refl _ _).setCell (by simp) _
  exact (HU1.out.then h1 (by simp; omega)).then (upd_setRow _ _ _) (by simp)
end Go.Proofs.Ytbjeojcnofpgfaa
