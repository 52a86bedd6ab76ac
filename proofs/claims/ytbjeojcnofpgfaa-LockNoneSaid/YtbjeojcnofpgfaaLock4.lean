/- Package lock: a write made; none, and one that nobody made. -/
import Derived.Test.YtbjeojcnofpgfaaLock3
set_option linter.unusedVariables false
set_option linter.unusedSimpArgs false
namespace Go.Proofs.Ytbjeojcnofpgfaa
open Go.RowKit

set_option maxRecDepth 100000 in
set_option maxHeartbeats 1000000 in
theorem lw_new (x : Int) (W : World) : Calls Try.prog 124 #[lockP, .agg #[.int .u32 x, .int .u32 0, .int .u32 0, .int .u32 0]] W fun e w' => ∃ b, e = .returned (.pointer (some ⟨b, 0, none⟩)) ∧ W.heap.size ≤ b ∧ LW w' b 127 [] 0 0 x 0 0 true true ∧ Upd [] W w' := by
  have HB := Lib.hid fun w => lock_begun w
  unfold lockP lockC at HB
  unfold lockP
  go_enter Try.func124, Try.ntmps124
  go_wp2_with (go_at_call 148; refine (HB.out _).mono ?_; rintro e w1 ⟨rfl, hu1⟩; have HU1 := Lib.hid ((((Upd.refl [] W).alloc _).alloc _).trans hu1); have hx := hu1.keepb (heap_alloc_at (w := W.alloc _) (g := W.heap.size + 1) _ (by simp)) (by simp); have z0 := cell_of_heap hx 0; have z1 := cell_of_heap hx 1; have z2 := cell_of_heap hx 2; have z3 := cell_of_heap hx 3; simp at z0 z1 z2 z3; have lx := heap_lt hx; clear hx hu1)
  go_ret
  have hsz := HU1.out.size
  refine ⟨_, rfl, hsz, ⟨?hg⟩, ?_⟩
  case hg =>
    exact heap_alloc_new _ _
  repeat (first | (with_reducible refine Upd.setCell ?_ (by simp; omega) _) | (with_reducible refine Upd.alloc ?_ _))
  exact HU1.out

set_option maxRecDepth 100000 in
set_option maxHeartbeats 400000 in
theorem lw_take_nil (g : Int) (w : World) : Calls Try.prog 58 #[.pointer none, .int .u32 g] w fun e w' => e = .returned (.tuple #[]) ∧ w = w' := by
  go_enter Try.func58, Try.ntmps58
  go_wp2
  refine bodyPost_ret (results_none rfl _ _ _) rfl ?_
  exact ⟨rfl, rfl⟩
set_option maxRecDepth 100000 in
set_option maxHeartbeats 400000 in
theorem lr_take_nil (g : Int) (w : World) : Calls Try.prog 59 #[.pointer none, .int .u32 g] w fun e w' => e = .returned (.tuple #[]) ∧ Upd [] w w' := by
  go_enter Try.func59, Try.ntmps59
  go_wp2
  go_step3
  go_wp2
  rw [Exit.noGoto_ret]
  refine bodyPost_ret (results_none rfl _ _ _) rfl ?_
  exact ⟨rfl, (Upd.refl _ _).alloc _⟩
set_option maxRecDepth 100000 in
set_option maxHeartbeats 400000 in
theorem lw_act_nil (w : World) : Calls Try.prog 60 #[.pointer none] w fun e w' => e = .returned (.tuple #[.agg #[.int .i64 0, .int .i64 0, .int .u32 0], .bool false]) ∧ Upd [] w w' := by
  go_enter Try.func60, Try.ntmps60
  go_wp2
  go_step3
  go_wp2
  rw [Exit.noGoto_ret]
  refine bodyPost_ret (v := .tuple #[.agg #[.int .i64 0, .int .i64 0, .int .u32 0], .bool false]) (by simp [results, Try.results60, go_sem]) rfl ?_
  refine ⟨rfl, ?_⟩
  exact (Upd.refl _ _).alloc _
set_option maxRecDepth 100000 in
set_option maxHeartbeats 400000 in
theorem lr_act_nil (w : World) : Calls Try.prog 61 #[.pointer none] w fun e w' => e = .returned (.tuple #[.agg #[.int .i64 0, .int .i64 0, .int .u32 0], .bool false]) ∧ Upd [] w w' := by
  go_enter Try.func61, Try.ntmps61
  go_wp2
  refine bodyPost_ret (v := .tuple #[.agg #[.int .i64 0, .int .i64 0, .int .u32 0], .bool false]) (by simp [results, Try.results61, go_sem]) rfl ?_
  refine ⟨rfl, ?_⟩
  exact (Upd.refl _ _).alloc _
set_option maxRecDepth 100000 in
set_option maxHeartbeats 400000 in
theorem lw_result_nil (w : World) : Calls Try.prog 62 #[.pointer none] w fun e w' => e = .returned (.tuple #[.agg #[.int .i64 0, .int .u32 0, .int .u32 0, .int .u32 0, .int .u32 0], .bool false]) ∧ Upd [] w w' := by
  go_enter Try.func62, Try.ntmps62
  go_wp2
  refine bodyPost_ret (v := .tuple #[.agg #[.int .i64 0, .int .u32 0, .int .u32 0, .int .u32 0, .int .u32 0], .bool false]) (by simp [results, Try.results62, go_sem]) rfl ?_
  refine ⟨rfl, ?_⟩
  exact (Upd.refl _ _).alloc _
set_option maxRecDepth 100000 in
set_option maxHeartbeats 400000 in
theorem lr_result_nil (w : World) : Calls Try.prog 63 #[.pointer none] w fun e w' => e = .returned (.tuple #[.agg #[.int .i64 0, .int .u32 0, .int .u32 0, .int .u32 0, .int .u32 0], .bool false]) ∧ Upd [] w w' := by
  go_enter Try.func63, Try.ntmps63
  go_wp2
  refine bodyPost_ret (v := .tuple #[.agg #[.int .i64 0, .int .u32 0, .int .u32 0, .int .u32 0, .int .u32 0], .bool false]) (by simp [results, Try.results63, go_sem]) rfl ?_
  refine ⟨rfl, ?_⟩
  exact (Upd.refl _ _).alloc _
set_option maxRecDepth 100000 in
set_option maxHeartbeats 400000 in
theorem lr_tries_nil (w : World) : Calls Try.prog 64 #[.pointer none] w fun e w' => e = .returned (.int .i64 0) ∧ w = w' := by
  go_enter Try.func64, Try.ntmps64
  go_wp2
  go_ret
  exact ⟨rfl, rfl⟩
/-- A routine that nobody made: all of its cells are zero. -/
def zeroC : List Value := [.int .i64 0, .int .i64 0, .int .i64 0, .int .i64 0, .int .i64 0, .int .i64 0, .int .u32 0, .int .u32 0, .int .u32 0, .int .u32 0, .int .u32 0, .int .i64 0, .int .u32 0, .int .u32 0, .int .u32 0, .int .u32 0, .bool false, .bool false]
set_option maxRecDepth 100000 in
set_option maxHeartbeats 400000 in
theorem lw_act_zero {w : World} {b : Nat} {t : TypeId} {more : List Value} (h : w.heap[b]? = some (.cells (zeroC ++ more).toArray t (0, 0))) : Calls Try.prog 60 #[.pointer (some ⟨b, 0, none⟩)] w fun e w' => e = .returned (.tuple #[.agg #[.int .i64 0, .int .i64 0, .int .u32 0], .bool false]) ∧ Upd [] w w' := by
  have x17 : w.cell? ⟨b, 17, none⟩ = some (.bool false) := by rw [cell_of_heap h]; simp [zeroC]
  have lb := heap_lt h
  have nb : w.heap.size ≠ b := by omega
  have nb' : b ≠ w.heap.size := by omega
  clear h
  go_enter Try.func60, Try.ntmps60
  go_wp2
  go_step3
  go_wp2
  rw [Exit.noGoto_ret]
  refine bodyPost_ret (v := .tuple #[.agg #[.int .i64 0, .int .i64 0, .int .u32 0], .bool false]) (by simp [results, Try.results60, go_sem]) rfl ?_
  refine ⟨rfl, ?_⟩
  exact (Upd.refl _ _).alloc _
set_option maxRecDepth 100000 in
set_option maxHeartbeats 400000 in
theorem lock_answer_zero {w : World} {b : Nat} {t : TypeId} {more : List Value} (h : w.heap[b]? = some (.cells (zeroC ++ more).toArray t (0, 0))) :
    Calls Try.prog 122 #[.pointer (some ⟨b, 0, none⟩)] w fun e w' => e = .returned (.tuple #[.agg #[.int .i64 0, .int .u32 0, .int .u32 0, .int .u32 0, .int .u32 0], .bool false]) ∧ Upd [] w w' := by
  have x17 : w.cell? ⟨b, 17, none⟩ = some (.bool false) := by rw [cell_of_heap h]; simp [zeroC]
  have x16 : w.cell? ⟨b, 16, none⟩ = some (.bool false) := by rw [cell_of_heap h]; simp [zeroC]
  have lb := heap_lt h
  have nb : w.heap.size ≠ b := by omega
  have nb' : b ≠ w.heap.size := by omega
  clear h
  go_enter Try.func122, Try.ntmps122
  go_wp2
  refine bodyPost_ret (v := .tuple #[.agg #[.int .i64 0, .int .u32 0, .int .u32 0, .int .u32 0, .int .u32 0], .bool false]) (by simp [results, Try.results122, go_sem]) rfl ?_
  refine ⟨rfl, ?_⟩
  exact (Upd.refl _ _).alloc _
set_option maxRecDepth 100000 in
set_option maxHeartbeats 400000 in
theorem lr_result_zero {w : World} {b : Nat} {t : TypeId} {more : List Value} (h : w.heap[b]? = some (.cells (zeroC ++ more).toArray t (0, 0))) :
    Calls Try.prog 63 #[.pointer (some ⟨b, 0, none⟩)] w fun e w' => e = .returned (.tuple #[.agg #[.int .i64 0, .int .u32 0, .int .u32 0, .int .u32 0, .int .u32 0], .bool false]) ∧ Upd [] w w' := by
  have lb := heap_lt h
  have nb : w.heap.size ≠ b := by omega
  have nb' : b ≠ w.heap.size := by omega
  have HA := Lib.hid (lock_answer_zero (heap_alloc' (o' := .cells #[.int .i64 0, .int .u32 0, .int .u32 0, .int .u32 0, .int .u32 0] 39) h))
  clear h
  go_enter Try.func63, Try.ntmps63
  go_wp2_with (go_at_call 122; refine (HA.out).mono ?_; rintro e w1 ⟨rfl, hu1⟩; have HU1 := Lib.hid hu1; have hz := hu1.keepb (heap_alloc_new _ _) (by simp); have HZ := Lib.hid hz; have zf := fun j => frozen_of_heap hz j; have z0 := cell_of_heap hz 0; have z1 := cell_of_heap hz 1; have z2 := cell_of_heap hz 2; have z3 := cell_of_heap hz 3; have z4 := cell_of_heap hz 4; simp at z0 z1 z2 z3 z4; clear hz hu1)
  refine ret_result rfl (g := w.heap.size) (t := 39) (fr := (0, 0)) (x0 := .int .i64 0) (x1 := .int .u32 0) (x2 := .int .u32 0) (x3 := .int .u32 0) (x4 := .int .u32 0) rfl rfl rfl (hg := ?hg) ?_
  case hg =>
    repeat (first | (with_reducible exact HZ.out) | (with_reducible apply heap_set2))
    all_goals rfl
  refine ⟨rfl, ?_⟩
  repeat (with_reducible refine Upd.setCell ?_ (by simp) _)
  exact ((Upd.refl _ _).alloc _).trans HU1.out
end Go.Proofs.Ytbjeojcnofpgfaa
