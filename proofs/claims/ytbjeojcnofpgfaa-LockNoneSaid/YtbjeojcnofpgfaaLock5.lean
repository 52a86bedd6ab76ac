/- Package lock: a read: its acts, what it takes, its answer. -/
import Derived.Test.YtbjeojcnofpgfaaLock4
set_option linter.unusedVariables false
set_option linter.unusedSimpArgs false
namespace Go.Proofs.Ytbjeojcnofpgfaa
open Go.RowKit

set_option maxRecDepth 100000 in
set_option maxHeartbeats 1000000 in
theorem lr_act0 {w : World} {b : Nat} {seq v0 f r0 left tries : Int} (h : LW w b 129 [.int .i64 left, .int .i64 tries] 0 seq v0 f r0 true true) :
    Calls Try.prog 61 #[.pointer (some ⟨b, 0, none⟩)] w fun e w' => e = .returned (.tuple #[.agg #[.int .i64 1, .int .i64 0, .int .u32 0], .bool true]) ∧ Upd [] w w' := by
  obtain ⟨x0, x1, x2, x3, x4, x5, x6, x7, x17⟩ := h.cells
  obtain ⟨x8, x9, x10, x11, x12, x13, x14, x15, x16⟩ := h.cells2
  have x18 : w.cell? ⟨b, 18, none⟩ = some (.int .i64 left) := h.cell 18
  have x19 : w.cell? ⟨b, 19, none⟩ = some (.int .i64 tries) := h.cell 19
  have lb := heap_lt h.h
  have nb : w.heap.size ≠ b := by omega
  have nb' : b ≠ w.heap.size := by omega
  have xf := fun j => h.f j
  have H := Lib.hid h
  clear h
  go_enter Try.func61, Try.ntmps61
  go_wp2_with (first
    | (go_at_call 120; refine (lock_count (H.out.keep (show Upd [] w _ from (Upd.refl _ _).alloc _) (by simp))).mono ?_; rintro e w1 ⟨rfl, hu1⟩; have HU1 := Lib.hid (((Upd.refl [] w).alloc _).trans hu1); have hz : w1.heap[w.heap.size]? = some (.cells #[.int .i64 0, .int .i64 0, .int .u32 0] 80 (0, 0)) := hu1.keepb (heap_alloc_new _ _) (by simp); obtain ⟨z0, z1, z2⟩ := cells3 hz; have zf := fun j => frozen_of_heap hz j; have HZ := Lib.hid hz; obtain ⟨y0, y1, y2, y3, y4, y5, y6, y7, y17⟩ := (H.out.keep HU1.out (by simp)).cells; clear hu1 hz)
    | (go_at_call 121; refine (lock_data (H.out.keep (show Upd [] w _ from (((HU1.out.setCell (by simp) _).setCell (by simp) _).setCell (by simp) _)) (by simp))).mono ?_; rintro e w2 ⟨rfl, hu2⟩; have HU2 := Lib.hid ((((HU1.out.setCell (p := ⟨w.heap.size, 0, none⟩) (by simp) (.int .i64 1)).setCell (p := ⟨w.heap.size, 1, none⟩) (by simp) (.int .i64 0)).setCell (p := ⟨w.heap.size, 2, none⟩) (by simp) (.int .u32 0)).trans hu2); have hz2 := hu2.keepb (heap_set (heap_set (heap_set HZ.out 0 (.int .i64 1)) 1 (.int .i64 0)) 2 (.int .u32 0)) (by simp); simp at hz2; obtain ⟨a0, a1, a2⟩ := cells3 hz2; have af := fun j => frozen_of_heap hz2 j; have HZ2 := Lib.hid hz2; clear hu2 hz2))
  refine ret_act rfl (g := w.heap.size) (t := 80) (fr := (0, 0)) (x := .int .i64 1) (y := .int .i64 0) (z := .int .u32 0) rfl rfl rfl (hg := ?hg) ?_
  case hg =>
    repeat (first | (with_reducible exact HZ.out) | (with_reducible apply heap_set2) | (with_reducible apply heap_drew'))
    all_goals rfl
  refine ⟨rfl, ?_⟩
  repeat (first | (with_reducible refine Upd.setCell ?_ (by simp) _) | (with_reducible refine Upd.drew ?_))
  exact HU1.out
set_option maxRecDepth 100000 in
set_option maxHeartbeats 1000000 in
theorem lr_act1 {w : World} {b : Nat} {seq v0 f r0 left tries : Int} (h : LW w b 129 [.int .i64 left, .int .i64 tries] 1 seq v0 f r0 true true) :
    Calls Try.prog 61 #[.pointer (some ⟨b, 0, none⟩)] w fun e w' => e = .returned (.tuple #[.agg #[.int .i64 1, .int .i64 1, .int .u32 0], .bool true]) ∧ Upd [] w w' := by
  obtain ⟨x0, x1, x2, x3, x4, x5, x6, x7, x17⟩ := h.cells
  obtain ⟨x8, x9, x10, x11, x12, x13, x14, x15, x16⟩ := h.cells2
  have x18 : w.cell? ⟨b, 18, none⟩ = some (.int .i64 left) := h.cell 18
  have x19 : w.cell? ⟨b, 19, none⟩ = some (.int .i64 tries) := h.cell 19
  have lb := heap_lt h.h
  have nb : w.heap.size ≠ b := by omega
  have nb' : b ≠ w.heap.size := by omega
  have xf := fun j => h.f j
  have H := Lib.hid h
  clear h
  go_enter Try.func61, Try.ntmps61
  go_wp2_with (first
    | (go_at_call 120; refine (lock_count (H.out.keep (show Upd [] w _ from (Upd.refl _ _).alloc _) (by simp))).mono ?_; rintro e w1 ⟨rfl, hu1⟩; have HU1 := Lib.hid (((Upd.refl [] w).alloc _).trans hu1); have hz : w1.heap[w.heap.size]? = some (.cells #[.int .i64 0, .int .i64 0, .int .u32 0] 80 (0, 0)) := hu1.keepb (heap_alloc_new _ _) (by simp); obtain ⟨z0, z1, z2⟩ := cells3 hz; have zf := fun j => frozen_of_heap hz j; have HZ := Lib.hid hz; obtain ⟨y0, y1, y2, y3, y4, y5, y6, y7, y17⟩ := (H.out.keep HU1.out (by simp)).cells; clear hu1 hz)
    | (go_at_call 121; refine (lock_data (H.out.keep (show Upd [] w _ from (((HU1.out.setCell (by simp) _).setCell (by simp) _).setCell (by simp) _)) (by simp))).mono ?_; rintro e w2 ⟨rfl, hu2⟩; have HU2 := Lib.hid ((((HU1.out.setCell (p := ⟨w.heap.size, 0, none⟩) (by simp) (.int .i64 1)).setCell (p := ⟨w.heap.size, 1, none⟩) (by simp) (.int .i64 0)).setCell (p := ⟨w.heap.size, 2, none⟩) (by simp) (.int .u32 0)).trans hu2); have hz2 := hu2.keepb (heap_set (heap_set (heap_set HZ.out 0 (.int .i64 1)) 1 (.int .i64 0)) 2 (.int .u32 0)) (by simp); simp at hz2; obtain ⟨a0, a1, a2⟩ := cells3 hz2; have af := fun j => frozen_of_heap hz2 j; have HZ2 := Lib.hid hz2; clear hu2 hz2))
  refine ret_act rfl (g := w.heap.size) (t := 80) (fr := (0, 0)) (x := .int .i64 1) (y := .int .i64 1) (z := .int .u32 0) rfl rfl rfl (hg := ?hg) ?_
  case hg =>
    repeat (first | (with_reducible exact HZ2.out) | (with_reducible apply heap_set2) | (with_reducible apply heap_drew'))
    all_goals rfl
  refine ⟨rfl, ?_⟩
  repeat (first | (with_reducible refine Upd.setCell ?_ (by simp) _) | (with_reducible refine Upd.drew ?_))
  exact HU2.out
set_option maxRecDepth 100000 in
set_option maxHeartbeats 1000000 in
theorem lr_act2 {w : World} {b : Nat} {seq v0 f r0 left tries : Int} (h : LW w b 129 [.int .i64 left, .int .i64 tries] 2 seq v0 f r0 true true) :
    Calls Try.prog 61 #[.pointer (some ⟨b, 0, none⟩)] w fun e w' => e = .returned (.tuple #[.agg #[.int .i64 1, .int .i64 0, .int .u32 0], .bool true]) ∧ Upd [] w w' := by
  obtain ⟨x0, x1, x2, x3, x4, x5, x6, x7, x17⟩ := h.cells
  obtain ⟨x8, x9, x10, x11, x12, x13, x14, x15, x16⟩ := h.cells2
  have x18 : w.cell? ⟨b, 18, none⟩ = some (.int .i64 left) := h.cell 18
  have x19 : w.cell? ⟨b, 19, none⟩ = some (.int .i64 tries) := h.cell 19
  have lb := heap_lt h.h
  have nb : w.heap.size ≠ b := by omega
  have nb' : b ≠ w.heap.size := by omega
  have xf := fun j => h.f j
  have H := Lib.hid h
  clear h
  go_enter Try.func61, Try.ntmps61
  go_wp2_with (first
    | (go_at_call 120; refine (lock_count (H.out.keep (show Upd [] w _ from (Upd.refl _ _).alloc _) (by simp))).mono ?_; rintro e w1 ⟨rfl, hu1⟩; have HU1 := Lib.hid (((Upd.refl [] w).alloc _).trans hu1); have hz : w1.heap[w.heap.size]? = some (.cells #[.int .i64 0, .int .i64 0, .int .u32 0] 80 (0, 0)) := hu1.keepb (heap_alloc_new _ _) (by simp); obtain ⟨z0, z1, z2⟩ := cells3 hz; have zf := fun j => frozen_of_heap hz j; have HZ := Lib.hid hz; obtain ⟨y0, y1, y2, y3, y4, y5, y6, y7, y17⟩ := (H.out.keep HU1.out (by simp)).cells; clear hu1 hz)
    | (go_at_call 121; refine (lock_data (H.out.keep (show Upd [] w _ from (((HU1.out.setCell (by simp) _).setCell (by simp) _).setCell (by simp) _)) (by simp))).mono ?_; rintro e w2 ⟨rfl, hu2⟩; have HU2 := Lib.hid ((((HU1.out.setCell (p := ⟨w.heap.size, 0, none⟩) (by simp) (.int .i64 1)).setCell (p := ⟨w.heap.size, 1, none⟩) (by simp) (.int .i64 0)).setCell (p := ⟨w.heap.size, 2, none⟩) (by simp) (.int .u32 0)).trans hu2); have hz2 := hu2.keepb (heap_set (heap_set (heap_set HZ.out 0 (.int .i64 1)) 1 (.int .i64 0)) 2 (.int .u32 0)) (by simp); simp at hz2; obtain ⟨a0, a1, a2⟩ := cells3 hz2; have af := fun j => frozen_of_heap hz2 j; have HZ2 := Lib.hid hz2; clear hu2 hz2))
  refine ret_act rfl (g := w.heap.size) (t := 80) (fr := (0, 0)) (x := .int .i64 1) (y := .int .i64 0) (z := .int .u32 0) rfl rfl rfl (hg := ?hg) ?_
  case hg =>
    repeat (first | (with_reducible exact HZ.out) | (with_reducible apply heap_set2) | (with_reducible apply heap_drew'))
    all_goals rfl
  refine ⟨rfl, ?_⟩
  repeat (first | (with_reducible refine Upd.setCell ?_ (by simp) _) | (with_reducible refine Upd.drew ?_))
  exact HU1.out
end Go.Proofs.Ytbjeojcnofpgfaa
