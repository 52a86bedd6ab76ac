/- Package lock: a write's acts. -/
import Derived.Test.YtbjeojcnofpgfaaLock
import Derived.Deep.RegionHeld3
set_option linter.unusedVariables false
set_option linter.unusedSimpArgs false
namespace Go.Proofs.Ytbjeojcnofpgfaa
open Go.RowKit

set_option maxRecDepth 100000 in
set_option maxHeartbeats 1000000 in
theorem lw_act0 {w : World} {b : Nat} {seq v0 f r0 : Int} (h : LW w b 127 [] 0 seq v0 f r0 true true) :
    Calls Try.prog 60 #[.pointer (some ⟨b, 0, none⟩)] w fun e w' => e = .returned (.tuple #[.agg #[.int .i64 1, .int .i64 0, .int .u32 0], .bool true]) ∧ Upd [] w w' := by
  obtain ⟨x0, x1, x2, x3, x4, x5, x6, x7, x17⟩ := h.cells
  obtain ⟨x8, x9, x10, x11, x12, x13, x14, x15, x16⟩ := h.cells2
  have lb := heap_lt h.h
  have nb : w.heap.size ≠ b := by omega
  have nb' : b ≠ w.heap.size := by omega
  have H := Lib.hid h
  clear h
  go_enter Try.func60, Try.ntmps60
  go_wp2
  refine wp_scope_jump1 0 rfl ?_
  intro K HK
  go_wp2
  go_step3
  refine And.intro rfl (HK.out _ _ ?_)
  clear HK
  go_wp2_with (go_at_call 120; refine (lock_count (H.out.keep (show Upd [] w _ from by first | exact (Upd.refl _ _).alloc _ | exact ((Upd.refl _ _).alloc _).drew) (by simp))).mono ?_; rintro e w1 ⟨rfl, hu1⟩; have HU1 := Lib.hid (show Upd [] w w1 from by first | exact ((Upd.refl _ _).alloc _).trans hu1 | exact (((Upd.refl _ _).alloc _).drew).trans hu1); have hz : w1.heap[w.heap.size]? = some (.cells #[.int .i64 0, .int .i64 0, .int .u32 0] 80 (0, 0)) := hu1.keepb (by first | exact heap_alloc_new _ _ | exact heap_drew' (heap_alloc_new _ _)) (by simp); obtain ⟨z0, z1, z2⟩ := cells3 hz; have zf := fun j => frozen_of_heap hz j; have HZ := Lib.hid hz; obtain ⟨y0, y1, y2, y3, y4, y5, y6, y7, y17⟩ := (H.out.keep HU1.out (by simp)).cells; clear hu1 hz)
  all_goals
    go_wp2
    rw [Exit.noGoto_ret]
    refine ret_act rfl (g := w.heap.size) (t := 80) (fr := (0, 0)) (x := .int .i64 1) (y := .int .i64 0) (z := .int .u32 0) rfl rfl rfl (hg := ?hg) ?_
    case hg =>
      repeat (first | (with_reducible exact HZ.out) | (with_reducible apply heap_set2) | (with_reducible apply heap_drew'))
      all_goals rfl
    refine ⟨rfl, ?_⟩
    repeat (first | (with_reducible refine Upd.setCell ?_ (by simp) _) | (with_reducible refine Upd.drew ?_))
    exact HU1.out

set_option maxRecDepth 100000 in
set_option maxHeartbeats 1000000 in
theorem lw_act1 {w : World} {b : Nat} {seq v0 f r0 : Int} (h : LW w b 127 [] 1 seq v0 f r0 true true) :
    Calls Try.prog 60 #[.pointer (some ⟨b, 0, none⟩)] w fun e w' => e = .returned (.tuple #[.agg #[.int .i64 2, .int .i64 0, .int .u32 (IntKind.u32.wrap (seq + 1))], .bool true]) ∧ Upd [] w w' := by
  obtain ⟨x0, x1, x2, x3, x4, x5, x6, x7, x17⟩ := h.cells
  obtain ⟨x8, x9, x10, x11, x12, x13, x14, x15, x16⟩ := h.cells2
  have lb := heap_lt h.h
  have nb : w.heap.size ≠ b := by omega
  have nb' : b ≠ w.heap.size := by omega
  have H := Lib.hid h
  clear h
  go_enter Try.func60, Try.ntmps60
  go_wp2
  refine wp_scope_jump1 1 rfl ?_
  intro K HK
  go_wp2
  go_step3
  refine And.intro rfl (HK.out _ _ ?_)
  clear HK
  go_wp2
  go_region_with (go_at_call 120; refine (lock_count (H.out.keep (show Upd [] w _ from by first | exact (Upd.refl _ _).alloc _ | exact ((Upd.refl _ _).alloc _).drew) (by simp))).mono ?_; rintro e w1 ⟨rfl, hu1⟩; have HU1 := Lib.hid (show Upd [] w w1 from by first | exact ((Upd.refl _ _).alloc _).trans hu1 | exact (((Upd.refl _ _).alloc _).drew).trans hu1); have hz : w1.heap[w.heap.size]? = some (.cells #[.int .i64 0, .int .i64 0, .int .u32 0] 80 (0, 0)) := hu1.keepb (by first | exact heap_alloc_new _ _ | exact heap_drew' (heap_alloc_new _ _)) (by simp); obtain ⟨z0, z1, z2⟩ := cells3 hz; have zf := fun j => frozen_of_heap hz j; have HZ := Lib.hid hz; obtain ⟨y0, y1, y2, y3, y4, y5, y6, y7, y17⟩ := (H.out.keep HU1.out (by simp)).cells; clear hu1 hz)
  all_goals
    go_wp2
    rw [Exit.noGoto_ret]
    refine ret_act rfl (g := w.heap.size) (t := 80) (fr := (0, 0)) (x := .int .i64 2) (y := .int .i64 0) (z := .int .u32 (IntKind.u32.wrap (seq + 1))) rfl rfl rfl (hg := ?hg) ?_
    case hg =>
      repeat (first | (with_reducible exact HZ.out) | (with_reducible apply heap_set2) | (with_reducible apply heap_drew'))
      all_goals rfl
    refine ⟨rfl, ?_⟩
    repeat (first | (with_reducible refine Upd.setCell ?_ (by simp) _) | (with_reducible refine Upd.drew ?_))
    exact HU1.out

set_option maxRecDepth 100000 in
set_option maxHeartbeats 1000000 in
theorem lw_act2 {w : World} {b : Nat} {seq v0 f r0 : Int} (h : LW w b 127 [] 2 seq v0 f r0 true true) :
    Calls Try.prog 60 #[.pointer (some ⟨b, 0, none⟩)] w fun e w' => e = .returned (.tuple #[.agg #[.int .i64 2, .int .i64 1, .int .u32 v0], .bool true]) ∧ Upd [] w w' := by
  obtain ⟨x0, x1, x2, x3, x4, x5, x6, x7, x17⟩ := h.cells
  obtain ⟨x8, x9, x10, x11, x12, x13, x14, x15, x16⟩ := h.cells2
  have lb := heap_lt h.h
  have nb : w.heap.size ≠ b := by omega
  have nb' : b ≠ w.heap.size := by omega
  have H := Lib.hid h
  clear h
  go_enter Try.func60, Try.ntmps60
  go_wp2
  refine wp_scope_jump1 2 rfl ?_
  intro K HK
  go_wp2
  go_step3
  refine And.intro rfl (HK.out _ _ ?_)
  clear HK
  go_wp2
  go_region_with (go_at_call 121; refine (lock_data (H.out.keep (show Upd [] w _ from by first | exact (Upd.refl _ _).alloc _ | exact ((Upd.refl _ _).alloc _).drew) (by simp))).mono ?_; rintro e w1 ⟨rfl, hu1⟩; have HU1 := Lib.hid (show Upd [] w w1 from by first | exact ((Upd.refl _ _).alloc _).trans hu1 | exact (((Upd.refl _ _).alloc _).drew).trans hu1); have hz : w1.heap[w.heap.size]? = some (.cells #[.int .i64 0, .int .i64 0, .int .u32 0] 80 (0, 0)) := hu1.keepb (by first | exact heap_alloc_new _ _ | exact heap_drew' (heap_alloc_new _ _)) (by simp); obtain ⟨z0, z1, z2⟩ := cells3 hz; have zf := fun j => frozen_of_heap hz j; have HZ := Lib.hid hz; obtain ⟨y0, y1, y2, y3, y4, y5, y6, y7, y17⟩ := (H.out.keep HU1.out (by simp)).cells; clear hu1 hz)
  all_goals
    go_wp2
    rw [Exit.noGoto_ret]
    refine ret_act rfl (g := w.heap.size) (t := 80) (fr := (0, 0)) (x := .int .i64 2) (y := .int .i64 1) (z := .int .u32 v0) rfl rfl rfl (hg := ?hg) ?_
    case hg =>
      repeat (first | (with_reducible exact HZ.out) | (with_reducible apply heap_set2) | (with_reducible apply heap_drew'))
      all_goals rfl
    refine ⟨rfl, ?_⟩
    repeat (first | (with_reducible refine Upd.setCell ?_ (by simp) _) | (with_reducible refine Upd.drew ?_))
    exact HU1.out

set_option maxRecDepth 100000 in
set_option maxHeartbeats 1000000 in
theorem lw_act3 {w : World} {b : Nat} {seq v0 f r0 : Int} (h : LW w b 127 [] 3 seq v0 f r0 true true) :
    Calls Try.prog 60 #[.pointer (some ⟨b, 0, none⟩)] w fun e w' => e = .returned (.tuple #[.agg #[.int .i64 2, .int .i64 0, .int .u32 (IntKind.u32.wrap (seq + 2))], .bool true]) ∧ Upd [] w w' := by
  obtain ⟨x0, x1, x2, x3, x4, x5, x6, x7, x17⟩ := h.cells
  obtain ⟨x8, x9, x10, x11, x12, x13, x14, x15, x16⟩ := h.cells2
  have lb := heap_lt h.h
  have nb : w.heap.size ≠ b := by omega
  have nb' : b ≠ w.heap.size := by omega
  have H := Lib.hid h
  clear h
  go_enter Try.func60, Try.ntmps60
  go_wp2
  go_step3
  go_wp2
  go_wp2
  go_region_with (go_at_call 120; refine (lock_count (H.out.keep (show Upd [] w _ from by first | exact (Upd.refl _ _).alloc _ | exact ((Upd.refl _ _).alloc _).drew) (by simp))).mono ?_; rintro e w1 ⟨rfl, hu1⟩; have HU1 := Lib.hid (show Upd [] w w1 from by first | exact ((Upd.refl _ _).alloc _).trans hu1 | exact (((Upd.refl _ _).alloc _).drew).trans hu1); have hz : w1.heap[w.heap.size]? = some (.cells #[.int .i64 0, .int .i64 0, .int .u32 0] 80 (0, 0)) := hu1.keepb (by first | exact heap_alloc_new _ _ | exact heap_drew' (heap_alloc_new _ _)) (by simp); obtain ⟨z0, z1, z2⟩ := cells3 hz; have zf := fun j => frozen_of_heap hz j; have HZ := Lib.hid hz; obtain ⟨y0, y1, y2, y3, y4, y5, y6, y7, y17⟩ := (H.out.keep HU1.out (by simp)).cells; clear hu1 hz)
  all_goals
    go_wp2
    rw [Exit.noGoto_ret]
    refine ret_act rfl (g := w.heap.size) (t := 80) (fr := (0, 0)) (x := .int .i64 2) (y := .int .i64 0) (z := .int .u32 (IntKind.u32.wrap (seq + 2))) rfl rfl rfl (hg := ?hg) ?_
    case hg =>
      repeat (first | (with_reducible exact HZ.out) | (with_reducible apply heap_set2) | (with_reducible apply heap_drew'))
      all_goals rfl
    refine ⟨rfl, ?_⟩
    repeat (first | (with_reducible refine Upd.setCell ?_ (by simp) _) | (with_reducible refine Upd.drew ?_))
    exact HU1.out

end Go.Proofs.Ytbjeojcnofpgfaa
