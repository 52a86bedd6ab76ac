/- Package walk: the chapter's example. -/
import Derived.Test.YtkjonflmokapcaaWK6
import Derived.Deep.RegionWith
set_option linter.unusedVariables false
set_option linter.unusedSimpArgs false
namespace Go.Proofs.Ytkjonflmokapcaa
open Go.RowKit

/-- An event's cells: whose, of which kind; nothing else. -/
def evC (ctx kind : Int) : List Value := [.int .i64 0, .int .i64 ctx, .int .i64 kind, .int .i64 0, .int .i64 0, .int .u32 0, .int .u32 0, .int .u32 0, .int .u32 0, .int .u32 0, .int .i64 0, .int .i64 0, .int .u32 0, .int .u32 0, .int .i64 0, .int .u32 0, .int .u32 0, .int .u32 0, .int .u32 0, .int .i64 0, .int .i64 0, .int .i64 0, .int .u32 0]
set_option maxRecDepth 100000 in
set_option maxHeartbeats 1000000 in
theorem ahead_any (n : Int) (w : World) : Calls Try.prog 105 #[.int .i64 n] w fun e w' => e = .returned (.agg #[.int .i64 n, .int .i64 0, .int .i64 0]) ∧ Upd [] w w' := by
  go_enter Try.func105, Try.ntmps105
  go_wp2_with fail
  refine ret_walk1 rfl (g := w.heap.size) (x := .int .i64 n) (y := .int .i64 0) (z := .int .i64 0) (t := 28) (fr := (0, 0)) rfl rfl (heap_alloc_at _ rfl) ?_
  · exact ⟨rfl, by first | exact (Upd.refl _ _).alloc _ | exact Upd.then (S := []) ((Upd.refl _ _).alloc _) ((((Upd.refl [w.heap.size] _).setCell (by simp) _).setCell (by simp) _).setCell (by simp) _) (fun i hi => .inr (by simp at hi; omega))⟩
set_option maxRecDepth 100000 in
set_option maxHeartbeats 1000000 in
theorem event_enters (w : World) : Calls Try.prog 92 #[.agg (evC (-1) 4).toArray] w fun e w' => e = .returned (.agg #[.int .i64 0, .int .i64 0, .int .i64 1]) ∧ Upd [] w w' := by
  unfold evC
  go_enter Try.func92, Try.ntmps92
  go_wp2_with fail
  refine ret_walk1 rfl (g := w.heap.size + 1) (x := .int .i64 0) (y := .int .i64 0) (z := .int .i64 1) (t := 28) (fr := (0, 0)) rfl rfl (heap_alloc_at _ (by simp)) ?_
  exact ⟨rfl, ((Upd.refl _ _).alloc _).alloc _⟩
set_option maxRecDepth 100000 in
set_option maxHeartbeats 1000000 in
theorem event_leaves (w : World) : Calls Try.prog 92 #[.agg (evC (-1) 5).toArray] w fun e w' => e = .returned (.agg #[.int .i64 0, .int .i64 0, .int .i64 3]) ∧ Upd [] w w' := by
  unfold evC
  go_enter Try.func92, Try.ntmps92
  go_wp2_with fail
  refine ret_walk1 rfl (g := w.heap.size + 1) (x := .int .i64 0) (y := .int .i64 0) (z := .int .i64 3) (t := 28) (fr := (0, 0)) rfl rfl (heap_alloc_at _ (by simp)) ?_
  exact ⟨rfl, ((Upd.refl _ _).alloc _).alloc _⟩
set_option maxRecDepth 100000 in
set_option maxHeartbeats 1000000 in
theorem event_does (w : World) : Calls Try.prog 92 #[.agg (evC (-1) 2).toArray] w fun e w' => e = .returned (.agg #[.int .i64 1, .int .i64 0, .int .i64 0]) ∧ Upd [] w w' := by
  unfold evC
  have HB := Lib.hid (show ∀ w0, w0 = (w.alloc (.cells #[.int .i64 0, .int .i64 (-1), .int .i64 2, .int .i64 0, .int .i64 0, .int .u32 0, .int .u32 0, .int .u32 0, .int .u32 0, .int .u32 0, .int .i64 0, .int .i64 0, .int .u32 0, .int .u32 0, .int .i64 0, .int .u32 0, .int .u32 0, .int .u32 0, .int .u32 0, .int .i64 0, .int .i64 0, .int .i64 0, .int .u32 0] 132)).alloc (.cells #[.int .i64 0, .int .i64 0, .int .i64 0] 28) → w0.heap[w.heap.size + 1]? = some (.cells [.int .i64 0, .int .i64 0, .int .i64 0].toArray 28) ∧ Upd [] w w0 from fun w0 e => by
    subst e
    exact ⟨heap_alloc_at _ (by simp), ((Upd.refl _ _).alloc _).alloc _⟩)
  go_enter Try.func92, Try.ntmps92
  go_wp2_with fail
  generalize hW : World.alloc _ _ = w0
  obtain ⟨hb, hu⟩ := HB.out w0 hW.symm
  have HB0 := Lib.hid hb
  have HU0 := Lib.hid hu
  clear hW hb hu HB
  refine (ahead_any 1 _).mono ?_
  rintro e w1 ⟨rfl, hu1⟩
  have hb1 := hu1.keepb HB0.out (by simp)
  obtain ⟨c0, c1, c2⟩ := cells3 hb1
  have zf := fun i => frozen_of_heap hb1 i
  have l1 := heap_lt hb1
  have HB1 := Lib.hid hb1
  have HU1 := Lib.hid (HU0.out.trans hu1)
  clear hb1 hu1
  go_wp2_with fail
  refine ret_walk1 rfl (g := w.heap.size + 1) (x := .int .i64 1) (y := .int .i64 0) (z := .int .i64 0) (t := 28) (fr := (0, 0)) rfl rfl (hg := ?hg) ?_
  case hg =>
    repeat (first | (with_reducible exact HB1.out) | (with_reducible apply heap_set2))
    all_goals rfl
  · exact ⟨rfl, Upd.then (S := []) HU1.out ((((Upd.refl [w.heap.size + 1] _).setCell (by simp) _).setCell (by simp) _).setCell (by simp) _) (fun i hi => .inr (by simp at hi; omega))⟩
end Go.Proofs.Ytkjonflmokapcaa
