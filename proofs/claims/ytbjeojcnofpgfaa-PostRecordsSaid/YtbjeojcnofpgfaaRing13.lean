/- Package ring: routines made. -/
import Derived.Test.YtbjeojcnofpgfaaRing3
set_option linter.unusedVariables false
set_option linter.unusedSimpArgs false
namespace Go.Proofs.Ytbjeojcnofpgfaa
open Go.RowKit

set_option maxRecDepth 100000 in
set_option maxHeartbeats 2000000 in
theorem pop_new (cap wd : Int) (h : Cap5 cap) (h1 : 1 ≤ wd) (h4 : wd ≤ 4) (W : World) : Calls Try.prog 40 #[.agg #[.int .i64 1, .int .i64 0, .int .i64 cap, .int .i64 wd, .int .i64 0]] W fun e w' => ∃ b, e = .returned (.pointer (some ⟨b, 0, none⟩)) ∧ W.heap.size ≤ b ∧ RG cap wd w' b 107 ring0 ∧ Upd [] W w' := by
  have HB := Lib.hid fun w => ring_begun cap wd h h1 h4 w
  unfold ringC ring0 at HB
  clear h h1 h4
  go_enter Try.func40, Try.ntmps40
  go_wp2_with (go_at_call 98; refine (HB.out _).mono ?_; rintro e w1 ⟨rfl, hu1⟩; have HU1 := Lib.hid (((Upd.refl [] W).alloc _).trans hu1); clear hu1)
  go_ret
  have hsz := HU1.out.size
  exact ⟨_, rfl, hsz, ⟨heap_alloc_new _ _⟩, HU1.out.alloc _⟩

set_option maxRecDepth 100000 in
set_option maxHeartbeats 2000000 in
theorem push_new (cap wd x0 x1 x2 x3 : Int) (h : Cap5 cap) (h1 : 1 ≤ wd) (h4 : wd ≤ 4) (W : World) : Calls Try.prog 41 #[.agg #[.int .i64 1, .int .i64 0, .int .i64 cap, .int .i64 wd, .int .i64 0], .agg #[.int .u32 x0, .int .u32 x1, .int .u32 x2, .int .u32 x3]] W fun e w' => ∃ b, e = .returned (.pointer (some ⟨b, 0, none⟩)) ∧ W.heap.size ≤ b ∧ RG cap wd w' b 106 { ring0 with v0 := x0, v1 := x1, v2 := x2, v3 := x3 } ∧ Upd [] W w' := by
  have HB := Lib.hid fun w => ring_begun cap wd h h1 h4 w
  unfold ringC ring0 at HB
  clear h h1 h4
  go_enter Try.func41, Try.ntmps41
  go_wp2_with (go_at_call 98; refine (HB.out _).mono ?_; rintro e w1 ⟨rfl, hu1⟩; have HU1 := Lib.hid ((((Upd.refl [] W).alloc _).alloc _).trans hu1); have hx := hu1.keepb (heap_alloc_at (w := W.alloc _) (g := W.heap.size + 1) _ (by simp)) (by simp); have z0 := cell_of_heap hx 0; have z1 := cell_of_heap hx 1; have z2 := cell_of_heap hx 2; have z3 := cell_of_heap hx 3; simp at z0 z1 z2 z3; have lx := heap_lt hx; clear hx hu1)
  go_ret
  have hsz := HU1.out.size
  refine ⟨_, rfl, hsz, ⟨?hg⟩, ?_⟩
  case hg =>
    exact heap_alloc_new _ _
  repeat (first | (with_reducible refine Upd.setCell ?_ (by simp; omega) _) | (with_reducible refine Upd.alloc ?_ _))
  exact HU1.out
end Go.Proofs.Ytbjeojcnofpgfaa
