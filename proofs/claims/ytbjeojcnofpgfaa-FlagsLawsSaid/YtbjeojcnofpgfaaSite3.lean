/- Package site: a Flags object's cell. -/
import Derived.Test.YtbjeojcnofpgfaaSite2
set_option linter.unusedVariables false
set_option linter.unusedSimpArgs false
namespace Go.Proofs.Ytbjeojcnofpgfaa
open Go.RowKit

set_option maxRecDepth 100000 in
set_option maxHeartbeats 2000000 in
theorem cell_flags (at' : Int) (w : World) : Calls Try.prog 38 #[.agg #[.int .i64 4, .int .i64 at', .int .i64 0, .int .i64 0, .int .i64 0], .int .i64 8, .int .i64 0, .int .i64 0] w fun e w' => e = .returned (.int .i64 at') ∧ Upd [] w w' := by
  have HR := Lib.hid fun w => right_flags 0 0 0 0 0 0 w
  unfold objV at HR
  go_enter Try.func38, Try.ntmps38
  go_wp2_with (go_at_call 94; refine (HR.out _).mono ?_; rintro e w1 ⟨rfl, hu1⟩; have hp := hu1.keepb ((heap_alloc_other _ _ (by simp)).trans (heap_alloc_new w _)) (by simp); have p0 := cell_of_heap hp 0; have p1 := cell_of_heap hp 1; simp at p0 p1; clear hp)
  go_ret
  exact ⟨rfl, (((Upd.refl _ _).alloc _).alloc _).trans hu1⟩
end Go.Proofs.Ytbjeojcnofpgfaa
