/- Package queue: two waits compared. -/
import Derived.Test.YtdbgnnkbcebpcaaEqs
import Derived.Test.YtdbgnnkbcebpcaaQ1
import Derived.Test.YtdbgnnkbcebpcaaProg
set_option linter.unusedVariables false
set_option linter.unusedSimpArgs false
namespace Go.Proofs.Ytdbgnnkbcebpcaa
open Go.RowKit

def qeq (a b : QW) : Bool := a.t == b.t && (a.k == b.k && (a.o == b.o && (a.m == b.m && true)))
theorem qeq_iff {a b : QW} : qeq a b = true ↔ a = b := by
  obtain ⟨a1, a2, a3, a4⟩ := a
  obtain ⟨b1, b2, b3, b4⟩ := b
  simp [qeq]
theorem qeq_refl (a : QW) : qeq a a = true := qeq_iff.2 rfl
theorem eqF_wait (w : World) (a1 a2 a3 a4 b1 b2 b3 b4 : Int) :
    EqF Try.prog w 9999 #[.int .i64 a1, .int .i64 a2, .int .i64 a3, .int .u32 a4] #[.int .i64 b1, .int .i64 b2, .int .i64 b3, .int .u32 b4] [("Task", 3, 0), ("Kind", 3, 1), ("Obj", 3, 2), ("Mask", 24, 3)] (a1 == b1 && (a2 == b2 && (a3 == b3 && (a4 == b4 && true)))) := by
  have hi : ∀ x y : Int, (Op.equalIn 9999 3 (.int .i64 x) (.int .i64 y)).run Try.prog w = .ok (x == y) w := fun x y => run_equalIn_int w 9998 _ .i64 .i64 x y Try.underlying3
  have hu : ∀ x y : Int, (Op.equalIn 9999 24 (.int .u32 x) (.int .u32 y)).run Try.prog w = .ok (x == y) w := fun x y => run_equalIn_int w 9998 _ .u32 .u32 x y Try.underlying24
  exact .cons rfl (by kernel_rfl) (by kernel_rfl) (hi _ _) (.cons rfl (by kernel_rfl) (by kernel_rfl) (hi _ _) (.cons rfl (by kernel_rfl) (by kernel_rfl) (hi _ _) (.cons rfl (by kernel_rfl) (by kernel_rfl) (hu _ _) .nil)))
theorem neq_of_eqIn {P : Program} {w : World} {t : TypeId} {c d : Array Value} {e : Bool} (h : (Op.equalIn 10000 t (.agg c) (.agg d)).run P w = .ok e w) : (binOp .neq t (.agg c) (.agg d)).run P w = .ok (.bool (!e)) w := by
  refine (run_neq_struct w _ _ _).trans ?_
  refine (congrArg (fun r => Result.andThen r _) h).trans ?_
  rfl
theorem neq_wait (a1 a2 a3 a4 b1 b2 b3 b4 : Int) (w : World) : (binOp .neq 51 (.agg #[.int .i64 a1, .int .i64 a2, .int .i64 a3, .int .u32 a4]) (.agg #[.int .i64 b1, .int .i64 b2, .int .i64 b3, .int .u32 b4])).run Try.prog w = .ok (.bool (!(qeq ⟨a1, a2, a3, a4⟩ ⟨b1, b2, b3, b4⟩))) w :=
  neq_of_eqIn (eqIn_struct (n := 9999) (by kernel_rfl) (by kernel_rfl) (by kernel_rfl) (eqF_wait w a1 a2 a3 a4 b1 b2 b3 b4))
theorem neq_rwait (a1 a2 a3 a4 b1 b2 b3 b4 : Int) (w : World) : (binOp .neq 58 (.agg #[.int .i64 a1, .int .i64 a2, .int .i64 a3, .int .u32 a4]) (.agg #[.int .i64 b1, .int .i64 b2, .int .i64 b3, .int .u32 b4])).run Try.prog w = .ok (.bool (!(qeq ⟨a1, a2, a3, a4⟩ ⟨b1, b2, b3, b4⟩))) w :=
  neq_of_eqIn (eqIn_struct (n := 9999) (by kernel_rfl) (by kernel_rfl) (by kernel_rfl) (eqF_wait w a1 a2 a3 a4 b1 b2 b3 b4))
end Go.Proofs.Ytdbgnnkbcebpcaa
