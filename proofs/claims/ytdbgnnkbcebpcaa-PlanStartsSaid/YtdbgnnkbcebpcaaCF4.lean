/- Package conf: which contexts there are, and whose an object's ends are. -/
import Derived.Test.YtdbgnnkbcebpcaaCF3
import Derived.Test.YtdbgnnkbcebpcaaShape
set_option linter.unusedVariables false
set_option linter.unusedSimpArgs false
namespace Go.Proofs.Ytdbgnnkbcebpcaa
open Go.RowKit

/-- A configuration's cells. -/
def cfA (ta : Option Addr) (tn tc : Nat) (la : Option Addr) (ln lc : Nat) (oa : Option Addr) (on oc : Nat) (tk : Int) : Array Value := #[.slice ta tn tc, .slice la ln lc, .slice oa on oc, .int .i64 tk]
def hasB (tn ln : Nat) (ctx : Int) : Bool := decide (-(ln : Int) ≤ ctx) && decide (ctx ≤ (tn : Int) - 1)
section
variable (ta la oa : Option Addr) (tn tc ln lc on oc : Nat) (tk : Int) (w : World)
set_option maxRecDepth 100000 in
theorem has_c (ctx : Int) (h1 : tn ≤ 1000) (h2 : ln ≤ 1000) : Calls Try.prog 96 #[.agg (cfA ta tn tc la ln lc oa on oc tk), .int .i64 ctx] w fun e w' => e = .returned (.bool (hasB tn ln ctx)) ∧ Upd [] w w' := by
  have HW := Lib.hid fun w => cwithin ctx (-(ln : Int)) ((tn : Int) - 1) w
  unfold cfA hasB
  go_enter Try.func96, Try.ntmps96
  go_wp2_with fail
  refine (HW.out _).mono ?_
  rintro e w1 ⟨rfl, rfl⟩
  go_wp2
  go_ret
  exact ⟨rfl, (Upd.refl _ _).alloc _⟩
end
end Go.Proofs.Ytdbgnnkbcebpcaa
