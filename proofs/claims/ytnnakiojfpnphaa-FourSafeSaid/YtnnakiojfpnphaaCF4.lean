/- Package conf: which contexts there are, and whose an object's ends are. -/
import Derived.Test.YtnnakiojfpnphaaCF3
import Derived.Test.YtnnakiojfpnphaaShape
set_option linter.unusedVariables false
set_option linter.unusedSimpArgs false
namespace Go.Proofs.Ytnnakiojfpnphaa
open Go.RowKit

/-- A configuration's cells. -/
def cfA (ta : Option Addr) (tn tc : Nat) (la : Option Addr) (ln lc : Nat) (oa : Option Addr) (on oc : Nat) (tk : Int) : Array Value := #[.slice ta tn tc, .slice la ln lc, .slice oa on oc, .int .i64 tk]
def hasB (tn ln : Nat) (ctx : Int) : Bool := decide (-(ln : Int) ≤ ctx) && decide (ctx ≤ (tn : Int) - 1)
section
variable (ta la oa : Option Addr) (tn tc ln lc on oc : Nat) (tk : Int) (w : World)
end
end Go.Proofs.Ytnnakiojfpnphaa
