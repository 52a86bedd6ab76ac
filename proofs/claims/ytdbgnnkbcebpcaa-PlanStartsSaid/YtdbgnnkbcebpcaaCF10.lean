/- The document's Check: whose an object's ends are. -/
import Derived.Test.YtdbgnnkbcebpcaaCF9
set_option linter.unusedVariables false
set_option linter.unusedSimpArgs false
namespace Go.Proofs.Ytdbgnnkbcebpcaa
open Go.RowKit

section
variable (ta la oa : Option Addr) (tn tc ln lc on oc : Nat) (tk : Int) (w : World)
end
end Go.Proofs.Ytdbgnnkbcebpcaa
