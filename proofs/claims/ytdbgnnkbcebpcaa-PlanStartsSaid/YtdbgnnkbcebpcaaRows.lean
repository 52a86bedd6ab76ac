/-
  No cell of these rows narrows 'for every input' (looked for: loops, veiled, ifaces, maps, wideKeys, modest, calm, conditions, laid).
  DERIVED. THE GIVEN ROWS OF THIS SEAT. 4 by the template 'for every input the law returns true; each argument reads behind the call as it read before'; 0 by the template 'total and deterministic' (their statements: YtdbgnnkbcebpcaaTotals.lean).
  GIVEN WITH THE SEED: the statements are not yours to turn. If you find one false, say at which input.
  Laid BY PROGRAM, IN A SANDBOX (cutbox-rows.mjs): the forced cells as the released guide's own fill.sh prints them over the translation c4baae65224948e1… (all of the seat's roots in one cut). By AI agents, Wed Nov 11 2026. No macro, syntax, notation, axiom, sorry.
-/
import Derived.Test.YtdbgnnkbcebpcaaChecked
import GoSem.Claim
import GoSem.ClaimJoined
import GoSem.ClaimMapViews
import Derived.JoinedTies
import Derived.KernelRfl
namespace Go.Proofs.Ytdbgnnkbcebpcaa
/- THE CELL 'sum', in the pinned program and in every row, IS THE sha256 OF THE DUMP (.gsa) THAT YtdbgnnkbcebpcaaProg.lean LOADS. Nothing in Lean hashes anything: it is a label: what it is worth is what the hold of that sum in a sandbox is worth. -/
noncomputable def Try.pinned : Pinned := { name := "ytdbgnnkbcebpcaa", sum := "c4baae65224948e17f71c4d5c1f775d0a3cac2649420036509c72fc75b6d1032", checked := Try.checked }
namespace Rows
def none {H : Type} : Left H := { results := [], args := [] }

/-- 'bellropelaw19.SpecAllows': WHATEVER THE INPUT: true; the input reads as it did. -/
def specAllowsSpec : ChangeSpec := { name := "specAllows", fn := fun _ => fun
  | [d1, d2, d3, d4] => { results := [.lit (.bool true)], args := [d1, d2, d3, d4] }
  | _ => none }
def specAllowsRow : OpenClaim := { program := "ytdbgnnkbcebpcaa", sum := "c4baae65224948e17f71c4d5c1f775d0a3cac2649420036509c72fc75b6d1032", func := "bellrope/bellropelaw19.SpecAllows", spec := "specAllows", unfollowed := true, recurses := true, apart := false }
def SpecAllowsSaid : Prop := specAllowsRow.holds Try.pinned (OpenSpec.ofChange specAllowsSpec)

/-- ITS FALSE NEIGHBOUR: 'it returns false'. Refute it at one input. -/
def specAllowsWrong : ChangeSpec := { name := "specAllows", fn := fun _ => fun
  | [d1, d2, d3, d4] => { results := [.lit (.bool false)], args := [d1, d2, d3, d4] }
  | _ => none }
def SpecAllowsWrongFalsely : Prop := specAllowsRow.holds Try.pinned (OpenSpec.ofChange specAllowsWrong)

/-- 'bellropelaw25.QueuePlays': WHATEVER THE INPUT: true; the input reads as it did. -/
def queuePlaysSpec : ChangeSpec := { name := "queuePlays", fn := fun _ => fun
  | [d1, d2, d3] => { results := [.lit (.bool true)], args := [d1, d2, d3] }
  | _ => none }
def queuePlaysRow : OpenClaim := { program := "ytdbgnnkbcebpcaa", sum := "c4baae65224948e17f71c4d5c1f775d0a3cac2649420036509c72fc75b6d1032", func := "bellrope/bellropelaw25.QueuePlays", spec := "queuePlays", unfollowed := true, recurses := true, apart := false }
def QueuePlaysSaid : Prop := queuePlaysRow.holds Try.pinned (OpenSpec.ofChange queuePlaysSpec)

/-- ITS FALSE NEIGHBOUR: 'it returns false'. Refute it at one input. -/
def queuePlaysWrong : ChangeSpec := { name := "queuePlays", fn := fun _ => fun
  | [d1, d2, d3] => { results := [.lit (.bool false)], args := [d1, d2, d3] }
  | _ => none }
def QueuePlaysWrongFalsely : Prop := queuePlaysRow.holds Try.pinned (OpenSpec.ofChange queuePlaysWrong)

/-- 'bellropelaw20.CertSteps': WHATEVER THE INPUT: true; the input reads as it did. -/
def certStepsSpec : ChangeSpec := { name := "certSteps", fn := fun _ => fun
  | [d1, d2, d3] => { results := [.lit (.bool true)], args := [d1, d2, d3] }
  | _ => none }
def certStepsRow : OpenClaim := { program := "ytdbgnnkbcebpcaa", sum := "c4baae65224948e17f71c4d5c1f775d0a3cac2649420036509c72fc75b6d1032", func := "bellrope/bellropelaw20.CertSteps", spec := "certSteps", unfollowed := true, recurses := true, apart := false }
def CertStepsSaid : Prop := certStepsRow.holds Try.pinned (OpenSpec.ofChange certStepsSpec)

/-- ITS FALSE NEIGHBOUR: 'it returns false'. Refute it at one input. -/
def certStepsWrong : ChangeSpec := { name := "certSteps", fn := fun _ => fun
  | [d1, d2, d3] => { results := [.lit (.bool false)], args := [d1, d2, d3] }
  | _ => none }
def CertStepsWrongFalsely : Prop := certStepsRow.holds Try.pinned (OpenSpec.ofChange certStepsWrong)

/-- 'bellropelaw30.PlanStarts': WHATEVER THE INPUT: true; the input reads as it did. -/
def planStartsSpec : ChangeSpec := { name := "planStarts", fn := fun _ => fun
  | [d] => { results := [.lit (.bool true)], args := [d] }
  | _ => none }
def planStartsRow : OpenClaim := { program := "ytdbgnnkbcebpcaa", sum := "c4baae65224948e17f71c4d5c1f775d0a3cac2649420036509c72fc75b6d1032", func := "bellrope/bellropelaw30.PlanStarts", spec := "planStarts", unfollowed := true, recurses := true, apart := false }
def PlanStartsSaid : Prop := planStartsRow.holds Try.pinned (OpenSpec.ofChange planStartsSpec)

/-- ITS FALSE NEIGHBOUR: 'it returns false'. Refute it at one input. -/
def planStartsWrong : ChangeSpec := { name := "planStarts", fn := fun _ => fun
  | [d] => { results := [.lit (.bool false)], args := [d] }
  | _ => none }
def PlanStartsWrongFalsely : Prop := planStartsRow.holds Try.pinned (OpenSpec.ofChange planStartsWrong)

/- THE SECOND FORM. 'bulk': how many values and letters a reading holds, each counted each time it is reached (what is shared counts as often as it is met; a slice's spare places count too). A statement '..UptoSaid' is the law's where the arguments, and the package variables that the reading takes, are together of bulk at most 1048576: NARROWER than '..Said'. Prove '..Said' where nothing that the law and all that it calls make is longer than what came in: it says more and counts as full. Else prove '..UptoSaid'. A law counts once. -/
mutual
def uptoBulk {H : Type} : DataW H → Nat
  | .lit (.string bytes) => bytes.length + 1
  | .lit _ => 1
  | .nil => 1
  | .ptr d => uptoBulk d + 1
  | .slice elems spare => uptoBulkAll elems + uptoBulkAll spare + 1
  | .agg parts => uptoBulkAll parts + 1
  | .iface _ d => uptoBulk d + 1
  | .map entries => uptoBulkEntries entries + 1
  | .held _ => 1
def uptoBulkAll {H : Type} : List (DataW H) → Nat
  | [] => 0
  | d :: r => uptoBulk d + uptoBulkAll r
def uptoBulkEntries {H : Type} : List (Lit × DataW H) → Nat
  | [] => 0
  | x :: r => uptoBulkEntry x + uptoBulkEntries r
def uptoBulkEntry {H : Type} : Lit × DataW H → Nat
  | (.string bytes, d) => bytes.length + uptoBulk d + 1
  | (_, d) => uptoBulk d + 1
 end
def uptoSmall : (H : Type) → List (DataW H) → Bool := fun _ ds => decide (uptoBulkAll ds ≤ 1048576)
def OpenSpec.upto (s : _root_.Go.ChangeSpec) : _root_.Go.OpenSpec := { _root_.Go.OpenSpec.ofChange s with cond := some uptoSmall }

/-- 'bellropelaw19.SpecAllows', WHERE WHAT IT READS IS OF BULK AT MOST 1048576: true; the input reads as it did. -/
def specAllowsUptoRow : OpenClaim := { program := "ytdbgnnkbcebpcaa", sum := "c4baae65224948e17f71c4d5c1f775d0a3cac2649420036509c72fc75b6d1032", func := "bellrope/bellropelaw19.SpecAllows", spec := "specAllows", unfollowed := true, recurses := true, apart := false, narrowed := true }
def SpecAllowsUptoSaid : Prop := specAllowsUptoRow.holds Try.pinned (OpenSpec.upto specAllowsSpec)

/-- 'bellropelaw25.QueuePlays', WHERE WHAT IT READS IS OF BULK AT MOST 1048576: true; the input reads as it did. -/
def queuePlaysUptoRow : OpenClaim := { program := "ytdbgnnkbcebpcaa", sum := "c4baae65224948e17f71c4d5c1f775d0a3cac2649420036509c72fc75b6d1032", func := "bellrope/bellropelaw25.QueuePlays", spec := "queuePlays", unfollowed := true, recurses := true, apart := false, narrowed := true }
def QueuePlaysUptoSaid : Prop := queuePlaysUptoRow.holds Try.pinned (OpenSpec.upto queuePlaysSpec)

/-- 'bellropelaw20.CertSteps', WHERE WHAT IT READS IS OF BULK AT MOST 1048576: true; the input reads as it did. -/
def certStepsUptoRow : OpenClaim := { program := "ytdbgnnkbcebpcaa", sum := "c4baae65224948e17f71c4d5c1f775d0a3cac2649420036509c72fc75b6d1032", func := "bellrope/bellropelaw20.CertSteps", spec := "certSteps", unfollowed := true, recurses := true, apart := false, narrowed := true }
def CertStepsUptoSaid : Prop := certStepsUptoRow.holds Try.pinned (OpenSpec.upto certStepsSpec)

/-- 'bellropelaw30.PlanStarts', WHERE WHAT IT READS IS OF BULK AT MOST 1048576: true; the input reads as it did. -/
def planStartsUptoRow : OpenClaim := { program := "ytdbgnnkbcebpcaa", sum := "c4baae65224948e17f71c4d5c1f775d0a3cac2649420036509c72fc75b6d1032", func := "bellrope/bellropelaw30.PlanStarts", spec := "planStarts", unfollowed := true, recurses := true, apart := false, narrowed := true }
def PlanStartsUptoSaid : Prop := planStartsUptoRow.holds Try.pinned (OpenSpec.upto planStartsSpec)

end Rows
end Go.Proofs.Ytdbgnnkbcebpcaa
