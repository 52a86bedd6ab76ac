/-
  No cell of these rows narrows 'for every input' (looked for: loops, veiled, ifaces, maps, wideKeys, modest, calm, conditions, laid).
  DERIVED. THE GIVEN ROWS OF THIS SEAT. 6 by the template 'for every input the law returns true; each argument reads behind the call as it read before'; 0 by the template 'total and deterministic' (their statements: YtkjonflmokapcaaTotals.lean).
  GIVEN WITH THE SEED: the statements are not yours to turn. If you find one false, say at which input.
  Laid BY PROGRAM, IN A SANDBOX (cutbox-rows.mjs): the forced cells as the released guide's own fill.sh prints them over the translation 67643b931b535c95… (all of the seat's roots in one cut). By AI agents, Wed Nov 11 2026. No macro, syntax, notation, axiom, sorry.
-/
import Derived.Test.YtkjonflmokapcaaChecked
import GoSem.Claim
import GoSem.ClaimJoined
import GoSem.ClaimMapViews
import Derived.JoinedTies
import Derived.KernelRfl
namespace Go.Proofs.Ytkjonflmokapcaa
/- THE CELL 'sum', in the pinned program and in every row, IS THE sha256 OF THE DUMP (.gsa) THAT YtkjonflmokapcaaProg.lean LOADS. Nothing in Lean hashes anything: it is a label: what it is worth is what the hold of that sum in a sandbox is worth. -/
noncomputable def Try.pinned : Pinned := { name := "ytkjonflmokapcaa", sum := "67643b931b535c95730575809f4276866a902d1fef91949f84da8d92964876ac", checked := Try.checked }
namespace Rows
def none {H : Type} : Left H := { results := [], args := [] }

/-- 'bellropelaw41.WalkJoins': WHATEVER THE INPUT: true; the input reads as it did. -/
def walkJoinsSpec : ChangeSpec := { name := "walkJoins", fn := fun _ => fun
  | [d1, d2] => { results := [.lit (.bool true)], args := [d1, d2] }
  | _ => none }
def walkJoinsRow : OpenClaim := { program := "ytkjonflmokapcaa", sum := "67643b931b535c95730575809f4276866a902d1fef91949f84da8d92964876ac", func := "bellrope/bellropelaw41.WalkJoins", spec := "walkJoins", unfollowed := true, recurses := true, apart := false }
def WalkJoinsSaid : Prop := walkJoinsRow.holds Try.pinned (OpenSpec.ofChange walkJoinsSpec)

/-- ITS FALSE NEIGHBOUR: 'it returns false'. Refute it at one input. -/
def walkJoinsWrong : ChangeSpec := { name := "walkJoins", fn := fun _ => fun
  | [d1, d2] => { results := [.lit (.bool false)], args := [d1, d2] }
  | _ => none }
def WalkJoinsWrongFalsely : Prop := walkJoinsRow.holds Try.pinned (OpenSpec.ofChange walkJoinsWrong)

/-- 'bellropelaw25.QueuePlays': WHATEVER THE INPUT: true; the input reads as it did. -/
def queuePlaysSpec : ChangeSpec := { name := "queuePlays", fn := fun _ => fun
  | [d1, d2, d3] => { results := [.lit (.bool true)], args := [d1, d2, d3] }
  | _ => none }
def queuePlaysRow : OpenClaim := { program := "ytkjonflmokapcaa", sum := "67643b931b535c95730575809f4276866a902d1fef91949f84da8d92964876ac", func := "bellrope/bellropelaw25.QueuePlays", spec := "queuePlays", unfollowed := true, recurses := true, apart := false }
def QueuePlaysSaid : Prop := queuePlaysRow.holds Try.pinned (OpenSpec.ofChange queuePlaysSpec)

/-- ITS FALSE NEIGHBOUR: 'it returns false'. Refute it at one input. -/
def queuePlaysWrong : ChangeSpec := { name := "queuePlays", fn := fun _ => fun
  | [d1, d2, d3] => { results := [.lit (.bool false)], args := [d1, d2, d3] }
  | _ => none }
def QueuePlaysWrongFalsely : Prop := queuePlaysRow.holds Try.pinned (OpenSpec.ofChange queuePlaysWrong)

/-- 'bellropelaw29.ConfFirst': WHATEVER THE INPUT: true; the input reads as it did. -/
def confFirstSpec : ChangeSpec := { name := "confFirst", fn := fun _ => fun
  | [d1, d2] => { results := [.lit (.bool true)], args := [d1, d2] }
  | _ => none }
def confFirstRow : OpenClaim := { program := "ytkjonflmokapcaa", sum := "67643b931b535c95730575809f4276866a902d1fef91949f84da8d92964876ac", func := "bellrope/bellropelaw29.ConfFirst", spec := "confFirst", unfollowed := true, recurses := true, apart := false }
def ConfFirstSaid : Prop := confFirstRow.holds Try.pinned (OpenSpec.ofChange confFirstSpec)

/-- ITS FALSE NEIGHBOUR: 'it returns false'. Refute it at one input. -/
def confFirstWrong : ChangeSpec := { name := "confFirst", fn := fun _ => fun
  | [d1, d2] => { results := [.lit (.bool false)], args := [d1, d2] }
  | _ => none }
def ConfFirstWrongFalsely : Prop := confFirstRow.holds Try.pinned (OpenSpec.ofChange confFirstWrong)

/-- 'bellropelaw29.ConfChecks': WHATEVER THE INPUT: true; the input reads as it did. -/
def confChecksSpec : ChangeSpec := { name := "confChecks", fn := fun _ => fun
  | [d1, d2] => { results := [.lit (.bool true)], args := [d1, d2] }
  | _ => none }
def confChecksRow : OpenClaim := { program := "ytkjonflmokapcaa", sum := "67643b931b535c95730575809f4276866a902d1fef91949f84da8d92964876ac", func := "bellrope/bellropelaw29.ConfChecks", spec := "confChecks", unfollowed := true, recurses := true, apart := false }
def ConfChecksSaid : Prop := confChecksRow.holds Try.pinned (OpenSpec.ofChange confChecksSpec)

/-- ITS FALSE NEIGHBOUR: 'it returns false'. Refute it at one input. -/
def confChecksWrong : ChangeSpec := { name := "confChecks", fn := fun _ => fun
  | [d1, d2] => { results := [.lit (.bool false)], args := [d1, d2] }
  | _ => none }
def ConfChecksWrongFalsely : Prop := confChecksRow.holds Try.pinned (OpenSpec.ofChange confChecksWrong)

/-- 'bellropelaw19.SpecAllows': WHATEVER THE INPUT: true; the input reads as it did. -/
def specAllowsSpec : ChangeSpec := { name := "specAllows", fn := fun _ => fun
  | [d1, d2, d3, d4] => { results := [.lit (.bool true)], args := [d1, d2, d3, d4] }
  | _ => none }
def specAllowsRow : OpenClaim := { program := "ytkjonflmokapcaa", sum := "67643b931b535c95730575809f4276866a902d1fef91949f84da8d92964876ac", func := "bellrope/bellropelaw19.SpecAllows", spec := "specAllows", unfollowed := true, recurses := true, apart := false }
def SpecAllowsSaid : Prop := specAllowsRow.holds Try.pinned (OpenSpec.ofChange specAllowsSpec)

/-- ITS FALSE NEIGHBOUR: 'it returns false'. Refute it at one input. -/
def specAllowsWrong : ChangeSpec := { name := "specAllows", fn := fun _ => fun
  | [d1, d2, d3, d4] => { results := [.lit (.bool false)], args := [d1, d2, d3, d4] }
  | _ => none }
def SpecAllowsWrongFalsely : Prop := specAllowsRow.holds Try.pinned (OpenSpec.ofChange specAllowsWrong)

/-- 'bellropelaw31.RuleFaults': WHATEVER THE INPUT: true; the input reads as it did. -/
def ruleFaultsSpec : ChangeSpec := { name := "ruleFaults", fn := fun _ => fun
  | [d1, d2, d3] => { results := [.lit (.bool true)], args := [d1, d2, d3] }
  | _ => none }
def ruleFaultsRow : OpenClaim := { program := "ytkjonflmokapcaa", sum := "67643b931b535c95730575809f4276866a902d1fef91949f84da8d92964876ac", func := "bellrope/bellropelaw31.RuleFaults", spec := "ruleFaults", unfollowed := true, recurses := true, apart := false }
def RuleFaultsSaid : Prop := ruleFaultsRow.holds Try.pinned (OpenSpec.ofChange ruleFaultsSpec)

/-- ITS FALSE NEIGHBOUR: 'it returns false'. Refute it at one input. -/
def ruleFaultsWrong : ChangeSpec := { name := "ruleFaults", fn := fun _ => fun
  | [d1, d2, d3] => { results := [.lit (.bool false)], args := [d1, d2, d3] }
  | _ => none }
def RuleFaultsWrongFalsely : Prop := ruleFaultsRow.holds Try.pinned (OpenSpec.ofChange ruleFaultsWrong)

/- THE SECOND FORM. 'bulk': how many values and letters a reading holds, each counted each time it is reached (what is shared counts as often as it is met; a slice's spare places count too). A statement '..UptoSaid' is the law's where the arguments, and the package variables that the reading takes, are together of bulk at most 1048576: NARROWER than '..Said'. Prove '..Said' where nothing that the law and all that it calls make is longer than what came in: it says more and counts as full. Else prove '..UptoSaid'. A law counts once. -/
mutual
def uptoBulk {H : Type} : DataW H → Nat
  | .lit (.string bytes) => bytes.length + 1
  | .lit _ => 1
  | .nil => 1
  | .ptr d => uptoBulk d + 1
  | .slice elems spare => uptoBulkAll elems + uptoBulkAll spare + 1
  | .agg parts => uptoBulkAll parts + 1
  | .iface _ d => uptoBulk d + 1
  | .map entries => uptoBulkEntries entries + 1
  | .held _ => 1
def uptoBulkAll {H : Type} : List (DataW H) → Nat
  | [] => 0
  | d :: r => uptoBulk d + uptoBulkAll r
def uptoBulkEntries {H : Type} : List (Lit × DataW H) → Nat
  | [] => 0
  | x :: r => uptoBulkEntry x + uptoBulkEntries r
def uptoBulkEntry {H : Type} : Lit × DataW H → Nat
  | (.string bytes, d) => bytes.length + uptoBulk d + 1
  | (_, d) => uptoBulk d + 1
 end
def uptoSmall : (H : Type) → List (DataW H) → Bool := fun _ ds => decide (uptoBulkAll ds ≤ 1048576)
def OpenSpec.upto (s : _root_.Go.ChangeSpec) : _root_.Go.OpenSpec := { _root_.Go.OpenSpec.ofChange s with cond := some uptoSmall }

/-- 'bellropelaw41.WalkJoins', WHERE WHAT IT READS IS OF BULK AT MOST 1048576: true; the input reads as it did. -/
def walkJoinsUptoRow : OpenClaim := { program := "ytkjonflmokapcaa", sum := "67643b931b535c95730575809f4276866a902d1fef91949f84da8d92964876ac", func := "bellrope/bellropelaw41.WalkJoins", spec := "walkJoins", unfollowed := true, recurses := true, apart := false, narrowed := true }
def WalkJoinsUptoSaid : Prop := walkJoinsUptoRow.holds Try.pinned (OpenSpec.upto walkJoinsSpec)

/-- 'bellropelaw25.QueuePlays', WHERE WHAT IT READS IS OF BULK AT MOST 1048576: true; the input reads as it did. -/
def queuePlaysUptoRow : OpenClaim := { program := "ytkjonflmokapcaa", sum := "67643b931b535c95730575809f4276866a902d1fef91949f84da8d92964876ac", func := "bellrope/bellropelaw25.QueuePlays", spec := "queuePlays", unfollowed := true, recurses := true, apart := false, narrowed := true }
def QueuePlaysUptoSaid : Prop := queuePlaysUptoRow.holds Try.pinned (OpenSpec.upto queuePlaysSpec)

/-- 'bellropelaw29.ConfFirst', WHERE WHAT IT READS IS OF BULK AT MOST 1048576: true; the input reads as it did. -/
def confFirstUptoRow : OpenClaim := { program := "ytkjonflmokapcaa", sum := "67643b931b535c95730575809f4276866a902d1fef91949f84da8d92964876ac", func := "bellrope/bellropelaw29.ConfFirst", spec := "confFirst", unfollowed := true, recurses := true, apart := false, narrowed := true }
def ConfFirstUptoSaid : Prop := confFirstUptoRow.holds Try.pinned (OpenSpec.upto confFirstSpec)

/-- 'bellropelaw29.ConfChecks', WHERE WHAT IT READS IS OF BULK AT MOST 1048576: true; the input reads as it did. -/
def confChecksUptoRow : OpenClaim := { program := "ytkjonflmokapcaa", sum := "67643b931b535c95730575809f4276866a902d1fef91949f84da8d92964876ac", func := "bellrope/bellropelaw29.ConfChecks", spec := "confChecks", unfollowed := true, recurses := true, apart := false, narrowed := true }
def ConfChecksUptoSaid : Prop := confChecksUptoRow.holds Try.pinned (OpenSpec.upto confChecksSpec)

/-- 'bellropelaw19.SpecAllows', WHERE WHAT IT READS IS OF BULK AT MOST 1048576: true; the input reads as it did. -/
def specAllowsUptoRow : OpenClaim := { program := "ytkjonflmokapcaa", sum := "67643b931b535c95730575809f4276866a902d1fef91949f84da8d92964876ac", func := "bellrope/bellropelaw19.SpecAllows", spec := "specAllows", unfollowed := true, recurses := true, apart := false, narrowed := true }
def SpecAllowsUptoSaid : Prop := specAllowsUptoRow.holds Try.pinned (OpenSpec.upto specAllowsSpec)

/-- 'bellropelaw31.RuleFaults', WHERE WHAT IT READS IS OF BULK AT MOST 1048576: true; the input reads as it did. -/
def ruleFaultsUptoRow : OpenClaim := { program := "ytkjonflmokapcaa", sum := "67643b931b535c95730575809f4276866a902d1fef91949f84da8d92964876ac", func := "bellrope/bellropelaw31.RuleFaults", spec := "ruleFaults", unfollowed := true, recurses := true, apart := false, narrowed := true }
def RuleFaultsUptoSaid : Prop := ruleFaultsUptoRow.holds Try.pinned (OpenSpec.upto ruleFaultsSpec)

end Rows
end Go.Proofs.Ytkjonflmokapcaa
