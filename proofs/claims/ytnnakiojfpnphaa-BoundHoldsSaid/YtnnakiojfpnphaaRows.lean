/-
  No cell of these rows narrows 'for every input' (looked for: loops, veiled, ifaces, maps, wideKeys, modest, calm, conditions, laid).
  DERIVED. THE GIVEN ROWS OF THIS SEAT. 3 by the template 'for every input the law returns true; each argument reads behind the call as it read before'; 0 by the template 'total and deterministic' (their statements: YtnnakiojfpnphaaTotals.lean).
  GIVEN WITH THE SEED: the statements are not yours to turn. If you find one false, say at which input.
  Laid BY PROGRAM, IN A SANDBOX (cutbox-rows.mjs): the forced cells as the released guide's own fill.sh prints them over the translation e209212d9b307550… (all of the seat's roots in one cut). By AI agents, Wed Nov 11 2026. No macro, syntax, notation, axiom, sorry.
-/
import Derived.Test.YtnnakiojfpnphaaChecked
import GoSem.Claim
import GoSem.ClaimJoined
import GoSem.ClaimMapViews
import Derived.JoinedTies
import Derived.KernelRfl
namespace Go.Proofs.Ytnnakiojfpnphaa
/- THE CELL 'sum', in the pinned program and in every row, IS THE sha256 OF THE DUMP (.gsa) THAT YtnnakiojfpnphaaProg.lean LOADS. Nothing in Lean hashes anything: it is a label: what it is worth is what the hold of that sum in a sandbox is worth. -/
noncomputable def Try.pinned : Pinned := { name := "ytnnakiojfpnphaa", sum := "e209212d9b307550767bc364a27553413267fe81dcd6472866168cc19e9166f8", checked := Try.checked }
namespace Rows
def none {H : Type} : Left H := { results := [], args := [] }

/-- 'bellropelaw13.FourSafe': WHATEVER THE INPUT: true; the input reads as it did. -/
def fourSafeSpec : ChangeSpec := { name := "fourSafe", fn := fun _ => fun
  | [d1, d2, d3, d4] => { results := [.lit (.bool true)], args := [d1, d2, d3, d4] }
  | _ => none }
def fourSafeRow : OpenClaim := { program := "ytnnakiojfpnphaa", sum := "e209212d9b307550767bc364a27553413267fe81dcd6472866168cc19e9166f8", func := "bellrope/bellropelaw13.FourSafe", spec := "fourSafe", unfollowed := true, recurses := true, apart := false }
def FourSafeSaid : Prop := fourSafeRow.holds Try.pinned (OpenSpec.ofChange fourSafeSpec)

/-- ITS FALSE NEIGHBOUR: 'it returns false'. Refute it at one input. -/
def fourSafeWrong : ChangeSpec := { name := "fourSafe", fn := fun _ => fun
  | [d1, d2, d3, d4] => { results := [.lit (.bool false)], args := [d1, d2, d3, d4] }
  | _ => none }
def FourSafeWrongFalsely : Prop := fourSafeRow.holds Try.pinned (OpenSpec.ofChange fourSafeWrong)

/-- 'bellropelaw17.BoundMost': WHATEVER THE INPUT: true; the input reads as it did. -/
def boundMostSpec : ChangeSpec := { name := "boundMost", fn := fun _ => fun
  | [d1, d2] => { results := [.lit (.bool true)], args := [d1, d2] }
  | _ => none }
def boundMostRow : OpenClaim := { program := "ytnnakiojfpnphaa", sum := "e209212d9b307550767bc364a27553413267fe81dcd6472866168cc19e9166f8", func := "bellrope/bellropelaw17.BoundMost", spec := "boundMost", unfollowed := true, recurses := true, apart := false }
def BoundMostSaid : Prop := boundMostRow.holds Try.pinned (OpenSpec.ofChange boundMostSpec)

/-- ITS FALSE NEIGHBOUR: 'it returns false'. Refute it at one input. -/
def boundMostWrong : ChangeSpec := { name := "boundMost", fn := fun _ => fun
  | [d1, d2] => { results := [.lit (.bool false)], args := [d1, d2] }
  | _ => none }
def BoundMostWrongFalsely : Prop := boundMostRow.holds Try.pinned (OpenSpec.ofChange boundMostWrong)

/-- 'bellropelaw17.BoundHolds': WHATEVER THE INPUT: true; the input reads as it did. -/
def boundHoldsSpec : ChangeSpec := { name := "boundHolds", fn := fun _ => fun
  | [d1, d2, d3] => { results := [.lit (.bool true)], args := [d1, d2, d3] }
  | _ => none }
def boundHoldsRow : OpenClaim := { program := "ytnnakiojfpnphaa", sum := "e209212d9b307550767bc364a27553413267fe81dcd6472866168cc19e9166f8", func := "bellrope/bellropelaw17.BoundHolds", spec := "boundHolds", unfollowed := true, recurses := true, apart := false }
def BoundHoldsSaid : Prop := boundHoldsRow.holds Try.pinned (OpenSpec.ofChange boundHoldsSpec)

/-- ITS FALSE NEIGHBOUR: 'it returns false'. Refute it at one input. -/
def boundHoldsWrong : ChangeSpec := { name := "boundHolds", fn := fun _ => fun
  | [d1, d2, d3] => { results := [.lit (.bool false)], args := [d1, d2, d3] }
  | _ => none }
def BoundHoldsWrongFalsely : Prop := boundHoldsRow.holds Try.pinned (OpenSpec.ofChange boundHoldsWrong)

/- THE SECOND FORM. 'bulk': how many values and letters a reading holds, each counted each time it is reached (what is shared counts as often as it is met; a slice's spare places count too). A statement '..UptoSaid' is the law's where the arguments, and the package variables that the reading takes, are together of bulk at most 1048576: NARROWER than '..Said'. Prove '..Said' where nothing that the law and all that it calls make is longer than what came in: it says more and counts as full. Else prove '..UptoSaid'. A law counts once. -/
mutual
def uptoBulk {H : Type} : DataW H → Nat
  | .lit (.string bytes) => bytes.length + 1
  | .lit _ => 1
  | .nil => 1
  | .ptr d => uptoBulk d + 1
  | .slice elems spare => uptoBulkAll elems + uptoBulkAll spare + 1
  | .agg parts => uptoBulkAll parts + 1
  | .iface _ d => uptoBulk d + 1
  | .map entries => uptoBulkEntries entries + 1
  | .held _ => 1
def uptoBulkAll {H : Type} : List (DataW H) → Nat
  | [] => 0
  | d :: r => uptoBulk d + uptoBulkAll r
def uptoBulkEntries {H : Type} : List (Lit × DataW H) → Nat
  | [] => 0
  | x :: r => uptoBulkEntry x + uptoBulkEntries r
def uptoBulkEntry {H : Type} : Lit × DataW H → Nat
  | (.string bytes, d) => bytes.length + uptoBulk d + 1
  | (_, d) => uptoBulk d + 1
 end
def uptoSmall : (H : Type) → List (DataW H) → Bool := fun _ ds => decide (uptoBulkAll ds ≤ 1048576)
def OpenSpec.upto (s : _root_.Go.ChangeSpec) : _root_.Go.OpenSpec := { _root_.Go.OpenSpec.ofChange s with cond := some uptoSmall }

/-- 'bellropelaw13.FourSafe', WHERE WHAT IT READS IS OF BULK AT MOST 1048576: true; the input reads as it did. -/
def fourSafeUptoRow : OpenClaim := { program := "ytnnakiojfpnphaa", sum := "e209212d9b307550767bc364a27553413267fe81dcd6472866168cc19e9166f8", func := "bellrope/bellropelaw13.FourSafe", spec := "fourSafe", unfollowed := true, recurses := true, apart := false, narrowed := true }
def FourSafeUptoSaid : Prop := fourSafeUptoRow.holds Try.pinned (OpenSpec.upto fourSafeSpec)

/-- 'bellropelaw17.BoundMost', WHERE WHAT IT READS IS OF BULK AT MOST 1048576: true; the input reads as it did. -/
def boundMostUptoRow : OpenClaim := { program := "ytnnakiojfpnphaa", sum := "e209212d9b307550767bc364a27553413267fe81dcd6472866168cc19e9166f8", func := "bellrope/bellropelaw17.BoundMost", spec := "boundMost", unfollowed := true, recurses := true, apart := false, narrowed := true }
def BoundMostUptoSaid : Prop := boundMostUptoRow.holds Try.pinned (OpenSpec.upto boundMostSpec)

/-- 'bellropelaw17.BoundHolds', WHERE WHAT IT READS IS OF BULK AT MOST 1048576: true; the input reads as it did. -/
def boundHoldsUptoRow : OpenClaim := { program := "ytnnakiojfpnphaa", sum := "e209212d9b307550767bc364a27553413267fe81dcd6472866168cc19e9166f8", func := "bellrope/bellropelaw17.BoundHolds", spec := "boundHolds", unfollowed := true, recurses := true, apart := false, narrowed := true }
def BoundHoldsUptoSaid : Prop := boundHoldsUptoRow.holds Try.pinned (OpenSpec.upto boundHoldsSpec)

end Rows
end Go.Proofs.Ytnnakiojfpnphaa
