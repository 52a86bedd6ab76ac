/-
  No cell of these rows narrows 'for every input' (looked for: loops, veiled, ifaces, maps, wideKeys, modest, calm, conditions, laid).
  DERIVED. THE GIVEN ROWS OF THIS SEAT. 9 by the template 'for every input the law returns true; each argument reads behind the call as it read before'; 0 by the template 'total and deterministic' (their statements: YtbjeojcnofpgfaaTotals.lean).
  GIVEN WITH THE SEED: the statements are not yours to turn. If you find one false, say at which input.
  Laid BY PROGRAM, IN A SANDBOX (cutbox-rows.mjs): the forced cells as the released guide's own fill.sh prints them over the translation 28489dbd798dc0d3… (all of the seat's roots in one cut). By AI agents, Wed Nov 11 2026. No macro, syntax, notation, axiom, sorry.
-/
import Derived.Test.YtbjeojcnofpgfaaChecked
import GoSem.Claim
import GoSem.ClaimJoined
import GoSem.ClaimMapViews
import Derived.JoinedTies
import Derived.KernelRfl
namespace Go.Proofs.Ytbjeojcnofpgfaa
/- THE CELL 'sum', in the pinned program and in every row, IS THE sha256 OF THE DUMP (.gsa) THAT YtbjeojcnofpgfaaProg.lean LOADS. Nothing in Lean hashes anything: it is a label: what it is worth is what the hold of that sum in a sandbox is worth. -/
noncomputable def Try.pinned : Pinned := { name := "ytbjeojcnofpgfaa", sum := "28489dbd798dc0d3632cfb0250c895036e40b79a41e8af840349095f19916b76", checked := Try.checked }
namespace Rows
def none {H : Type} : Left H := { results := [], args := [] }

/-- 'bellropelaw20.CertSteps': WHATEVER THE INPUT: true; the input reads as it did. -/
def certStepsSpec : ChangeSpec := { name := "certSteps", fn := fun _ => fun
  | [d1, d2, d3] => { results := [.lit (.bool true)], args := [d1, d2, d3] }
  | _ => none }
def certStepsRow : OpenClaim := { program := "ytbjeojcnofpgfaa", sum := "28489dbd798dc0d3632cfb0250c895036e40b79a41e8af840349095f19916b76", func := "bellrope/bellropelaw20.CertSteps", spec := "certSteps", unfollowed := true, recurses := true, apart := false }
def CertStepsSaid : Prop := certStepsRow.holds Try.pinned (OpenSpec.ofChange certStepsSpec)

/-- ITS FALSE NEIGHBOUR: 'it returns false'. Refute it at one input. -/
def certStepsWrong : ChangeSpec := { name := "certSteps", fn := fun _ => fun
  | [d1, d2, d3] => { results := [.lit (.bool false)], args := [d1, d2, d3] }
  | _ => none }
def CertStepsWrongFalsely : Prop := certStepsRow.holds Try.pinned (OpenSpec.ofChange certStepsWrong)

/-- 'bellropelaw30.PlanStarts': WHATEVER THE INPUT: true; the input reads as it did. -/
def planStartsSpec : ChangeSpec := { name := "planStarts", fn := fun _ => fun
  | [d] => { results := [.lit (.bool true)], args := [d] }
  | _ => none }
def planStartsRow : OpenClaim := { program := "ytbjeojcnofpgfaa", sum := "28489dbd798dc0d3632cfb0250c895036e40b79a41e8af840349095f19916b76", func := "bellrope/bellropelaw30.PlanStarts", spec := "planStarts", unfollowed := true, recurses := true, apart := false }
def PlanStartsSaid : Prop := planStartsRow.holds Try.pinned (OpenSpec.ofChange planStartsSpec)

/-- ITS FALSE NEIGHBOUR: 'it returns false'. Refute it at one input. -/
def planStartsWrong : ChangeSpec := { name := "planStarts", fn := fun _ => fun
  | [d] => { results := [.lit (.bool false)], args := [d] }
  | _ => none }
def PlanStartsWrongFalsely : Prop := planStartsRow.holds Try.pinned (OpenSpec.ofChange planStartsWrong)

/-- 'bellropelaw28.PostRecords': WHATEVER THE INPUT: true; the input reads as it did. -/
def postRecordsSpec : ChangeSpec := { name := "postRecords", fn := fun _ => fun
  | [d1, d2, d3] => { results := [.lit (.bool true)], args := [d1, d2, d3] }
  | _ => none }
def postRecordsRow : OpenClaim := { program := "ytbjeojcnofpgfaa", sum := "28489dbd798dc0d3632cfb0250c895036e40b79a41e8af840349095f19916b76", func := "bellrope/bellropelaw28.PostRecords", spec := "postRecords", unfollowed := true, recurses := true, apart := false }
def PostRecordsSaid : Prop := postRecordsRow.holds Try.pinned (OpenSpec.ofChange postRecordsSpec)

/-- ITS FALSE NEIGHBOUR: 'it returns false'. Refute it at one input. -/
def postRecordsWrong : ChangeSpec := { name := "postRecords", fn := fun _ => fun
  | [d1, d2, d3] => { results := [.lit (.bool false)], args := [d1, d2, d3] }
  | _ => none }
def PostRecordsWrongFalsely : Prop := postRecordsRow.holds Try.pinned (OpenSpec.ofChange postRecordsWrong)

/-- 'bellropelaw12.RingRow': WHATEVER THE INPUT: true; the input reads as it did. -/
def ringRowSpec : ChangeSpec := { name := "ringRow", fn := fun _ => fun
  | [d1, d2, d3, d4] => { results := [.lit (.bool true)], args := [d1, d2, d3, d4] }
  | _ => none }
def ringRowRow : OpenClaim := { program := "ytbjeojcnofpgfaa", sum := "28489dbd798dc0d3632cfb0250c895036e40b79a41e8af840349095f19916b76", func := "bellrope/bellropelaw12.RingRow", spec := "ringRow", unfollowed := true, recurses := true, apart := false }
def RingRowSaid : Prop := ringRowRow.holds Try.pinned (OpenSpec.ofChange ringRowSpec)

/-- ITS FALSE NEIGHBOUR: 'it returns false'. Refute it at one input. -/
def ringRowWrong : ChangeSpec := { name := "ringRow", fn := fun _ => fun
  | [d1, d2, d3, d4] => { results := [.lit (.bool false)], args := [d1, d2, d3, d4] }
  | _ => none }
def RingRowWrongFalsely : Prop := ringRowRow.holds Try.pinned (OpenSpec.ofChange ringRowWrong)

/-- 'bellropelaw12.RingNone': WHATEVER THE INPUT: true; the input reads as it did. -/
def ringNoneSpec : ChangeSpec := { name := "ringNone", fn := fun _ => fun
  | [d] => { results := [.lit (.bool true)], args := [d] }
  | _ => none }
def ringNoneRow : OpenClaim := { program := "ytbjeojcnofpgfaa", sum := "28489dbd798dc0d3632cfb0250c895036e40b79a41e8af840349095f19916b76", func := "bellrope/bellropelaw12.RingNone", spec := "ringNone", unfollowed := true, recurses := true, apart := false }
def RingNoneSaid : Prop := ringNoneRow.holds Try.pinned (OpenSpec.ofChange ringNoneSpec)

/-- ITS FALSE NEIGHBOUR: 'it returns false'. Refute it at one input. -/
def ringNoneWrong : ChangeSpec := { name := "ringNone", fn := fun _ => fun
  | [d] => { results := [.lit (.bool false)], args := [d] }
  | _ => none }
def RingNoneWrongFalsely : Prop := ringNoneRow.holds Try.pinned (OpenSpec.ofChange ringNoneWrong)

/-- 'bellropelaw13.FourSafe': WHATEVER THE INPUT: true; the input reads as it did. -/
def fourSafeSpec : ChangeSpec := { name := "fourSafe", fn := fun _ => fun
  | [d1, d2, d3, d4] => { results := [.lit (.bool true)], args := [d1, d2, d3, d4] }
  | _ => none }
def fourSafeRow : OpenClaim := { program := "ytbjeojcnofpgfaa", sum := "28489dbd798dc0d3632cfb0250c895036e40b79a41e8af840349095f19916b76", func := "bellrope/bellropelaw13.FourSafe", spec := "fourSafe", unfollowed := true, recurses := true, apart := false }
def FourSafeSaid : Prop := fourSafeRow.holds Try.pinned (OpenSpec.ofChange fourSafeSpec)

/-- ITS FALSE NEIGHBOUR: 'it returns false'. Refute it at one input. -/
def fourSafeWrong : ChangeSpec := { name := "fourSafe", fn := fun _ => fun
  | [d1, d2, d3, d4] => { results := [.lit (.bool false)], args := [d1, d2, d3, d4] }
  | _ => none }
def FourSafeWrongFalsely : Prop := fourSafeRow.holds Try.pinned (OpenSpec.ofChange fourSafeWrong)

/-- 'bellropelaw14.LockNone': WHATEVER THE INPUT: true; the input reads as it did. -/
def lockNoneSpec : ChangeSpec := { name := "lockNone", fn := fun _ => fun
  | [d] => { results := [.lit (.bool true)], args := [d] }
  | _ => none }
def lockNoneRow : OpenClaim := { program := "ytbjeojcnofpgfaa", sum := "28489dbd798dc0d3632cfb0250c895036e40b79a41e8af840349095f19916b76", func := "bellrope/bellropelaw14.LockNone", spec := "lockNone", unfollowed := true, recurses := true, apart := false }
def LockNoneSaid : Prop := lockNoneRow.holds Try.pinned (OpenSpec.ofChange lockNoneSpec)

/-- ITS FALSE NEIGHBOUR: 'it returns false'. Refute it at one input. -/
def lockNoneWrong : ChangeSpec := { name := "lockNone", fn := fun _ => fun
  | [d] => { results := [.lit (.bool false)], args := [d] }
  | _ => none }
def LockNoneWrongFalsely : Prop := lockNoneRow.holds Try.pinned (OpenSpec.ofChange lockNoneWrong)

/-- 'bellropelaw15.FlagsLaws': WHATEVER THE INPUT: true; the input reads as it did. -/
def flagsLawsSpec : ChangeSpec := { name := "flagsLaws", fn := fun _ => fun
  | [d1, d2, d3] => { results := [.lit (.bool true)], args := [d1, d2, d3] }
  | _ => none }
def flagsLawsRow : OpenClaim := { program := "ytbjeojcnofpgfaa", sum := "28489dbd798dc0d3632cfb0250c895036e40b79a41e8af840349095f19916b76", func := "bellrope/bellropelaw15.FlagsLaws", spec := "flagsLaws", unfollowed := true, recurses := true, apart := false }
def FlagsLawsSaid : Prop := flagsLawsRow.holds Try.pinned (OpenSpec.ofChange flagsLawsSpec)

/-- ITS FALSE NEIGHBOUR: 'it returns false'. Refute it at one input. -/
def flagsLawsWrong : ChangeSpec := { name := "flagsLaws", fn := fun _ => fun
  | [d1, d2, d3] => { results := [.lit (.bool false)], args := [d1, d2, d3] }
  | _ => none }
def FlagsLawsWrongFalsely : Prop := flagsLawsRow.holds Try.pinned (OpenSpec.ofChange flagsLawsWrong)

/-- 'bellropelaw15.FlagsTurned': WHATEVER THE INPUT: true; the input reads as it did. -/
def flagsTurnedSpec : ChangeSpec := { name := "flagsTurned", fn := fun _ => fun
  | [d1, d2] => { results := [.lit (.bool true)], args := [d1, d2] }
  | _ => none }
def flagsTurnedRow : OpenClaim := { program := "ytbjeojcnofpgfaa", sum := "28489dbd798dc0d3632cfb0250c895036e40b79a41e8af840349095f19916b76", func := "bellrope/bellropelaw15.FlagsTurned", spec := "flagsTurned", unfollowed := true, recurses := true, apart := false }
def FlagsTurnedSaid : Prop := flagsTurnedRow.holds Try.pinned (OpenSpec.ofChange flagsTurnedSpec)

/-- ITS FALSE NEIGHBOUR: 'it returns false'. Refute it at one input. -/
def flagsTurnedWrong : ChangeSpec := { name := "flagsTurned", fn := fun _ => fun
  | [d1, d2] => { results := [.lit (.bool false)], args := [d1, d2] }
  | _ => none }
def FlagsTurnedWrongFalsely : Prop := flagsTurnedRow.holds Try.pinned (OpenSpec.ofChange flagsTurnedWrong)

/- THE SECOND FORM. 'bulk': how many values and letters a reading holds, each counted each time it is reached (what is shared counts as often as it is met; a slice's spare places count too). A statement '..UptoSaid' is the law's where the arguments, and the package variables that the reading takes, are together of bulk at most 1048576: NARROWER than '..Said'. Prove '..Said' where nothing that the law and all that it calls make is longer than what came in: it says more and counts as full. Else prove '..UptoSaid'. A law counts once. -/
mutual
def uptoBulk {H : Type} : DataW H → Nat
  | .lit (.string bytes) => bytes.length + 1
  | .lit _ => 1
  | .nil => 1
  | .ptr d => uptoBulk d + 1
  | .slice elems spare => uptoBulkAll elems + uptoBulkAll spare + 1
  | .agg parts => uptoBulkAll parts + 1
  | .iface _ d => uptoBulk d + 1
  | .map entries => uptoBulkEntries entries + 1
  | .held _ => 1
def uptoBulkAll {H : Type} : List (DataW H) → Nat
  | [] => 0
  | d :: r => uptoBulk d + uptoBulkAll r
def uptoBulkEntries {H : Type} : List (Lit × DataW H) → Nat
  | [] => 0
  | x :: r => uptoBulkEntry x + uptoBulkEntries r
def uptoBulkEntry {H : Type} : Lit × DataW H → Nat
  | (.string bytes, d) => bytes.length + uptoBulk d + 1
  | (_, d) => uptoBulk d + 1
 end
def uptoSmall : (H : Type) → List (DataW H) → Bool := fun _ ds => decide (uptoBulkAll ds ≤ 1048576)
def OpenSpec.upto (s : _root_.Go.ChangeSpec) : _root_.Go.OpenSpec := { _root_.Go.OpenSpec.ofChange s with cond := some uptoSmall }

/-- 'bellropelaw20.CertSteps', WHERE WHAT IT READS IS OF BULK AT MOST 1048576: true; the input reads as it did. -/
def certStepsUptoRow : OpenClaim := { program := "ytbjeojcnofpgfaa", sum := "28489dbd798dc0d3632cfb0250c895036e40b79a41e8af840349095f19916b76", func := "bellrope/bellropelaw20.CertSteps", spec := "certSteps", unfollowed := true, recurses := true, apart := false, narrowed := true }
def CertStepsUptoSaid : Prop := certStepsUptoRow.holds Try.pinned (OpenSpec.upto certStepsSpec)

/-- 'bellropelaw30.PlanStarts', WHERE WHAT IT READS IS OF BULK AT MOST 1048576: true; the input reads as it did. -/
def planStartsUptoRow : OpenClaim := { program := "ytbjeojcnofpgfaa", sum := "28489dbd798dc0d3632cfb0250c895036e40b79a41e8af840349095f19916b76", func := "bellrope/bellropelaw30.PlanStarts", spec := "planStarts", unfollowed := true, recurses := true, apart := false, narrowed := true }
def PlanStartsUptoSaid : Prop := planStartsUptoRow.holds Try.pinned (OpenSpec.upto planStartsSpec)

/-- 'bellropelaw28.PostRecords', WHERE WHAT IT READS IS OF BULK AT MOST 1048576: true; the input reads as it did. -/
def postRecordsUptoRow : OpenClaim := { program := "ytbjeojcnofpgfaa", sum := "28489dbd798dc0d3632cfb0250c895036e40b79a41e8af840349095f19916b76", func := "bellrope/bellropelaw28.PostRecords", spec := "postRecords", unfollowed := true, recurses := true, apart := false, narrowed := true }
def PostRecordsUptoSaid : Prop := postRecordsUptoRow.holds Try.pinned (OpenSpec.upto postRecordsSpec)

/-- 'bellropelaw12.RingRow', WHERE WHAT IT READS IS OF BULK AT MOST 1048576: true; the input reads as it did. -/
def ringRowUptoRow : OpenClaim := { program := "ytbjeojcnofpgfaa", sum := "28489dbd798dc0d3632cfb0250c895036e40b79a41e8af840349095f19916b76", func := "bellrope/bellropelaw12.RingRow", spec := "ringRow", unfollowed := true, recurses := true, apart := false, narrowed := true }
def RingRowUptoSaid : Prop := ringRowUptoRow.holds Try.pinned (OpenSpec.upto ringRowSpec)

/-- 'bellropelaw12.RingNone', WHERE WHAT IT READS IS OF BULK AT MOST 1048576: true; the input reads as it did. -/
def ringNoneUptoRow : OpenClaim := { program := "ytbjeojcnofpgfaa", sum := "28489dbd798dc0d3632cfb0250c895036e40b79a41e8af840349095f19916b76", func := "bellrope/bellropelaw12.RingNone", spec := "ringNone", unfollowed := true, recurses := true, apart := false, narrowed := true }
def RingNoneUptoSaid : Prop := ringNoneUptoRow.holds Try.pinned (OpenSpec.upto ringNoneSpec)

/-- 'bellropelaw13.FourSafe', WHERE WHAT IT READS IS OF BULK AT MOST 1048576: true; the input reads as it did. -/
def fourSafeUptoRow : OpenClaim := { program := "ytbjeojcnofpgfaa", sum := "28489dbd798dc0d3632cfb0250c895036e40b79a41e8af840349095f19916b76", func := "bellrope/bellropelaw13.FourSafe", spec := "fourSafe", unfollowed := true, recurses := true, apart := false, narrowed := true }
def FourSafeUptoSaid : Prop := fourSafeUptoRow.holds Try.pinned (OpenSpec.upto fourSafeSpec)

/-- 'bellropelaw14.LockNone', WHERE WHAT IT READS IS OF BULK AT MOST 1048576: true; the input reads as it did. -/
def lockNoneUptoRow : OpenClaim := { program := "ytbjeojcnofpgfaa", sum := "28489dbd798dc0d3632cfb0250c895036e40b79a41e8af840349095f19916b76", func := "bellrope/bellropelaw14.LockNone", spec := "lockNone", unfollowed := true, recurses := true, apart := false, narrowed := true }
def LockNoneUptoSaid : Prop := lockNoneUptoRow.holds Try.pinned (OpenSpec.upto lockNoneSpec)

/-- 'bellropelaw15.FlagsLaws', WHERE WHAT IT READS IS OF BULK AT MOST 1048576: true; the input reads as it did. -/
def flagsLawsUptoRow : OpenClaim := { program := "ytbjeojcnofpgfaa", sum := "28489dbd798dc0d3632cfb0250c895036e40b79a41e8af840349095f19916b76", func := "bellrope/bellropelaw15.FlagsLaws", spec := "flagsLaws", unfollowed := true, recurses := true, apart := false, narrowed := true }
def FlagsLawsUptoSaid : Prop := flagsLawsUptoRow.holds Try.pinned (OpenSpec.upto flagsLawsSpec)

/-- 'bellropelaw15.FlagsTurned', WHERE WHAT IT READS IS OF BULK AT MOST 1048576: true; the input reads as it did. -/
def flagsTurnedUptoRow : OpenClaim := { program := "ytbjeojcnofpgfaa", sum := "28489dbd798dc0d3632cfb0250c895036e40b79a41e8af840349095f19916b76", func := "bellrope/bellropelaw15.FlagsTurned", spec := "flagsTurned", unfollowed := true, recurses := true, apart := false, narrowed := true }
def FlagsTurnedUptoSaid : Prop := flagsTurnedUptoRow.holds Try.pinned (OpenSpec.upto flagsTurnedSpec)

end Rows
end Go.Proofs.Ytbjeojcnofpgfaa
