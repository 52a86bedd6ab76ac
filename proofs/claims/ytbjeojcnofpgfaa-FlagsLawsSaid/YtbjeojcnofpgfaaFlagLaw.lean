/- The plain laws on flags: words of 32 bits. -/
import Derived.Test.YtbjeojcnofpgfaaFlags5
set_option linter.unusedVariables false
set_option linter.unusedSimpArgs false
namespace Go.Proofs.Ytbjeojcnofpgfaa
open Go.RowKit

def ofB (x : BitVec 32) : Int := (x.toNat : Int)
theorem ofB_of {x : Int} (h : (Lit.int .u32 x).wf = true) : ∃ X : BitVec 32, x = ofB X := by
  have hr : 0 ≤ x ∧ x < 4294967296 := by
    simp [Lit.wf, IntKind.min, IntKind.max, IntKind.bits, IntKind.signed] at h
    omega
  exact ⟨BitVec.ofInt 32 x, by unfold ofB; rw [BitVec.toNat_ofInt]; omega⟩
theorem ofB_back (X : BitVec 32) : BitVec.ofInt 32 (ofB X) = X := by
  apply BitVec.eq_of_toNat_eq
  rw [BitVec.toNat_ofInt]
  unfold ofB
  have := X.isLt
  omega
theorem ofB_wrap (X : BitVec 32) : IntKind.u32.wrap (ofB X) = ofB X := by
  have := X.isLt
  unfold ofB
  rw [IntKind.wrap_u32]
  omega
theorem bits_and (X Y : BitVec 32) : bits .and .u32 (ofB X) (ofB Y) = ofB (X &&& Y) := by
  have h : bits .and .u32 (ofB X) (ofB Y) = IntKind.u32.wrap (ofB (BitVec.ofInt 32 (ofB X) &&& BitVec.ofInt 32 (ofB Y))) := rfl
  rw [h, ofB_back, ofB_back, ofB_wrap]
theorem bits_or (X Y : BitVec 32) : bits .or .u32 (ofB X) (ofB Y) = ofB (X ||| Y) := by
  have h : bits .or .u32 (ofB X) (ofB Y) = IntKind.u32.wrap (ofB (BitVec.ofInt 32 (ofB X) ||| BitVec.ofInt 32 (ofB Y))) := rfl
  rw [h, ofB_back, ofB_back, ofB_wrap]
theorem bits_andNot (X Y : BitVec 32) : bits .andNot .u32 (ofB X) (ofB Y) = ofB (X &&& ~~~Y) := by
  have h : bits .andNot .u32 (ofB X) (ofB Y) = IntKind.u32.wrap (ofB (BitVec.ofInt 32 (ofB X) &&& ~~~BitVec.ofInt 32 (ofB Y))) := rfl
  rw [h, ofB_back, ofB_back, ofB_wrap]
theorem bits_not (Y : BitVec 32) : notU (ofB Y) = ofB (~~~Y) := by
  have h : notU (ofB Y) = IntKind.u32.wrap (ofB (BitVec.ofInt 32 IntKind.u32.max ^^^ BitVec.ofInt 32 (ofB Y))) := rfl
  have h2 : BitVec.ofInt 32 IntKind.u32.max = BitVec.allOnes 32 := by decide
  rw [h, ofB_back, ofB_wrap, h2, BitVec.allOnes_xor]
theorem ofB_inj {X Y : BitVec 32} (h : ofB X = ofB Y) : X = Y := by
  apply BitVec.eq_of_toNat_eq
  unfold ofB at h
  omega
theorem ofB_eq (X Y : BitVec 32) : (ofB X == ofB Y) = decide (X = Y) := by
  by_cases h : X = Y
  · subst h; simp
  · have h2 : ofB X ≠ ofB Y := fun e => h (ofB_inj e)
    rw [decide_eq_false h]
    simpa using h2
theorem bext {A B : BitVec 32} (h : ∀ i, i < 32 → A.getLsbD i = B.getLsbD i) : A = B := BitVec.eq_of_getLsbD_eq h
theorem b_not (X : BitVec 32) (i : Nat) (hi : i < 32) : (~~~X).getLsbD i = !X.getLsbD i := by simp only [BitVec.getLsbD_not, hi, decide_true, Bool.true_and]
theorem b_and (X Y : BitVec 32) (i : Nat) : (X &&& Y).getLsbD i = (X.getLsbD i && Y.getLsbD i) := BitVec.getLsbD_and
theorem b_or (X Y : BitVec 32) (i : Nat) : (X ||| Y).getLsbD i = (X.getLsbD i || Y.getLsbD i) := BitVec.getLsbD_or
theorem b_zero (i : Nat) : (0 : BitVec 32).getLsbD i = false := BitVec.getLsbD_zero
theorem not_and_iff (X M : BitVec 32) : X &&& M = 0 ↔ ~~~X &&& M = M := by
  constructor
  · intro h
    refine bext fun i hi => ?_
    have h1 := congrArg (fun z : BitVec 32 => z.getLsbD i) h
    simp only [b_and, b_zero] at h1
    rw [b_and, b_not _ _ hi]
    revert h1
    cases X.getLsbD i <;> cases M.getLsbD i <;> decide
  · intro h
    refine bext fun i hi => ?_
    have h1 := congrArg (fun z : BitVec 32 => z.getLsbD i) h
    simp only [b_and, b_not _ _ hi] at h1
    rw [b_and, b_zero]
    revert h1
    cases X.getLsbD i <;> cases M.getLsbD i <;> decide
theorem or_and (X A : BitVec 32) : (X ||| A) &&& A = A := bext fun i hi => by
  rw [b_and, b_or]; cases X.getLsbD i <;> cases A.getLsbD i <;> decide
theorem clear_and (X B : BitVec 32) : (X &&& ~~~B) &&& B = 0 := bext fun i hi => by
  rw [b_and, b_and, b_not _ _ hi, b_zero]; cases X.getLsbD i <;> cases B.getLsbD i <;> decide
theorem ofB_zero : (0 : Int) = ofB 0 := rfl

theorem holds4 (X M : BitVec 32) : holdsB 4 (ofB X) (ofB M) = !decide (X &&& M = 0) := by
  unfold holdsB
  simp only [if_true]
  rw [bits_and, ofB_zero]
  unfold bne
  rw [ofB_eq]
theorem holds5 (X M : BitVec 32) : holdsB 5 (ofB X) (ofB M) = decide (X &&& M = M) := by
  unfold holdsB
  simp only [if_true, show ¬ ((5 : Int) = 4) by decide, if_false]
  rw [bits_and, ofB_eq]
theorem turned (X M : BitVec 32) : (holdsB 4 (ofB X) (ofB M) == holdsB 5 (notU (ofB X)) (ofB M)) = false := by
  rw [bits_not, holds4, holds5]
  have := not_and_iff X M
  by_cases h : X &&& M = 0
  · rw [decide_eq_true h, decide_eq_true (this.1 h)]; rfl
  · rw [decide_eq_false h, decide_eq_false (fun e => h (this.2 e))]; rfl
theorem holds5_zero (X : BitVec 32) : holdsB 5 (ofB X) 0 = true := by
  rw [ofB_zero, holds5]; simp
theorem holds4_zero (X : BitVec 32) : holdsB 4 (ofB X) 0 = false := by
  rw [ofB_zero, holds4]; simp
theorem holds3_any (x m : Int) : holdsB 3 x m = true := by
  unfold holdsB; simp
theorem holds1_true (x m : Int) : holdsB 1 x m = true := by
  unfold holdsB; simp
theorem holds2_true (x m : Int) : holdsB 2 x m = true := by
  unfold holdsB; simp
theorem holds5_or (X A : BitVec 32) : holdsB 5 (ofB (X ||| A)) (ofB A) = true := by
  rw [holds5, decide_eq_true (or_and X A)]
theorem holds4_clear (X B : BitVec 32) : holdsB 4 (ofB (X &&& ~~~B)) (ofB B) = false := by
  rw [holds4, decide_eq_true (clear_and X B)]; rfl
end Go.Proofs.Ytbjeojcnofpgfaa
