/- The document's words: And of a complement, Holds. -/
import Derived.Test.YtdbgnnkbcebpcaaBits2
import Derived.Test.YtdbgnnkbcebpcaaSP2
set_option linter.unusedVariables false
set_option linter.unusedSimpArgs false
namespace Go.Proofs.Ytdbgnnkbcebpcaa
open Go.RowKit

theorem andNot_word {a b : Int} (a0 : 0 ≤ a) (a1 : a ≤ 4294967295) (b0 : 0 ≤ b) (b1 : b ≤ 4294967295) : bits .andNot .u32 a b = wordop false a (4294967295 - b) := by
  rw [← and_word a0 a1 (by omega) (by omega)]
  obtain ⟨m, rfl⟩ := Int.eq_ofNat_of_zero_le a0
  obtain ⟨n, rfl⟩ := Int.eq_ofNat_of_zero_le b0
  have hm : m < 2 ^ 32 := by omega
  have hn : n < 2 ^ 32 := by omega
  have e2 : (4294967295 - (n : Int)) = ((4294967295 - n : Nat) : Int) := by omega
  rw [e2]
  show IntKind.u32.wrap ((BitVec.ofInt 32 (m : Int) &&& ~~~ BitVec.ofInt 32 (n : Int)).toNat : Int) = IntKind.u32.wrap ((BitVec.ofInt 32 (m : Int) &&& BitVec.ofInt 32 ((4294967295 - n : Nat) : Int)).toNat : Int)
  rw [BitVec.toNat_and, BitVec.toNat_and, BitVec.toNat_not, ofInt32 hm, ofInt32 hn, ofInt32 (show 4294967295 - n < 4294967296 by omega)]
theorem wordop_bounds (o : Bool) (a b : Int) : 0 ≤ wordop o a b ∧ wordop o a b ≤ 4294967295 := by
  have := wordUp_bounds (fun j => bitop o (rbit a j) (rbit b j)) 32 0
  unfold wordop
  refine ⟨this.1, ?_⟩
  have h2 := this.2
  simp at h2
  omega
set_option maxRecDepth 100000 in
set_option maxHeartbeats 1000000 in
theorem rholds_c (kind a b : Int) (hk : kind = 4 ∨ kind = 5) (a0 : 0 ≤ a) (a1 : a ≤ 4294967295) (b0 : 0 ≤ b) (b1 : b ≤ 4294967295) (W : World) : Calls Try.prog 53 #[.int .i64 kind, .int .u32 a, .int .u32 b] W fun e w' => e = .returned (.bool (holdsB kind a b)) ∧ Upd [] W w' := by
  have HA := Lib.hid (fun W => ref_and a b a0 a1 b0 b1 W)
  unfold holdsB
  rw [and_word a0 a1 b0 b1]
  rcases hk with rfl | rfl
  · go_enter Try.func53, Try.ntmps53
    go_wp2_with (go_at_call 52; refine (HA.out _).mono ?_; rintro e w1 ⟨rfl, hu1⟩)
    go_ret
    exact ⟨rfl, hu1⟩
  · go_enter Try.func53, Try.ntmps53
    go_wp2_with (go_at_call 52; refine (HA.out _).mono ?_; rintro e w1 ⟨rfl, hu1⟩)
    go_ret
    exact ⟨rfl, hu1⟩
end Go.Proofs.Ytdbgnnkbcebpcaa
