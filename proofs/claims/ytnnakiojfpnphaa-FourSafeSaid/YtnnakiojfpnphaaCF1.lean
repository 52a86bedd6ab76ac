/- Powers of two up to 64; which objects may be: the program's and the document's. -/
import Derived.Test.YtnnakiojfpnphaaProg
import Derived.Test.YtnnakiojfpnphaaLaws
import Derived.Test.YtnnakiojfpnphaaOwn2
set_option linter.unusedVariables false
set_option linter.unusedSimpArgs false
namespace Go.Proofs.Ytnnakiojfpnphaa
open Go.RowKit

def pw7 (n : Int) : Bool := n == 1 || (n == 2 || (n == 4 || (n == 8 || (n == 16 || (n == 32 || n == 64)))))
def powB (n : Int) : Bool := decide (0 < n) && (decide (n ≤ 2147483648) && (bits .and .i64 n (n - 1) == 0))
def pow2 (n : Int) : Prop := ∃ k : Nat, k < 32 ∧ n = 2 ^ k
theorem powB_small (k : Fin 65) : powB (k.val : Int) = pw7 (k.val : Int) := by
  revert k
  decide
theorem powB_room (n : Int) : (powB n && decide (n ≤ 64)) = pw7 n := by
  by_cases h : n ≤ 64
  · by_cases h0 : 0 ≤ n
    · have := powB_small ⟨n.toNat, by omega⟩
      simp only [Int.toNat_of_nonneg h0] at this
      rw [this]; simp [h]
    · have : powB n = false := by unfold powB; rw [decide_eq_false (by omega)]; rfl
      rw [this]
      symm
      simp [pw7]
      omega
  · rw [decide_eq_false h, Bool.and_false]
    symm
    simp [pw7]
    omega
theorem pow2_room (n : Int) : (pow2 n ∧ n ≤ 64) ↔ pw7 n = true := by
  constructor
  · rintro ⟨⟨k, hk, rfl⟩, h⟩
    have hk6 : k ≤ 6 := by
      apply Nat.le_of_not_lt
      intro h7
      have : (2 : Int) ^ 7 ≤ 2 ^ k := by
        have := Nat.pow_le_pow_right (n := 2) (by omega) (show 7 ≤ k from h7)
        have h2 : ((2 ^ 7 : Nat) : Int) ≤ ((2 ^ k : Nat) : Int) := by exact_mod_cast this
        simpa using h2
      omega
    have : k = 0 ∨ k = 1 ∨ k = 2 ∨ k = 3 ∨ k = 4 ∨ k = 5 ∨ k = 6 := by omega
    rcases this with rfl | rfl | rfl | rfl | rfl | rfl | rfl <;> decide
  · intro h
    simp [pw7] at h
    rcases h with rfl | rfl | rfl | rfl | rfl | rfl | rfl
    · exact ⟨⟨0, by omega, by decide⟩, by omega⟩
    · exact ⟨⟨1, by omega, by decide⟩, by omega⟩
    · exact ⟨⟨2, by omega, by decide⟩, by omega⟩
    · exact ⟨⟨3, by omega, by decide⟩, by omega⟩
    · exact ⟨⟨4, by omega, by decide⟩, by omega⟩
    · exact ⟨⟨5, by omega, by decide⟩, by omega⟩
    · exact ⟨⟨6, by omega, by decide⟩, by omega⟩

set_option maxRecDepth 100000 in
theorem power_any (n : Int) (w : World) : Calls Try.prog 44 #[.int .i64 n] w fun e w' => e = .returned (.bool (powB n)) ∧ w = w' := by
  unfold powB
  by_cases h1 : 0 < n
  · have d1 : decide (0 < n) = true := by simpa using h1
    by_cases h2 : n ≤ 2147483648
    · have d2 : decide (n ≤ 2147483648) = true := by simpa using h2
      go_enter Try.func44, Try.ntmps44
      go_wp2
      go_ret
      refine ⟨?_, rfl⟩
      simp [d1, d2]
    · have d2 : decide (n ≤ 2147483648) = false := by simpa using h2
      go_enter Try.func44, Try.ntmps44
      go_wp2
      go_ret
      refine ⟨?_, rfl⟩
      simp [d1, d2]
  · have d1 : decide (0 < n) = false := by simpa using h1
    go_enter Try.func44, Try.ntmps44
    go_wp2
    go_ret
    refine ⟨?_, rfl⟩
    simp [d1]
set_option maxRecDepth 100000 in
theorem swithin (n a b : Int) (w : World) : Calls Try.prog 43 #[.int .i64 n, .int .i64 a, .int .i64 b] w fun e w' => e = .returned (.bool (decide (a ≤ n) && decide (n ≤ b))) ∧ w = w' := by
  by_cases h : a ≤ n
  · have h1 : decide (a ≤ n) = true := by simpa using h
    go_enter Try.func43, Try.ntmps43
    go_wp2
    go_ret
    exact ⟨by simp [h], rfl⟩
  · have h1 : decide (a ≤ n) = false := by simpa using h
    go_enter Try.func43, Try.ntmps43
    go_wp2
    go_ret
    exact ⟨by simp [h], rfl⟩
set_option maxRecDepth 100000 in
theorem rwithin (n a b : Int) (w : World) : Calls Try.prog 77 #[.int .i64 n, .int .i64 a, .int .i64 b] w fun e w' => e = .returned (.bool (decide (a ≤ n) && decide (n ≤ b))) ∧ w = w' := by
  by_cases h : a ≤ n
  · have h1 : decide (a ≤ n) = true := by simpa using h
    go_enter Try.func77, Try.ntmps77
    go_wp2
    go_ret
    exact ⟨by simp [h], rfl⟩
  · have h1 : decide (a ≤ n) = false := by simpa using h
    go_enter Try.func77, Try.ntmps77
    go_wp2
    go_ret
    exact ⟨by simp [h], rfl⟩
noncomputable instance (n : Int) : Decidable (pow2 n) := Classical.propDecidable _
/-- Whether a number is a power of two, as the document asks it. -/
noncomputable def pow2B (n : Int) : Bool := decide (pow2 n)
theorem pow2B_room (n : Int) : (pow2B n && decide (n ≤ 64)) = pw7 n := by
  unfold pow2B
  by_cases h : pow2 n ∧ n ≤ 64
  · rw [(pow2_room n).1 h, decide_eq_true h.1, decide_eq_true h.2]; rfl
  · have : pw7 n = false := by
      cases hp : pw7 n with
      | false => rfl
      | true => exact absurd ((pow2_room n).2 hp) h
    rw [this]
    by_cases h1 : pow2 n
    · rw [decide_eq_false (p := n ≤ 64) (fun h2 => h ⟨h1, h2⟩), Bool.and_false]
    · rw [decide_eq_false h1]; rfl
theorem pow_lt32 {j : Nat} (h : j < 32) : (1 : Int) ≤ 2 ^ j ∧ (2 : Int) ^ j ≤ 2147483648 := by
  have h1 : 2 ^ j ≤ 2 ^ 31 := Nat.pow_le_pow_right (by omega) (by omega)
  have h2 : 1 ≤ 2 ^ j := Nat.one_le_two_pow
  have e : ((2 ^ j : Nat) : Int) = (2 : Int) ^ j := Int.natCast_pow 2 j
  rw [← e]
  have h3 : (2 ^ 31 : Nat) = 2147483648 := by decide
  rw [h3] at h1
  omega
set_option maxRecDepth 100000 in
theorem rpower_any (n : Int) (w : World) : Calls Try.prog 78 #[.int .i64 n] w fun e w' => e = .returned (.bool (pow2B n)) ∧ w = w' := by
  go_enter Try.func78, Try.ntmps78
  go_wp2
  go_loopg [3] 32 (fun m k wr => ∃ j : Nat, m + j = 32 ∧ k = .int .i64 (2 ^ j) ∧ (∀ i, i < j → n ≠ 2 ^ i) ∧ wr = w)
  case atStart => exact ⟨0, by omega, rfl, by simp, rfl⟩
  case round =>
    obtain ⟨j, hj, rfl, hno, rfl⟩ := hrel
    have HNO := Lib.hid hno
    have HJ := Lib.hid hj
    by_cases hlt : j < 32
    · obtain ⟨p1, p2⟩ := pow_lt32 hlt
      have hs : (2 : Int) * 2 ^ j = 2 ^ (j + 1) := by rw [Int.pow_succ, Int.mul_comm]
      have HS := Lib.hid hs
      obtain ⟨q, hq⟩ : ∃ q : Int, q = 2 ^ j := ⟨_, rfl⟩
      rw [← hq] at p1 p2 hs ⊢
      have HQ := Lib.hid hq
      clear hno hj hq hs
      by_cases e : n = q
      · have e1 : (n == q) = true := by simpa using e
        have hr : pow2B n = true := by
          unfold pow2B
          exact decide_eq_true ⟨j, hlt, by rw [e, HQ.out]⟩
        have HR := Lib.hid hr
        clear hr e
        go_wp2
        go_ret
        exact ⟨by rw [HR.out]; rfl, rfl⟩
      · have e1 : (n == q) = false := by simpa using e
        have HE := Lib.hid e
        clear e
        go_wp2
        have hj := HJ.out
        go_roundg (gk - 1)
        case measure => omega
        case rel =>
          refine ⟨j + 1, by omega, ?_, fun i hi => ?_, rfl⟩
          · rw [← HS.out, HQ.out]
          · by_cases h : i = j
            · subst h; rw [← HQ.out]; exact HE.out
            · exact HNO.out i (by omega)
    · obtain rfl : j = 32 := by omega
      have hr : pow2B n = false := by
        unfold pow2B
        refine decide_eq_false ?_
        rintro ⟨k, hk, e⟩
        exact hno k hk e
      have HR := Lib.hid hr
      have p : ¬ ((2 : Int) ^ 32 ≤ 2147483648) := by decide
      obtain ⟨q, hq⟩ : ∃ q : Int, q = 2 ^ 32 := ⟨_, rfl⟩
      rw [← hq] at p ⊢
      clear hno hj hr hq
      go_wp2
      go_ret
      exact ⟨by rw [HR.out]; rfl, rfl⟩
end Go.Proofs.Ytnnakiojfpnphaa
