/- The document's Or and And. -/
import Derived.Test.YtdbgnnkbcebpcaaBits
import Derived.Test.YtdbgnnkbcebpcaaCell
set_option linter.unusedVariables false
set_option linter.unusedSimpArgs false
namespace Go.Proofs.Ytdbgnnkbcebpcaa
open Go.RowKit

theorem rbit_zero (x : Int) (b : Bool) : rbit (2 * x + (if b then 1 else 0)) 0 = b := by
  unfold rbit
  cases b <;> simp <;> omega
theorem rbit_succ (x : Int) (b : Bool) (k : Nat) : rbit (2 * x + (if b then 1 else 0)) (k + 1) = rbit x k := by
  unfold rbit
  have e : (2 * x + (if b then 1 else 0)) / 2 ^ (k + 1) = x / 2 ^ k := by
    rw [Int.pow_succ, Int.mul_comm (2 ^ k) 2, ← Int.ediv_ediv_of_nonneg (by omega)]
    congr 1
    cases b <;> simp <;> omega
  rw [e]
theorem rbit_wordUp (g : Nat → Bool) : ∀ n i k, k < n → rbit (wordUp g i n) k = g (i + k)
  | 0, _, _, h => by omega
  | n + 1, i, 0, _ => by simp only [wordUp]; rw [rbit_zero]; simp
  | n + 1, i, k + 1, h => by
    simp only [wordUp]
    rw [rbit_succ, rbit_wordUp g n (i + 1) k (by omega)]
    congr 1
    omega
theorem wordUp_congr {f g : Nat → Bool} : ∀ n i, (∀ k, i ≤ k → k < i + n → f k = g k) → wordUp f i n = wordUp g i n
  | 0, _, _ => rfl
  | n + 1, i, h => by
    simp only [wordUp]
    rw [wordUp_congr n (i + 1) (fun k h1 h2 => h k (by omega) (by omega)), h i (by omega) (by omega)]
theorem wordUp_false : ∀ n i, wordUp (fun _ => false) i n = 0
  | 0, _ => rfl
  | n + 1, i => by simp [wordUp, wordUp_false n (i + 1)]
theorem wordUp_rbit (x : Int) : ∀ n i, wordUp (rbit x) i n = (x / 2 ^ i) % 2 ^ n
  | 0, i => by simp [wordUp]
  | n + 1, i => by
    simp only [wordUp]
    rw [wordUp_rbit x n (i + 1), ← half_pow]
    unfold rbit
    obtain ⟨y, hy⟩ : ∃ y, y = x / 2 ^ i := ⟨_, rfl⟩
    rw [← hy]
    have e : (2 : Int) ^ (n + 1) = 2 * 2 ^ n := by rw [Int.pow_succ]; omega
    have hm : (0 : Int) < 2 ^ n := Int.pow_pos (by omega)
    obtain ⟨m, hm'⟩ : ∃ m : Int, m = 2 ^ n := ⟨_, rfl⟩
    rw [e, ← hm']
    rw [← hm'] at hm
    have h1 := Int.emod_nonneg (y / 2) (Int.ne_of_gt hm)
    have h2 := Int.emod_lt_of_pos (y / 2) hm
    have h3 : y = (2 * (y / 2 % m) + y % 2) + 2 * m * (y / 2 / m) := by
      have := Int.mul_ediv_add_emod (y / 2) m
      rw [Int.mul_assoc]
      omega
    have h4 : y % (2 * m) = 2 * (y / 2 % m) + y % 2 := by
      rw [show y % (2 * m) = ((2 * (y / 2 % m) + y % 2) + 2 * m * (y / 2 / m)) % (2 * m) by rw [← h3], Int.add_mul_emod_self_left]
      exact Int.emod_eq_of_lt (by omega) (by omega)
    rw [h4]
    simp only [decide_eq_true_eq]
    split <;> omega
theorem word_rbit {x : Int} (h0 : 0 ≤ x) (hx : x ≤ 4294967295) : wordUp (rbit x) 0 32 = x := by
  rw [wordUp_rbit]
  simp
  omega

def bitop (o p q : Bool) : Bool := p && q || o && (p || q)
def wordop (o : Bool) (a b : Int) : Int := wordUp (fun j => bitop o (rbit a j) (rbit b j)) 0 32

theorem put_step (f : Nat → Bool) (k : Nat) (hk : k < 32) :
    wordUp (fun j => if j = k then f k else rbit (wordUp (fun j => if j < k then f j else false) 0 32) j) 0 32 = wordUp (fun j => if j < k + 1 then f j else false) 0 32 := by
  refine wordUp_congr _ _ fun j _ hj => ?_
  rw [rbit_wordUp _ 32 0 j (by omega)]
  simp only [Nat.zero_add]
  rcases Nat.lt_trichotomy j k with h | h | h
  · rw [if_neg (by omega), if_pos h, if_pos (by omega)]
  · subst h; rw [if_pos rfl, if_pos (by omega)]
  · rw [if_neg (by omega), if_neg (by omega), if_neg (by omega)]

theorem wordop_eq (o : Bool) (a b : Int) : wordop o a b = wordUp (fun j => bitop o (rbit a j) (rbit b j)) 0 32 := rfl

set_option maxRecDepth 100000 in
set_option maxHeartbeats 1000000 in
theorem ref_wordop (a b : Int) (o : Bool) (a0 : 0 ≤ a) (a1 : a ≤ 4294967295) (b0 : 0 ≤ b) (b1 : b ≤ 4294967295) (W : World) :
    Calls Try.prog 75 #[.int .u32 a, .int .u32 b, .bool o] W fun e w' => e = .returned (.int .u32 (wordop o a b)) ∧ Upd [] W w' := by
  go_enter Try.func75, Try.ntmps75
  go_wp2
  go_loopg [7, 8] 32 (fun n v i wr => ∃ k : Nat, n = 32 - k ∧ k ≤ 32 ∧ v = .int .u32 (wordUp (fun j => if j < k then bitop o (rbit a j) (rbit b j) else false) 0 32) ∧ i = .int .i64 k ∧ Upd [] W wr)
  case atStart => exact ⟨0, by omega, by omega, by simp [wordUp_false], rfl, Upd.refl _ _⟩
  case round =>
    obtain ⟨k, rfl, hk, rfl, rfl, hu⟩ := hrel
    have hb := wordUp_bounds (fun j => if j < k then bitop o (rbit a j) (rbit b j) else false) 32 0
    obtain ⟨y, hy⟩ : ∃ y, y = wordUp (fun j => if j < k then bitop o (rbit a j) (rbit b j) else false) 0 32 := ⟨_, rfl⟩
    rw [← hy] at hb ⊢
    have y0 := hb.1
    have y1 : y ≤ 4294967295 := by have := hb.2; simp at this; omega
    have HY := Lib.hid hy
    clear hy hb
    by_cases hlt : k < 32
    · have hs := put_step (fun j => bitop o (rbit a j) (rbit b j)) k hlt
      rw [← HY.out] at hs
      have HA := Lib.hid fun W => ref_has a k a0 a1 hlt W
      have HB := Lib.hid fun W => ref_has b k b0 b1 hlt W
      have hP := fun W => ref_put y k (bitop o (rbit a k) (rbit b k)) y0 y1 hlt W
      rw [hs] at hP
      clear hs
      obtain ⟨z, hz⟩ : ∃ z, z = wordUp (fun j => if j < k + 1 then bitop o (rbit a j) (rbit b j) else false) 0 32 := ⟨_, rfl⟩
      rw [← hz] at hP
      have HZ := Lib.hid hz
      have HP := Lib.hid hP
      clear hz hP
      rcases hp : rbit a k <;> rcases hq : rbit b k <;> cases o <;> rw [hp] at HA <;> rw [hq] at HB <;> rw [hp, hq] at HP <;> clear hp hq <;> simp only [bitop, Bool.and_true, Bool.and_false, Bool.or_true, Bool.or_false, Bool.true_and, Bool.false_and, Bool.true_or, Bool.false_or] at HP
      all_goals
        go_wp2_with (first
          | (go_at_call 88; refine (HA.out _).mono ?_; rintro e w1 ⟨rfl, hu1⟩; clear HA)
          | (go_at_call 88; refine (HB.out _).mono ?_; rintro e w2 ⟨rfl, hu2⟩)
          | (go_at_call 89; refine (HP.out _).mono ?_; rintro e w3 ⟨rfl, hu3⟩))
        go_roundg (32 - (k + 1))
        case rel => exact ⟨k + 1, rfl, by omega, by rw [HZ.out], by go_num, ((hu.trans hu1).trans hu2).trans hu3⟩
        case measure => omega
    · go_wp2
      go_ret
      refine ⟨?_, hu⟩
      rw [HY.out]
      have e : wordUp (fun j => if j < k then bitop o (rbit a j) (rbit b j) else false) 0 32 = wordop o a b := by rw [wordop_eq]; exact wordUp_congr _ _ fun j _ hj => if_pos (by omega)
      rw [e]
      rfl

set_option maxRecDepth 100000 in
set_option maxHeartbeats 1000000 in
theorem ref_or (a b : Int) (a0 : 0 ≤ a) (a1 : a ≤ 4294967295) (b0 : 0 ≤ b) (b1 : b ≤ 4294967295) (W : World) :
    Calls Try.prog 51 #[.int .u32 a, .int .u32 b] W fun e w' => e = .returned (.int .u32 (wordop true a b)) ∧ Upd [] W w' := by
  have HO := Lib.hid (ref_wordop a b true a0 a1 b0 b1 W)
  go_enter Try.func51, Try.ntmps51
  go_wp2_with (go_at_call 75; refine (HO.out).mono ?_; rintro e w1 ⟨rfl, hu1⟩)
  go_ret
  exact ⟨rfl, hu1⟩
set_option maxRecDepth 100000 in
set_option maxHeartbeats 1000000 in
theorem ref_and (a b : Int) (a0 : 0 ≤ a) (a1 : a ≤ 4294967295) (b0 : 0 ≤ b) (b1 : b ≤ 4294967295) (W : World) :
    Calls Try.prog 52 #[.int .u32 a, .int .u32 b] W fun e w' => e = .returned (.int .u32 (wordop false a b)) ∧ Upd [] W w' := by
  have HO := Lib.hid (ref_wordop a b false a0 a1 b0 b1 W)
  go_enter Try.func52, Try.ntmps52
  go_wp2_with (go_at_call 75; refine (HO.out).mono ?_; rintro e w1 ⟨rfl, hu1⟩)
  go_ret
  exact ⟨rfl, hu1⟩

theorem rbit_nat (n k : Nat) : rbit (n : Int) k = n.testBit k := by
  unfold rbit
  rw [Nat.testBit_eq_decide_div_mod_eq]
  have : ((n : Int) / 2 ^ k) % 2 = ((n / 2 ^ k % 2 : Nat) : Int) := by push_cast; rfl
  rw [this]
  congr 1
  apply propext
  omega
theorem rbit_and {m n j : Nat} : rbit ((m &&& n : Nat) : Int) j = bitop false (rbit m j) (rbit n j) := by
  rw [rbit_nat, rbit_nat, rbit_nat, Nat.testBit_and]
  cases m.testBit j <;> cases n.testBit j <;> simp [bitop]
theorem rbit_or {m n j : Nat} : rbit ((m ||| n : Nat) : Int) j = bitop true (rbit m j) (rbit n j) := by
  rw [rbit_nat, rbit_nat, rbit_nat, Nat.testBit_or]
  cases m.testBit j <;> cases n.testBit j <;> simp [bitop]
theorem ofInt32 {m : Nat} (h : m < 4294967296) : (BitVec.ofInt 32 (m : Int)).toNat = m := by
  rw [BitVec.toNat_ofInt]
  omega
theorem u32_wrap {n : Nat} (h : n < 4294967296) : IntKind.u32.wrap (n : Int) = n := by
  simp [IntKind.wrap, IntKind.bits, IntKind.signed]
  omega
theorem or_word {a b : Int} (a0 : 0 ≤ a) (a1 : a ≤ 4294967295) (b0 : 0 ≤ b) (b1 : b ≤ 4294967295) : bits .or .u32 a b = wordop true a b := by
  obtain ⟨m, rfl⟩ := Int.eq_ofNat_of_zero_le a0
  obtain ⟨n, rfl⟩ := Int.eq_ofNat_of_zero_le b0
  have hm : m < 2 ^ 32 := by omega
  have hn : n < 2 ^ 32 := by omega
  have hl := Nat.or_lt_two_pow hm hn
  have e : bits .or .u32 m n = ((m ||| n : Nat) : Int) := by
    show IntKind.u32.wrap ((BitVec.ofInt 32 (m : Int) ||| BitVec.ofInt 32 (n : Int)).toNat : Int) = _
    rw [BitVec.toNat_or, ofInt32 hm, ofInt32 hn, u32_wrap hl]
  rw [e, wordop_eq, ← word_rbit (x := ((m ||| n : Nat) : Int)) (by omega) (by omega)]
  exact wordUp_congr _ _ fun j _ _ => rbit_or
theorem and_word {a b : Int} (a0 : 0 ≤ a) (a1 : a ≤ 4294967295) (b0 : 0 ≤ b) (b1 : b ≤ 4294967295) : bits .and .u32 a b = wordop false a b := by
  obtain ⟨m, rfl⟩ := Int.eq_ofNat_of_zero_le a0
  obtain ⟨n, rfl⟩ := Int.eq_ofNat_of_zero_le b0
  have hm : m < 2 ^ 32 := by omega
  have hn : n < 2 ^ 32 := by omega
  have hl := Nat.and_lt_two_pow m hn
  have e : bits .and .u32 m n = ((m &&& n : Nat) : Int) := by
    show IntKind.u32.wrap ((BitVec.ofInt 32 (m : Int) &&& BitVec.ofInt 32 (n : Int)).toNat : Int) = _
    rw [BitVec.toNat_and, ofInt32 hm, ofInt32 hn, u32_wrap hl]
  rw [e, wordop_eq, ← word_rbit (x := ((m &&& n : Nat) : Int)) (by omega) (by omega)]
  exact wordUp_congr _ _ fun j _ _ => rbit_and
end Go.Proofs.Ytdbgnnkbcebpcaa
