/- Floats that hold whole numbers: sums, products, negation, comparison and conversion are exact below 2^53. -/
import Derived.ProofKit
import Derived.WalkLawsBesides
set_option linter.unusedVariables false
set_option linter.unusedSimpArgs false
namespace Go.Proofs.Ytkjonflmokapcaa
open Go.RowKit Ieee

/-- A datum that stands for a whole number. -/
def DV (d : Datum) (n : Int) : Prop := ∃ (s : Bool) (k : Nat), d = .number s (n.natAbs * 2 ^ k) (-(k : Int)) ∧ (n ≠ 0 → s = decide (n < 0))
def FV (b : Nat) (n : Int) : Prop := DV (Ieee.double.read b) n
theorem two_pow_pos (k : Nat) : 0 < 2 ^ k := Nat.pow_pos (by omega)
theorem signed_val {s : Bool} {n : Int} {k u : Nat} (h : n ≠ 0 → s = decide (n < 0)) : signed s (n.natAbs * 2 ^ k) u = n * ((2 ^ (k + u) : Nat) : Int) := by
  unfold signed
  rw [Nat.shiftLeft_eq, Nat.mul_assoc, ← Nat.pow_add]
  generalize 2 ^ (k + u) = M
  rcases Int.lt_trichotomy n 0 with h0 | h0 | h0
  · have hs : s = true := by rw [h (by omega)]; simpa using h0
    rw [hs, if_pos rfl, Int.natCast_mul, show ((n.natAbs : Nat) : Int) = -n by omega, Int.neg_mul, Int.neg_neg]
  · subst h0
    simp
  · have hs : s = false := by rw [h (by omega)]; simp; omega
    rw [hs, if_neg (by simp), Int.natCast_mul, show ((n.natAbs : Nat) : Int) = n by omega]
theorem sum_val {d1 d2 : Datum} {n1 n2 : Int} (h1 : DV d1 n1) (h2 : DV d2 n2) : ∃ d, d1.sum d2 = some d ∧ DV d (n1 + n2) := by
  obtain ⟨s, k, rfl, hs⟩ := h1
  obtain ⟨t, j, rfl, ht⟩ := h2
  have hb : min (-(k : Int)) (-(j : Int)) = -((max k j : Nat) : Int) := by omega
  have e1 : (-(k : Int) - -((max k j : Nat) : Int)).toNat = max k j - k := by omega
  have e2 : (-(j : Int) - -((max k j : Nat) : Int)).toNat = max k j - j := by omega
  have tot : signed s (n1.natAbs * 2 ^ k) (max k j - k) + signed t (n2.natAbs * 2 ^ j) (max k j - j) = (n1 + n2) * ((2 ^ (max k j) : Nat) : Int) := by
    rw [signed_val hs, signed_val ht, show k + (max k j - k) = max k j by omega, show j + (max k j - j) = max k j by omega, Int.add_mul]
  refine ⟨_, rfl, ?_⟩
  simp only [hb, e1, e2, tot]
  have hM := two_pow_pos (max k j)
  generalize hMe : 2 ^ max k j = M at hM ⊢
  refine ⟨if (n1 + n2) * (M : Int) = 0 then s && t else decide ((n1 + n2) * (M : Int) < 0), max k j, ?_, fun hn => ?_⟩
  · rw [Int.natAbs_mul, Int.natAbs_natCast, hMe]
  · have hMi : (0 : Int) < (M : Int) := by omega
    have h0 : ¬ (n1 + n2) * (M : Int) = 0 := fun e => by
      rcases Int.mul_eq_zero.1 e with e | e
      · exact hn e
      · omega
    rw [if_neg h0]
    apply decide_eq_decide.2
    constructor
    · intro hlt
      apply Int.not_le.1
      intro hge
      have := Int.mul_nonneg hge (Int.le_of_lt hMi)
      omega
    · intro hlt
      exact Int.mul_neg_of_neg_of_pos hlt hMi
theorem product_val {d1 d2 : Datum} {n1 n2 : Int} (h1 : DV d1 n1) (h2 : DV d2 n2) : ∃ d, d1.product d2 = some d ∧ DV d (n1 * n2) := by
  obtain ⟨s, k, rfl, hs⟩ := h1
  obtain ⟨t, j, rfl, ht⟩ := h2
  refine ⟨_, rfl, s ^^ t, k + j, ?_, fun hn => ?_⟩
  · rw [Int.natAbs_mul, Nat.pow_add]
    congr 1
    · rw [Nat.mul_assoc, Nat.mul_assoc]
      congr 1
      rw [← Nat.mul_assoc, Nat.mul_comm (2 ^ k), Nat.mul_assoc]
    · omega
  · have h1 : n1 ≠ 0 := fun e => hn (by rw [e, Int.zero_mul])
    have h2 : n2 ≠ 0 := fun e => hn (by rw [e, Int.mul_zero])
    rw [hs h1, ht h2]
    rcases Int.lt_or_gt_of_ne h1 with a | a <;> rcases Int.lt_or_gt_of_ne h2 with b | b
    · have := Int.mul_pos_of_neg_of_neg a b
      simp [a, b]; omega
    · have := Int.mul_neg_of_neg_of_pos a b
      have b' : ¬ n2 < 0 := by omega
      simp [a, b', this]
    · have := Int.mul_neg_of_pos_of_neg a b
      have a' : ¬ n1 < 0 := by omega
      simp [a', b, this]
    · have := Int.mul_pos a b
      have a' : ¬ n1 < 0 := by omega
      have b' : ¬ n2 < 0 := by omega
      have c' : ¬ n1 * n2 < 0 := by omega
      simp [a', b', c']
theorem opposite_val {d : Datum} {n : Int} (h : DV d n) : DV d.opposite (-n) := by
  obtain ⟨s, k, rfl, hs⟩ := h
  refine ⟨!s, k, by rw [Int.natAbs_neg]; rfl, fun hn => ?_⟩
  rw [hs (by omega)]
  by_cases h : n < 0
  · have : ¬ -n < 0 := by omega
    simp only [h, this, decide_true, decide_false, Bool.not_true]
  · have : -n < 0 := by omega
    simp only [h, this, decide_true, decide_false, Bool.not_false]
theorem order_val {d1 d2 : Datum} {n1 n2 : Int} (h1 : DV d1 n1) (h2 : DV d2 n2) : (d1.order d2 == some .eq) = decide (n1 = n2) := by
  obtain ⟨s, k, rfl, hs⟩ := h1
  obtain ⟨t, j, rfl, ht⟩ := h2
  have hb : min (-(k : Int)) (-(j : Int)) = -((max k j : Nat) : Int) := by omega
  have e1 : (-(k : Int) - -((max k j : Nat) : Int)).toNat = max k j - k := by omega
  have e2 : (-(j : Int) - -((max k j : Nat) : Int)).toNat = max k j - j := by omega
  show (some (compare (signed s _ (-(k : Int) - min (-(k : Int)) (-(j : Int))).toNat) (signed t _ (-(j : Int) - min (-(k : Int)) (-(j : Int))).toNat)) == some Ordering.eq) = _
  rw [hb, e1, e2, signed_val hs, signed_val ht, show k + (max k j - k) = max k j by omega, show j + (max k j - j) = max k j by omega]
  have hM : (0 : Int) < ((2 ^ max k j : Nat) : Int) := by have := two_pow_pos (max k j); omega
  generalize ((2 ^ max k j : Nat) : Int) = M at hM
  by_cases h : n1 = n2
  · subst h
    simp [compare, compareOfLessAndEq]
  · have hne : n1 * M ≠ n2 * M := fun e => h (Int.eq_of_mul_eq_mul_right (by omega) e)
    simp only [h, decide_false]
    simp only [compare, compareOfLessAndEq]
    split
    · rfl
    · first
        | rfl
        | (rw [if_neg hne]; rfl)
theorem cut_zero (s : Bool) (m k : Nat) : Toward.zero.cut s (m * 2 ^ k) k = m := by
  unfold Toward.cut
  simp only [Bool.toNat_false, Nat.add_zero]
  rcases Nat.eq_zero_or_pos m with h0 | h0
  · subst h0; simp
  · have hl : k ≤ (m * 2 ^ k).log2 := (Nat.le_log2 (by have := two_pow_pos k; exact Nat.ne_of_gt (Nat.mul_pos h0 this))).2 (Nat.le_mul_of_pos_left _ h0)
    rw [Nat.min_eq_left (by omega), Nat.shiftLeft_eq, Nat.one_mul, Nat.mul_div_cancel _ (two_pow_pos k)]
theorem toInt_val {d : Datum} {n : Int} (h : DV d n) : d.toInt .zero = some n := by
  obtain ⟨s, k, rfl, hs⟩ := h
  show some (signed s (Toward.zero.cut s ((n.natAbs * 2 ^ k) <<< (-(k : Int)).toNat) (-(-(k : Int))).toNat) 0) = some n
  rw [show (-(k : Int)).toNat = 0 by omega, show (-(-(k : Int))).toNat = k by omega, Nat.shiftLeft_zero, cut_zero]
  have := signed_val (u := 0) (k := 0) hs
  rw [Nat.pow_zero, Nat.mul_one] at this
  rw [this]
  simp
theorem cut_even {s : Bool} {a k e : Nat} (ha : 0 < a) (h : e ≤ k) : Toward.even.cut s (a * 2 ^ k) (k - e) = a * 2 ^ e := by
  simp only [Toward.cut]
  have hl : k ≤ (a * 2 ^ k).log2 := (Nat.le_log2 (by have := two_pow_pos k; exact Nat.ne_of_gt (Nat.mul_pos ha this))).2 (Nat.le_mul_of_pos_left _ ha)
  have hk : a * 2 ^ k = a * 2 ^ e * 2 ^ (k - e) := by rw [Nat.mul_assoc, ← Nat.pow_add]; congr 2; omega
  rw [Nat.min_eq_left (by omega), Nat.shiftLeft_eq, Nat.one_mul, hk, Nat.mul_div_cancel _ (two_pow_pos _), Nat.mul_mod_left]
  have := two_pow_pos (k - e)
  have h1 : ¬ 2 ^ (k - e) < 2 * 0 := by omega
  have h2 : ¬ 2 ^ (k - e) = 2 * 0 := by omega
  simp [h1]
theorem cut_even0 (s : Bool) (n : Nat) : Toward.even.cut s n 0 = n := by
  unfold Toward.cut
  simp [Nat.mod_one]
/-- The word of a whole number. -/
def wordOf (s : Bool) (a : Nat) : Nat := Ieee.double.word s ((1074 - (52 - a.log2)) * 2 ^ 52 + a * 2 ^ (52 - a.log2))
theorem log_lt {a : Nat} (h0 : 0 < a) (h : a < 2 ^ 53) : a.log2 ≤ 52 := by
  have : a.log2 < 53 := (Nat.log2_lt (by omega)).2 h
  omega
theorem log_mul (a k : Nat) (h0 : 0 < a) : (a * 2 ^ k).log2 = a.log2 + k := by
  have hne : a * 2 ^ k ≠ 0 := Nat.ne_of_gt (Nat.mul_pos h0 (two_pow_pos k))
  apply Nat.le_antisymm
  · have : (a * 2 ^ k).log2 < a.log2 + k + 1 := (Nat.log2_lt hne).2 (by
      have h1 : a < 2 ^ (a.log2 + 1) := Nat.lt_log2_self
      have h2 := Nat.mul_lt_mul_of_pos_right h1 (two_pow_pos k)
      rw [← Nat.pow_add] at h2
      rw [show a.log2 + k + 1 = a.log2 + 1 + k by omega]
      exact h2)
    omega
  · refine (Nat.le_log2 hne).2 ?_
    rw [Nat.pow_add]
    exact Nat.mul_le_mul_right _ (Nat.log2_self_le (by omega))
theorem sig_bounds {a : Nat} (h0 : 0 < a) (h : a < 2 ^ 53) : 2 ^ 52 ≤ a * 2 ^ (52 - a.log2) ∧ a * 2 ^ (52 - a.log2) < 2 ^ 53 := by
  have hl := log_lt h0 h
  have e : (a * 2 ^ (52 - a.log2)).log2 = 52 := by rw [log_mul _ _ h0]; omega
  have hne : a * 2 ^ (52 - a.log2) ≠ 0 := Nat.ne_of_gt (Nat.mul_pos h0 (two_pow_pos _))
  have h1 := Nat.log2_self_le hne
  have h2 := Nat.lt_log2_self (n := a * 2 ^ (52 - a.log2))
  rw [e] at h1 h2
  exact ⟨h1, h2⟩
theorem read_place {e : Nat} (he : e ≤ 52) : (-1074 : Int) + ((1075 - e - 1 : Nat) : Int) = -(e : Int) := by omega
theorem rung_lt (e : Nat) {q : Nat} (h : q < 2 ^ 53) : (1074 - e) * 2 ^ 52 + q < 2047 * 2 ^ 52 := by
  have h53 : 2 ^ 53 = 2 * 2 ^ 52 := by decide
  rw [h53] at h
  generalize 2 ^ 52 = B at h ⊢
  have h1 := Nat.mul_le_mul_right B (Nat.sub_le 1074 e)
  omega
theorem rung_lt2 (e : Nat) {q : Nat} (h : q < 2 ^ 53) : (1074 - e) * 2 ^ 52 + q < 2 ^ 63 := Nat.lt_trans (rung_lt e h) (by decide)
set_option maxRecDepth 100000 in
theorem nearest_val (s : Bool) {a : Nat} (k : Nat) (h0 : 0 < a) (h : a < 2 ^ 53) : Ieee.double.nearest s (a * 2 ^ k) (-(k : Int)) = wordOf s a := by
  have hl := log_lt h0 h
  have hne : a * 2 ^ k ≠ 0 := Nat.ne_of_gt (Nat.mul_pos h0 (two_pow_pos k))
  have hlp : Ieee.double.leastPlace = -1074 := by decide
  have hfb : Ieee.double.fractionBits = 52 := rfl
  have hbi : Ieee.double.binade = 2 ^ 52 := rfl
  have hir : Ieee.double.infRung = 2047 * 2 ^ 52 := by decide
  unfold Format.nearest
  rw [if_neg hne]
  have hlast : max (-(k : Int) + ((a * 2 ^ k).log2 : Int) - (Ieee.double.fractionBits : Int)) Ieee.double.leastPlace = -((52 - a.log2 : Nat) : Int) := by
    rw [log_mul _ _ h0, hfb, hlp]; omega
  obtain ⟨h1, h2⟩ := sig_bounds h0 h
  simp only [hlast]
  have hkept : Toward.even.cut s ((a * 2 ^ k) <<< (-(k : Int) - -((52 - a.log2 : Nat) : Int)).toNat) (-((52 - a.log2 : Nat) : Int) - -(k : Int)).toNat = a * 2 ^ (52 - a.log2) := by
    by_cases hk : k ≤ 52 - a.log2
    · rw [show (-((52 - a.log2 : Nat) : Int) - -(k : Int)).toNat = 0 by omega, cut_even0, show (-(k : Int) - -((52 - a.log2 : Nat) : Int)).toNat = 52 - a.log2 - k by omega, Nat.shiftLeft_eq, Nat.mul_assoc, ← Nat.pow_add, show k + (52 - a.log2 - k) = 52 - a.log2 by omega]
    · rw [show (-(k : Int) - -((52 - a.log2 : Nat) : Int)).toNat = 0 by omega, Nat.shiftLeft_zero, show (-((52 - a.log2 : Nat) : Int) - -(k : Int)).toNat = k - (52 - a.log2) by omega]
      exact cut_even h0 (by omega)
  rw [hkept, hlp, hbi, hir, show (-((52 - a.log2 : Nat) : Int) - -1074).toNat = 1074 - (52 - a.log2) by omega]
  unfold wordOf
  rw [Nat.min_eq_left]
  generalize a * 2 ^ (52 - a.log2) = q at h1 h2
  exact Nat.le_of_lt (rung_lt (52 - a.log2) h2)
set_option maxRecDepth 100000 in
theorem read_word (s : Bool) {e q : Nat} (he : e ≤ 52) (h1 : 2 ^ 52 ≤ q) (h2 : q < 2 ^ 53) : Ieee.double.read (Ieee.double.word s ((1074 - e) * 2 ^ 52 + q)) = .number s q (-(e : Int)) := by
  have hsw : Ieee.double.signWeight = 2 ^ 63 := rfl
  have hlp : Ieee.double.leastPlace = -1074 := by decide
  have hbi : Ieee.double.binade = 2 ^ 52 := rfl
  have hir : Ieee.double.infRung = 2047 * 2 ^ 52 := by decide
  have hr := rung_lt2 e h2
  have hr2 := rung_lt e h2
  have hr3 : 2 ^ 52 ≤ (1074 - e) * 2 ^ 52 + q := Nat.le_trans h1 (Nat.le_add_left _ _)
  have hd : ((1074 - e) * 2 ^ 52 + q) / 2 ^ 52 = 1075 - e := by
    rw [Nat.mul_comm, Nat.mul_add_div (by omega)]
    have : q / 2 ^ 52 = 1 := by omega
    omega
  have hm : ((1074 - e) * 2 ^ 52 + q) % 2 ^ 52 = q - 2 ^ 52 := by
    rw [Nat.mul_comm, Nat.mul_add_mod]
    omega
  generalize hrung : (1074 - e) * 2 ^ 52 + q = rung at hr hr2 hr3 hd hm
  have hneg : (Ieee.double.word s rung / 2 ^ 63 % 2 == 1) = s := by
    unfold Format.word
    rw [hsw]
    cases s
    · rw [if_neg (by simp), show rung / 2 ^ 63 = 0 by omega]; rfl
    · rw [if_pos rfl, show (2 ^ 63 + rung) / 2 ^ 63 = 1 by omega]; rfl
  have hrg : Ieee.double.word s rung % 2 ^ 63 = rung := by
    unfold Format.word
    rw [hsw]
    cases s
    · rw [if_neg (by simp)]; omega
    · rw [if_pos rfl]; omega
  unfold Format.read
  simp only [hsw, hneg, hrg, hbi, hir, hlp]
  rw [if_neg (Nat.not_lt.2 hr3), if_pos hr2, hm, hd, Datum.number.injEq]
  exact ⟨rfl, by rw [Nat.add_sub_cancel' h1], read_place he⟩
set_option maxRecDepth 100000 in
theorem write_val {d : Datum} {n : Int} (h : DV d n) (hn : n.natAbs < 2 ^ 53) : FV (Ieee.double.write d) n := by
  obtain ⟨s, k, rfl, hs⟩ := h
  show DV (Ieee.double.read (Ieee.double.nearest s (n.natAbs * 2 ^ k) (-(k : Int)))) n
  by_cases h0 : n = 0
  · subst h0
    have : Ieee.double.nearest s ((0 : Int).natAbs * 2 ^ k) (-(k : Int)) = Ieee.double.word s 0 := by
      unfold Format.nearest
      rw [if_pos (by simp)]
    rw [this]
    obtain ⟨K, hK⟩ : ∃ K : Nat, K = 1074 := ⟨_, rfl⟩
    refine ⟨s, K, ?_, fun h => absurd rfl h⟩
    rw [show (0 : Int).natAbs = 0 from rfl, Nat.zero_mul, hK]
    cases s <;> rfl
  · have h1 : 0 < n.natAbs := by omega
    rw [nearest_val s k h1 hn]
    obtain ⟨b1, b2⟩ := sig_bounds h1 hn
    unfold wordOf
    rw [read_word s (by omega) b1 b2]
    exact ⟨s, _, rfl, hs⟩

/-! ## On bits -/
theorem fv_int (n : Int) (hn : n.natAbs < 2 ^ 53) : FV (FloatKind.f64.nearest n) n := by
  refine write_val (d := .number (n < 0) n.natAbs 0) ⟨decide (n < 0), 0, by simp, fun _ => rfl⟩ hn
theorem fv_add {x y : Nat} {a b : Int} (hx : FV x a) (hy : FV y b) (h : (a + b).natAbs < 2 ^ 53) : ∃ r, floatBits .add .f64 x y = some r ∧ FV r (a + b) := by
  obtain ⟨d, h1, h2⟩ := sum_val hx hy
  refine ⟨Ieee.double.write d, ?_, write_val h2 h⟩
  show ((Ieee.double.read x).sum (Ieee.double.read y)).map Ieee.double.write = _
  rw [h1]; rfl
theorem fv_sub {x y : Nat} {a b : Int} (hx : FV x a) (hy : FV y b) (h : (a - b).natAbs < 2 ^ 53) : ∃ r, floatBits .sub .f64 x y = some r ∧ FV r (a - b) := by
  obtain ⟨d, h1, h2⟩ := sum_val hx (opposite_val hy)
  rw [← Int.sub_eq_add_neg] at h2
  refine ⟨Ieee.double.write d, ?_, write_val h2 h⟩
  show ((Ieee.double.read x).sum (Ieee.double.read y).opposite).map Ieee.double.write = _
  rw [h1]; rfl
theorem fv_mul {x y : Nat} {a b : Int} (hx : FV x a) (hy : FV y b) (h : (a * b).natAbs < 2 ^ 53) : ∃ r, floatBits .mul .f64 x y = some r ∧ FV r (a * b) := by
  obtain ⟨d, h1, h2⟩ := product_val hx hy
  refine ⟨Ieee.double.write d, ?_, write_val h2 h⟩
  show ((Ieee.double.read x).product (Ieee.double.read y)).map Ieee.double.write = _
  rw [h1]; rfl
theorem fv_eq {x y : Nat} {a b : Int} (hx : FV x a) (hy : FV y b) : (Ieee.double.order x y == some .eq) = decide (a = b) := order_val hx hy
theorem fv_toInt {x : Nat} {a : Int} (hx : FV x a) : (FloatKind.f64.decode x).toInt .zero = some a := toInt_val hx
theorem read_flip (x : Nat) : Ieee.double.read (x ^^^ 2 ^ 63) = (Ieee.double.read x).opposite := by
  have hsw : Ieee.double.signWeight = 2 ^ 63 := rfl
  have h1 : (x ^^^ 2 ^ 63) % 2 ^ 63 = x % 2 ^ 63 := by rw [Nat.xor_mod_two_pow]; simp
  have h2 : ((x ^^^ 2 ^ 63) / 2 ^ 63 % 2 == 1) = !(x / 2 ^ 63 % 2 == 1) := by
    rw [← Nat.shiftRight_eq_div_pow, Nat.shiftRight_xor_distrib, Nat.shiftRight_eq_div_pow, Nat.shiftRight_eq_div_pow, Nat.div_self (two_pow_pos 63)]
    have h3 := Nat.xor_mod_two_pow (a := x / 2 ^ 63) (b := 1) (n := 1)
    rw [Nat.pow_one] at h3
    rw [h3]
    rcases Nat.mod_two_eq_zero_or_one (x / 2 ^ 63) with h | h <;> rw [h] <;> rfl
  unfold Format.read
  simp only [hsw, h1, h2]
  split
  · rfl
  · split
    · rfl
    · split <;> rfl
theorem fv_neg {x : Nat} {a : Int} (hx : FV x a) : FV (Op.negFloat .f64 x) (-a) := by
  show DV (Ieee.double.read (x ^^^ 2 ^ 63)) (-a)
  rw [read_flip]
  exact opposite_val hx
end Go.Proofs.Ytkjonflmokapcaa
