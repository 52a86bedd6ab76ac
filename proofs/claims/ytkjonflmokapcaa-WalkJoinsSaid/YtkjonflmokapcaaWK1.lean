/- Package walk: what may be; a number as a complex one; a look. -/
import Derived.Test.YtkjonflmokapcaaProg
import Derived.Test.YtkjonflmokapcaaFL1
import Derived.Test.YtkjonflmokapcaaOwn2
import Derived.Test.YtkjonflmokapcaaRet
set_option linter.unusedVariables false
set_option linter.unusedSimpArgs false
namespace Go.Proofs.Ytkjonflmokapcaa
open Go.RowKit

/-- A complex number that is whole. -/
def CV (a b : Nat) (x y : Int) : Prop := FV a x ∧ FV b y
theorem cv_add {a b c d : Nat} {x y u v : Int} (h1 : CV a b x y) (h2 : CV c d u v) (hx : (x + u).natAbs < 2 ^ 53) (hy : (y + v).natAbs < 2 ^ 53) : ∃ p q, cSumBits .add .f64 a b c d = some (p, q) ∧ CV p q (x + u) (y + v) := by
  obtain ⟨p, e1, g1⟩ := fv_add h1.1 h2.1 hx
  obtain ⟨q, e2, g2⟩ := fv_add h1.2 h2.2 hy
  exact ⟨p, q, by unfold cSumBits; rw [e1, e2]; rfl, g1, g2⟩
theorem cv_mul {a b c d : Nat} {x y u v : Int} (h1 : CV a b x y) (h2 : CV c d u v) (m1 : (x * u).natAbs < 2 ^ 53) (m2 : (y * v).natAbs < 2 ^ 53) (m3 : (x * u - y * v).natAbs < 2 ^ 53) (m4 : (x * v).natAbs < 2 ^ 53) (m5 : (y * u).natAbs < 2 ^ 53) (m6 : (x * v + y * u).natAbs < 2 ^ 53) :
    ∃ p q, cMulBits a b c d = some (p, q) ∧ CV p q (x * u - y * v) (x * v + y * u) := by
  obtain ⟨r1, e1, g1⟩ := fv_mul h1.1 h2.1 m1
  obtain ⟨r2, e2, g2⟩ := fv_mul h1.2 h2.2 m2
  obtain ⟨r3, e3, g3⟩ := fv_sub g1 g2 m3
  obtain ⟨r4, e4, g4⟩ := fv_mul h1.1 h2.2 m4
  obtain ⟨r5, e5, g5⟩ := fv_mul h1.2 h2.1 m5
  obtain ⟨r6, e6, g6⟩ := fv_add g4 g5 m6
  refine ⟨r3, r6, ?_, g3, g6⟩
  unfold cMulBits
  rw [e1, e2]
  simp only [Option.bind_some]
  rw [e3]
  simp only [Option.bind_some]
  rw [e4, e5]
  simp only [Option.bind_some]
  rw [e6]
  rfl
theorem cv_neg {a b : Nat} {x y : Int} (h : CV a b x y) : CV (Op.negFloat .f64 a) (Op.negFloat .f64 b) (-x) (-y) := ⟨fv_neg h.1, fv_neg h.2⟩
theorem cv_int {x y : Int} (hx : x.natAbs < 2 ^ 53) (hy : y.natAbs < 2 ^ 53) : CV (FloatKind.f64.nearest x) (FloatKind.f64.nearest y) x y := ⟨fv_int x hx, fv_int y hy⟩

/-- The parts of a quarter turn. -/
def qre (r : Nat) : Int := if r = 0 then 1 else if r = 2 then -1 else 0
def qim (r : Nat) : Int := if r = 1 then 1 else if r = 3 then -1 else 0

def GR (x y : Int) : Prop := (-1048576 ≤ x ∧ x ≤ 1048576) ∧ (-1048576 ≤ y ∧ y ≤ 1048576)
def WR (x y t : Int) : Prop := GR x y ∧ 0 ≤ t ∧ t < 4
instance (x y : Int) : Decidable (GR x y) := by unfold GR; infer_instance
instance (x y t : Int) : Decidable (WR x y t) := by unfold WR; infer_instance

set_option maxRecDepth 100000 in
theorem g_within (n : Int) (w : World) : Calls Try.prog 90 #[.int .i64 n] w fun e w' => e = .returned (.bool (decide (-1048576 ≤ n ∧ n ≤ 1048576))) ∧ w = w' := by
  by_cases h1 : -1048576 ≤ n
  · by_cases h2 : n ≤ 1048576
    · go_enter Try.func90, Try.ntmps90
      go_wp2
      go_ret
      exact ⟨by simp [h1, h2], rfl⟩
    · go_enter Try.func90, Try.ntmps90
      go_wp2
      go_ret
      exact ⟨by simp [h1, h2], rfl⟩
  · go_enter Try.func90, Try.ntmps90
    go_wp2
    go_ret
    refine ⟨congrArg Ending.returned (congrArg Value.bool ?_), rfl⟩
    first
      | (symm; exact decide_eq_false (fun h => by omega))
      | (simp; omega)
set_option maxRecDepth 100000 in
theorem g_right (x y : Int) (w : World) : Calls Try.prog 58 #[.agg #[.int .i64 x, .int .i64 y]] w fun e w' => e = .returned (.bool (decide (GR x y))) ∧ Upd [] w w' := by
  by_cases h1 : -1048576 ≤ x ∧ x ≤ 1048576
  · have d1 : decide (-1048576 ≤ x ∧ x ≤ 1048576) = true := by simpa using h1
    have hd : decide (GR x y) = decide (-1048576 ≤ y ∧ y ≤ 1048576) := decide_eq_decide.2 ⟨fun h => h.2, fun h => ⟨h1, h⟩⟩
    clear h1
    go_enter Try.func58, Try.ntmps58
    go_wp2_with (go_at_call 90; refine (g_within _ _).mono ?_; rintro e w1 ⟨rfl, rfl⟩)
    go_ret
    refine ⟨congrArg Ending.returned (congrArg Value.bool ?_), (Upd.refl _ _).alloc _⟩
    rw [hd, Bool.decide_and]
  · have d1 : decide (-1048576 ≤ x ∧ x ≤ 1048576) = false := by simpa using h1
    have hd : decide (GR x y) = false := decide_eq_false (fun h => h1 h.1)
    clear h1
    go_enter Try.func58, Try.ntmps58
    go_wp2_with (go_at_call 90; refine (g_within _ _).mono ?_; rintro e w1 ⟨rfl, rfl⟩)
    go_ret
    refine ⟨congrArg Ending.returned (congrArg Value.bool ?_), (Upd.refl _ _).alloc _⟩
    rw [hd]
set_option maxRecDepth 100000 in
theorem w_right (x y t : Int) (w : World) : Calls Try.prog 15 #[.agg #[.int .i64 x, .int .i64 y, .int .i64 t]] w fun e w' => e = .returned (.bool (decide (WR x y t))) ∧ Upd [] w w' := by
  have hb0 := heap_alloc_new w (.cells #[.int .i64 x, .int .i64 y, .int .i64 t] 28)
  have HB0 := Lib.hid hb0
  clear hb0
  by_cases h1 : GR x y
  · have d1 : decide (GR x y) = true := by simpa using h1
    have hd : decide (WR x y t) = decide (0 ≤ t ∧ t < 4) := decide_eq_decide.2 ⟨fun h => h.2, fun h => ⟨h1, h⟩⟩
    clear h1
    by_cases h2 : 0 ≤ t
    · go_enter Try.func15, Try.ntmps15
      go_wp2_with (go_at_call 58; refine (g_right _ _ _).mono ?_; rintro e w1 ⟨rfl, hu1⟩; obtain ⟨k0, k1, k2⟩ := cells3 (hu1.keepb HB0.out (by simp)); have HU1 := Lib.hid (((Upd.refl [] w).alloc _).trans hu1); clear hu1)
      go_ret
      refine ⟨congrArg Ending.returned (congrArg Value.bool ?_), HU1.out⟩
      first
        | (rw [hd]; simp [h2]; done)
        | (simp only [Bool.decide_and] at hd ⊢; rw [hd]; simp; omega)
        | (rw [hd]; simp; omega)
        | (simp; omega)
    · go_enter Try.func15, Try.ntmps15
      go_wp2_with (go_at_call 58; refine (g_right _ _ _).mono ?_; rintro e w1 ⟨rfl, hu1⟩; obtain ⟨k0, k1, k2⟩ := cells3 (hu1.keepb HB0.out (by simp)); have HU1 := Lib.hid (((Upd.refl [] w).alloc _).trans hu1); clear hu1)
      go_ret
      refine ⟨congrArg Ending.returned (congrArg Value.bool ?_), HU1.out⟩
      first
        | (rw [hd]; simp [h2]; done)
        | (simp only [Bool.decide_and] at hd ⊢; rw [hd]; simp; omega)
        | (rw [hd]; simp; omega)
        | (simp; omega)
  · have d1 : decide (GR x y) = false := by simpa using h1
    have hd : decide (WR x y t) = false := decide_eq_false (fun h => h1 h.1)
    clear h1
    go_enter Try.func15, Try.ntmps15
    go_wp2_with (go_at_call 58; refine (g_right _ _ _).mono ?_; rintro e w1 ⟨rfl, hu1⟩; obtain ⟨k0, k1, k2⟩ := cells3 (hu1.keepb HB0.out (by simp)); have HU1 := Lib.hid (((Upd.refl [] w).alloc _).trans hu1); clear hu1)
    go_ret
    refine ⟨congrArg Ending.returned (congrArg Value.bool ?_), HU1.out⟩
    rw [hd]
set_option maxRecDepth 100000 in
theorem w_of (x y : Int) (w : World) : Calls Try.prog 53 #[.agg #[.int .i64 x, .int .i64 y]] w fun e w' => e = .returned (.complex .f64 (FloatKind.f64.nearest x) (FloatKind.f64.nearest y)) ∧ Upd [] w w' := by
  go_enter Try.func53, Try.ntmps53
  go_wp2
  go_ret
  exact ⟨rfl, (Upd.refl _ _).alloc _⟩
def turnW (r : Nat) : Value := if r = 0 then .complex .f64 4607182418800017408 0 else if r = 1 then .complex .f64 0 4607182418800017408 else if r = 2 then .complex .f64 13830554455654793216 0 else .complex .f64 0 13830554455654793216
theorem turn_index (k : Int) : (wrap64 (k.tmod 4 + 4)).tmod 4 = k % 4 := by
  have h1 := Int.tmod_eq_emod (a := k) (b := 4)
  have h2 : wrap64 (k.tmod 4 + 4) = k.tmod 4 + 4 := by
    have h3 : -4 ≤ k.tmod 4 ∧ k.tmod 4 ≤ 4 := by
      rw [h1]; split <;> simp <;> omega
    unfold wrap64
    omega
  rw [h2]
  have h4 : 0 ≤ k.tmod 4 + 4 := by rw [h1]; split <;> simp <;> omega
  rw [Int.tmod_eq_emod_of_nonneg h4, h1]
  split <;> simp <;> omega
theorem run_turn_at {r : Nat} (h : r < 4) (w : World) : (Instr.index 166 (.agg #[.complex .f64 4607182418800017408 0, .complex .f64 0 4607182418800017408, .complex .f64 13830554455654793216 0, .complex .f64 0 13830554455654793216]) (.int .i64 r)).run Try.prog w = .ok (turnW r) w := by
  have hu := Try.underlying166
  have hs : (Try.prog.info? 116).map (·.size) = some 1 := by kernel_rfl
  obtain ⟨i, hi, hsz⟩ : ∃ i, Try.prog.info? 116 = some i ∧ i.size = 1 := by
    cases hx : Try.prog.info? 116 with
    | none => rw [hx] at hs; cases hs
    | some i => rw [hx] at hs; exact ⟨i, rfl, by simpa using hs⟩
  have hc : r = 0 ∨ r = 1 ∨ r = 2 ∨ r = 3 := by omega
  rcases hc with rfl | rfl | rfl | rfl <;> simp [Instr.index, asIntOf, run_underlying hu, sizeOf, typeInfo, hi, hsz, part, turnW]
set_option maxRecDepth 100000 in
theorem w_turn (k : Int) (w : World) : Calls Try.prog 54 #[.int .i64 k] w fun e w' => e = .returned (turnW (k % 4).toNat) ∧ w = w' := by
  have hi := turn_index k
  obtain ⟨r, hr, hrk⟩ : ∃ r : Nat, r < 4 ∧ k % 4 = r := ⟨(k % 4).toNat, by omega, by omega⟩
  rw [hrk] at hi ⊢
  have hx := fun w => run_turn_at hr w
  clear hrk
  go_enter Try.func54, Try.ntmps54
  go_wp2
  go_ret
  exact ⟨rfl, rfl⟩
theorem cv_turn {r : Nat} (h : r < 4) : ∃ a b, turnW r = .complex .f64 a b ∧ CV a b (qre r) (qim r) := by
  have z : FV 0 0 := fv_int 0 (by decide)
  have p : FV 4607182418800017408 1 := ⟨false, 52, rfl, fun _ => rfl⟩
  have n : FV 13830554455654793216 (-1) := ⟨true, 52, rfl, fun _ => rfl⟩
  have : r = 0 ∨ r = 1 ∨ r = 2 ∨ r = 3 := by omega
  rcases this with rfl | rfl | rfl | rfl
  · exact ⟨_, _, rfl, p, z⟩
  · exact ⟨_, _, rfl, z, p⟩
  · exact ⟨_, _, rfl, n, z⟩
  · exact ⟨_, _, rfl, z, n⟩
end Go.Proofs.Ytkjonflmokapcaa
