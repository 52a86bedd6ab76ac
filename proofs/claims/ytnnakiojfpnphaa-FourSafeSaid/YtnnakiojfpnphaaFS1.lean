/- Package site: the cells of a register of four slots. -/
import Derived.Test.YtnnakiojfpnphaaPS5
set_option linter.unusedVariables false
set_option linter.unusedSimpArgs false
namespace Go.Proofs.Ytnnakiojfpnphaa
open Go.RowKit
theorem right4 (wd : Int) (hw : 1 ≤ wd ∧ wd ≤ 4) : rightB 2 0 wd 0 = true := by simp [rightB, wideB]; omega
section
variable (a wd : Int) (w : World)
set_option maxRecDepth 100000 in
set_option maxHeartbeats 4000000 in
theorem c4_latest (hw : 1 ≤ wd ∧ wd ≤ 4) : Calls Try.prog 54 #[.agg #[.int .i64 2, .int .i64 a, .int .i64 0, .int .i64 wd, .int .i64 0], .int .i64 4, .int .i64 0, .int .i64 0] w fun e w' => e = .returned (.int .i64 a) ∧ Upd [] w w' := by
  have hr := right4 wd hw
  have rt : Int := 0
  have HR := Lib.hid fun w => sright_any 0 wd 0 0 0 0 0 0 0 w 2
  rw [hr] at HR
  unfold obA at HR
  clear hr hw
  go_enter Try.func54, Try.ntmps54
  go_wp2_with (go_at_call 19; (with_reducible refine (HR.out _).mono ?_); rintro e w1 ⟨rfl, hu1⟩; obtain ⟨p1, rfl⟩ := hu1.grown; clear hu1)
  (
      go_ret
      exact ⟨rfl, by repeat (first | (with_reducible exact Upd.refl _ _) | (with_reducible apply Upd.drew) | (with_reducible refine Upd.grE ?_ _) | (with_reducible refine Upd.alloc ?_ _))⟩)
set_option maxRecDepth 100000 in
set_option maxHeartbeats 4000000 in
theorem c4_reading (hw : 1 ≤ wd ∧ wd ≤ 4) (ha : 0 ≤ a ∧ a < 1000000) : Calls Try.prog 54 #[.agg #[.int .i64 2, .int .i64 a, .int .i64 0, .int .i64 wd, .int .i64 0], .int .i64 5, .int .i64 0, .int .i64 0] w fun e w' => e = .returned (.int .i64 (a + 1)) ∧ Upd [] w w' := by
  have hr := right4 wd hw
  have HR := Lib.hid fun w => sright_any 0 wd 0 0 0 0 0 0 0 w 2
  rw [hr] at HR
  unfold obA at HR
  have w1 : IntKind.i64.wrap (a + 1) = a + 1 := by rw [IntKind.wrap_i64]; omega
  clear hr hw ha
  go_enter Try.func54, Try.ntmps54
  go_wp2_with (go_at_call 19; (with_reducible refine (HR.out _).mono ?_); rintro e w1 ⟨rfl, hu1⟩; obtain ⟨p1, rfl⟩ := hu1.grown; clear hu1)
  (
      go_ret
      exact ⟨rfl, by repeat (first | (with_reducible exact Upd.refl _ _) | (with_reducible apply Upd.drew) | (with_reducible refine Upd.grE ?_ _) | (with_reducible refine Upd.alloc ?_ _))⟩)
set_option maxRecDepth 100000 in
set_option maxHeartbeats 4000000 in
theorem c4_slot (i : Int) (hw : 1 ≤ wd ∧ wd ≤ 4) (ha : 0 ≤ a ∧ a < 1000000) (hi : 0 ≤ i ∧ i ≤ 1) : Calls Try.prog 54 #[.agg #[.int .i64 2, .int .i64 a, .int .i64 0, .int .i64 wd, .int .i64 0], .int .i64 6, .int .i64 i, .int .i64 0] w fun e w' => e = .returned (.int .i64 (a + 2 + i)) ∧ Upd [] w w' := by
  have hr := right4 wd hw
  have HR := Lib.hid fun w => sright_any 0 wd 0 0 0 0 0 0 0 w 2
  rw [hr] at HR
  unfold obA at HR
  have w1 : IntKind.i64.wrap (a + 2) = a + 2 := by rw [IntKind.wrap_i64]; omega
  have w2 : IntKind.i64.wrap (a + 2 + i) = a + 2 + i := by rw [IntKind.wrap_i64]; omega
  have q1 : decide ((0 : Int) ≤ i) = true := by simp; omega
  have q2 : decide (i ≤ (1 : Int)) = true := by simp; omega
  clear hr hw ha hi
  go_enter Try.func54, Try.ntmps54
  go_wp2_with (first
    | (go_at_call 19; (with_reducible refine (HR.out _).mono ?_); rintro e w1 ⟨rfl, hu1⟩; obtain ⟨p1, rfl⟩ := hu1.grown; clear hu1)
    | (go_at_call 43; (with_reducible refine (swithin _ _ _ _).mono ?_); rintro e w2 ⟨rfl, rfl⟩))
  (
      go_ret
      exact ⟨rfl, by repeat (first | (with_reducible exact Upd.refl _ _) | (with_reducible apply Upd.drew) | (with_reducible refine Upd.grE ?_ _) | (with_reducible refine Upd.alloc ?_ _))⟩)
set_option maxRecDepth 100000 in
set_option maxHeartbeats 4000000 in
theorem c4_data (i v : Int) (hw : 1 ≤ wd ∧ wd ≤ 4) (ha : 0 ≤ a ∧ a < 1000000) (hi : 0 ≤ i ∧ i < 4) (hv : 0 ≤ v ∧ v < wd) : Calls Try.prog 54 #[.agg #[.int .i64 2, .int .i64 a, .int .i64 0, .int .i64 wd, .int .i64 0], .int .i64 3, .int .i64 i, .int .i64 v] w fun e w' => e = .returned (.int .i64 (a + 4 + i * wd + v)) ∧ Upd [] w w' := by
  have hr := right4 wd hw
  have HR := Lib.hid fun w => sright_any 0 wd 0 0 0 0 0 0 0 w 2
  rw [hr] at HR
  unfold obA at HR
  have HO := Lib.hid (fun w => (show Calls Try.prog 64 #[.int .i64 2, .int .i64 0] w fun e w' => e = .returned (.int .i64 4) ∧ w = w' from rooms_c 2 0 w))
  have HA := Lib.hid (fun w => (show Calls Try.prog 63 #[.int .i64 2] w fun e w' => e = .returned (.int .i64 4) ∧ w = w' from ahead_c 2 w))
  have w1 : wrap64 (wd - 1) = wd - 1 := by unfold wrap64; omega
  have q1 : decide ((0 : Int) ≤ i) = true := by simp; omega
  have q2 : decide (i ≤ (3 : Int)) = true := by simp; omega
  have q3 : decide ((0 : Int) ≤ v) = true := by simp; omega
  have q4 : decide (v ≤ wd - 1) = true := by simp; omega
  have HB := Lib.hid (show IntKind.i64.wrap (IntKind.i64.wrap (IntKind.i64.wrap (a + 4) + IntKind.i64.wrap (i * wd)) + v) = a + 4 + i * wd + v by
    have e : i = 0 ∨ i = 1 ∨ i = 2 ∨ i = 3 := by omega
    simp only [IntKind.wrap_i64]
    rcases e with rfl | rfl | rfl | rfl <;> omega)
  clear hr hw ha hi hv
  go_enter Try.func54, Try.ntmps54
  (
      go_wp2_with (first
        | (go_at_call 19; (with_reducible refine (HR.out _).mono ?_); rintro e w1 ⟨rfl, hu1⟩; obtain ⟨p1, rfl⟩ := hu1.grown; clear hu1)
        | (go_at_call 64; (with_reducible refine (HO.out _).mono ?_); rintro e w2 ⟨rfl, rfl⟩)
        | (go_at_call 43; (with_reducible refine (swithin _ _ _ _).mono ?_); rintro e w2 ⟨rfl, rfl⟩)))
  (
      go_region_held3 (fun w' => w'.cell? ⟨w.heap.size, 0, none⟩ = some (.int .i64 2) ∧ w'.cell? ⟨w.heap.size, 1, none⟩ = some (.int .i64 a) ∧ w'.cell? ⟨w.heap.size, 3, none⟩ = some (.int .i64 wd))
          (((try dsimp only); (repeat' apply And.intro) <;> (repeat (first | (with_reducible assumption) | (exact cell_new_at rfl rfl) | (with_reducible apply cell_grE) | (with_reducible apply cell_allocE) | (with_reducible apply cell_drewE)))))
          (first
            | (go_at_call 63; (with_reducible refine (HA.out _).mono ?_); rintro e w2 ⟨rfl, rfl⟩)))
  go_wp2
  go_ret
  refine ⟨congrArg (fun x => Ending.returned (.int .i64 x)) ?_, by repeat (first | (with_reducible exact Upd.refl _ _) | (with_reducible apply Upd.drew) | (with_reducible refine Upd.grE ?_ _) | (with_reducible refine Upd.alloc ?_ _))⟩
  exact HB.out
end
end Go.Proofs.Ytnnakiojfpnphaa
