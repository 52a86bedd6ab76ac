/- Package site: Cell of a place of kinds 2 and 3; of any right place that is no ring's. -/
import Derived.Test.YtnnakiojfpnphaaPS4
set_option linter.unusedVariables false
set_option linter.unusedSimpArgs false
namespace Go.Proofs.Ytnnakiojfpnphaa
open Go.RowKit
section
variable (a wd rt : Int) (w : World)
set_option maxRecDepth 100000 in
set_option maxHeartbeats 4000000 in
theorem cell_word2 (hr : rightB 2 0 wd rt = true) : Calls Try.prog 54 #[.agg #[.int .i64 2, .int .i64 a, .int .i64 0, .int .i64 wd, .int .i64 rt], .int .i64 8, .int .i64 0, .int .i64 0] w fun e w' => e = .returned (.int .i64 (-1)) ∧ Upd [] w w' := by
  (
      have HR := Lib.hid fun w => sright_any 0 wd rt 0 0 0 0 0 0 w 2
      rw [hr] at HR
      unfold obA at HR
      have HO := Lib.hid (fun w => (show Calls Try.prog 64 #[.int .i64 2, .int .i64 0] w fun e w' => e = .returned (.int .i64 (roomsP 2 0)) ∧ w = w' from rooms_c 2 0 w))
      have HA := Lib.hid (fun w => ahead_c 2 w)
      have e1 : roomsP 2 0 = (if 2 = (2 : Int) then 4 else 1) := by decide
      have e2 : aheadP 2 = (if 2 = (2 : Int) then 4 else 1) := by decide
      simp only [e1] at HO
      simp only [e2] at HA
      clear e1 e2 hr)
  go_enter Try.func54, Try.ntmps54
  (
      go_wp2_with (first
        | (go_at_call 19; (with_reducible refine (HR.out _).mono ?_); rintro e w1 ⟨rfl, hu1⟩; obtain ⟨p1, rfl⟩ := hu1.grown; clear hu1)
        | (go_at_call 64; (with_reducible refine (HO.out _).mono ?_); rintro e w2 ⟨rfl, rfl⟩)
        | (go_at_call 43; (with_reducible refine (swithin _ _ _ _).mono ?_); rintro e w2 ⟨rfl, rfl⟩)))
  (
      go_ret
      exact ⟨rfl, by repeat (first | (with_reducible exact Upd.refl _ _) | (with_reducible apply Upd.drew) | (with_reducible refine Upd.grE ?_ _) | (with_reducible refine Upd.alloc ?_ _))⟩)
set_option maxRecDepth 100000 in
set_option maxHeartbeats 4000000 in
theorem cell_word3 (hr : rightB 3 0 wd rt = true) : Calls Try.prog 54 #[.agg #[.int .i64 3, .int .i64 a, .int .i64 0, .int .i64 wd, .int .i64 rt], .int .i64 8, .int .i64 0, .int .i64 0] w fun e w' => e = .returned (.int .i64 (-1)) ∧ Upd [] w w' := by
  (
      have HR := Lib.hid fun w => sright_any 0 wd rt 0 0 0 0 0 0 w 3
      rw [hr] at HR
      unfold obA at HR
      have HO := Lib.hid (fun w => (show Calls Try.prog 64 #[.int .i64 3, .int .i64 0] w fun e w' => e = .returned (.int .i64 (roomsP 3 0)) ∧ w = w' from rooms_c 3 0 w))
      have HA := Lib.hid (fun w => ahead_c 3 w)
      have e1 : roomsP 3 0 = (if 3 = (2 : Int) then 4 else 1) := by decide
      have e2 : aheadP 3 = (if 3 = (2 : Int) then 4 else 1) := by decide
      simp only [e1] at HO
      simp only [e2] at HA
      clear e1 e2 hr)
  go_enter Try.func54, Try.ntmps54
  (
      go_wp2_with (first
        | (go_at_call 19; (with_reducible refine (HR.out _).mono ?_); rintro e w1 ⟨rfl, hu1⟩; obtain ⟨p1, rfl⟩ := hu1.grown; clear hu1)
        | (go_at_call 64; (with_reducible refine (HO.out _).mono ?_); rintro e w2 ⟨rfl, rfl⟩)
        | (go_at_call 43; (with_reducible refine (swithin _ _ _ _).mono ?_); rintro e w2 ⟨rfl, rfl⟩)))
  (
      go_ret
      exact ⟨rfl, by repeat (first | (with_reducible exact Upd.refl _ _) | (with_reducible apply Upd.drew) | (with_reducible refine Upd.grE ?_ _) | (with_reducible refine Upd.alloc ?_ _))⟩)
set_option maxRecDepth 100000 in
set_option maxHeartbeats 4000000 in
theorem cell_data2 (v : Int) (hr : rightB 2 0 wd rt = true) (hv : 0 ≤ v ∧ v < 4) (hw : 1 ≤ wd ∧ wd ≤ 4) (ha : 0 ≤ a ∧ a < 1000000) : Calls Try.prog 54 #[.agg #[.int .i64 2, .int .i64 a, .int .i64 0, .int .i64 wd, .int .i64 rt], .int .i64 3, .int .i64 0, .int .i64 v] w fun e w' => e = .returned (.int .i64 (if v < wd then a + 4 + v else -1)) ∧ Upd [] w w' := by
  have w1 : wrap64 (wd - 1) = wd - 1 := by unfold wrap64; omega
  have q1 : decide ((0 : Int) ≤ v) = true := by simp; omega
  by_cases hlt : v < wd
  · have q2 : decide (v ≤ wd - 1) = true := by simp; omega
    have HB := Lib.hid (And.intro hlt (And.intro hv (And.intro hw ha)))
    rw [if_pos hlt]
    clear hlt hv hw ha
    (
        have HR := Lib.hid fun w => sright_any 0 wd rt 0 0 0 0 0 0 w 2
        rw [hr] at HR
        unfold obA at HR
        have HO := Lib.hid (fun w => (show Calls Try.prog 64 #[.int .i64 2, .int .i64 0] w fun e w' => e = .returned (.int .i64 (roomsP 2 0)) ∧ w = w' from rooms_c 2 0 w))
        have HA := Lib.hid (fun w => ahead_c 2 w)
        have e1 : roomsP 2 0 = (if 2 = (2 : Int) then 4 else 1) := by decide
        have e2 : aheadP 2 = (if 2 = (2 : Int) then 4 else 1) := by decide
        simp only [e1] at HO
        simp only [e2] at HA
        clear e1 e2 hr)
    go_enter Try.func54, Try.ntmps54
    (
        go_wp2_with (first
          | (go_at_call 19; (with_reducible refine (HR.out _).mono ?_); rintro e w1 ⟨rfl, hu1⟩; obtain ⟨p1, rfl⟩ := hu1.grown; clear hu1)
          | (go_at_call 64; (with_reducible refine (HO.out _).mono ?_); rintro e w2 ⟨rfl, rfl⟩)
          | (go_at_call 43; (with_reducible refine (swithin _ _ _ _).mono ?_); rintro e w2 ⟨rfl, rfl⟩)))
    (
        go_region_held3 (fun w' => w'.cell? ⟨w.heap.size, 0, none⟩ = some (.int .i64 2) ∧ w'.cell? ⟨w.heap.size, 1, none⟩ = some (.int .i64 a) ∧ w'.cell? ⟨w.heap.size, 3, none⟩ = some (.int .i64 wd))
            (((try dsimp only); (repeat' apply And.intro) <;> (repeat (first | (with_reducible assumption) | (exact cell_new_at rfl rfl) | (with_reducible apply cell_grE) | (with_reducible apply cell_allocE) | (with_reducible apply cell_drewE)))))
            (first
              | (go_at_call 63; (with_reducible refine (HA.out _).mono ?_); rintro e w2 ⟨rfl, rfl⟩)))
    go_wp2
    go_ret
    refine ⟨congrArg (fun x => Ending.returned (.int .i64 x)) ?_, by repeat (first | (with_reducible exact Upd.refl _ _) | (with_reducible apply Upd.drew) | (with_reducible refine Upd.grE ?_ _) | (with_reducible refine Upd.alloc ?_ _))⟩
    have := HB.out
    simp only [IntKind.wrap_i64]
    omega
  · have q2 : decide (v ≤ wd - 1) = false := by simp; omega
    rw [if_neg hlt]
    clear hlt hv hw ha
    (
        have HR := Lib.hid fun w => sright_any 0 wd rt 0 0 0 0 0 0 w 2
        rw [hr] at HR
        unfold obA at HR
        have HO := Lib.hid (fun w => (show Calls Try.prog 64 #[.int .i64 2, .int .i64 0] w fun e w' => e = .returned (.int .i64 (roomsP 2 0)) ∧ w = w' from rooms_c 2 0 w))
        have HA := Lib.hid (fun w => ahead_c 2 w)
        have e1 : roomsP 2 0 = (if 2 = (2 : Int) then 4 else 1) := by decide
        have e2 : aheadP 2 = (if 2 = (2 : Int) then 4 else 1) := by decide
        simp only [e1] at HO
        simp only [e2] at HA
        clear e1 e2 hr)
    go_enter Try.func54, Try.ntmps54
    (
        go_wp2_with (first
          | (go_at_call 19; (with_reducible refine (HR.out _).mono ?_); rintro e w1 ⟨rfl, hu1⟩; obtain ⟨p1, rfl⟩ := hu1.grown; clear hu1)
          | (go_at_call 64; (with_reducible refine (HO.out _).mono ?_); rintro e w2 ⟨rfl, rfl⟩)
          | (go_at_call 43; (with_reducible refine (swithin _ _ _ _).mono ?_); rintro e w2 ⟨rfl, rfl⟩)))
    (
        go_ret
        exact ⟨rfl, by repeat (first | (with_reducible exact Upd.refl _ _) | (with_reducible apply Upd.drew) | (with_reducible refine Upd.grE ?_ _) | (with_reducible refine Upd.alloc ?_ _))⟩)
set_option maxRecDepth 100000 in
set_option maxHeartbeats 4000000 in
theorem cell_data3 (v : Int) (hr : rightB 3 0 wd rt = true) (hv : 0 ≤ v ∧ v < 4) (hw : 1 ≤ wd ∧ wd ≤ 4) (ha : 0 ≤ a ∧ a < 1000000) : Calls Try.prog 54 #[.agg #[.int .i64 3, .int .i64 a, .int .i64 0, .int .i64 wd, .int .i64 rt], .int .i64 3, .int .i64 0, .int .i64 v] w fun e w' => e = .returned (.int .i64 (if v < wd then a + 1 + v else -1)) ∧ Upd [] w w' := by
  have w1 : wrap64 (wd - 1) = wd - 1 := by unfold wrap64; omega
  have q1 : decide ((0 : Int) ≤ v) = true := by simp; omega
  by_cases hlt : v < wd
  · have q2 : decide (v ≤ wd - 1) = true := by simp; omega
    have HB := Lib.hid (And.intro hlt (And.intro hv (And.intro hw ha)))
    rw [if_pos hlt]
    clear hlt hv hw ha
    (
        have HR := Lib.hid fun w => sright_any 0 wd rt 0 0 0 0 0 0 w 3
        rw [hr] at HR
        unfold obA at HR
        have HO := Lib.hid (fun w => (show Calls Try.prog 64 #[.int .i64 3, .int .i64 0] w fun e w' => e = .returned (.int .i64 (roomsP 3 0)) ∧ w = w' from rooms_c 3 0 w))
        have HA := Lib.hid (fun w => ahead_c 3 w)
        have e1 : roomsP 3 0 = (if 3 = (2 : Int) then 4 else 1) := by decide
        have e2 : aheadP 3 = (if 3 = (2 : Int) then 4 else 1) := by decide
        simp only [e1] at HO
        simp only [e2] at HA
        clear e1 e2 hr)
    go_enter Try.func54, Try.ntmps54
    (
        go_wp2_with (first
          | (go_at_call 19; (with_reducible refine (HR.out _).mono ?_); rintro e w1 ⟨rfl, hu1⟩; obtain ⟨p1, rfl⟩ := hu1.grown; clear hu1)
          | (go_at_call 64; (with_reducible refine (HO.out _).mono ?_); rintro e w2 ⟨rfl, rfl⟩)
          | (go_at_call 43; (with_reducible refine (swithin _ _ _ _).mono ?_); rintro e w2 ⟨rfl, rfl⟩)))
    (
        go_region_held3 (fun w' => w'.cell? ⟨w.heap.size, 0, none⟩ = some (.int .i64 3) ∧ w'.cell? ⟨w.heap.size, 1, none⟩ = some (.int .i64 a) ∧ w'.cell? ⟨w.heap.size, 3, none⟩ = some (.int .i64 wd))
            (((try dsimp only); (repeat' apply And.intro) <;> (repeat (first | (with_reducible assumption) | (exact cell_new_at rfl rfl) | (with_reducible apply cell_grE) | (with_reducible apply cell_allocE) | (with_reducible apply cell_drewE)))))
            (first
              | (go_at_call 63; (with_reducible refine (HA.out _).mono ?_); rintro e w2 ⟨rfl, rfl⟩)))
    go_wp2
    go_ret
    refine ⟨congrArg (fun x => Ending.returned (.int .i64 x)) ?_, by repeat (first | (with_reducible exact Upd.refl _ _) | (with_reducible apply Upd.drew) | (with_reducible refine Upd.grE ?_ _) | (with_reducible refine Upd.alloc ?_ _))⟩
    have := HB.out
    simp only [IntKind.wrap_i64]
    omega
  · have q2 : decide (v ≤ wd - 1) = false := by simp; omega
    rw [if_neg hlt]
    clear hlt hv hw ha
    (
        have HR := Lib.hid fun w => sright_any 0 wd rt 0 0 0 0 0 0 w 3
        rw [hr] at HR
        unfold obA at HR
        have HO := Lib.hid (fun w => (show Calls Try.prog 64 #[.int .i64 3, .int .i64 0] w fun e w' => e = .returned (.int .i64 (roomsP 3 0)) ∧ w = w' from rooms_c 3 0 w))
        have HA := Lib.hid (fun w => ahead_c 3 w)
        have e1 : roomsP 3 0 = (if 3 = (2 : Int) then 4 else 1) := by decide
        have e2 : aheadP 3 = (if 3 = (2 : Int) then 4 else 1) := by decide
        simp only [e1] at HO
        simp only [e2] at HA
        clear e1 e2 hr)
    go_enter Try.func54, Try.ntmps54
    (
        go_wp2_with (first
          | (go_at_call 19; (with_reducible refine (HR.out _).mono ?_); rintro e w1 ⟨rfl, hu1⟩; obtain ⟨p1, rfl⟩ := hu1.grown; clear hu1)
          | (go_at_call 64; (with_reducible refine (HO.out _).mono ?_); rintro e w2 ⟨rfl, rfl⟩)
          | (go_at_call 43; (with_reducible refine (swithin _ _ _ _).mono ?_); rintro e w2 ⟨rfl, rfl⟩)))
    (
        go_ret
        exact ⟨rfl, by repeat (first | (with_reducible exact Upd.refl _ _) | (with_reducible apply Upd.drew) | (with_reducible refine Upd.grE ?_ _) | (with_reducible refine Upd.alloc ?_ _))⟩)
end
/-- Cell of the data's first room, and of the word, of any right place that is no ring's. -/
theorem cellD_c (p : PL) (v : Int) (w : World) (hr : rightB p.k p.cap p.wd p.rt = true) (hk : p.k ≠ 1) (hv : 0 ≤ v ∧ v < 4) (ha : 0 ≤ p.a ∧ p.a < 1000000) :
    Calls Try.prog 54 #[.agg p.A, .int .i64 3, .int .i64 0, .int .i64 v] w fun e w' => e = .returned (.int .i64 (cellD p v)) ∧ Upd [] w w' := by
  obtain ⟨k, a, cap, wd, rt⟩ := p
  unfold cellD PL.A
  simp only at *
  rw [if_pos hr]
  rcases right_kind hr with ⟨rfl, h1, h2, h3, h4, rfl⟩ | ⟨rfl, h1, h2, rfl, rfl⟩ | ⟨rfl, h1, h2, rfl, h3, h4⟩ | ⟨rfl, rfl, rfl, rfl⟩
  · exact absurd rfl hk
  · rw [if_neg (by decide)]
    exact cell_data2 a wd 0 w v hr hv ⟨h1, h2⟩ ha
  · rw [if_neg (by decide)]
    exact cell_data3 a wd rt w v hr hv ⟨h1, h2⟩ ha
  · rw [if_pos rfl]
    exact cell_data4 a w v
theorem cellW_c (p : PL) (w : World) (hr : rightB p.k p.cap p.wd p.rt = true) (hk : p.k ≠ 1) :
    Calls Try.prog 54 #[.agg p.A, .int .i64 8, .int .i64 0, .int .i64 0] w fun e w' => e = .returned (.int .i64 (cellW p)) ∧ Upd [] w w' := by
  obtain ⟨k, a, cap, wd, rt⟩ := p
  unfold cellW PL.A
  simp only at *
  rw [if_pos hr]
  rcases right_kind hr with ⟨rfl, h1, h2, h3, h4, rfl⟩ | ⟨rfl, h1, h2, rfl, rfl⟩ | ⟨rfl, h1, h2, rfl, h3, h4⟩ | ⟨rfl, rfl, rfl, rfl⟩
  · exact absurd rfl hk
  · rw [if_neg (by decide)]
    exact cell_word2 a wd 0 w hr
  · rw [if_neg (by decide)]
    exact cell_word3 a wd rt w hr
  · rw [if_pos rfl]
    exact cell_word4 a w
end Go.Proofs.Ytnnakiojfpnphaa
