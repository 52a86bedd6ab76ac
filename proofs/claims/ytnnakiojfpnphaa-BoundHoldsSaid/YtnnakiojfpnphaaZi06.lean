/- The walk, part 6: PS5 BD1 FS1 LK1 BD8. -/
import Derived.Test.YtnnakiojfpnphaaZi05
import Derived.Test.YtnnakiojfpnphaaZi04
set_option linter.unusedVariables false
set_option linter.unusedSimpArgs false

namespace Go.Proofs.Ytnnakiojfpnphaa
open Go.RowKit
section
variable (a wd rt : Int) (w : World)
set_option maxRecDepth 100000 in
set_option maxHeartbeats 4000000 in
theorem cell_word2 (hr : rightB 2 0 wd rt = true) : Calls Try.prog 54 #[.agg #[.int .i64 2, .int .i64 a, .int .i64 0, .int .i64 wd, .int .i64 rt], .int .i64 8, .int .i64 0, .int .i64 0] w fun e w' => e = .returned (.int .i64 (-1)) ∧ Upd [] w w' := by
  (
      have HR := Lib.hid fun w => sright_any 0 wd rt 0 0 0 0 0 0 w 2
      rw [hr] at HR
      unfold obA at HR
      have HO := Lib.hid (fun w => (show Calls Try.prog 64 #[.int .i64 2, .int .i64 0] w fun e w' => e = .returned (.int .i64 (roomsP 2 0)) ∧ w = w' from rooms_c 2 0 w))
      have HA := Lib.hid (fun w => ahead_c 2 w)
      have e1 : roomsP 2 0 = (if 2 = (2 : Int) then 4 else 1) := by decide
      have e2 : aheadP 2 = (if 2 = (2 : Int) then 4 else 1) := by decide
      simp only [e1] at HO
      simp only [e2] at HA
      clear e1 e2 hr)
  go_enter Try.func54, Try.ntmps54
  (
      go_wp2_with (first
        | (go_at_call 19; (with_reducible refine (HR.out _).mono ?_); rintro e w1 ⟨rfl, hu1⟩; obtain ⟨p1, rfl⟩ := hu1.grown; clear hu1)
        | (go_at_call 64; (with_reducible refine (HO.out _).mono ?_); rintro e w2 ⟨rfl, rfl⟩)
        | (go_at_call 43; (with_reducible refine (swithin _ _ _ _).mono ?_); rintro e w2 ⟨rfl, rfl⟩)))
  (
      go_ret
      exact ⟨rfl, by repeat (first | (with_reducible exact Upd.refl _ _) | (with_reducible apply Upd.drew) | (with_reducible refine Upd.grE ?_ _) | (with_reducible refine Upd.alloc ?_ _))⟩)
set_option maxRecDepth 100000 in
set_option maxHeartbeats 4000000 in
theorem cell_word3 (hr : rightB 3 0 wd rt = true) : Calls Try.prog 54 #[.agg #[.int .i64 3, .int .i64 a, .int .i64 0, .int .i64 wd, .int .i64 rt], .int .i64 8, .int .i64 0, .int .i64 0] w fun e w' => e = .returned (.int .i64 (-1)) ∧ Upd [] w w' := by
  (
      have HR := Lib.hid fun w => sright_any 0 wd rt 0 0 0 0 0 0 w 3
      rw [hr] at HR
      unfold obA at HR
      have HO := Lib.hid (fun w => (show Calls Try.prog 64 #[.int .i64 3, .int .i64 0] w fun e w' => e = .returned (.int .i64 (roomsP 3 0)) ∧ w = w' from rooms_c 3 0 w))
      have HA := Lib.hid (fun w => ahead_c 3 w)
      have e1 : roomsP 3 0 = (if 3 = (2 : Int) then 4 else 1) := by decide
      have e2 : aheadP 3 = (if 3 = (2 : Int) then 4 else 1) := by decide
      simp only [e1] at HO
      simp only [e2] at HA
      clear e1 e2 hr)
  go_enter Try.func54, Try.ntmps54
  (
      go_wp2_with (first
        | (go_at_call 19; (with_reducible refine (HR.out _).mono ?_); rintro e w1 ⟨rfl, hu1⟩; obtain ⟨p1, rfl⟩ := hu1.grown; clear hu1)
        | (go_at_call 64; (with_reducible refine (HO.out _).mono ?_); rintro e w2 ⟨rfl, rfl⟩)
        | (go_at_call 43; (with_reducible refine (swithin _ _ _ _).mono ?_); rintro e w2 ⟨rfl, rfl⟩)))
  (
      go_ret
      exact ⟨rfl, by repeat (first | (with_reducible exact Upd.refl _ _) | (with_reducible apply Upd.drew) | (with_reducible refine Upd.grE ?_ _) | (with_reducible refine Upd.alloc ?_ _))⟩)
set_option maxRecDepth 100000 in
set_option maxHeartbeats 4000000 in
theorem cell_data2 (v : Int) (hr : rightB 2 0 wd rt = true) (hv : 0 ≤ v ∧ v < 4) (hw : 1 ≤ wd ∧ wd ≤ 4) (ha : 0 ≤ a ∧ a < 1000000) : Calls Try.prog 54 #[.agg #[.int .i64 2, .int .i64 a, .int .i64 0, .int .i64 wd, .int .i64 rt], .int .i64 3, .int .i64 0, .int .i64 v] w fun e w' => e = .returned (.int .i64 (if v < wd then a + 4 + v else -1)) ∧ Upd [] w w' := by
  have w1 : wrap64 (wd - 1) = wd - 1 := by unfold wrap64; omega
  have q1 : decide ((0 : Int) ≤ v) = true := by simp; omega
  by_cases hlt : v < wd
  · have q2 : decide (v ≤ wd - 1) = true := by simp; omega
    have HB := Lib.hid (And.intro hlt (And.intro hv (And.intro hw ha)))
    rw [if_pos hlt]
    clear hlt hv hw ha
    (
        have HR := Lib.hid fun w => sright_any 0 wd rt 0 0 0 0 0 0 w 2
        rw [hr] at HR
        unfold obA at HR
        have HO := Lib.hid (fun w => (show Calls Try.prog 64 #[.int .i64 2, .int .i64 0] w fun e w' => e = .returned (.int .i64 (roomsP 2 0)) ∧ w = w' from rooms_c 2 0 w))
        have HA := Lib.hid (fun w => ahead_c 2 w)
        have e1 : roomsP 2 0 = (if 2 = (2 : Int) then 4 else 1) := by decide
        have e2 : aheadP 2 = (if 2 = (2 : Int) then 4 else 1) := by decide
        simp only [e1] at HO
        simp only [e2] at HA
        clear e1 e2 hr)
    go_enter Try.func54, Try.ntmps54
    (
        go_wp2_with (first
          | (go_at_call 19; (with_reducible refine (HR.out _).mono ?_); rintro e w1 ⟨rfl, hu1⟩; obtain ⟨p1, rfl⟩ := hu1.grown; clear hu1)
          | (go_at_call 64; (with_reducible refine (HO.out _).mono ?_); rintro e w2 ⟨rfl, rfl⟩)
          | (go_at_call 43; (with_reducible refine (swithin _ _ _ _).mono ?_); rintro e w2 ⟨rfl, rfl⟩)))
    (
        go_region_held3 (fun w' => w'.cell? ⟨w.heap.size, 0, none⟩ = some (.int .i64 2) ∧ w'.cell? ⟨w.heap.size, 1, none⟩ = some (.int .i64 a) ∧ w'.cell? ⟨w.heap.size, 3, none⟩ = some (.int .i64 wd))
            (((try dsimp only); (repeat' apply And.intro) <;> (repeat (first | (with_reducible assumption) | (exact cell_new_at rfl rfl) | (with_reducible apply cell_grE) | (with_reducible apply cell_allocE) | (with_reducible apply cell_drewE)))))
            (first
              | (go_at_call 63; (with_reducible refine (HA.out _).mono ?_); rintro e w2 ⟨rfl, rfl⟩)))
    go_wp2
    go_ret
    refine ⟨congrArg (fun x => Ending.returned (.int .i64 x)) ?_, by repeat (first | (with_reducible exact Upd.refl _ _) | (with_reducible apply Upd.drew) | (with_reducible refine Upd.grE ?_ _) | (with_reducible refine Upd.alloc ?_ _))⟩
    have := HB.out
    simp only [IntKind.wrap_i64]
    omega
  · have q2 : decide (v ≤ wd - 1) = false := by simp; omega
    rw [if_neg hlt]
    clear hlt hv hw ha
    (
        have HR := Lib.hid fun w => sright_any 0 wd rt 0 0 0 0 0 0 w 2
        rw [hr] at HR
        unfold obA at HR
        have HO := Lib.hid (fun w => (show Calls Try.prog 64 #[.int .i64 2, .int .i64 0] w fun e w' => e = .returned (.int .i64 (roomsP 2 0)) ∧ w = w' from rooms_c 2 0 w))
        have HA := Lib.hid (fun w => ahead_c 2 w)
        have e1 : roomsP 2 0 = (if 2 = (2 : Int) then 4 else 1) := by decide
        have e2 : aheadP 2 = (if 2 = (2 : Int) then 4 else 1) := by decide
        simp only [e1] at HO
        simp only [e2] at HA
        clear e1 e2 hr)
    go_enter Try.func54, Try.ntmps54
    (
        go_wp2_with (first
          | (go_at_call 19; (with_reducible refine (HR.out _).mono ?_); rintro e w1 ⟨rfl, hu1⟩; obtain ⟨p1, rfl⟩ := hu1.grown; clear hu1)
          | (go_at_call 64; (with_reducible refine (HO.out _).mono ?_); rintro e w2 ⟨rfl, rfl⟩)
          | (go_at_call 43; (with_reducible refine (swithin _ _ _ _).mono ?_); rintro e w2 ⟨rfl, rfl⟩)))
    (
        go_ret
        exact ⟨rfl, by repeat (first | (with_reducible exact Upd.refl _ _) | (with_reducible apply Upd.drew) | (with_reducible refine Upd.grE ?_ _) | (with_reducible refine Upd.alloc ?_ _))⟩)
set_option maxRecDepth 100000 in
set_option maxHeartbeats 4000000 in
theorem cell_data3 (v : Int) (hr : rightB 3 0 wd rt = true) (hv : 0 ≤ v ∧ v < 4) (hw : 1 ≤ wd ∧ wd ≤ 4) (ha : 0 ≤ a ∧ a < 1000000) : Calls Try.prog 54 #[.agg #[.int .i64 3, .int .i64 a, .int .i64 0, .int .i64 wd, .int .i64 rt], .int .i64 3, .int .i64 0, .int .i64 v] w fun e w' => e = .returned (.int .i64 (if v < wd then a + 1 + v else -1)) ∧ Upd [] w w' := by
  have w1 : wrap64 (wd - 1) = wd - 1 := by unfold wrap64; omega
  have q1 : decide ((0 : Int) ≤ v) = true := by simp; omega
  by_cases hlt : v < wd
  · have q2 : decide (v ≤ wd - 1) = true := by simp; omega
    have HB := Lib.hid (And.intro hlt (And.intro hv (And.intro hw ha)))
    rw [if_pos hlt]
    clear hlt hv hw ha
    (
        have HR := Lib.hid fun w => sright_any 0 wd rt 0 0 0 0 0 0 w 3
        rw [hr] at HR
        unfold obA at HR
        have HO := Lib.hid (fun w => (show Calls Try.prog 64 #[.int .i64 3, .int .i64 0] w fun e w' => e = .returned (.int .i64 (roomsP 3 0)) ∧ w = w' from rooms_c 3 0 w))
        have HA := Lib.hid (fun w => ahead_c 3 w)
        have e1 : roomsP 3 0 = (if 3 = (2 : Int) then 4 else 1) := by decide
        have e2 : aheadP 3 = (if 3 = (2 : Int) then 4 else 1) := by decide
        simp only [e1] at HO
        simp only [e2] at HA
        clear e1 e2 hr)
    go_enter Try.func54, Try.ntmps54
    (
        go_wp2_with (first
          | (go_at_call 19; (with_reducible refine (HR.out _).mono ?_); rintro e w1 ⟨rfl, hu1⟩; obtain ⟨p1, rfl⟩ := hu1.grown; clear hu1)
          | (go_at_call 64; (with_reducible refine (HO.out _).mono ?_); rintro e w2 ⟨rfl, rfl⟩)
          | (go_at_call 43; (with_reducible refine (swithin _ _ _ _).mono ?_); rintro e w2 ⟨rfl, rfl⟩)))
    (
        go_region_held3 (fun w' => w'.cell? ⟨w.heap.size, 0, none⟩ = some (.int .i64 3) ∧ w'.cell? ⟨w.heap.size, 1, none⟩ = some (.int .i64 a) ∧ w'.cell? ⟨w.heap.size, 3, none⟩ = some (.int .i64 wd))
            (((try dsimp only); (repeat' apply And.intro) <;> (repeat (first | (with_reducible assumption) | (exact cell_new_at rfl rfl) | (with_reducible apply cell_grE) | (with_reducible apply cell_allocE) | (with_reducible apply cell_drewE)))))
            (first
              | (go_at_call 63; (with_reducible refine (HA.out _).mono ?_); rintro e w2 ⟨rfl, rfl⟩)))
    go_wp2
    go_ret
    refine ⟨congrArg (fun x => Ending.returned (.int .i64 x)) ?_, by repeat (first | (with_reducible exact Upd.refl _ _) | (with_reducible apply Upd.drew) | (with_reducible refine Upd.grE ?_ _) | (with_reducible refine Upd.alloc ?_ _))⟩
    have := HB.out
    simp only [IntKind.wrap_i64]
    omega
  · have q2 : decide (v ≤ wd - 1) = false := by simp; omega
    rw [if_neg hlt]
    clear hlt hv hw ha
    (
        have HR := Lib.hid fun w => sright_any 0 wd rt 0 0 0 0 0 0 w 3
        rw [hr] at HR
        unfold obA at HR
        have HO := Lib.hid (fun w => (show Calls Try.prog 64 #[.int .i64 3, .int .i64 0] w fun e w' => e = .returned (.int .i64 (roomsP 3 0)) ∧ w = w' from rooms_c 3 0 w))
        have HA := Lib.hid (fun w => ahead_c 3 w)
        have e1 : roomsP 3 0 = (if 3 = (2 : Int) then 4 else 1) := by decide
        have e2 : aheadP 3 = (if 3 = (2 : Int) then 4 else 1) := by decide
        simp only [e1] at HO
        simp only [e2] at HA
        clear e1 e2 hr)
    go_enter Try.func54, Try.ntmps54
    (
        go_wp2_with (first
          | (go_at_call 19; (with_reducible refine (HR.out _).mono ?_); rintro e w1 ⟨rfl, hu1⟩; obtain ⟨p1, rfl⟩ := hu1.grown; clear hu1)
          | (go_at_call 64; (with_reducible refine (HO.out _).mono ?_); rintro e w2 ⟨rfl, rfl⟩)
          | (go_at_call 43; (with_reducible refine (swithin _ _ _ _).mono ?_); rintro e w2 ⟨rfl, rfl⟩)))
    (
        go_ret
        exact ⟨rfl, by repeat (first | (with_reducible exact Upd.refl _ _) | (with_reducible apply Upd.drew) | (with_reducible refine Upd.grE ?_ _) | (with_reducible refine Upd.alloc ?_ _))⟩)
end
/-- Cell of the data's first room, and of the word, of any right place that is no ring's. -/
theorem cellD_c (p : PL) (v : Int) (w : World) (hr : rightB p.k p.cap p.wd p.rt = true) (hk : p.k ≠ 1) (hv : 0 ≤ v ∧ v < 4) (ha : 0 ≤ p.a ∧ p.a < 1000000) :
    Calls Try.prog 54 #[.agg p.A, .int .i64 3, .int .i64 0, .int .i64 v] w fun e w' => e = .returned (.int .i64 (cellD p v)) ∧ Upd [] w w' := by
  obtain ⟨k, a, cap, wd, rt⟩ := p
  unfold cellD PL.A
  simp only at *
  rw [if_pos hr]
  rcases right_kind hr with ⟨rfl, h1, h2, h3, h4, rfl⟩ | ⟨rfl, h1, h2, rfl, rfl⟩ | ⟨rfl, h1, h2, rfl, h3, h4⟩ | ⟨rfl, rfl, rfl, rfl⟩
  · exact absurd rfl hk
  · rw [if_neg (by decide)]
    exact cell_data2 a wd 0 w v hr hv ⟨h1, h2⟩ ha
  · rw [if_neg (by decide)]
    exact cell_data3 a wd rt w v hr hv ⟨h1, h2⟩ ha
  · rw [if_pos rfl]
    exact cell_data4 a w v
theorem cellW_c (p : PL) (w : World) (hr : rightB p.k p.cap p.wd p.rt = true) (hk : p.k ≠ 1) :
    Calls Try.prog 54 #[.agg p.A, .int .i64 8, .int .i64 0, .int .i64 0] w fun e w' => e = .returned (.int .i64 (cellW p)) ∧ Upd [] w w' := by
  obtain ⟨k, a, cap, wd, rt⟩ := p
  unfold cellW PL.A
  simp only at *
  rw [if_pos hr]
  rcases right_kind hr with ⟨rfl, h1, h2, h3, h4, rfl⟩ | ⟨rfl, h1, h2, rfl, rfl⟩ | ⟨rfl, h1, h2, rfl, h3, h4⟩ | ⟨rfl, rfl, rfl, rfl⟩
  · exact absurd rfl hk
  · rw [if_neg (by decide)]
    exact cell_word2 a wd 0 w hr
  · rw [if_neg (by decide)]
    exact cell_word3 a wd rt w hr
  · rw [if_pos rfl]
    exact cell_word4 a w
end Go.Proofs.Ytnnakiojfpnphaa
namespace Go.Proofs.Ytnnakiojfpnphaa
open Go.RowKit
def actsP (kind k wd rt : Int) : Int :=
  if k = 1 then (if kind = 1 ∨ kind = 2 then wd + 3 else 0)
  else if k = 2 then (if kind = 3 then wd + 4 else if kind = 4 then wd + 3 else 0)
  else if k = 3 then (if kind = 3 then wd + 3 else if kind = 5 then wd + 2 else if kind = 6 then (rt + 1) * (wd + 2) else 0)
  else if kind = 7 ∨ kind = 8 ∨ kind = 9 ∨ kind = 16 ∨ kind = 17 then 1 else 0
set_option maxRecDepth 100000 in
theorem acts_is {w : World} {p : Nat} {k : Int} (K : Int) (hp : w.cell? ⟨p, 0, none⟩ = some (.int .i64 k)) : Calls Try.prog 49 #[.int .i64 K, .pointer (some ⟨p, 0, none⟩)] w fun e w' => e = .returned (.bool (k == K)) ∧ w = w' := by
  go_enter Try.func49, Try.ntmps49
  go_wp2
  go_ret
  exact ⟨rfl, rfl⟩
section
variable (a wd rt cap : Int) (w : World)
set_option maxRecDepth 100000 in
set_option maxHeartbeats 4000000 in
theorem bacts1 (kind : Int) (hr : rightB 1 cap wd 0 = true) : Calls Try.prog 22 #[.int .i64 kind, .agg #[.int .i64 1, .int .i64 a, .int .i64 cap, .int .i64 wd, .int .i64 0]] w fun e w' => e = .returned (.int .i64 (actsP kind 1 wd 0)) ∧ Upd [] w w' := by
  have hb := right_kind hr
  have HR := Lib.hid fun w => sright_any cap wd 0 0 0 0 0 0 0 w 1
  rw [hr] at HR
  unfold obA at HR
  have hmf : ∀ (fn : Fn) (first cap : Array Value) (w : World), (Instr.makeFunc fn first cap).run Try.prog w = .ok (.func fn first cap) w := fun _ _ _ _ => rfl
  have HI := Lib.hid (fun (w : World) (p : Nat) (K : Int) => acts_is (w := w) (p := p) (k := 1) K)
  have e2 : wrap64 (wd + 2) = wd + 2 := by unfold wrap64; omega
  have e3 : wrap64 (wd + 3) = wd + 3 := by unfold wrap64; omega
  have e4 : wrap64 (wd + 4) = wd + 4 := by unfold wrap64; omega
  have E2 := Lib.hid e2
  have E3 := Lib.hid e3
  have E4 := Lib.hid e4
  by_cases hkk : kind = 1 ∨ kind = 2 ∨ kind = 3 ∨ kind = 4 ∨ kind = 5 ∨ kind = 6 ∨ kind = 7 ∨ kind = 8 ∨ kind = 9 ∨ kind = 16 ∨ kind = 17
  · clear hb hr e2 e3 e4
    rcases hkk with rfl | rfl | rfl | rfl | rfl | rfl | rfl | rfl | rfl | rfl | rfl
    all_goals
      go_enter Try.func22, Try.ntmps22
      go_wp2_with (first
        | (go_at_call 19; (with_reducible refine (HR.out _).mono ?_); rintro e w1 ⟨rfl, hu1⟩; obtain ⟨p1, rfl⟩ := hu1.grown; clear hu1)
        | (go_at_call 49; (with_reducible refine (HI.out _ _ _ (by first | (apply cell_grE; repeat (first | exact cell_new_at rfl rfl | apply cell_allocE)))).mono ?_); rintro e w2 ⟨rfl, rfl⟩))
      go_ret
      refine ⟨congrArg (fun x => Ending.returned (.int .i64 x)) ?_, by repeat (first | (with_reducible exact Upd.refl _ _) | (with_reducible apply Upd.drew) | (with_reducible refine Upd.grE ?_ _) | (with_reducible refine Upd.alloc ?_ _))⟩
      first | rfl | (simp [actsP, E3.out]; done) | (simp [actsP, E3.out]; done)
  · have hz : actsP kind 1 wd 0 = 0 := by unfold actsP; simp; omega
    rw [hz]
    have q1 : (kind == 1) = false := by simp; omega
    have q2 : (kind == 2) = false := by simp; omega
    have q3 : (kind == 3) = false := by simp; omega
    have q4 : (kind == 4) = false := by simp; omega
    have q5 : (kind == 5) = false := by simp; omega
    have q6 : (kind == 6) = false := by simp; omega
    have q7 : (kind == 7) = false := by simp; omega
    have q8 : (kind == 8) = false := by simp; omega
    have q9 : (kind == 9) = false := by simp; omega
    have q16 : (kind == 16) = false := by simp; omega
    have q17 : (kind == 17) = false := by simp; omega
    clear hb hr hkk hz
    go_enter Try.func22, Try.ntmps22
    go_wp2_with (first
      | (go_at_call 19; (with_reducible refine (HR.out _).mono ?_); rintro e w1 ⟨rfl, hu1⟩; obtain ⟨p1, rfl⟩ := hu1.grown; clear hu1)
      | (go_at_call 49; (with_reducible refine (HI.out _ _ _ (by first | (apply cell_grE; repeat (first | exact cell_new_at rfl rfl | apply cell_allocE)))).mono ?_); rintro e w2 ⟨rfl, rfl⟩))
    go_ret
    exact ⟨rfl, by repeat (first | (with_reducible exact Upd.refl _ _) | (with_reducible apply Upd.drew) | (with_reducible refine Upd.grE ?_ _) | (with_reducible refine Upd.alloc ?_ _))⟩
set_option maxRecDepth 100000 in
set_option maxHeartbeats 4000000 in
theorem bacts2 (kind : Int) (hr : rightB 2 0 wd 0 = true) : Calls Try.prog 22 #[.int .i64 kind, .agg #[.int .i64 2, .int .i64 a, .int .i64 0, .int .i64 wd, .int .i64 0]] w fun e w' => e = .returned (.int .i64 (actsP kind 2 wd 0)) ∧ Upd [] w w' := by
  have hb := right_kind hr
  have HR := Lib.hid fun w => sright_any 0 wd 0 0 0 0 0 0 0 w 2
  rw [hr] at HR
  unfold obA at HR
  have hmf : ∀ (fn : Fn) (first cap : Array Value) (w : World), (Instr.makeFunc fn first cap).run Try.prog w = .ok (.func fn first cap) w := fun _ _ _ _ => rfl
  have HI := Lib.hid (fun (w : World) (p : Nat) (K : Int) => acts_is (w := w) (p := p) (k := 2) K)
  have e2 : wrap64 (wd + 2) = wd + 2 := by unfold wrap64; omega
  have e3 : wrap64 (wd + 3) = wd + 3 := by unfold wrap64; omega
  have e4 : wrap64 (wd + 4) = wd + 4 := by unfold wrap64; omega
  have E2 := Lib.hid e2
  have E3 := Lib.hid e3
  have E4 := Lib.hid e4
  by_cases hkk : kind = 1 ∨ kind = 2 ∨ kind = 3 ∨ kind = 4 ∨ kind = 5 ∨ kind = 6 ∨ kind = 7 ∨ kind = 8 ∨ kind = 9 ∨ kind = 16 ∨ kind = 17
  · clear hb hr e2 e3 e4
    rcases hkk with rfl | rfl | rfl | rfl | rfl | rfl | rfl | rfl | rfl | rfl | rfl
    all_goals
      go_enter Try.func22, Try.ntmps22
      go_wp2_with (first
        | (go_at_call 19; (with_reducible refine (HR.out _).mono ?_); rintro e w1 ⟨rfl, hu1⟩; obtain ⟨p1, rfl⟩ := hu1.grown; clear hu1)
        | (go_at_call 49; (with_reducible refine (HI.out _ _ _ (by first | (apply cell_grE; repeat (first | exact cell_new_at rfl rfl | apply cell_allocE)))).mono ?_); rintro e w2 ⟨rfl, rfl⟩))
      go_ret
      refine ⟨congrArg (fun x => Ending.returned (.int .i64 x)) ?_, by repeat (first | (with_reducible exact Upd.refl _ _) | (with_reducible apply Upd.drew) | (with_reducible refine Upd.grE ?_ _) | (with_reducible refine Upd.alloc ?_ _))⟩
      first | rfl | (simp [actsP, E3.out, E4.out]; done) | (simp [actsP, E3.out, E4.out]; done)
  · have hz : actsP kind 2 wd 0 = 0 := by unfold actsP; simp; omega
    rw [hz]
    have q1 : (kind == 1) = false := by simp; omega
    have q2 : (kind == 2) = false := by simp; omega
    have q3 : (kind == 3) = false := by simp; omega
    have q4 : (kind == 4) = false := by simp; omega
    have q5 : (kind == 5) = false := by simp; omega
    have q6 : (kind == 6) = false := by simp; omega
    have q7 : (kind == 7) = false := by simp; omega
    have q8 : (kind == 8) = false := by simp; omega
    have q9 : (kind == 9) = false := by simp; omega
    have q16 : (kind == 16) = false := by simp; omega
    have q17 : (kind == 17) = false := by simp; omega
    clear hb hr hkk hz
    go_enter Try.func22, Try.ntmps22
    go_wp2_with (first
      | (go_at_call 19; (with_reducible refine (HR.out _).mono ?_); rintro e w1 ⟨rfl, hu1⟩; obtain ⟨p1, rfl⟩ := hu1.grown; clear hu1)
      | (go_at_call 49; (with_reducible refine (HI.out _ _ _ (by first | (apply cell_grE; repeat (first | exact cell_new_at rfl rfl | apply cell_allocE)))).mono ?_); rintro e w2 ⟨rfl, rfl⟩))
    go_ret
    exact ⟨rfl, by repeat (first | (with_reducible exact Upd.refl _ _) | (with_reducible apply Upd.drew) | (with_reducible refine Upd.grE ?_ _) | (with_reducible refine Upd.alloc ?_ _))⟩
set_option maxRecDepth 100000 in
set_option maxHeartbeats 4000000 in
theorem bacts3 (kind : Int) (hr : rightB 3 0 wd rt = true) : Calls Try.prog 22 #[.int .i64 kind, .agg #[.int .i64 3, .int .i64 a, .int .i64 0, .int .i64 wd, .int .i64 rt]] w fun e w' => e = .returned (.int .i64 (actsP kind 3 wd rt)) ∧ Upd [] w w' := by
  have hb := right_kind hr
  have HR := Lib.hid fun w => sright_any 0 wd rt 0 0 0 0 0 0 w 3
  rw [hr] at HR
  unfold obA at HR
  have hmf : ∀ (fn : Fn) (first cap : Array Value) (w : World), (Instr.makeFunc fn first cap).run Try.prog w = .ok (.func fn first cap) w := fun _ _ _ _ => rfl
  have HI := Lib.hid (fun (w : World) (p : Nat) (K : Int) => acts_is (w := w) (p := p) (k := 3) K)
  have e2 : wrap64 (wd + 2) = wd + 2 := by unfold wrap64; omega
  have e3 : wrap64 (wd + 3) = wd + 3 := by unfold wrap64; omega
  have e4 : wrap64 (wd + 4) = wd + 4 := by unfold wrap64; omega
  have E2 := Lib.hid e2
  have E3 := Lib.hid e3
  have E4 := Lib.hid e4
  have e5 : wrap64 (rt + 1) = rt + 1 := by unfold wrap64; omega
  have e6 : wrap64 ((rt + 1) * (wd + 2)) = (rt + 1) * (wd + 2) := by
    have e : wd = 1 ∨ wd = 2 ∨ wd = 3 ∨ wd = 4 := by omega
    unfold wrap64
    rcases e with rfl | rfl | rfl | rfl <;> omega
  have E5 := Lib.hid e5
  have E6 := Lib.hid e6
  by_cases hkk : kind = 1 ∨ kind = 2 ∨ kind = 3 ∨ kind = 4 ∨ kind = 5 ∨ kind = 6 ∨ kind = 7 ∨ kind = 8 ∨ kind = 9 ∨ kind = 16 ∨ kind = 17
  · clear hb hr e2 e3 e4
    rcases hkk with rfl | rfl | rfl | rfl | rfl | rfl | rfl | rfl | rfl | rfl | rfl
    all_goals
      go_enter Try.func22, Try.ntmps22
      go_wp2_with (first
        | (go_at_call 19; (with_reducible refine (HR.out _).mono ?_); rintro e w1 ⟨rfl, hu1⟩; obtain ⟨p1, rfl⟩ := hu1.grown; clear hu1)
        | (go_at_call 49; (with_reducible refine (HI.out _ _ _ (by first | (apply cell_grE; repeat (first | exact cell_new_at rfl rfl | apply cell_allocE)))).mono ?_); rintro e w2 ⟨rfl, rfl⟩))
      go_ret
      refine ⟨congrArg (fun x => Ending.returned (.int .i64 x)) ?_, by repeat (first | (with_reducible exact Upd.refl _ _) | (with_reducible apply Upd.drew) | (with_reducible refine Upd.grE ?_ _) | (with_reducible refine Upd.alloc ?_ _))⟩
      first | rfl | (simp [actsP, E2.out, E3.out, E5.out, E6.out]; done) | (simp [actsP, E2.out, E3.out, E5.out, E6.out]; done)
  · have hz : actsP kind 3 wd rt = 0 := by unfold actsP; simp; omega
    rw [hz]
    have q1 : (kind == 1) = false := by simp; omega
    have q2 : (kind == 2) = false := by simp; omega
    have q3 : (kind == 3) = false := by simp; omega
    have q4 : (kind == 4) = false := by simp; omega
    have q5 : (kind == 5) = false := by simp; omega
    have q6 : (kind == 6) = false := by simp; omega
    have q7 : (kind == 7) = false := by simp; omega
    have q8 : (kind == 8) = false := by simp; omega
    have q9 : (kind == 9) = false := by simp; omega
    have q16 : (kind == 16) = false := by simp; omega
    have q17 : (kind == 17) = false := by simp; omega
    clear hb hr hkk hz
    go_enter Try.func22, Try.ntmps22
    go_wp2_with (first
      | (go_at_call 19; (with_reducible refine (HR.out _).mono ?_); rintro e w1 ⟨rfl, hu1⟩; obtain ⟨p1, rfl⟩ := hu1.grown; clear hu1)
      | (go_at_call 49; (with_reducible refine (HI.out _ _ _ (by first | (apply cell_grE; repeat (first | exact cell_new_at rfl rfl | apply cell_allocE)))).mono ?_); rintro e w2 ⟨rfl, rfl⟩))
    go_ret
    exact ⟨rfl, by repeat (first | (with_reducible exact Upd.refl _ _) | (with_reducible apply Upd.drew) | (with_reducible refine Upd.grE ?_ _) | (with_reducible refine Upd.alloc ?_ _))⟩
set_option maxRecDepth 100000 in
set_option maxHeartbeats 4000000 in
theorem bacts4 (kind : Int) (hr : rightB 4 0 0 0 = true) : Calls Try.prog 22 #[.int .i64 kind, .agg #[.int .i64 4, .int .i64 a, .int .i64 0, .int .i64 0, .int .i64 0]] w fun e w' => e = .returned (.int .i64 (actsP kind 4 0 0)) ∧ Upd [] w w' := by
  have hb := right_kind hr
  have HR := Lib.hid fun w => sright_any 0 0 0 0 0 0 0 0 0 w 4
  rw [hr] at HR
  unfold obA at HR
  have hmf : ∀ (fn : Fn) (first cap : Array Value) (w : World), (Instr.makeFunc fn first cap).run Try.prog w = .ok (.func fn first cap) w := fun _ _ _ _ => rfl
  have HI := Lib.hid (fun (w : World) (p : Nat) (K : Int) => acts_is (w := w) (p := p) (k := 4) K)
  by_cases hkk : kind = 1 ∨ kind = 2 ∨ kind = 3 ∨ kind = 4 ∨ kind = 5 ∨ kind = 6 ∨ kind = 7 ∨ kind = 8 ∨ kind = 9 ∨ kind = 16 ∨ kind = 17
  · clear hb hr
    rcases hkk with rfl | rfl | rfl | rfl | rfl | rfl | rfl | rfl | rfl | rfl | rfl
    all_goals
      go_enter Try.func22, Try.ntmps22
      go_wp2_with (first
        | (go_at_call 19; (with_reducible refine (HR.out _).mono ?_); rintro e w1 ⟨rfl, hu1⟩; obtain ⟨p1, rfl⟩ := hu1.grown; clear hu1)
        | (go_at_call 49; (with_reducible refine (HI.out _ _ _ (by first | (apply cell_grE; repeat (first | exact cell_new_at rfl rfl | apply cell_allocE)))).mono ?_); rintro e w2 ⟨rfl, rfl⟩))
      go_ret
      refine ⟨congrArg (fun x => Ending.returned (.int .i64 x)) ?_, by repeat (first | (with_reducible exact Upd.refl _ _) | (with_reducible apply Upd.drew) | (with_reducible refine Upd.grE ?_ _) | (with_reducible refine Upd.alloc ?_ _))⟩
      first | rfl | (simp [actsP, actsP]; done) | (simp [actsP, actsP]; done)
  · have hz : actsP kind 4 0 0 = 0 := by unfold actsP; simp; omega
    rw [hz]
    have q1 : (kind == 1) = false := by simp; omega
    have q2 : (kind == 2) = false := by simp; omega
    have q3 : (kind == 3) = false := by simp; omega
    have q4 : (kind == 4) = false := by simp; omega
    have q5 : (kind == 5) = false := by simp; omega
    have q6 : (kind == 6) = false := by simp; omega
    have q7 : (kind == 7) = false := by simp; omega
    have q8 : (kind == 8) = false := by simp; omega
    have q9 : (kind == 9) = false := by simp; omega
    have q16 : (kind == 16) = false := by simp; omega
    have q17 : (kind == 17) = false := by simp; omega
    clear hb hr hkk hz
    go_enter Try.func22, Try.ntmps22
    go_wp2_with (first
      | (go_at_call 19; (with_reducible refine (HR.out _).mono ?_); rintro e w1 ⟨rfl, hu1⟩; obtain ⟨p1, rfl⟩ := hu1.grown; clear hu1)
      | (go_at_call 49; (with_reducible refine (HI.out _ _ _ (by first | (apply cell_grE; repeat (first | exact cell_new_at rfl rfl | apply cell_allocE)))).mono ?_); rintro e w2 ⟨rfl, rfl⟩))
    go_ret
    exact ⟨rfl, by repeat (first | (with_reducible exact Upd.refl _ _) | (with_reducible apply Upd.drew) | (with_reducible refine Upd.grE ?_ _) | (with_reducible refine Upd.alloc ?_ _))⟩
end
end Go.Proofs.Ytnnakiojfpnphaa
namespace Go.Proofs.Ytnnakiojfpnphaa
open Go.RowKit
theorem right4 (wd : Int) (hw : 1 ≤ wd ∧ wd ≤ 4) : rightB 2 0 wd 0 = true := by simp [rightB, wideB]; omega
section
variable (a wd : Int) (w : World)
set_option maxRecDepth 100000 in
set_option maxHeartbeats 4000000 in
theorem c4_latest (hw : 1 ≤ wd ∧ wd ≤ 4) : Calls Try.prog 54 #[.agg #[.int .i64 2, .int .i64 a, .int .i64 0, .int .i64 wd, .int .i64 0], .int .i64 4, .int .i64 0, .int .i64 0] w fun e w' => e = .returned (.int .i64 a) ∧ Upd [] w w' := by
  have hr := right4 wd hw
  have rt : Int := 0
  have HR := Lib.hid fun w => sright_any 0 wd 0 0 0 0 0 0 0 w 2
  rw [hr] at HR
  unfold obA at HR
  clear hr hw
  go_enter Try.func54, Try.ntmps54
  go_wp2_with (go_at_call 19; (with_reducible refine (HR.out _).mono ?_); rintro e w1 ⟨rfl, hu1⟩; obtain ⟨p1, rfl⟩ := hu1.grown; clear hu1)
  (
      go_ret
      exact ⟨rfl, by repeat (first | (with_reducible exact Upd.refl _ _) | (with_reducible apply Upd.drew) | (with_reducible refine Upd.grE ?_ _) | (with_reducible refine Upd.alloc ?_ _))⟩)
set_option maxRecDepth 100000 in
set_option maxHeartbeats 4000000 in
theorem c4_reading (hw : 1 ≤ wd ∧ wd ≤ 4) (ha : 0 ≤ a ∧ a < 1000000) : Calls Try.prog 54 #[.agg #[.int .i64 2, .int .i64 a, .int .i64 0, .int .i64 wd, .int .i64 0], .int .i64 5, .int .i64 0, .int .i64 0] w fun e w' => e = .returned (.int .i64 (a + 1)) ∧ Upd [] w w' := by
  have hr := right4 wd hw
  have HR := Lib.hid fun w => sright_any 0 wd 0 0 0 0 0 0 0 w 2
  rw [hr] at HR
  unfold obA at HR
  have w1 : IntKind.i64.wrap (a + 1) = a + 1 := by rw [IntKind.wrap_i64]; omega
  clear hr hw ha
  go_enter Try.func54, Try.ntmps54
  go_wp2_with (go_at_call 19; (with_reducible refine (HR.out _).mono ?_); rintro e w1 ⟨rfl, hu1⟩; obtain ⟨p1, rfl⟩ := hu1.grown; clear hu1)
  (
      go_ret
      exact ⟨rfl, by repeat (first | (with_reducible exact Upd.refl _ _) | (with_reducible apply Upd.drew) | (with_reducible refine Upd.grE ?_ _) | (with_reducible refine Upd.alloc ?_ _))⟩)
set_option maxRecDepth 100000 in
set_option maxHeartbeats 4000000 in
theorem c4_slot (i : Int) (hw : 1 ≤ wd ∧ wd ≤ 4) (ha : 0 ≤ a ∧ a < 1000000) (hi : 0 ≤ i ∧ i ≤ 1) : Calls Try.prog 54 #[.agg #[.int .i64 2, .int .i64 a, .int .i64 0, .int .i64 wd, .int .i64 0], .int .i64 6, .int .i64 i, .int .i64 0] w fun e w' => e = .returned (.int .i64 (a + 2 + i)) ∧ Upd [] w w' := by
  have hr := right4 wd hw
  have HR := Lib.hid fun w => sright_any 0 wd 0 0 0 0 0 0 0 w 2
  rw [hr] at HR
  unfold obA at HR
  have w1 : IntKind.i64.wrap (a + 2) = a + 2 := by rw [IntKind.wrap_i64]; omega
  have w2 : IntKind.i64.wrap (a + 2 + i) = a + 2 + i := by rw [IntKind.wrap_i64]; omega
  have q1 : decide ((0 : Int) ≤ i) = true := by simp; omega
  have q2 : decide (i ≤ (1 : Int)) = true := by simp; omega
  clear hr hw ha hi
  go_enter Try.func54, Try.ntmps54
  go_wp2_with (first
    | (go_at_call 19; (with_reducible refine (HR.out _).mono ?_); rintro e w1 ⟨rfl, hu1⟩; obtain ⟨p1, rfl⟩ := hu1.grown; clear hu1)
    | (go_at_call 43; (with_reducible refine (swithin _ _ _ _).mono ?_); rintro e w2 ⟨rfl, rfl⟩))
  (
      go_ret
      exact ⟨rfl, by repeat (first | (with_reducible exact Upd.refl _ _) | (with_reducible apply Upd.drew) | (with_reducible refine Upd.grE ?_ _) | (with_reducible refine Upd.alloc ?_ _))⟩)
set_option maxRecDepth 100000 in
set_option maxHeartbeats 4000000 in
theorem c4_data (i v : Int) (hw : 1 ≤ wd ∧ wd ≤ 4) (ha : 0 ≤ a ∧ a < 1000000) (hi : 0 ≤ i ∧ i < 4) (hv : 0 ≤ v ∧ v < wd) : Calls Try.prog 54 #[.agg #[.int .i64 2, .int .i64 a, .int .i64 0, .int .i64 wd, .int .i64 0], .int .i64 3, .int .i64 i, .int .i64 v] w fun e w' => e = .returned (.int .i64 (a + 4 + i * wd + v)) ∧ Upd [] w w' := by
  have hr := right4 wd hw
  have HR := Lib.hid fun w => sright_any 0 wd 0 0 0 0 0 0 0 w 2
  rw [hr] at HR
  unfold obA at HR
  have HO := Lib.hid (fun w => (show Calls Try.prog 64 #[.int .i64 2, .int .i64 0] w fun e w' => e = .returned (.int .i64 4) ∧ w = w' from rooms_c 2 0 w))
  have HA := Lib.hid (fun w => (show Calls Try.prog 63 #[.int .i64 2] w fun e w' => e = .returned (.int .i64 4) ∧ w = w' from ahead_c 2 w))
  have w1 : wrap64 (wd - 1) = wd - 1 := by unfold wrap64; omega
  have q1 : decide ((0 : Int) ≤ i) = true := by simp; omega
  have q2 : decide (i ≤ (3 : Int)) = true := by simp; omega
  have q3 : decide ((0 : Int) ≤ v) = true := by simp; omega
  have q4 : decide (v ≤ wd - 1) = true := by simp; omega
  have HB := Lib.hid (show IntKind.i64.wrap (IntKind.i64.wrap (IntKind.i64.wrap (a + 4) + IntKind.i64.wrap (i * wd)) + v) = a + 4 + i * wd + v by
    have e : i = 0 ∨ i = 1 ∨ i = 2 ∨ i = 3 := by omega
    simp only [IntKind.wrap_i64]
    rcases e with rfl | rfl | rfl | rfl <;> omega)
  clear hr hw ha hi hv
  go_enter Try.func54, Try.ntmps54
  (
      go_wp2_with (first
        | (go_at_call 19; (with_reducible refine (HR.out _).mono ?_); rintro e w1 ⟨rfl, hu1⟩; obtain ⟨p1, rfl⟩ := hu1.grown; clear hu1)
        | (go_at_call 64; (with_reducible refine (HO.out _).mono ?_); rintro e w2 ⟨rfl, rfl⟩)
        | (go_at_call 43; (with_reducible refine (swithin _ _ _ _).mono ?_); rintro e w2 ⟨rfl, rfl⟩)))
  (
      go_region_held3 (fun w' => w'.cell? ⟨w.heap.size, 0, none⟩ = some (.int .i64 2) ∧ w'.cell? ⟨w.heap.size, 1, none⟩ = some (.int .i64 a) ∧ w'.cell? ⟨w.heap.size, 3, none⟩ = some (.int .i64 wd))
          (((try dsimp only); (repeat' apply And.intro) <;> (repeat (first | (with_reducible assumption) | (exact cell_new_at rfl rfl) | (with_reducible apply cell_grE) | (with_reducible apply cell_allocE) | (with_reducible apply cell_drewE)))))
          (first
            | (go_at_call 63; (with_reducible refine (HA.out _).mono ?_); rintro e w2 ⟨rfl, rfl⟩)))
  go_wp2
  go_ret
  refine ⟨congrArg (fun x => Ending.returned (.int .i64 x)) ?_, by repeat (first | (with_reducible exact Upd.refl _ _) | (with_reducible apply Upd.drew) | (with_reducible refine Upd.grE ?_ _) | (with_reducible refine Upd.alloc ?_ _))⟩
  exact HB.out
end
end Go.Proofs.Ytnnakiojfpnphaa
namespace Go.Proofs.Ytnnakiojfpnphaa
open Go.RowKit
theorem right3 (wd rt : Int) (hw : 1 ≤ wd ∧ wd ≤ 4) (hr : 0 ≤ rt ∧ rt ≤ 8) : rightB 3 0 wd rt = true := by simp [rightB, wideB]; omega
section
variable (a wd rt : Int) (w : World)
set_option maxRecDepth 100000 in
set_option maxHeartbeats 4000000 in
theorem c3_seq (hw : 1 ≤ wd ∧ wd ≤ 4) (hrt : 0 ≤ rt ∧ rt ≤ 8) : Calls Try.prog 54 #[.agg #[.int .i64 3, .int .i64 a, .int .i64 0, .int .i64 wd, .int .i64 rt], .int .i64 7, .int .i64 0, .int .i64 0] w fun e w' => e = .returned (.int .i64 a) ∧ Upd [] w w' := by
  have hr := right3 wd rt hw hrt
  have HR := Lib.hid fun w => sright_any 0 wd rt 0 0 0 0 0 0 w 3
  rw [hr] at HR
  unfold obA at HR
  clear hr hw hrt
  go_enter Try.func54, Try.ntmps54
  go_wp2_with (go_at_call 19; (with_reducible refine (HR.out _).mono ?_); rintro e w1 ⟨rfl, hu1⟩; obtain ⟨p1, rfl⟩ := hu1.grown; clear hu1)
  (
      go_ret
      exact ⟨rfl, by repeat (first | (with_reducible exact Upd.refl _ _) | (with_reducible apply Upd.drew) | (with_reducible refine Upd.grE ?_ _) | (with_reducible refine Upd.alloc ?_ _))⟩)
theorem c3_data (v : Int) (hw : 1 ≤ wd ∧ wd ≤ 4) (hrt : 0 ≤ rt ∧ rt ≤ 8) (ha : 0 ≤ a ∧ a < 1000000) (hv : 0 ≤ v ∧ v < wd) : Calls Try.prog 54 #[.agg #[.int .i64 3, .int .i64 a, .int .i64 0, .int .i64 wd, .int .i64 rt], .int .i64 3, .int .i64 0, .int .i64 v] w fun e w' => e = .returned (.int .i64 (a + 1 + v)) ∧ Upd [] w w' := by
  have h := cell_data3 a wd rt w v (right3 wd rt hw hrt) ⟨hv.1, by omega⟩ hw ha
  rw [if_pos hv.2] at h
  exact h
end
end Go.Proofs.Ytnnakiojfpnphaa
namespace Go.Proofs.Ytnnakiojfpnphaa
open Go.RowKit
set_option maxRecDepth 100000 in
set_option maxHeartbeats 4000000 in
theorem gap_clip (n m : Int) (h0 : 0 ≤ n) (hm : n ≤ m) (w : World) : Calls Try.prog 62 #[.int .i64 n, .int .i64 m] w fun e w' => e = .returned (.int .i64 n) ∧ w = w' := by
  have q1 : max n 0 = n := by omega
  have q2 : min n m = n := by omega
  have q3 : decide (n < 0) = false := by simp; omega
  have q4 : decide (m < n) = false := by simp; omega
  go_enter Try.func62, Try.ntmps62
  go_wp2
  go_ret
  exact ⟨by first | rfl | (simp [q1, q2, q3, q4]; done), rfl⟩
set_option maxRecDepth 100000 in
set_option maxHeartbeats 4000000 in
theorem gap111 (w : World) : Calls Try.prog 46 #[.int .i64 1, .int .i64 1, .int .i64 1] w fun e w' => e = .returned (.int .i64 480) ∧ Upd [] w w' := by
  have HC := Lib.hid fun (m : Int) (hm : 1 ≤ m) (w : World) => gap_clip 1 m (by omega) hm w
  go_enter Try.func46, Try.ntmps46
  go_wp2_with (go_at_call 62; (with_reducible refine (HC.out _ (by decide) _).mono ?_); rintro e w2 ⟨rfl, rfl⟩)
  go_ret
  exact ⟨rfl, Upd.refl _ _⟩
set_option maxRecDepth 100000 in
set_option maxHeartbeats 4000000 in
theorem steps1 (w : World) : Calls Try.prog 45 #[.int .i64 1, .agg #[.int .i64 1, .int .i64 0, .int .i64 1, .int .i64 2, .int .i64 0]] w fun e w' => e = .returned (.int .i64 7) ∧ Upd [] w w' := by
  have HA := Lib.hid fun w => (show Calls Try.prog 22 #[.int .i64 1, .agg #[.int .i64 1, .int .i64 0, .int .i64 1, .int .i64 2, .int .i64 0]] w fun e w' => e = .returned (.int .i64 5) ∧ Upd [] w w' from bacts1 0 2 1 w 1 (by decide))
  go_enter Try.func45, Try.ntmps45
  go_wp2_with (first
    | (go_at_call 22; (with_reducible refine (HA.out _).mono ?_); rintro e w1 ⟨rfl, hu1⟩; obtain ⟨p1, rfl⟩ := hu1.grown; clear hu1)
    | go_in)
  go_ret
  exact ⟨rfl, by repeat (first | (with_reducible exact Upd.refl _ _) | (with_reducible apply Upd.drew) | (with_reducible refine Upd.grE ?_ _) | (with_reducible refine Upd.alloc ?_ _))⟩
set_option maxRecDepth 100000 in
set_option maxHeartbeats 4000000 in
theorem alive17 (w : World) : Calls Try.prog 20 #[] w fun e w' => e = .returned (.bool true) ∧ Upd [] w w' := by
  have HA := Lib.hid fun w => (show Calls Try.prog 22 #[.int .i64 1, .agg #[.int .i64 1, .int .i64 0, .int .i64 1, .int .i64 2, .int .i64 0]] w fun e w' => e = .returned (.int .i64 5) ∧ Upd [] w w' from bacts1 0 2 1 w 1 (by decide))
  have HS := Lib.hid steps1
  have HG := Lib.hid gap111
  go_enter Try.func20, Try.ntmps20
  go_wp2_with (first
    | (go_at_call 22; (with_reducible refine (HA.out _).mono ?_); rintro e w1 ⟨rfl, hu1⟩; obtain ⟨p1, rfl⟩ := hu1.grown; clear hu1)
    | (go_at_call 45; (with_reducible refine (HS.out _).mono ?_); rintro e w2 ⟨rfl, hu2⟩; obtain ⟨p2, rfl⟩ := hu2.grown; clear hu2)
    | (go_at_call 46; (with_reducible refine (HG.out _).mono ?_); rintro e w3 ⟨rfl, hu3⟩; obtain ⟨p3, rfl⟩ := hu3.grown; clear hu3))
  go_ret
  exact ⟨rfl, by repeat (first | (with_reducible exact Upd.refl _ _) | (with_reducible apply Upd.drew) | (with_reducible refine Upd.grE ?_ _) | (with_reducible refine Upd.alloc ?_ _))⟩
end Go.Proofs.Ytnnakiojfpnphaa
