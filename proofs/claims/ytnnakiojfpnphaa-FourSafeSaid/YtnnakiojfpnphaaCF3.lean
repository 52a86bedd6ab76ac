/- Which objects may be: the document's answer. -/
import Derived.Test.YtnnakiojfpnphaaCF2
set_option linter.unusedVariables false
set_option linter.unusedSimpArgs false
namespace Go.Proofs.Ytnnakiojfpnphaa
open Go.RowKit

section
variable (cap wd rt f t i0 i1 i2 i3 : Int) (w : World)
set_option maxRecDepth 100000 in
set_option maxHeartbeats 4000000 in
theorem rright1 : Calls Try.prog 70 #[.agg (obA 1 cap wd rt f t i0 i1 i2 i3)] w fun e w' => e = .returned (.bool (pow2B cap && (!decide (64 < cap) && (wideB wd && rt == 0)))) ∧ Upd [] w w' := by
  have HW := Lib.hid fun w => rwithin wd 1 4 w
  have HP := Lib.hid fun w => rpower_any cap w
  have e1 : (decide (1 ≤ wd) && decide (wd ≤ 4)) = wideB wd := rfl
  rw [e1] at HW
  clear e1
  unfold obA
  generalize wideB wd = b1 at HW ⊢
  generalize pow2B cap = b2 at HP ⊢
  rcases hb3 : decide (64 < cap) with _ | _ <;> rcases hb4 : (rt == 0) with _ | _ <;> cases b1 <;> cases b2 <;>
  ( go_enter Try.func70, Try.ntmps70
    go_wp2_with fail
    go_quiet (fail)
    go_wp2_with (first | (go_at_call 77; first | ((with_reducible refine (HW.out _).mono ?_); rintro e w1 ⟨rfl, rfl⟩) | (refine (rwithin 1 1 4 _).mono ?_; rintro e w1 ⟨rfl, rfl⟩)) | (go_at_call 78; refine (HP.out _).mono ?_; rintro e w1 ⟨rfl, rfl⟩))
    go_ret
    exact ⟨rfl, ((Upd.refl _ _).alloc _).drewN _⟩)
set_option maxRecDepth 100000 in
set_option maxHeartbeats 4000000 in
theorem rright4 : Calls Try.prog 70 #[.agg (obA 4 cap wd rt f t i0 i1 i2 i3)] w fun e w' => e = .returned (.bool (!(cap != 0) && (wd == 0 && rt == 0))) ∧ Upd [] w w' := by
  unfold obA
  rcases hb3 : (cap != 0) with _ | _ <;> rcases hb4 : (rt == 0) with _ | _ <;> rcases hb5 : (wd == 0) with _ | _ <;>
  ( go_enter Try.func70, Try.ntmps70
    go_wp2_with fail
    go_quiet (fail)
    go_wp2_with (first | (go_at_call 77; refine (rwithin 4 1 4 _).mono ?_; rintro e w1 ⟨rfl, rfl⟩))
    go_ret
    exact ⟨rfl, ((Upd.refl _ _).alloc _).drewN _⟩)
set_option maxRecDepth 100000 in
set_option maxHeartbeats 4000000 in
theorem rright2 : Calls Try.prog 70 #[.agg (obA 2 cap wd rt f t i0 i1 i2 i3)] w fun e w' => e = .returned (.bool (!(cap != 0) && (wideB wd && rt == 0))) ∧ Upd [] w w' := by
  have HW := Lib.hid fun w => rwithin wd 1 4 w
  have e1 : (decide (1 ≤ wd) && decide (wd ≤ 4)) = wideB wd := rfl
  rw [e1] at HW
  clear e1
  unfold obA
  generalize wideB wd = b1 at HW ⊢
  rcases hb3 : (cap != 0) with _ | _ <;> rcases hb4 : (rt == 0) with _ | _ <;> cases b1 <;>
  ( go_enter Try.func70, Try.ntmps70
    go_wp2_with fail
    go_quiet (fail)
    go_wp2_with (first | (go_at_call 77; first | ((with_reducible refine (HW.out _).mono ?_); rintro e w1 ⟨rfl, rfl⟩) | (refine (rwithin 2 1 4 _).mono ?_; rintro e w1 ⟨rfl, rfl⟩)))
    go_ret
    exact ⟨rfl, ((Upd.refl _ _).alloc _).drewN _⟩)
set_option maxRecDepth 100000 in
set_option maxHeartbeats 4000000 in
theorem rright3 : Calls Try.prog 70 #[.agg (obA 3 cap wd rt f t i0 i1 i2 i3)] w fun e w' => e = .returned (.bool (!(cap != 0) && (wideB wd && (decide (0 ≤ rt) && decide (rt ≤ 8))))) ∧ Upd [] w w' := by
  have HW := Lib.hid fun w => rwithin wd 1 4 w
  have HT := Lib.hid fun w => rwithin rt 0 8 w
  have e1 : (decide (1 ≤ wd) && decide (wd ≤ 4)) = wideB wd := rfl
  rw [e1] at HW
  clear e1
  unfold obA
  generalize wideB wd = b1 at HW ⊢
  generalize (decide (0 ≤ rt) && decide (rt ≤ 8)) = b2 at HT ⊢
  rcases hb3 : (cap != 0) with _ | _ <;> cases b1 <;> cases b2 <;>
  ( go_enter Try.func70, Try.ntmps70
    go_wp2_with fail
    go_quiet (fail)
    go_wp2_with (first | (go_at_call 77; first | ((with_reducible refine (HW.out _).mono ?_); rintro e w1 ⟨rfl, rfl⟩) | ((with_reducible refine (HT.out _).mono ?_); rintro e w1 ⟨rfl, rfl⟩) | (refine (rwithin 3 1 4 _).mono ?_; rintro e w1 ⟨rfl, rfl⟩)))
    go_ret
    exact ⟨rfl, ((Upd.refl _ _).alloc _).drewN _⟩)
set_option maxRecDepth 100000 in
set_option maxHeartbeats 4000000 in
theorem rright0 (k : Int) (h : ¬ (1 ≤ k ∧ k ≤ 4)) : Calls Try.prog 70 #[.agg (obA k cap wd rt f t i0 i1 i2 i3)] w fun e w' => e = .returned (.bool false) ∧ Upd [] w w' := by
  have HW := Lib.hid fun w => rwithin k 1 4 w
  have e1 : (decide (1 ≤ k) && decide (k ≤ 4)) = false := by rw [← Bool.decide_and]; simpa using h
  rw [e1] at HW
  have q1 : (k == 1) = false := by simp; omega
  have q3 : (k == 3) = false := by simp; omega
  clear e1 h
  unfold obA
  go_enter Try.func70, Try.ntmps70
  go_wp2_with fail
  go_quiet (fail)
  go_wp2_with (go_at_call 77; refine (HW.out _).mono ?_; rintro e w1 ⟨rfl, rfl⟩)
  go_ret
  exact ⟨rfl, ((Upd.refl _ _).alloc _).drewN _⟩
theorem rright_any (k : Int) : Calls Try.prog 70 #[.agg (obA k cap wd rt f t i0 i1 i2 i3)] w fun e w' => e = .returned (.bool (rightB k cap wd rt)) ∧ Upd [] w w' := by
  unfold rightB
  by_cases h1 : k = 1
  · subst h1
    have := rright1 cap wd rt f t i0 i1 i2 i3 w
    have e : (pow2B cap && (!decide (64 < cap) && (wideB wd && rt == 0))) = (wideB wd && (pw7 cap && rt == 0)) := by
      rw [← pow2B_room cap, show (!decide (64 < cap)) = decide (cap ≤ 64) by by_cases h : cap ≤ 64 <;> simp [h, show (64 < cap) = ¬ cap ≤ 64 by simp]]
      cases pow2B cap <;> cases decide (cap ≤ 64) <;> cases wideB wd <;> rfl
    rw [e] at this
    rw [if_pos rfl]
    exact this
  rw [if_neg h1]
  have hc : (!(cap != 0)) = (cap == 0) := by cases h : (cap == 0) <;> simp_all
  by_cases h4 : k = 4
  · subst h4
    have := rright4 cap wd rt f t i0 i1 i2 i3 w
    rw [hc, show ((cap == 0) && (wd == 0 && rt == 0)) = (wd == 0 && ((cap == 0) && rt == 0)) by cases (cap == 0) <;> cases (wd == 0) <;> rfl] at this
    rw [if_pos rfl]
    exact this
  rw [if_neg h4]
  by_cases h2 : k = 2
  · subst h2
    have := rright2 cap wd rt f t i0 i1 i2 i3 w
    rw [hc, show ((cap == 0) && (wideB wd && rt == 0)) = (rt == 0 && (wideB wd && cap == 0)) by cases (cap == 0) <;> cases (rt == 0) <;> cases wideB wd <;> rfl] at this
    rw [if_pos rfl]
    exact this
  rw [if_neg h2]
  by_cases h3 : k = 3
  · subst h3
    have := rright3 cap wd rt f t i0 i1 i2 i3 w
    rw [hc, show ((cap == 0) && (wideB wd && (decide (0 ≤ rt) && decide (rt ≤ 8)))) = (wideB wd && ((cap == 0) && (decide (0 ≤ rt) && decide (rt ≤ 8)))) by cases (cap == 0) <;> cases wideB wd <;> rfl] at this
    rw [if_pos rfl]
    exact this
  rw [if_neg h3]
  exact rright0 cap wd rt f t i0 i1 i2 i3 w k (by omega)
end
end Go.Proofs.Ytnnakiojfpnphaa
