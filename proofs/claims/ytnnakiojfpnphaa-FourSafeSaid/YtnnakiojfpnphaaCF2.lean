/- Which objects may be: the program's answer and the document's. -/
import Derived.Test.YtnnakiojfpnphaaCF1
import Derived.BigQuiet
import Derived.Deep.QuietTactic
set_option linter.unusedVariables false
set_option linter.unusedSimpArgs false
namespace Go.Proofs.Ytnnakiojfpnphaa
open Go.RowKit

def wideB (wd : Int) : Bool := decide (1 ≤ wd) && decide (wd ≤ 4)
def rightB (k cap wd rt : Int) : Bool :=
  if k = 1 then wideB wd && (pw7 cap && rt == 0)
  else if k = 4 then wd == 0 && (cap == 0 && rt == 0)
  else if k = 2 then rt == 0 && (wideB wd && cap == 0)
  else if k = 3 then wideB wd && (cap == 0 && (decide (0 ≤ rt) && decide (rt ≤ 8)))
  else false
def obA (k cap wd rt f t i0 i1 i2 i3 : Int) : Array Value := #[.int .i64 k, .int .i64 cap, .int .i64 wd, .int .i64 rt, .int .i64 f, .int .i64 t, .int .u32 i0, .int .u32 i1, .int .u32 i2, .int .u32 i3]

section
variable (cap wd rt f t i0 i1 i2 i3 : Int) (w : World)
set_option maxRecDepth 100000 in
set_option maxHeartbeats 4000000 in
theorem sright1 : Calls Try.prog 19 #[.agg (obA 1 cap wd rt f t i0 i1 i2 i3)] w fun e w' => e = .returned (.bool (wideB wd && (powB cap && (decide (cap ≤ 64) && rt == 0)))) ∧ w' = w.alloc (.cells (obA 1 cap wd rt f t i0 i1 i2 i3) 56) := by
  have HW := Lib.hid fun w => swithin wd 1 4 w
  have HP := Lib.hid fun w => power_any cap w
  have e1 : (decide (1 ≤ wd) && decide (wd ≤ 4)) = wideB wd := rfl
  rw [e1] at HW
  clear e1
  unfold obA
  generalize wideB wd = b1 at HW ⊢
  generalize powB cap = b2 at HP ⊢
  rcases hb3 : decide (cap ≤ 64) with _ | _ <;> rcases hb4 : (rt == 0) with _ | _ <;> cases b1 <;> cases b2 <;>
  ( go_enter Try.func19, Try.ntmps19
    go_wp2_with (first | (go_at_call 43; refine (HW.out _).mono ?_; rintro e w1 ⟨rfl, rfl⟩) | (go_at_call 44; refine (HP.out _).mono ?_; rintro e w1 ⟨rfl, rfl⟩))
    go_ret
    exact ⟨rfl, rfl⟩)
set_option maxRecDepth 100000 in
set_option maxHeartbeats 4000000 in
theorem sright4 : Calls Try.prog 19 #[.agg (obA 4 cap wd rt f t i0 i1 i2 i3)] w fun e w' => e = .returned (.bool (wd == 0 && (cap == 0 && rt == 0))) ∧ w' = w.alloc (.cells (obA 4 cap wd rt f t i0 i1 i2 i3) 56) := by
  have HW := Lib.hid fun w => swithin wd 1 4 w
  have e1 : (decide (1 ≤ wd) && decide (wd ≤ 4)) = wideB wd := rfl
  rw [e1] at HW
  clear e1
  unfold obA
  generalize wideB wd = b1 at HW ⊢
  rcases hb3 : (wd == 0) with _ | _ <;> rcases hb4 : (cap == 0) with _ | _ <;> rcases hb5 : (rt == 0) with _ | _ <;>
  ( go_enter Try.func19, Try.ntmps19
    go_wp2_with (first | (go_at_call 43; refine (HW.out _).mono ?_; rintro e w1 ⟨rfl, rfl⟩))
    go_ret
    exact ⟨rfl, rfl⟩)
set_option maxRecDepth 100000 in
set_option maxHeartbeats 4000000 in
theorem sright2 : Calls Try.prog 19 #[.agg (obA 2 cap wd rt f t i0 i1 i2 i3)] w fun e w' => e = .returned (.bool (rt == 0 && (wideB wd && cap == 0))) ∧ w' = w.alloc (.cells (obA 2 cap wd rt f t i0 i1 i2 i3) 56) := by
  have HW := Lib.hid fun w => swithin wd 1 4 w
  have e1 : (decide (1 ≤ wd) && decide (wd ≤ 4)) = wideB wd := rfl
  rw [e1] at HW
  clear e1
  unfold obA
  generalize wideB wd = b1 at HW ⊢
  by_cases h : rt = 0
  · subst h
    rcases hb4 : (cap == 0) with _ | _ <;> cases b1 <;>
    ( go_enter Try.func19, Try.ntmps19
      go_wp2_with (first | (go_at_call 43; first | ((with_reducible refine (HW.out _).mono ?_); rintro e w1 ⟨rfl, rfl⟩) | (refine (swithin 0 0 8 _).mono ?_; rintro e w1 ⟨rfl, rfl⟩)))
      go_ret
      exact ⟨rfl, rfl⟩)
  · have h1 : (rt == 0) = false := by simpa using h
    have h2 : (rt != 0) = true := by simpa using h
    go_enter Try.func19, Try.ntmps19
    go_wp2_with (first | (go_at_call 43; refine (HW.out _).mono ?_; rintro e w1 ⟨rfl, rfl⟩))
    go_ret
    exact ⟨by rw [h1]; rfl, rfl⟩
set_option maxRecDepth 100000 in
set_option maxHeartbeats 4000000 in
theorem sright3 : Calls Try.prog 19 #[.agg (obA 3 cap wd rt f t i0 i1 i2 i3)] w fun e w' => e = .returned (.bool (wideB wd && (cap == 0 && (decide (0 ≤ rt) && decide (rt ≤ 8))))) ∧ w' = w.alloc (.cells (obA 3 cap wd rt f t i0 i1 i2 i3) 56) := by
  have HW := Lib.hid fun w => swithin wd 1 4 w
  have HT := Lib.hid fun w => swithin rt 0 8 w
  have e1 : (decide (1 ≤ wd) && decide (wd ≤ 4)) = wideB wd := rfl
  rw [e1] at HW
  clear e1
  unfold obA
  generalize wideB wd = b1 at HW ⊢
  generalize (decide (0 ≤ rt) && decide (rt ≤ 8)) = b2 at HT ⊢
  rcases hb4 : (cap == 0) with _ | _ <;> cases b1 <;> cases b2 <;>
  ( go_enter Try.func19, Try.ntmps19
    go_wp2_with fail
    refine (HW.out _).mono ?_
    rintro e w1 ⟨rfl, rfl⟩
    go_wp2_with (first | (go_at_call 43; refine (HT.out _).mono ?_; rintro e w1 ⟨rfl, rfl⟩))
    go_ret
    exact ⟨rfl, rfl⟩)
set_option maxRecDepth 100000 in
set_option maxHeartbeats 4000000 in
theorem sright0 (k : Int) (h1 : k ≠ 1) (h2 : k ≠ 2) (h3 : k ≠ 3) (h4 : k ≠ 4) : Calls Try.prog 19 #[.agg (obA k cap wd rt f t i0 i1 i2 i3)] w fun e w' => e = .returned (.bool false) ∧ w' = w.alloc (.cells (obA k cap wd rt f t i0 i1 i2 i3) 56) := by
  have HW := Lib.hid fun w => swithin wd 1 4 w
  unfold obA
  generalize (decide (1 ≤ wd) && decide (wd ≤ 4)) = b1 at HW ⊢
  have q1 : (k == 1) = false := by simpa using h1
  have q2 : (k == 2) = false := by simpa using h2
  have q3 : (k == 3) = false := by simpa using h3
  have q4 : (k == 4) = false := by simpa using h4
  clear h1 h2 h3 h4
  go_enter Try.func19, Try.ntmps19
  go_wp2_with (first | (go_at_call 43; refine (HW.out _).mono ?_; rintro e w1 ⟨rfl, rfl⟩))
  go_ret
  exact ⟨rfl, rfl⟩
theorem sright_ex (k : Int) : Calls Try.prog 19 #[.agg (obA k cap wd rt f t i0 i1 i2 i3)] w fun e w' => e = .returned (.bool (rightB k cap wd rt)) ∧ w' = w.alloc (.cells (obA k cap wd rt f t i0 i1 i2 i3) 56) := by
  unfold rightB
  by_cases h1 : k = 1
  · subst h1
    rw [if_pos rfl, ← powB_room cap, Bool.and_assoc]
    exact sright1 cap wd rt f t i0 i1 i2 i3 w
  rw [if_neg h1]
  by_cases h4 : k = 4
  · subst h4
    rw [if_pos rfl]
    exact sright4 cap wd rt f t i0 i1 i2 i3 w
  rw [if_neg h4]
  by_cases h2 : k = 2
  · subst h2
    rw [if_pos rfl]
    exact sright2 cap wd rt f t i0 i1 i2 i3 w
  rw [if_neg h2]
  by_cases h3 : k = 3
  · subst h3
    rw [if_pos rfl]
    exact sright3 cap wd rt f t i0 i1 i2 i3 w
  rw [if_neg h3]
  exact sright0 cap wd rt f t i0 i1 i2 i3 w k h1 h2 h3 h4
theorem sright_any (k : Int) : Calls Try.prog 19 #[.agg (obA k cap wd rt f t i0 i1 i2 i3)] w fun e w' => e = .returned (.bool (rightB k cap wd rt)) ∧ Upd [] w w' :=
  (sright_ex cap wd rt f t i0 i1 i2 i3 w k).mono fun _ _ ⟨h1, h2⟩ => ⟨h1, h2 ▸ (Upd.refl _ _).alloc _⟩
end
end Go.Proofs.Ytnnakiojfpnphaa
