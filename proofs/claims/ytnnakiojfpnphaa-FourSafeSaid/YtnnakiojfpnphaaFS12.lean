/- The law FourSafe: where nothing is to be shown. -/
import Derived.Test.YtnnakiojfpnphaaFS11
import Derived.Test.YtnnakiojfpnphaaShape
set_option linter.unusedVariables false
set_option linter.unusedSimpArgs false
namespace Go.Proofs.Ytnnakiojfpnphaa
open Go.RowKit
section
variable {W : World} {fa wa pa : Option Addr}
set_option maxRecDepth 100000 in
set_option maxHeartbeats 4000000 in
theorem fs_heavy (wd : Int) (fn fc wn wc pn pc : Nat) (h : wd < 1 ∨ 4 < wd ∨ 12 < wn ∨ 150 < pn) : Calls Try.prog 3 #[.int .i64 wd, .slice fa fn fc, .slice wa wn wc, .slice pa pn pc] W fun e w' => e = .returned (.bool true) ∧ Upd [] W w' := by
  by_cases h1 : wd < 1
  · have q1 : decide (wd < 1) = true := by simpa using h1
    clear h h1
    (
        go_enter Try.func3, Try.ntmps3
        go_wp2_with (go_at_call 6; (with_reducible refine (alive13 _).mono ?_); rintro e w1 ⟨rfl, hu1⟩; have HU1 := Lib.hid hu1; clear hu1)
        go_ret
        exact ⟨rfl, HU1.out⟩)
  have q1 : decide (wd < 1) = false := by simpa using h1
  by_cases h2 : 4 < wd
  · have q2 : decide (4 < wd) = true := by simpa using h2
    clear h h1 h2
    (
        go_enter Try.func3, Try.ntmps3
        go_wp2_with (go_at_call 6; (with_reducible refine (alive13 _).mono ?_); rintro e w1 ⟨rfl, hu1⟩; have HU1 := Lib.hid hu1; clear hu1)
        go_ret
        exact ⟨rfl, HU1.out⟩)
  have q2 : decide (4 < wd) = false := by simpa using h2
  by_cases h3 : 12 < wn
  · have q3 : decide ((12 : Int) < (wn : Int)) = true := by simp; omega
    have q3' : decide (12 < wn) = true := by simpa using h3
    clear h h1 h2 h3
    (
        go_enter Try.func3, Try.ntmps3
        go_wp2_with (go_at_call 6; (with_reducible refine (alive13 _).mono ?_); rintro e w1 ⟨rfl, hu1⟩; have HU1 := Lib.hid hu1; clear hu1)
        go_ret
        exact ⟨rfl, HU1.out⟩)
  have q3 : decide ((12 : Int) < (wn : Int)) = false := by simp; omega
  have q3' : decide (12 < wn) = false := by simpa using h3
  have q4 : decide ((150 : Int) < (pn : Int)) = true := by simp; omega
  have q4' : decide (150 < pn) = true := by simp; omega
  clear h h1 h2 h3
  (
      go_enter Try.func3, Try.ntmps3
      go_wp2_with (go_at_call 6; (with_reducible refine (alive13 _).mono ?_); rintro e w1 ⟨rfl, hu1⟩; have HU1 := Lib.hid hu1; clear hu1)
      go_ret
      exact ⟨rfl, HU1.out⟩)
set_option maxRecDepth 100000 in
set_option maxHeartbeats 4000000 in
theorem fs_short (wd fn fc wn wc pn pc : Nat) (hw : 1 ≤ wd ∧ wd ≤ 4) (h1 : wn ≤ 12) (h2 : pn ≤ 150) (hn : fn ≠ 4 + 4 * wd) : Calls Try.prog 3 #[.int .i64 wd, .slice fa fn fc, .slice wa wn wc, .slice pa pn pc] W fun e w' => e = .returned (.bool true) ∧ Upd [] W w' := by
  have HP := Lib.hid fun (w : World) => place13 wd hw w
  have q1 : decide ((wd : Int) < 1) = false := by simp; omega
  have q2 : decide ((4 : Int) < (wd : Int)) = false := by simp; omega
  have q3 : decide ((12 : Int) < (wn : Int)) = false := by simp; omega
  have q4 : decide ((150 : Int) < (pn : Int)) = false := by simp; omega
  have q5 : (((fn : Nat) : Int) != ((4 + 4 * wd : Nat) : Int)) = true := by simp; omega
  have q6 : (fn != 4 + 4 * wd) = true := by simpa using hn
  generalize 4 + 4 * wd = N at *
  clear hw h1 h2 hn
  go_enter Try.func3, Try.ntmps3
  go_wp2_with (first
    | (go_at_call 7; (with_reducible refine (HP.out _).mono ?_); rintro e w1 ⟨rfl, hu1⟩; obtain ⟨p1, rfl⟩ := hu1.grown; clear hu1)
    | (go_at_call 6; (with_reducible refine (alive13 _).mono ?_); rintro e w1 ⟨rfl, hu1⟩; obtain ⟨p1, rfl⟩ := hu1.grown; clear hu1))
  go_ret
  exact ⟨rfl, by repeat (first | (with_reducible exact Upd.refl _ _) | (with_reducible apply Upd.drew) | (with_reducible refine Upd.grE ?_ _) | (with_reducible refine Upd.alloc ?_ _))⟩
end
end Go.Proofs.Ytnnakiojfpnphaa
