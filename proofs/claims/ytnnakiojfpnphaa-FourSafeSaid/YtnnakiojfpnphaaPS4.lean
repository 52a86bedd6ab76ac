/- Package site: Cell of any place that is no ring's, for the data's first room and for the word. -/
import Derived.Test.YtnnakiojfpnphaaPS3
import Derived.Deep.RegionHeld3
set_option linter.unusedVariables false
set_option linter.unusedSimpArgs false
namespace Go.Proofs.Ytnnakiojfpnphaa
open Go.RowKit
def cellD (p : PL) (v : Int) : Int := if rightB p.k p.cap p.wd p.rt = true then (if p.k = 4 then -1 else if v < p.wd then p.a + aheadP p.k + v else -1) else -1
def cellW (p : PL) : Int := if rightB p.k p.cap p.wd p.rt = true then (if p.k = 4 then p.a else -1) else -1
def PL.A (p : PL) : Array Value := #[.int .i64 p.k, .int .i64 p.a, .int .i64 p.cap, .int .i64 p.wd, .int .i64 p.rt]
section
variable (a cap wd rt : Int) (w : World)
set_option maxRecDepth 100000 in
set_option maxHeartbeats 4000000 in
theorem cell_wrong (k part i v : Int) (hr : rightB k cap wd rt = false) : Calls Try.prog 54 #[.agg #[.int .i64 k, .int .i64 a, .int .i64 cap, .int .i64 wd, .int .i64 rt], .int .i64 part, .int .i64 i, .int .i64 v] w fun e w' => e = .returned (.int .i64 (-1)) ∧ Upd [] w w' := by
  have HR := Lib.hid fun w => sright_any cap wd rt 0 0 0 0 0 0 w k
  rw [hr] at HR
  unfold obA at HR
  have HO := Lib.hid rooms_c
  have HA := Lib.hid ahead_c
  clear hr
  go_enter Try.func54, Try.ntmps54
  (
      go_wp2_with (first
        | (go_at_call 19; (with_reducible refine (HR.out _).mono ?_); rintro e w1 ⟨rfl, hu1⟩; obtain ⟨p1, rfl⟩ := hu1.grown; clear hu1)
        | (go_at_call 64; (with_reducible refine (HO.out _ _ _).mono ?_); rintro e w2 ⟨rfl, rfl⟩)
        | (go_at_call 63; (with_reducible refine (HA.out _ _).mono ?_); rintro e w2 ⟨rfl, rfl⟩)
        | (go_at_call 43; (with_reducible refine (swithin _ _ _ _).mono ?_); rintro e w2 ⟨rfl, rfl⟩)))
  (
      go_ret
      exact ⟨rfl, by repeat (first | (with_reducible exact Upd.refl _ _) | (with_reducible apply Upd.drew) | (with_reducible refine Upd.grE ?_ _) | (with_reducible refine Upd.alloc ?_ _))⟩)
set_option maxRecDepth 100000 in
set_option maxHeartbeats 4000000 in
theorem cell_word4 : Calls Try.prog 54 #[.agg #[.int .i64 4, .int .i64 a, .int .i64 0, .int .i64 0, .int .i64 0], .int .i64 8, .int .i64 0, .int .i64 0] w fun e w' => e = .returned (.int .i64 a) ∧ Upd [] w w' := by
  have HR := Lib.hid fun w => (show Calls Try.prog 19 #[.agg (obA 4 0 0 0 0 0 0 0 0 0)] w fun e w' => e = .returned (.bool true) ∧ Upd [] w w' from sright_any 0 0 0 0 0 0 0 0 0 w 4)
  unfold obA at HR
  have HO := Lib.hid rooms_c
  have HA := Lib.hid ahead_c
  go_enter Try.func54, Try.ntmps54
  (
      go_wp2_with (first
        | (go_at_call 19; (with_reducible refine (HR.out _).mono ?_); rintro e w1 ⟨rfl, hu1⟩; obtain ⟨p1, rfl⟩ := hu1.grown; clear hu1)
        | (go_at_call 64; (with_reducible refine (HO.out _ _ _).mono ?_); rintro e w2 ⟨rfl, rfl⟩)
        | (go_at_call 63; (with_reducible refine (HA.out _ _).mono ?_); rintro e w2 ⟨rfl, rfl⟩)
        | (go_at_call 43; (with_reducible refine (swithin _ _ _ _).mono ?_); rintro e w2 ⟨rfl, rfl⟩)))
  (
      go_ret
      exact ⟨rfl, by repeat (first | (with_reducible exact Upd.refl _ _) | (with_reducible apply Upd.drew) | (with_reducible refine Upd.grE ?_ _) | (with_reducible refine Upd.alloc ?_ _))⟩)
set_option maxRecDepth 100000 in
set_option maxHeartbeats 4000000 in
theorem cell_data4 (v : Int) : Calls Try.prog 54 #[.agg #[.int .i64 4, .int .i64 a, .int .i64 0, .int .i64 0, .int .i64 0], .int .i64 3, .int .i64 0, .int .i64 v] w fun e w' => e = .returned (.int .i64 (-1)) ∧ Upd [] w w' := by
  have HR := Lib.hid fun w => (show Calls Try.prog 19 #[.agg (obA 4 0 0 0 0 0 0 0 0 0)] w fun e w' => e = .returned (.bool true) ∧ Upd [] w w' from sright_any 0 0 0 0 0 0 0 0 0 w 4)
  unfold obA at HR
  have HO := Lib.hid rooms_c
  have HA := Lib.hid ahead_c
  go_enter Try.func54, Try.ntmps54
  (
      go_wp2_with (first
        | (go_at_call 19; (with_reducible refine (HR.out _).mono ?_); rintro e w1 ⟨rfl, hu1⟩; obtain ⟨p1, rfl⟩ := hu1.grown; clear hu1)
        | (go_at_call 64; (with_reducible refine (HO.out _ _ _).mono ?_); rintro e w2 ⟨rfl, rfl⟩)
        | (go_at_call 63; (with_reducible refine (HA.out _ _).mono ?_); rintro e w2 ⟨rfl, rfl⟩)
        | (go_at_call 43; (with_reducible refine (swithin _ _ _ _).mono ?_); rintro e w2 ⟨rfl, rfl⟩)))
  (
      go_ret
      exact ⟨rfl, by repeat (first | (with_reducible exact Upd.refl _ _) | (with_reducible apply Upd.drew) | (with_reducible refine Upd.grE ?_ _) | (with_reducible refine Upd.alloc ?_ _))⟩)
end
end Go.Proofs.Ytnnakiojfpnphaa
