/- Package site: where an object's cells lie. -/
import Derived.Test.YtbjeojcnofpgfaaOwn
import Derived.Test.YtbjeojcnofpgfaaCell2
import Derived.Deep.RegionHeld3
set_option linter.unusedVariables false
set_option linter.unusedSimpArgs false
namespace Go.Proofs.Ytbjeojcnofpgfaa
open Go.RowKit

set_option maxRecDepth 100000 in
set_option maxHeartbeats 400000 in
theorem within_any (n a b : Int) (w : World) : Calls Try.prog 95 #[.int .i64 n, .int .i64 a, .int .i64 b] w fun e w' => e = .returned (.bool (decide (a ≤ n) && decide (n ≤ b))) ∧ w = w' := by
  by_cases h : a ≤ n
  · have h1 : decide (a ≤ n) = true := by simpa using h
    go_enter Try.func95, Try.ntmps95
    go_wp2
    go_ret
    exact ⟨by simp [h], rfl⟩
  · have h1 : decide (a ≤ n) = false := by simpa using h
    go_enter Try.func95, Try.ntmps95
    go_wp2
    go_ret
    exact ⟨by simp [h], rfl⟩

/-- An object of api.Object, by its cells. -/
def objV (kind cap width retry from' to' i0 i1 i2 i3 : Int) : Value := .agg #[.int .i64 kind, .int .i64 cap, .int .i64 width, .int .i64 retry, .int .i64 from', .int .i64 to', .int .u32 i0, .int .u32 i1, .int .u32 i2, .int .u32 i3]

set_option maxRecDepth 100000 in
set_option maxHeartbeats 1000000 in
theorem right_flags (f t i0 i1 i2 i3 : Int) (w : World) : Calls Try.prog 94 #[objV 4 0 0 0 f t i0 i1 i2 i3] w fun e w' => e = .returned (.bool true) ∧ Upd [] w w' := by
  unfold objV
  go_enter Try.func94, Try.ntmps94
  go_wp2_with (go_at_call 95; refine (within_any _ _ _ _).mono ?_; rintro e w1 ⟨rfl, rfl⟩)
  go_ret
  exact ⟨rfl, (Upd.refl _ _).alloc _⟩

set_option maxRecDepth 100000 in
set_option maxHeartbeats 400000 in
theorem ahead_flags (w : World) : Calls Try.prog 97 #[.int .i64 4] w fun e w' => e = .returned (.int .i64 1) ∧ w = w' := by
  go_enter Try.func97, Try.ntmps97
  go_wp2
  go_ret
  exact ⟨rfl, rfl⟩
set_option maxRecDepth 100000 in
set_option maxHeartbeats 400000 in
theorem rooms_flags (n : Int) (w : World) : Calls Try.prog 96 #[.int .i64 4, .int .i64 n] w fun e w' => e = .returned (.int .i64 0) ∧ w = w' := by
  go_enter Try.func96, Try.ntmps96
  go_wp2
  go_ret
  exact ⟨rfl, rfl⟩

set_option maxRecDepth 100000 in
set_option maxHeartbeats 1000000 in
theorem size_flags (f t i0 i1 i2 i3 : Int) (w : World) : Calls Try.prog 79 #[objV 4 0 0 0 f t i0 i1 i2 i3] w fun e w' => e = .returned (.int .i64 1) ∧ Upd [] w w' := by
  have HR := Lib.hid fun w => right_flags f t i0 i1 i2 i3 w
  unfold objV at *
  go_enter Try.func79, Try.ntmps79
  go_wp2_with (first
    | (go_at_call 94; refine (HR.out _).mono ?_; rintro e w1 ⟨rfl, hu1⟩)
    | (go_at_call 97; refine (ahead_flags _).mono ?_; rintro e w2 ⟨rfl, rfl⟩)
    | (go_at_call 96; refine (rooms_flags _ _).mono ?_; rintro e w2 ⟨rfl, rfl⟩))
  have HX := Lib.hid (hu1.keepb (heap_alloc_new _ _) (by simp))
  have c0 : w1.cell? ⟨w.heap.size, 0, none⟩ = some (.int .i64 4) := by rw [cell_of_heap HX.out]; rfl
  have c1 : w1.cell? ⟨w.heap.size, 1, none⟩ = some (.int .i64 0) := by rw [cell_of_heap HX.out]; rfl
  have c2 : w1.cell? ⟨w.heap.size, 2, none⟩ = some (.int .i64 0) := by rw [cell_of_heap HX.out]; rfl
  go_region_held3 (fun w' => w'.cell? ⟨w.heap.size, 0, none⟩ = some (.int .i64 4) ∧ w'.cell? ⟨w.heap.size, 1, none⟩ = some (.int .i64 0) ∧ w'.cell? ⟨w.heap.size, 2, none⟩ = some (.int .i64 0))
    (first | exact ⟨c0, c1, c2⟩ | (go_keep; done))
    (first
      | (go_at_call 97; refine (ahead_flags _).mono ?_; rintro e w2 ⟨rfl, rfl⟩)
      | (go_at_call 96; refine (rooms_flags _ _).mono ?_; rintro e w2 ⟨rfl, rfl⟩))
  all_goals
    go_wp2
    go_ret
    first | exact ⟨rfl, ((Upd.refl _ _).alloc _).trans hu1⟩ | exact ⟨rfl, (((Upd.refl _ _).alloc _).trans hu1).drew⟩ | exact ⟨rfl, (((Upd.refl _ _).alloc _).trans hu1).drewN _⟩

set_option maxRecDepth 100000 in
set_option maxHeartbeats 2000000 in
theorem take_flags (f t i0 i1 i2 i3 : Int) (nb : Nat) (n : Int) (hn0 : 0 ≤ n) (hn : n < 1000000) (w : World) {ty : TypeId} (hb : w.heap[nb]? = some (.cells #[.int .i64 n] ty (0, 0))) :
    Calls Try.prog 125 #[objV 4 0 0 0 f t i0 i1 i2 i3, .pointer (some ⟨nb, 0, none⟩)] w fun e w' => e = .returned (.int .i64 n) ∧ w'.heap[nb]? = some (.cells #[.int .i64 (n + 1)] ty (0, 0)) ∧ Upd [nb] w w' := by
  have HS := Lib.hid fun w => size_flags f t i0 i1 i2 i3 w
  unfold objV at *
  have c0 : w.cell? ⟨nb, 0, none⟩ = some (.int .i64 n) := by rw [cell_of_heap hb]; rfl
  have f0 := frozen_of_heap hb 0
  have hl := heap_lt hb
  have HB := Lib.hid hb
  have ne0 : nb ≠ w.heap.size := by omega
  have ne1 : w.heap.size ≠ nb := by omega
  have hwr : IntKind.i64.wrap (n + 1) = n + 1 := by rw [IntKind.wrap_i64]; omega
  clear hb
  go_enter Try.func125, Try.ntmps125
  go_wp2
  go_region_with (first
    | (go_at_call 79; refine (HS.out _).mono ?_; rintro e w2 ⟨rfl, hu2⟩; have HU2 := Lib.hid (show Upd [] w w2 from by first | exact ((Upd.refl _ _).alloc _).trans hu2 | exact ((Upd.refl _ _).alloc _).drew.trans hu2 | exact (((Upd.refl _ _).alloc _).drewN _).trans hu2); clear hu2; have c0' := (HU2.out.cell (p := ⟨nb, 0, none⟩) hl (by simp)).trans c0; have f0' := (HU2.out.frozen (p := ⟨nb, 0, none⟩) hl (by simp)).trans f0))
  all_goals
    go_wp2
    go_ret
    have hS : Upd [nb] w2 (w2.setCell ⟨nb, 0, none⟩ (.int .i64 (n + 1))) := (Upd.refl _ _).setCell (by simp) _
    refine ⟨rfl, ?_, ((HU2.out.mono (by simp)).trans hS)⟩
    exact heap_set (HU2.out.keepb HB.out (by simp)) 0 _
end Go.Proofs.Ytbjeojcnofpgfaa
