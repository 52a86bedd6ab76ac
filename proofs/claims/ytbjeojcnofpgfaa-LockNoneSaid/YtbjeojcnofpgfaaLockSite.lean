/- Package site: a Lock object of one word: its cells. -/
import Derived.Test.YtbjeojcnofpgfaaSiteG
set_option linter.unusedVariables false
set_option linter.unusedSimpArgs false
namespace Go.Proofs.Ytbjeojcnofpgfaa
open Go.RowKit

set_option maxRecDepth 100000 in
set_option maxHeartbeats 1000000 in
theorem right_lock (w : World) : Calls Try.prog 94 #[objV 3 0 1 0 0 0 0 0 0 0] w fun e w' => e = .returned (.bool true) ∧ Upd [] w w' := by
  unfold objV
  go_enter Try.func94, Try.ntmps94
  go_wp2_with (go_at_call 95; refine (within_any _ _ _ _).mono ?_; rintro e w1 ⟨rfl, rfl⟩)
  go_ret
  exact ⟨rfl, (Upd.refl _ _).alloc _⟩
set_option maxRecDepth 100000 in
set_option maxHeartbeats 400000 in
theorem ahead_lock (w : World) : Calls Try.prog 97 #[.int .i64 3] w fun e w' => e = .returned (.int .i64 1) ∧ w = w' := by
  go_enter Try.func97, Try.ntmps97
  go_wp2
  go_ret
  exact ⟨rfl, rfl⟩
set_option maxRecDepth 100000 in
set_option maxHeartbeats 400000 in
theorem rooms_lock (n : Int) (w : World) : Calls Try.prog 96 #[.int .i64 3, .int .i64 n] w fun e w' => e = .returned (.int .i64 1) ∧ w = w' := by
  go_enter Try.func96, Try.ntmps96
  go_wp2
  go_ret
  exact ⟨rfl, rfl⟩
theorem size_lock (w : World) : Calls Try.prog 79 #[objV 3 0 1 0 0 0 0 0 0 0] w fun e w' => e = .returned (.int .i64 2) ∧ Upd [] w w' :=
  size_any 3 0 1 0 1 1 1 2 right_lock ahead_lock (rooms_lock 0) (by decide) (by decide) w
theorem of_lock (lb c : Nat) (W : World) {ty : TypeId} (hb : W.heap[lb]? = some (.cells #[.int .i64 3, .int .i64 0, .int .i64 1, .int .i64 0, .int .i64 0, .int .i64 0, .int .u32 0, .int .u32 0, .int .u32 0, .int .u32 0] ty (0, 0))) :
    Calls Try.prog 66 #[.slice (some ⟨lb, 0, none⟩) 1 c] W (OfPost 3 0 1 0 2 W) := of_one 3 0 1 0 2 (by omega) (by omega) right_lock size_lock lb c W hb

def lockP : Value := .agg #[.int .i64 3, .int .i64 0, .int .i64 0, .int .i64 1, .int .i64 0]
set_option maxRecDepth 100000 in
set_option maxHeartbeats 2000000 in
theorem cell_lock_seq (w : World) : Calls Try.prog 38 #[lockP, .int .i64 7, .int .i64 0, .int .i64 0] w fun e w' => e = .returned (.int .i64 0) ∧ Upd [] w w' := by
  have HR := Lib.hid fun w => right_lock w
  unfold objV at HR
  unfold lockP
  go_enter Try.func38, Try.ntmps38
  go_wp2_with (go_at_call 94; refine (HR.out _).mono ?_; rintro e w1 ⟨rfl, hu1⟩; have hp := hu1.keepb ((heap_alloc_other _ _ (by simp)).trans (heap_alloc_new w _)) (by simp); have p0 := cell_of_heap hp 0; have p1 := cell_of_heap hp 1; simp at p0 p1; clear hp)
  go_ret
  exact ⟨rfl, (((Upd.refl _ _).alloc _).alloc _).trans hu1⟩
set_option maxRecDepth 100000 in
set_option maxHeartbeats 2000000 in
theorem cell_lock_data (w : World) : Calls Try.prog 38 #[lockP, .int .i64 3, .int .i64 0, .int .i64 0] w fun e w' => e = .returned (.int .i64 1) ∧ Upd [] w w' := by
  have HR := Lib.hid fun w => right_lock w
  unfold objV at HR
  unfold lockP
  go_enter Try.func38, Try.ntmps38
  go_wp2_with (first
    | (go_at_call 94; refine (HR.out _).mono ?_; rintro e w1 ⟨rfl, hu1⟩; have HU1 := Lib.hid ((((Upd.refl [] w).alloc _).alloc _).trans hu1); have hp := hu1.keepb ((heap_alloc_other _ _ (by simp)).trans (heap_alloc_new w _)) (by simp); have p0 := cell_of_heap hp 0; have p1 := cell_of_heap hp 1; have p2 := cell_of_heap hp 2; have p3 := cell_of_heap hp 3; simp at p0 p1 p2 p3; clear hp hu1)
    | (go_at_call 96; refine (rooms_lock _ _).mono ?_; rintro e w2 ⟨rfl, rfl⟩)
    | (go_at_call 97; refine (ahead_lock _).mono ?_; rintro e w2 ⟨rfl, rfl⟩)
    | (go_at_call 95; refine (within_any _ _ _ _).mono ?_; rintro e w2 ⟨rfl, rfl⟩))
  go_region_held3 (fun w' => w'.cell? ⟨w.heap.size, 0, none⟩ = some (.int .i64 3) ∧ w'.cell? ⟨w.heap.size, 1, none⟩ = some (.int .i64 0) ∧ w'.cell? ⟨w.heap.size, 3, none⟩ = some (.int .i64 1))
    (first | exact ⟨p0, p1, p3⟩ | (go_keep; done))
    (first
      | (go_at_call 97; refine (ahead_lock _).mono ?_; rintro e w2 ⟨rfl, rfl⟩))
  all_goals
    go_wp2
    go_ret
    refine ⟨rfl, ?_⟩
    first | exact HU1.out | exact HU1.out.drew | exact HU1.out.drewN _
end Go.Proofs.Ytbjeojcnofpgfaa
