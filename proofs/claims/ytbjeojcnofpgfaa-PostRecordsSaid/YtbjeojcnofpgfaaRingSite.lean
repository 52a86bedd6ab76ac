/- Package site: a Ring object: its cells. -/
import Derived.Test.YtbjeojcnofpgfaaSiteG
set_option linter.unusedVariables false
set_option linter.unusedSimpArgs false
namespace Go.Proofs.Ytbjeojcnofpgfaa
open Go.RowKit

def Cap5 (cap : Int) : Prop := cap = 1 ∨ cap = 2 ∨ cap = 4 ∨ cap = 8 ∨ cap = 16
theorem Cap5.le {cap : Int} (h : Cap5 cap) : 1 ≤ cap ∧ cap ≤ 16 := by unfold Cap5 at h; omega
set_option maxRecDepth 100000 in
set_option maxHeartbeats 400000 in
theorem power_ok (cap : Int) (h : Cap5 cap) (w : World) : Calls Try.prog 139 #[.int .i64 cap] w fun e w' => e = .returned (.bool true) ∧ w = w' := by
  rcases h with rfl | rfl | rfl | rfl | rfl
  all_goals
    go_enter Try.func139, Try.ntmps139
    go_wp2
    go_ret
    exact ⟨rfl, rfl⟩
set_option maxRecDepth 100000 in
set_option maxHeartbeats 1000000 in
theorem right_ring (cap wd : Int) (h : Cap5 cap) (h1 : 1 ≤ wd) (h4 : wd ≤ 4) (w : World) : Calls Try.prog 94 #[objV 1 cap wd 0 0 0 0 0 0 0] w fun e w' => e = .returned (.bool true) ∧ Upd [] w w' := by
  have d1 : decide (1 ≤ wd) = true := by simpa using h1
  have d2 : decide (wd ≤ 4) = true := by simpa using h4
  have d3 : decide (cap ≤ 64) = true := by have := h.le; simp; omega
  have HP := Lib.hid fun w => power_ok cap h w
  unfold objV
  clear h h1 h4
  go_enter Try.func94, Try.ntmps94
  go_wp2_with (first
    | (go_at_call 95; refine (within_any _ _ _ _).mono ?_; rintro e w1 ⟨rfl, rfl⟩; rw [d1, d2])
    | (go_at_call 139; refine (HP.out _).mono ?_; rintro e w1 ⟨rfl, rfl⟩))
  go_ret
  exact ⟨rfl, (Upd.refl _ _).alloc _⟩
set_option maxRecDepth 100000 in
set_option maxHeartbeats 400000 in
theorem ahead_ring (w : World) : Calls Try.prog 97 #[.int .i64 1] w fun e w' => e = .returned (.int .i64 2) ∧ w = w' := by
  go_enter Try.func97, Try.ntmps97
  go_wp2
  go_ret
  exact ⟨rfl, rfl⟩
set_option maxRecDepth 100000 in
set_option maxHeartbeats 400000 in
theorem rooms_ring (n : Int) (w : World) : Calls Try.prog 96 #[.int .i64 1, .int .i64 n] w fun e w' => e = .returned (.int .i64 n) ∧ w = w' := by
  go_enter Try.func96, Try.ntmps96
  go_wp2
  go_ret
  exact ⟨rfl, rfl⟩
theorem mul_le64 {cap wd : Int} (h : 0 ≤ cap ∧ cap ≤ 16) (h1 : 0 ≤ wd) (h4 : wd ≤ 4) : 0 ≤ cap * wd ∧ cap * wd ≤ 64 := by
  have : wd = 0 ∨ wd = 1 ∨ wd = 2 ∨ wd = 3 ∨ wd = 4 := by omega
  rcases this with rfl | rfl | rfl | rfl | rfl <;> omega
theorem size_ring (cap wd : Int) (h : Cap5 cap) (h1 : 1 ≤ wd) (h4 : wd ≤ 4) (w : World) : Calls Try.prog 79 #[objV 1 cap wd 0 0 0 0 0 0 0] w fun e w' => e = .returned (.int .i64 (2 + cap * wd)) ∧ Upd [] w w' := by
  have hm := mul_le64 (cap := cap) (wd := wd) (by have := h.le; omega) (by omega) h4
  exact size_any 1 cap wd 0 2 cap (cap * wd) (2 + cap * wd) (right_ring cap wd h h1 h4) ahead_ring (rooms_ring cap) (by rw [IntKind.wrap_i64]; omega) (by rw [IntKind.wrap_i64]; omega) w
theorem of_ring (cap wd : Int) (h : Cap5 cap) (h1 : 1 ≤ wd) (h4 : wd ≤ 4) (lb c : Nat) (W : World) {ty : TypeId} (hb : W.heap[lb]? = some (.cells #[.int .i64 1, .int .i64 cap, .int .i64 wd, .int .i64 0, .int .i64 0, .int .i64 0, .int .u32 0, .int .u32 0, .int .u32 0, .int .u32 0] ty (0, 0))) :
    Calls Try.prog 66 #[.slice (some ⟨lb, 0, none⟩) 1 c] W (OfPost 1 cap wd 0 (2 + cap * wd) W) := by
  have hm := mul_le64 (cap := cap) (wd := wd) (by have := h.le; omega) (by omega) h4
  exact of_one 1 cap wd 0 (2 + cap * wd) (by omega) (by omega) (right_ring cap wd h h1 h4) (size_ring cap wd h h1 h4) lb c W hb

set_option maxRecDepth 100000 in
set_option maxHeartbeats 2000000 in
theorem cell_ring_head (cap wd : Int) (h : Cap5 cap) (h1 : 1 ≤ wd) (h4 : wd ≤ 4) (w : World) : Calls Try.prog 38 #[.agg #[.int .i64 1, .int .i64 0, .int .i64 cap, .int .i64 wd, .int .i64 0], .int .i64 1, .int .i64 0, .int .i64 0] w fun e w' => e = .returned (.int .i64 0) ∧ Upd [] w w' := by
  have HR := Lib.hid fun w => right_ring cap wd h h1 h4 w
  unfold objV at HR
  clear h h1 h4
  go_enter Try.func38, Try.ntmps38
  go_wp2_with (go_at_call 94; refine (HR.out _).mono ?_; rintro e w1 ⟨rfl, hu1⟩; have hp := hu1.keepb ((heap_alloc_other _ _ (by simp)).trans (heap_alloc_new w _)) (by simp); have p0 := cell_of_heap hp 0; have p1 := cell_of_heap hp 1; simp at p0 p1; clear hp)
  go_ret
  exact ⟨rfl, (((Upd.refl _ _).alloc _).alloc _).trans hu1⟩
set_option maxRecDepth 100000 in
set_option maxHeartbeats 2000000 in
theorem cell_ring_tail (cap wd : Int) (h : Cap5 cap) (h1 : 1 ≤ wd) (h4 : wd ≤ 4) (w : World) : Calls Try.prog 38 #[.agg #[.int .i64 1, .int .i64 0, .int .i64 cap, .int .i64 wd, .int .i64 0], .int .i64 2, .int .i64 0, .int .i64 0] w fun e w' => e = .returned (.int .i64 1) ∧ Upd [] w w' := by
  have HR := Lib.hid fun w => right_ring cap wd h h1 h4 w
  unfold objV at HR
  clear h h1 h4
  go_enter Try.func38, Try.ntmps38
  go_wp2_with (go_at_call 94; refine (HR.out _).mono ?_; rintro e w1 ⟨rfl, hu1⟩; have hp := hu1.keepb ((heap_alloc_other _ _ (by simp)).trans (heap_alloc_new w _)) (by simp); have p0 := cell_of_heap hp 0; have p1 := cell_of_heap hp 1; simp at p0 p1; clear hp)
  go_ret
  exact ⟨rfl, (((Upd.refl _ _).alloc _).alloc _).trans hu1⟩
set_option maxRecDepth 100000 in
set_option maxHeartbeats 4000000 in
theorem cell_ring_data (cap wd i k : Int) (h : Cap5 cap) (h1 : 1 ≤ wd) (h4 : wd ≤ 4) (hi0 : 0 ≤ i) (hi : i < cap) (hk0 : 0 ≤ k) (hk : k < wd) (w : World) : Calls Try.prog 38 #[.agg #[.int .i64 1, .int .i64 0, .int .i64 cap, .int .i64 wd, .int .i64 0], .int .i64 3, .int .i64 i, .int .i64 k] w fun e w' => e = .returned (.int .i64 (2 + i * wd + k)) ∧ Upd [] w w' := by
  have HR := Lib.hid fun w => right_ring cap wd h h1 h4 w
  unfold objV at HR
  have hcl := h.le
  have hm := mul_le64 (cap := i) (wd := wd) (by omega) (by omega) h4
  have e1 : IntKind.i64.wrap (cap - 1) = cap - 1 := by rw [IntKind.wrap_i64]; omega
  have e2 : IntKind.i64.wrap (wd - 1) = wd - 1 := by rw [IntKind.wrap_i64]; omega
  have e3 : IntKind.i64.wrap (i * wd) = i * wd := by rw [IntKind.wrap_i64]; omega
  have e4 : IntKind.i64.wrap (2 + i * wd) = 2 + i * wd := by rw [IntKind.wrap_i64]; omega
  have e5 : IntKind.i64.wrap (2 + i * wd + k) = 2 + i * wd + k := by rw [IntKind.wrap_i64]; omega
  have d1 : decide (0 ≤ i) = true := by simpa using hi0
  have d2 : decide (i ≤ cap - 1) = true := by simp; omega
  have d3 : decide (0 ≤ k) = true := by simpa using hk0
  have d4 : decide (k ≤ wd - 1) = true := by simp; omega
  have E1 := Lib.hid e1
  have E2 := Lib.hid e2
  generalize hM : i * wd = M at *
  clear h h1 h4 hi0 hi hk0 hk hcl hm
  go_enter Try.func38, Try.ntmps38
  go_wp2_with (first
    | (go_at_call 94; refine (HR.out _).mono ?_; rintro e w1 ⟨rfl, hu1⟩; have HU1 := Lib.hid ((((Upd.refl [] w).alloc _).alloc _).trans hu1); have hp := hu1.keepb ((heap_alloc_other _ _ (by simp)).trans (heap_alloc_new w _)) (by simp); have p0 := cell_of_heap hp 0; have p1 := cell_of_heap hp 1; have p2 := cell_of_heap hp 2; have p3 := cell_of_heap hp 3; simp at p0 p1 p2 p3; clear hp hu1)
    | (go_at_call 96; refine (rooms_ring _ _).mono ?_; rintro e w2 ⟨rfl, rfl⟩)
    | (go_at_call 97; refine (ahead_ring _).mono ?_; rintro e w2 ⟨rfl, rfl⟩)
    | (go_at_call 95; refine (within_any _ _ _ _).mono ?_; rintro e w2 ⟨rfl, rfl⟩))
  go_region_held3 (fun w' => w'.cell? ⟨w.heap.size, 0, none⟩ = some (.int .i64 1) ∧ w'.cell? ⟨w.heap.size, 1, none⟩ = some (.int .i64 0) ∧ w'.cell? ⟨w.heap.size, 3, none⟩ = some (.int .i64 wd))
    (first | exact ⟨p0, p1, p3⟩ | (go_keep; done))
    (first
      | (go_at_call 97; refine (ahead_ring _).mono ?_; rintro e w2 ⟨rfl, rfl⟩))
  all_goals
    go_wp2
    go_ret
    refine ⟨by first | rfl | simp [show IntKind.i64.wrap 2 = 2 by decide, hM, e3, e4, e5], ?_⟩
    first | exact HU1.out | exact HU1.out.drew | exact HU1.out.drewN _
end Go.Proofs.Ytbjeojcnofpgfaa
