/- The document's spec: Clip, Plain (printed by gensr1.py). -/
import Derived.Test.YtdbgnnkbcebpcaaSP14
set_option linter.unusedVariables false
set_option linter.unusedSimpArgs false
namespace Go.Proofs.Ytdbgnnkbcebpcaa
open Go.RowKit

def clipN (i0 i1 i2 i3 : Int) : Nat → Array Value
  | 0 => v4A 0 0 0 0
  | 1 => v4A i0 0 0 0
  | 2 => v4A i0 i1 0 0
  | 3 => v4A i0 i1 i2 0
  | _ => v4A i0 i1 i2 i3
section
variable (i0 i1 i2 i3 : Int) (w : World)
set_option maxRecDepth 100000 in
set_option maxHeartbeats 1000000 in
theorem rplain_c (k : Int) : Calls Try.prog 49 #[.int .i64 k] w fun e w' => e = .returned (.int .i64 (plainP k)) ∧ w' = w := by
  unfold plainP
  by_cases h : k = 14 ∨ k = 15
  · rw [if_pos h]
    rcases h with rfl | rfl <;>
    ( go_enter Try.func49, Try.ntmps49
      go_wp2
      go_ret
      exact ⟨rfl, rfl⟩)
  · rw [if_neg h]
    have h1 : (k == 14) = false := by simp; omega
    have h2 : (k == 15) = false := by simp; omega
    clear h
    go_enter Try.func49, Try.ntmps49
    go_wp2
    go_ret
    exact ⟨rfl, rfl⟩
set_option maxRecDepth 100000 in
set_option maxHeartbeats 4000000 in
theorem rclip_1 : Calls Try.prog 46 #[.agg (v4A i0 i1 i2 i3), .int .i64 1] w fun e w' => e = .returned (.agg (v4A i0 0 0 0)) ∧ Upd [] w w' := by
  unfold v4A
  go_enter Try.func46, Try.ntmps46
  go_wp2
  go_loopg [6] 1 (fun m s6 wr => ∃ j : Nat, m + j = 1 ∧ s6 = .int .i64 j ∧ wr = ((w.alloc (.cells #[.int .u32 i0, .int .u32 i1, .int .u32 i2, .int .u32 i3] 26)).alloc (.cells #[.int .u32 0, .int .u32 0, .int .u32 0, .int .u32 0] 26)).alloc (.cells (clipN i0 i1 i2 i3 j) 26))
  case atStart => exact ⟨0, by omega, rfl, rfl⟩
  case round =>
    obtain ⟨j, hj, rfl, rfl⟩ := hrel
    have hc : j = 0 ∨ j = 1 := by omega
    rcases hc with rfl | rfl
    · simp only [clipN, v4A]
      go_wp2
      go_roundg 0
      case rel => exact ⟨1, by omega, rfl, rfl⟩
      case measure => omega
    · simp only [clipN, v4A]
      go_wp2
      refine bodyPost_ret (v := .agg (v4A i0 0 0 0)) (by simp [results, Try.f46, go_sem, v4A]) rfl ?_
      exact ⟨rfl, by repeat (first | (with_reducible exact Upd.refl _ _) | (with_reducible refine Upd.alloc ?_ _))⟩
set_option maxRecDepth 100000 in
set_option maxHeartbeats 4000000 in
theorem rclip_2 : Calls Try.prog 46 #[.agg (v4A i0 i1 i2 i3), .int .i64 2] w fun e w' => e = .returned (.agg (v4A i0 i1 0 0)) ∧ Upd [] w w' := by
  unfold v4A
  go_enter Try.func46, Try.ntmps46
  go_wp2
  go_loopg [6] 2 (fun m s6 wr => ∃ j : Nat, m + j = 2 ∧ s6 = .int .i64 j ∧ wr = ((w.alloc (.cells #[.int .u32 i0, .int .u32 i1, .int .u32 i2, .int .u32 i3] 26)).alloc (.cells #[.int .u32 0, .int .u32 0, .int .u32 0, .int .u32 0] 26)).alloc (.cells (clipN i0 i1 i2 i3 j) 26))
  case atStart => exact ⟨0, by omega, rfl, rfl⟩
  case round =>
    obtain ⟨j, hj, rfl, rfl⟩ := hrel
    have hc : j = 0 ∨ j = 1 ∨ j = 2 := by omega
    rcases hc with rfl | rfl | rfl
    · simp only [clipN, v4A]
      go_wp2
      go_roundg 1
      case rel => exact ⟨1, by omega, rfl, rfl⟩
      case measure => omega
    · simp only [clipN, v4A]
      go_wp2
      go_roundg 0
      case rel => exact ⟨2, by omega, rfl, rfl⟩
      case measure => omega
    · simp only [clipN, v4A]
      go_wp2
      refine bodyPost_ret (v := .agg (v4A i0 i1 0 0)) (by simp [results, Try.f46, go_sem, v4A]) rfl ?_
      exact ⟨rfl, by repeat (first | (with_reducible exact Upd.refl _ _) | (with_reducible refine Upd.alloc ?_ _))⟩
set_option maxRecDepth 100000 in
set_option maxHeartbeats 4000000 in
theorem rclip_3 : Calls Try.prog 46 #[.agg (v4A i0 i1 i2 i3), .int .i64 3] w fun e w' => e = .returned (.agg (v4A i0 i1 i2 0)) ∧ Upd [] w w' := by
  unfold v4A
  go_enter Try.func46, Try.ntmps46
  go_wp2
  go_loopg [6] 3 (fun m s6 wr => ∃ j : Nat, m + j = 3 ∧ s6 = .int .i64 j ∧ wr = ((w.alloc (.cells #[.int .u32 i0, .int .u32 i1, .int .u32 i2, .int .u32 i3] 26)).alloc (.cells #[.int .u32 0, .int .u32 0, .int .u32 0, .int .u32 0] 26)).alloc (.cells (clipN i0 i1 i2 i3 j) 26))
  case atStart => exact ⟨0, by omega, rfl, rfl⟩
  case round =>
    obtain ⟨j, hj, rfl, rfl⟩ := hrel
    have hc : j = 0 ∨ j = 1 ∨ j = 2 ∨ j = 3 := by omega
    rcases hc with rfl | rfl | rfl | rfl
    · simp only [clipN, v4A]
      go_wp2
      go_roundg 2
      case rel => exact ⟨1, by omega, rfl, rfl⟩
      case measure => omega
    · simp only [clipN, v4A]
      go_wp2
      go_roundg 1
      case rel => exact ⟨2, by omega, rfl, rfl⟩
      case measure => omega
    · simp only [clipN, v4A]
      go_wp2
      go_roundg 0
      case rel => exact ⟨3, by omega, rfl, rfl⟩
      case measure => omega
    · simp only [clipN, v4A]
      go_wp2
      refine bodyPost_ret (v := .agg (v4A i0 i1 i2 0)) (by simp [results, Try.f46, go_sem, v4A]) rfl ?_
      exact ⟨rfl, by repeat (first | (with_reducible exact Upd.refl _ _) | (with_reducible refine Upd.alloc ?_ _))⟩
set_option maxRecDepth 100000 in
set_option maxHeartbeats 4000000 in
theorem rclip_4 : Calls Try.prog 46 #[.agg (v4A i0 i1 i2 i3), .int .i64 4] w fun e w' => e = .returned (.agg (v4A i0 i1 i2 i3)) ∧ Upd [] w w' := by
  unfold v4A
  go_enter Try.func46, Try.ntmps46
  go_wp2
  go_loopg [6] 4 (fun m s6 wr => ∃ j : Nat, m + j = 4 ∧ s6 = .int .i64 j ∧ wr = ((w.alloc (.cells #[.int .u32 i0, .int .u32 i1, .int .u32 i2, .int .u32 i3] 26)).alloc (.cells #[.int .u32 0, .int .u32 0, .int .u32 0, .int .u32 0] 26)).alloc (.cells (clipN i0 i1 i2 i3 j) 26))
  case atStart => exact ⟨0, by omega, rfl, rfl⟩
  case round =>
    obtain ⟨j, hj, rfl, rfl⟩ := hrel
    have hc : j = 0 ∨ j = 1 ∨ j = 2 ∨ j = 3 ∨ j = 4 := by omega
    rcases hc with rfl | rfl | rfl | rfl | rfl
    · simp only [clipN, v4A]
      go_wp2
      go_roundg 3
      case rel => exact ⟨1, by omega, rfl, rfl⟩
      case measure => omega
    · simp only [clipN, v4A]
      go_wp2
      go_roundg 2
      case rel => exact ⟨2, by omega, rfl, rfl⟩
      case measure => omega
    · simp only [clipN, v4A]
      go_wp2
      go_roundg 1
      case rel => exact ⟨3, by omega, rfl, rfl⟩
      case measure => omega
    · simp only [clipN, v4A]
      go_wp2
      go_roundg 0
      case rel => exact ⟨4, by omega, rfl, rfl⟩
      case measure => omega
    · simp only [clipN, v4A]
      go_wp2
      refine bodyPost_ret (v := .agg (v4A i0 i1 i2 i3)) (by simp [results, Try.f46, go_sem, v4A]) rfl ?_
      exact ⟨rfl, by repeat (first | (with_reducible exact Upd.refl _ _) | (with_reducible refine Upd.alloc ?_ _))⟩
theorem rclip_c (wd : Int) (h1 : 1 ≤ wd) (h4 : wd ≤ 4) : Calls Try.prog 46 #[.agg (v4A i0 i1 i2 i3), .int .i64 wd] w fun e w' => e = .returned (.agg (clipA wd i0 i1 i2 i3)) ∧ Upd [] w w' := by
  have h : wd = 1 ∨ wd = 2 ∨ wd = 3 ∨ wd = 4 := by omega
  rcases h with rfl | rfl | rfl | rfl
  · exact rclip_1 i0 i1 i2 i3 w
  · exact rclip_2 i0 i1 i2 i3 w
  · exact rclip_3 i0 i1 i2 i3 w
  · exact rclip_4 i0 i1 i2 i3 w
end
end Go.Proofs.Ytdbgnnkbcebpcaa
