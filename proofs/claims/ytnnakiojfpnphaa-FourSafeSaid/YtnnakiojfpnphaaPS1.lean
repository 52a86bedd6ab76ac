/- Package site: how many cells any object has. -/
import Derived.Test.YtnnakiojfpnphaaFlat
import Derived.Test.YtnnakiojfpnphaaApp
import Derived.Test.YtnnakiojfpnphaaRet
import Derived.Test.YtnnakiojfpnphaaCell2
import Derived.Deep.RegionHeld3
set_option linter.unusedVariables false
set_option linter.unusedSimpArgs false
namespace Go.Proofs.Ytnnakiojfpnphaa
open Go.RowKit
def aheadP (k : Int) : Int := if k = 1 then 2 else if k = 2 then 4 else 1
def roomsP (k n : Int) : Int := if k = 1 then n else if k = 2 then 4 else if k = 3 then 1 else 0
def sizeP (k cap wd rt : Int) : Int := if rightB k cap wd rt = true then aheadP k + roomsP k cap * wd else 0
theorem pw7_pos {n : Int} (h : pw7 n = true) : 1 ≤ n := by
  simp [pw7] at h
  omega
theorem right_kind {k cap wd rt : Int} (h : rightB k cap wd rt = true) : (k = 1 ∧ 1 ≤ wd ∧ wd ≤ 4 ∧ 1 ≤ cap ∧ cap ≤ 64 ∧ rt = 0) ∨ (k = 2 ∧ 1 ≤ wd ∧ wd ≤ 4 ∧ cap = 0 ∧ rt = 0) ∨ (k = 3 ∧ 1 ≤ wd ∧ wd ≤ 4 ∧ cap = 0 ∧ 0 ≤ rt ∧ rt ≤ 8) ∨ (k = 4 ∧ wd = 0 ∧ cap = 0 ∧ rt = 0) := by
  unfold rightB at h
  split at h
  · rename_i hk
    simp only [Bool.and_eq_true, beq_iff_eq, wideB, decide_eq_true_eq] at h
    have := pw7_pos h.2.1
    have := pw7_le h.2.1
    omega
  · split at h
    · simp only [Bool.and_eq_true, beq_iff_eq] at h
      omega
    · split at h
      · simp only [Bool.and_eq_true, beq_iff_eq, wideB, decide_eq_true_eq] at h
        omega
      · split at h
        · simp only [Bool.and_eq_true, beq_iff_eq, wideB, decide_eq_true_eq] at h
          omega
        · cases h
theorem rooms_bounds {k cap wd rt : Int} (h : rightB k cap wd rt = true) : 1 ≤ aheadP k ∧ aheadP k ≤ 4 ∧ 0 ≤ roomsP k cap * wd ∧ roomsP k cap * wd ≤ 256 := by
  rcases right_kind h with ⟨rfl, h1, h2, h3, h4, rfl⟩ | ⟨rfl, h1, h2, rfl, rfl⟩ | ⟨rfl, h1, h2, rfl, h3, h4⟩ | ⟨rfl, rfl, rfl, rfl⟩
  · simp only [aheadP, roomsP, if_true]
    have ha : wd = 1 ∨ wd = 2 ∨ wd = 3 ∨ wd = 4 := by omega
    rcases ha with rfl | rfl | rfl | rfl <;> omega
  · simp [aheadP, roomsP]
    omega
  · simp [aheadP, roomsP]
    omega
  · simp [aheadP, roomsP]
theorem sizeP_bounds (k cap wd rt : Int) : 0 ≤ sizeP k cap wd rt ∧ sizeP k cap wd rt ≤ 260 := by
  unfold sizeP
  split
  · rename_i h
    have := rooms_bounds h
    omega
  · omega
set_option maxRecDepth 100000 in
set_option maxHeartbeats 1000000 in
theorem ahead_c (k : Int) (w : World) : Calls Try.prog 63 #[.int .i64 k] w fun e w' => e = .returned (.int .i64 (aheadP k)) ∧ w = w' := by
  unfold aheadP
  by_cases h1 : k = 1
  · subst h1
    rw [if_pos rfl]
    go_enter Try.func63, Try.ntmps63
    go_wp2
    go_ret
    exact ⟨rfl, rfl⟩
  by_cases h2 : k = 2
  · subst h2
    rw [if_neg (by decide), if_pos rfl]
    go_enter Try.func63, Try.ntmps63
    go_wp2
    go_ret
    exact ⟨rfl, rfl⟩
  rw [if_neg h1, if_neg h2]
  have q1 : (k == 1) = false := by simpa using h1
  have q2 : (k == 2) = false := by simpa using h2
  clear h1 h2
  go_enter Try.func63, Try.ntmps63
  go_wp2
  go_ret
  exact ⟨rfl, rfl⟩
set_option maxRecDepth 100000 in
set_option maxHeartbeats 1000000 in
theorem rooms_c (k n : Int) (w : World) : Calls Try.prog 64 #[.int .i64 k, .int .i64 n] w fun e w' => e = .returned (.int .i64 (roomsP k n)) ∧ w = w' := by
  unfold roomsP
  by_cases h1 : k = 1
  · subst h1
    rw [if_pos rfl]
    go_enter Try.func64, Try.ntmps64
    go_wp2
    go_ret
    exact ⟨rfl, rfl⟩
  by_cases h2 : k = 2
  · subst h2
    rw [if_neg (by decide), if_pos rfl]
    go_enter Try.func64, Try.ntmps64
    go_wp2
    go_ret
    exact ⟨rfl, rfl⟩
  by_cases h3 : k = 3
  · subst h3
    rw [if_neg (by decide), if_neg (by decide), if_pos rfl]
    go_enter Try.func64, Try.ntmps64
    go_wp2
    go_ret
    exact ⟨rfl, rfl⟩
  rw [if_neg h1, if_neg h2, if_neg h3]
  have q1 : (k == 1) = false := by simpa using h1
  have q2 : (k == 2) = false := by simpa using h2
  have q3 : (k == 3) = false := by simpa using h3
  clear h1 h2 h3
  go_enter Try.func64, Try.ntmps64
  go_wp2
  go_ret
  exact ⟨rfl, rfl⟩
set_option maxRecDepth 100000 in
set_option maxHeartbeats 4000000 in
theorem osize_c (k cap wd rt f t i0 i1 i2 i3 : Int) (w : World) : Calls Try.prog 48 #[.agg (obA k cap wd rt f t i0 i1 i2 i3)] w fun e w' => e = .returned (.int .i64 (sizeP k cap wd rt)) ∧ Upd [] w w' := by
  have HR := Lib.hid fun w => sright_any cap wd rt f t i0 i1 i2 i3 w k
  unfold sizeP
  cases hr : rightB k cap wd rt with
  | false =>
    rw [hr] at HR
    simp only [Bool.false_eq_true, if_false]
    unfold obA at *
    clear hr
    go_enter Try.func48, Try.ntmps48
    go_wp2_with (go_at_call 19; (with_reducible refine (HR.out _).mono ?_); rintro e w1 ⟨rfl, hu1⟩; obtain ⟨p1, rfl⟩ := hu1.grown; clear hu1)
    go_ret
    exact ⟨rfl, by repeat (first | (with_reducible exact Upd.refl _ _) | (with_reducible apply Upd.drew) | (with_reducible refine Upd.grE ?_ _) | (with_reducible refine Upd.alloc ?_ _))⟩
  | true =>
    rw [hr] at HR
    rw [if_pos rfl]
    have HA := Lib.hid fun w => ahead_c k w
    have HO := Lib.hid fun w => rooms_c k cap w
    have hb := rooms_bounds hr
    have w1 : IntKind.i64.wrap (roomsP k cap * wd) = roomsP k cap * wd := by rw [IntKind.wrap_i64]; omega
    have w2 : IntKind.i64.wrap (aheadP k + roomsP k cap * wd) = aheadP k + roomsP k cap * wd := by rw [IntKind.wrap_i64]; omega
    have hc := heap_alloc_new w (.cells (obA k cap wd rt f t i0 i1 i2 i3) 56)
    unfold obA at *
    obtain ⟨c0, c1, c2⟩ : (w.alloc (.cells #[.int .i64 k, .int .i64 cap, .int .i64 wd, .int .i64 rt, .int .i64 f, .int .i64 t, .int .u32 i0, .int .u32 i1, .int .u32 i2, .int .u32 i3] 56)).cell? ⟨w.heap.size, 0, none⟩ = some (.int .i64 k) ∧ (w.alloc (.cells #[.int .i64 k, .int .i64 cap, .int .i64 wd, .int .i64 rt, .int .i64 f, .int .i64 t, .int .u32 i0, .int .u32 i1, .int .u32 i2, .int .u32 i3] 56)).cell? ⟨w.heap.size, 1, none⟩ = some (.int .i64 cap) ∧ (w.alloc (.cells #[.int .i64 k, .int .i64 cap, .int .i64 wd, .int .i64 rt, .int .i64 f, .int .i64 t, .int .u32 i0, .int .u32 i1, .int .u32 i2, .int .u32 i3] 56)).cell? ⟨w.heap.size, 2, none⟩ = some (.int .i64 wd) := ⟨by rw [cell_of_heap hc]; rfl, by rw [cell_of_heap hc]; rfl, by rw [cell_of_heap hc]; rfl⟩
    generalize aheadP k = A at *
    generalize roomsP k cap = R at *
    clear hr hb hc
    go_enter Try.func48, Try.ntmps48
    go_wp2_with (go_at_call 19; (with_reducible refine (HR.out _).mono ?_); rintro e w1 ⟨rfl, hu1⟩; obtain ⟨p1, rfl⟩ := hu1.grown; clear hu1)
    go_region_held3 (fun w' => w'.cell? ⟨w.heap.size, 0, none⟩ = some (.int .i64 k) ∧ w'.cell? ⟨w.heap.size, 1, none⟩ = some (.int .i64 cap) ∧ w'.cell? ⟨w.heap.size, 2, none⟩ = some (.int .i64 wd))
      (((try dsimp only); (repeat' apply And.intro) <;> (repeat (first | (with_reducible assumption) | (with_reducible apply cell_grE) | (with_reducible apply cell_allocE) | (with_reducible apply cell_drewE)))))
      (first
        | (go_at_call 63; (with_reducible refine (HA.out _).mono ?_); rintro e w2 ⟨rfl, rfl⟩)
        | (go_at_call 64; (with_reducible refine (HO.out _).mono ?_); rintro e w2 ⟨rfl, rfl⟩))
    all_goals
      go_wp2
      go_ret
      exact ⟨rfl, by repeat (first | (with_reducible exact Upd.refl _ _) | (with_reducible apply Upd.drew) | (with_reducible refine Upd.grE ?_ _) | (with_reducible refine Upd.alloc ?_ _))⟩
end Go.Proofs.Ytnnakiojfpnphaa
