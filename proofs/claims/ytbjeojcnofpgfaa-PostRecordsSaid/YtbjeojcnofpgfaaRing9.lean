/- Package ring: the last acts of Push and Pop. -/
import Derived.Test.YtbjeojcnofpgfaaRing6
set_option linter.unusedVariables false
set_option linter.unusedSimpArgs false
namespace Go.Proofs.Ytbjeojcnofpgfaa
open Go.RowKit

set_option maxRecDepth 100000 in
set_option maxHeartbeats 2000000 in
theorem push_last {cap wd : Int} {w : World} {b : Nat} {t : TypeId} {s : RgS} (h : RG cap wd w b t s) (hn : s.n = wd + 2) (hon : s.on = true) (hc : Cap5 cap) (h1 : 1 ≤ wd) (h4 : wd ≤ 4) :
    Calls Try.prog 179 #[.pointer (some ⟨b, 0, none⟩)] w fun e w' => e = .returned (.tuple #[.agg #[.int .i64 2, .int .i64 1, .int .u32 (IntKind.u32.wrap (s.a + 1))], .bool true]) ∧ Upd [] w w' := by
  obtain ⟨x0, x1, x2, x3, x4, x5, x6, x7⟩ := h.cells
  obtain ⟨-, -, -, -, -, -, -, -, -, -, x18⟩ := h.cells2
  rw [hn] at x5
  rw [hon] at x18
  have lb := heap_lt h.h
  have HG := Lib.hid h
  have hmf : ∀ (fn : Fn) (first cap : Array Value) (w : World), (Instr.makeFunc fn first cap).run Try.prog w = .ok (.func fn first cap) w := fun _ _ _ _ => rfl
  have hbx : ((w.alloc (.cells #[.pointer (some ⟨b, 0, none⟩)] 100)).alloc (.cells #[.int .i64 0, .int .i64 0, .int .u32 0] 80)).cell? ⟨w.heap.size, 0, none⟩ = some (.pointer (some ⟨b, 0, none⟩)) := by rw [cell_of_heap (heap_alloc' (heap_alloc_new _ _))]; rfl
  have HAT := Lib.hid fun W' (k : Upd [] ((w.alloc (.cells #[.pointer (some ⟨b, 0, none⟩)] 100)).alloc (.cells #[.int .i64 0, .int .i64 0, .int .u32 0] 80)) W') => push_at_tail ((k.cell (p := ⟨w.heap.size, 0, none⟩) (by simp; omega) (by simp)).trans hbx) (h.keep (((Upd.refl [] w).alloc _).alloc _ |>.trans k) (by simp)) hc h1 h4
  have hp : ∀ W', Upd [] ((w.alloc (.cells #[.pointer (some ⟨b, 0, none⟩)] 100)).alloc (.cells #[.int .i64 0, .int .i64 0, .int .u32 0] 80)) W' → Calls Try.prog 102 #[.pointer (some ⟨b, 0, none⟩)] W' fun e w' => e = .returned (.int .i64 wd) ∧ W' = w' := fun W' k => by
    have h0 := ring_past (n := wd + 2) (((((Upd.refl [] w).alloc _).alloc _ |>.trans k).cell (p := ⟨b, 5, none⟩) lb (by simp)).trans x5) (by omega) (by omega)
    rw [show wd + 2 - 2 = wd by omega] at h0
    exact h0
  have HP := Lib.hid hp
  have xb3 := (((Upd.refl [] w).alloc (.cells #[.pointer (some ⟨b, 0, none⟩)] 100)).alloc (.cells #[.int .i64 0, .int .i64 0, .int .u32 0] 80) |>.cell (p := ⟨b, 3, none⟩) lb (by simp)).trans x3
  have xb6 := (((Upd.refl [] w).alloc (.cells #[.pointer (some ⟨b, 0, none⟩)] 100)).alloc (.cells #[.int .i64 0, .int .i64 0, .int .u32 0] 80) |>.cell (p := ⟨b, 6, none⟩) lb (by simp)).trans x6
  have ne1 : w.heap.size ≠ w.heap.size + 1 := by omega
  have ne2 : b ≠ w.heap.size + 1 := by omega
  have ne3 : w.heap.size + 1 ≠ w.heap.size := by omega
  have ne4 : w.heap.size + 1 ≠ b := by omega
  have d0 : (wd + 2 == 0) = false := by simp; omega
  have d1 : (wd + 2 == 1) = false := by simp; omega
  have dw : decide (wd < wd) = false := by simp
  clear h hn hon hc h1 h4 hp
  go_enter Try.func179, Try.ntmps179
  go_wp2
  go_step3
  go_wp2
  go_region_held3 (fun w' => w'.cell? ⟨w.heap.size, 0, none⟩ = some (.pointer (some ⟨b, 0, none⟩)) ∧ w'.cell? ⟨b, 3, none⟩ = some (.int .i64 wd))
    (first | (with_reducible exact ⟨hbx, xb3⟩) | (go_keep; done))
    (first | (go_at_call 102; refine (HP.out _ (by first | exact Upd.refl _ _ | exact (Upd.refl _ _).drew | exact (Upd.refl _ _).drewN _ | exact (Upd.refl _ _).drew.drew)).mono ?_; rintro e w1 ⟨rfl, rfl⟩))
  all_goals
    go_wp2
    go_region_held3 (fun w' => w'.cell? ⟨w.heap.size, 0, none⟩ = some (.pointer (some ⟨b, 0, none⟩)) ∧ w'.cell? ⟨b, 6, none⟩ = some (.int .u32 s.a))
      (first | (with_reducible exact ⟨hbx, xb6⟩) | (with_reducible exact ⟨bx, y6⟩) | (go_keep; done))
      (first
        | (go_at_call 181; refine (HAT.out _ (by first | exact Upd.refl _ _ | exact (Upd.refl _ _).drew | exact (Upd.refl _ _).drewN _ | exact (Upd.refl _ _).drew.drew)).mono ?_; rintro e w1 ⟨rfl, hu1⟩; have HU1 := Lib.hid (show Upd [] w w1 from (((Upd.refl [] w).alloc _).alloc _).trans (show Upd [] ((w.alloc (.cells #[.pointer (some ⟨b, 0, none⟩)] 100)).alloc (.cells #[.int .i64 0, .int .i64 0, .int .u32 0] 80)) w1 from by first | exact hu1 | exact hu1.of_drew | exact hu1.of_drewN | exact hu1.of_drew.of_drew)); have hz := hu1.keepb (k := w.heap.size + 1) (by first | exact heap_alloc_at _ (by simp) | exact heap_drew' (heap_alloc_at _ (by simp)) | exact heap_drew' (heap_drew' (heap_alloc_at _ (by simp)))) (by simp); obtain ⟨z0, z1, z2⟩ := cells3 hz; have zf := fun j => frozen_of_heap hz j; have HZ := Lib.hid hz; have hbx := hu1.keepb (k := w.heap.size) (by first | exact heap_alloc' (heap_alloc_new _ _) | exact heap_drew' (heap_alloc' (heap_alloc_new _ _)) | exact heap_drew' (heap_drew' (heap_alloc' (heap_alloc_new _ _)))) (by simp); have bx := cell_of_heap hbx 0; simp at bx; obtain ⟨y0, y1, y2, y3, y4, y5, y6, y7⟩ := (HG.out.keep HU1.out (by simp)).cells; clear hu1 hz hbx))
    all_goals
      go_wp2
      rw [Exit.noGoto_ret]
      refine ret_act rfl (g := w.heap.size + 1) (t := 80) (fr := (0, 0)) (x := .int .i64 2) (y := .int .i64 1) (z := .int .u32 (IntKind.u32.wrap (s.a + 1))) rfl rfl rfl (hg := ?hg) ?_
      case hg =>
        repeat (first | (with_reducible exact HZ.out) | (with_reducible apply heap_set2) | (with_reducible apply heap_drew'))
        all_goals first | rfl | simp
      refine ⟨rfl, ?_⟩
      repeat (first | (with_reducible refine Upd.setCell ?_ (by simp) _) | (with_reducible refine Upd.drew ?_))
      exact HU1.out
set_option maxRecDepth 100000 in
set_option maxHeartbeats 2000000 in
theorem pop_last {cap wd : Int} {w : World} {b : Nat} {t : TypeId} {s : RgS} (h : RG cap wd w b t s) (hn : s.n = wd + 2) (hon : s.on = true) (hc : Cap5 cap) (h1 : 1 ≤ wd) (h4 : wd ≤ 4) :
    Calls Try.prog 174 #[.pointer (some ⟨b, 0, none⟩)] w fun e w' => e = .returned (.tuple #[.agg #[.int .i64 2, .int .i64 0, .int .u32 (IntKind.u32.wrap (s.a + 1))], .bool true]) ∧ Upd [] w w' := by
  obtain ⟨x0, x1, x2, x3, x4, x5, x6, x7⟩ := h.cells
  obtain ⟨-, -, -, -, -, -, -, -, -, -, x18⟩ := h.cells2
  rw [hn] at x5
  rw [hon] at x18
  have lb := heap_lt h.h
  have HG := Lib.hid h
  have hmf : ∀ (fn : Fn) (first cap : Array Value) (w : World), (Instr.makeFunc fn first cap).run Try.prog w = .ok (.func fn first cap) w := fun _ _ _ _ => rfl
  have hbx : ((w.alloc (.cells #[.pointer (some ⟨b, 0, none⟩)] 98)).alloc (.cells #[.int .i64 0, .int .i64 0, .int .u32 0] 80)).cell? ⟨w.heap.size, 0, none⟩ = some (.pointer (some ⟨b, 0, none⟩)) := by rw [cell_of_heap (heap_alloc' (heap_alloc_new _ _))]; rfl
  have HAT := Lib.hid fun W' (k : Upd [] ((w.alloc (.cells #[.pointer (some ⟨b, 0, none⟩)] 98)).alloc (.cells #[.int .i64 0, .int .i64 0, .int .u32 0] 80)) W') => pop_at_head ((k.cell (p := ⟨w.heap.size, 0, none⟩) (by simp; omega) (by simp)).trans hbx) (h.keep (((Upd.refl [] w).alloc _).alloc _ |>.trans k) (by simp)) hc h1 h4
  have hp : ∀ W', Upd [] ((w.alloc (.cells #[.pointer (some ⟨b, 0, none⟩)] 98)).alloc (.cells #[.int .i64 0, .int .i64 0, .int .u32 0] 80)) W' → Calls Try.prog 102 #[.pointer (some ⟨b, 0, none⟩)] W' fun e w' => e = .returned (.int .i64 wd) ∧ W' = w' := fun W' k => by
    have h0 := ring_past (n := wd + 2) (((((Upd.refl [] w).alloc _).alloc _ |>.trans k).cell (p := ⟨b, 5, none⟩) lb (by simp)).trans x5) (by omega) (by omega)
    rw [show wd + 2 - 2 = wd by omega] at h0
    exact h0
  have HP := Lib.hid hp
  have xb3 := (((Upd.refl [] w).alloc (.cells #[.pointer (some ⟨b, 0, none⟩)] 98)).alloc (.cells #[.int .i64 0, .int .i64 0, .int .u32 0] 80) |>.cell (p := ⟨b, 3, none⟩) lb (by simp)).trans x3
  have xb6 := (((Upd.refl [] w).alloc (.cells #[.pointer (some ⟨b, 0, none⟩)] 98)).alloc (.cells #[.int .i64 0, .int .i64 0, .int .u32 0] 80) |>.cell (p := ⟨b, 6, none⟩) lb (by simp)).trans x6
  have ne1 : w.heap.size ≠ w.heap.size + 1 := by omega
  have ne2 : b ≠ w.heap.size + 1 := by omega
  have ne3 : w.heap.size + 1 ≠ w.heap.size := by omega
  have ne4 : w.heap.size + 1 ≠ b := by omega
  have d0 : (wd + 2 == 0) = false := by simp; omega
  have d1 : (wd + 2 == 1) = false := by simp; omega
  have dw : decide (wd < wd) = false := by simp
  clear h hn hon hc h1 h4 hp
  go_enter Try.func174, Try.ntmps174
  go_wp2
  go_step3
  go_wp2
  go_region_held3 (fun w' => w'.cell? ⟨w.heap.size, 0, none⟩ = some (.pointer (some ⟨b, 0, none⟩)) ∧ w'.cell? ⟨b, 3, none⟩ = some (.int .i64 wd))
    (first | (with_reducible exact ⟨hbx, xb3⟩) | (go_keep; done))
    (first | (go_at_call 102; refine (HP.out _ (by first | exact Upd.refl _ _ | exact (Upd.refl _ _).drew | exact (Upd.refl _ _).drewN _ | exact (Upd.refl _ _).drew.drew)).mono ?_; rintro e w1 ⟨rfl, rfl⟩))
  all_goals
    go_wp2
    go_region_held3 (fun w' => w'.cell? ⟨w.heap.size, 0, none⟩ = some (.pointer (some ⟨b, 0, none⟩)) ∧ w'.cell? ⟨b, 6, none⟩ = some (.int .u32 s.a))
      (first | (with_reducible exact ⟨hbx, xb6⟩) | (with_reducible exact ⟨bx, y6⟩) | (go_keep; done))
      (first
        | (go_at_call 176; refine (HAT.out _ (by first | exact Upd.refl _ _ | exact (Upd.refl _ _).drew | exact (Upd.refl _ _).drewN _ | exact (Upd.refl _ _).drew.drew)).mono ?_; rintro e w1 ⟨rfl, hu1⟩; have HU1 := Lib.hid (show Upd [] w w1 from (((Upd.refl [] w).alloc _).alloc _).trans (show Upd [] ((w.alloc (.cells #[.pointer (some ⟨b, 0, none⟩)] 98)).alloc (.cells #[.int .i64 0, .int .i64 0, .int .u32 0] 80)) w1 from by first | exact hu1 | exact hu1.of_drew | exact hu1.of_drewN | exact hu1.of_drew.of_drew)); have hz := hu1.keepb (k := w.heap.size + 1) (by first | exact heap_alloc_at _ (by simp) | exact heap_drew' (heap_alloc_at _ (by simp)) | exact heap_drew' (heap_drew' (heap_alloc_at _ (by simp)))) (by simp); obtain ⟨z0, z1, z2⟩ := cells3 hz; have zf := fun j => frozen_of_heap hz j; have HZ := Lib.hid hz; have hbx := hu1.keepb (k := w.heap.size) (by first | exact heap_alloc' (heap_alloc_new _ _) | exact heap_drew' (heap_alloc' (heap_alloc_new _ _)) | exact heap_drew' (heap_drew' (heap_alloc' (heap_alloc_new _ _)))) (by simp); have bx := cell_of_heap hbx 0; simp at bx; obtain ⟨y0, y1, y2, y3, y4, y5, y6, y7⟩ := (HG.out.keep HU1.out (by simp)).cells; clear hu1 hz hbx))
    all_goals
      go_wp2
      rw [Exit.noGoto_ret]
      refine ret_act rfl (g := w.heap.size + 1) (t := 80) (fr := (0, 0)) (x := .int .i64 2) (y := .int .i64 0) (z := .int .u32 (IntKind.u32.wrap (s.a + 1))) rfl rfl rfl (hg := ?hg) ?_
      case hg =>
        repeat (first | (with_reducible exact HZ.out) | (with_reducible apply heap_set2) | (with_reducible apply heap_drew'))
        all_goals first | rfl | simp
      refine ⟨rfl, ?_⟩
      repeat (first | (with_reducible refine Upd.setCell ?_ (by simp) _) | (with_reducible refine Upd.drew ?_))
      exact HU1.out
end Go.Proofs.Ytbjeojcnofpgfaa

