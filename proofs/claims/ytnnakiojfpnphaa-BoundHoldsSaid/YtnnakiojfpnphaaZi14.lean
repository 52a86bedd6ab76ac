/- The walk, part 14: Ring8. -/
import Derived.Test.YtnnakiojfpnphaaZi12
set_option linter.unusedVariables false
set_option linter.unusedSimpArgs false

namespace Go.Proofs.Ytnnakiojfpnphaa
open Go.RowKit

set_option maxRecDepth 100000 in
set_option maxHeartbeats 2000000 in
theorem pop_word0 {cap wd : Int} {w : World} {b : Nat} {t : TypeId} {s : RgS} (h : RG cap wd w b t s) (hn : s.n = 2) (hw : 0 < wd) (hon : s.on = true) (hc : Cap5 cap) (h1 : 1 ≤ wd) (h4 : wd ≤ 4) :
    Calls Try.prog 114 #[.pointer (some ⟨b, 0, none⟩)] w fun e w' => e = .returned (.tuple #[.agg #[.int .i64 1, .int .i64 (2 + roomI cap s.a * wd + 0), .int .u32 0], .bool true]) ∧ Upd [] w w' := by
  obtain ⟨x0, x1, x2, x3, x4, x5, x6, x7⟩ := h.cells
  obtain ⟨-, -, -, -, -, -, -, -, -, -, x18⟩ := h.cells2
  rw [hn] at x5
  rw [hon] at x18
  have lb := heap_lt h.h
  have HG := Lib.hid h
  have hmf : ∀ (fn : Fn) (first cap : Array Value) (w : World), (Instr.makeFunc fn first cap).run Try.prog w = .ok (.func fn first cap) w := fun _ _ _ _ => rfl
  have hbx : ((w.alloc (.cells #[.pointer (some ⟨b, 0, none⟩)] 124)).alloc (.cells #[.int .i64 0, .int .i64 0, .int .u32 0] 41)).cell? ⟨w.heap.size, 0, none⟩ = some (.pointer (some ⟨b, 0, none⟩)) := by rw [cell_of_heap (heap_alloc' (heap_alloc_new _ _))]; rfl
  obtain ⟨v0, v1, v2, v3, -, -, -, -, -, -, -⟩ := h.cells2
  have dk : decide (0 < wd) = true := by simpa using hw
  have hd : ∀ W', Upd [] ((w.alloc (.cells #[.pointer (some ⟨b, 0, none⟩)] 124)).alloc (.cells #[.int .i64 0, .int .i64 0, .int .u32 0] 41)) W' → Calls Try.prog 108 #[.pointer (some ⟨b, 0, none⟩), .int .u32 s.a] W' fun e w' => e = .returned (.int .i64 (2 + roomI cap s.a * wd + 0)) ∧ Upd [] W' w' := fun W' k => by
    have h0 := ring_data s.a (h.keep (((Upd.refl [] w).alloc _).alloc _ |>.trans k) (by simp)) hc h1 h4 (by omega) (by omega)
    rw [hn] at h0
    exact h0
  have hp : ∀ W', Upd [] ((w.alloc (.cells #[.pointer (some ⟨b, 0, none⟩)] 124)).alloc (.cells #[.int .i64 0, .int .i64 0, .int .u32 0] 41)) W' → Calls Try.prog 107 #[.pointer (some ⟨b, 0, none⟩)] W' fun e w' => e = .returned (.int .i64 0) ∧ W' = w' := fun W' k => ring_past (n := 2) (((((Upd.refl [] w).alloc _).alloc _ |>.trans k).cell (p := ⟨b, 5, none⟩) lb (by simp)).trans x5) (by omega) (by omega)
  have HD := Lib.hid hd
  have HP := Lib.hid hp
  generalize roomI cap s.a = M at *
  have xb3 := (((Upd.refl [] w).alloc (.cells #[.pointer (some ⟨b, 0, none⟩)] 124)).alloc (.cells #[.int .i64 0, .int .i64 0, .int .u32 0] 41) |>.cell (p := ⟨b, 3, none⟩) lb (by simp)).trans x3
  have xb6 := (((Upd.refl [] w).alloc (.cells #[.pointer (some ⟨b, 0, none⟩)] 124)).alloc (.cells #[.int .i64 0, .int .i64 0, .int .u32 0] 41) |>.cell (p := ⟨b, 6, none⟩) lb (by simp)).trans x6
  have xbv := (((Upd.refl [] w).alloc (.cells #[.pointer (some ⟨b, 0, none⟩)] 124)).alloc (.cells #[.int .i64 0, .int .i64 0, .int .u32 0] 41) |>.cell (p := ⟨b, 8, none⟩) lb (by simp)).trans v0
  have ne1 : w.heap.size ≠ w.heap.size + 1 := by omega
  have ne2 : b ≠ w.heap.size + 1 := by omega
  have ne3 : w.heap.size + 1 ≠ w.heap.size := by omega
  have ne4 : w.heap.size + 1 ≠ b := by omega
  clear h hn hw hon hc h1 h4 hd hp
  go_enter Try.func114, Try.ntmps114
  go_wp2
  refine wp_scope_jump1 2 rfl ?_
  intro K HK
  go_wp2
  go_region_held3 (fun w' => w'.cell? ⟨w.heap.size, 0, none⟩ = some (.pointer (some ⟨b, 0, none⟩)) ∧ w'.cell? ⟨b, 3, none⟩ = some (.int .i64 wd))
    (first | (with_reducible exact ⟨hbx, xb3⟩) | (go_keep; done))
    (first | (go_at_call 107; refine (HP.out _ (by first | exact Upd.refl _ _ | exact (Upd.refl _ _).drew | exact (Upd.refl _ _).drewN _ | exact (Upd.refl _ _).drew.drew)).mono ?_; rintro e w1 ⟨rfl, rfl⟩))
  all_goals
    go_wp2
    go_step3
    refine And.intro rfl (HK.out _ _ ?_)
    go_wp2
    go_region_held3 (fun w' => w'.cell? ⟨w.heap.size, 0, none⟩ = some (.pointer (some ⟨b, 0, none⟩)) ∧ w'.cell? ⟨b, 6, none⟩ = some (.int .u32 s.a))
      (first | (with_reducible exact ⟨hbx, xb6⟩) | (with_reducible exact ⟨bx, y6⟩) | (go_keep; done))
      (first
        | (go_at_call 107; refine (HP.out _ (by first | exact HB1.out | exact HB1.out.drew | exact Upd.refl _ _ | exact (Upd.refl _ _).drew | exact (Upd.refl _ _).drewN _ | exact (Upd.refl _ _).drew.drew)).mono ?_; rintro e w2 ⟨rfl, rfl⟩)
        | (go_at_call 108; refine (HD.out _ (by first | exact Upd.refl _ _ | exact (Upd.refl _ _).drew | exact (Upd.refl _ _).drewN _ | exact (Upd.refl _ _).drew.drew)).mono ?_; rintro e w1 ⟨rfl, hu1⟩; have HB1 := Lib.hid (show Upd [] ((w.alloc (.cells #[.pointer (some ⟨b, 0, none⟩)] 124)).alloc (.cells #[.int .i64 0, .int .i64 0, .int .u32 0] 41)) w1 from by first | exact hu1 | exact hu1.of_drew | exact hu1.of_drewN | exact hu1.of_drew.of_drew); have HU1 := Lib.hid (show Upd [] w w1 from (((Upd.refl [] w).alloc _).alloc _).trans (show Upd [] ((w.alloc (.cells #[.pointer (some ⟨b, 0, none⟩)] 124)).alloc (.cells #[.int .i64 0, .int .i64 0, .int .u32 0] 41)) w1 from by first | exact hu1 | exact hu1.of_drew | exact hu1.of_drewN | exact hu1.of_drew.of_drew)); have hz := hu1.keepb (k := w.heap.size + 1) (by first | exact heap_alloc_at _ (by simp) | exact heap_drew' (heap_alloc_at _ (by simp)) | exact heap_drew' (heap_drew' (heap_alloc_at _ (by simp)))) (by simp); obtain ⟨z0, z1, z2⟩ := cells3 hz; have zf := fun j => frozen_of_heap hz j; have HZ := Lib.hid hz; have hbx := hu1.keepb (k := w.heap.size) (by first | exact heap_alloc' (heap_alloc_new _ _) | exact heap_drew' (heap_alloc' (heap_alloc_new _ _)) | exact heap_drew' (heap_drew' (heap_alloc' (heap_alloc_new _ _)))) (by simp); have bx := cell_of_heap hbx 0; simp at bx; obtain ⟨y0, y1, y2, y3, y4, y5, y6, y7⟩ := (HG.out.keep HU1.out (by simp)).cells; clear hu1 hz hbx; have yv := (HU1.out.cell (p := ⟨b, 8, none⟩) lb (by simp)).trans v0))
    all_goals
      go_wp2
      rw [Exit.noGoto_ret]
      refine ret_act rfl (g := w.heap.size + 1) (t := 41) (fr := (0, 0)) (x := .int .i64 1) (y := .int .i64 (2 + M * wd + 0)) (z := .int .u32 0) rfl rfl rfl (hg := ?hg) ?_
      case hg =>
        repeat (first | (with_reducible exact HZ.out) | (with_reducible apply heap_set2) | (with_reducible apply heap_drew'))
        all_goals first | rfl | simp
      refine ⟨rfl, ?_⟩
      repeat (first | (with_reducible refine Upd.setCell ?_ (by simp) _) | (with_reducible refine Upd.drew ?_))
      exact HU1.out
set_option maxRecDepth 100000 in
set_option maxHeartbeats 2000000 in
theorem pop_word1 {cap wd : Int} {w : World} {b : Nat} {t : TypeId} {s : RgS} (h : RG cap wd w b t s) (hn : s.n = 3) (hw : 1 < wd) (hon : s.on = true) (hc : Cap5 cap) (h1 : 1 ≤ wd) (h4 : wd ≤ 4) :
    Calls Try.prog 114 #[.pointer (some ⟨b, 0, none⟩)] w fun e w' => e = .returned (.tuple #[.agg #[.int .i64 1, .int .i64 (2 + roomI cap s.a * wd + 1), .int .u32 0], .bool true]) ∧ Upd [] w w' := by
  obtain ⟨x0, x1, x2, x3, x4, x5, x6, x7⟩ := h.cells
  obtain ⟨-, -, -, -, -, -, -, -, -, -, x18⟩ := h.cells2
  rw [hn] at x5
  rw [hon] at x18
  have lb := heap_lt h.h
  have HG := Lib.hid h
  have hmf : ∀ (fn : Fn) (first cap : Array Value) (w : World), (Instr.makeFunc fn first cap).run Try.prog w = .ok (.func fn first cap) w := fun _ _ _ _ => rfl
  have hbx : ((w.alloc (.cells #[.pointer (some ⟨b, 0, none⟩)] 124)).alloc (.cells #[.int .i64 0, .int .i64 0, .int .u32 0] 41)).cell? ⟨w.heap.size, 0, none⟩ = some (.pointer (some ⟨b, 0, none⟩)) := by rw [cell_of_heap (heap_alloc' (heap_alloc_new _ _))]; rfl
  obtain ⟨v0, v1, v2, v3, -, -, -, -, -, -, -⟩ := h.cells2
  have dk : decide (1 < wd) = true := by simpa using hw
  have hd : ∀ W', Upd [] ((w.alloc (.cells #[.pointer (some ⟨b, 0, none⟩)] 124)).alloc (.cells #[.int .i64 0, .int .i64 0, .int .u32 0] 41)) W' → Calls Try.prog 108 #[.pointer (some ⟨b, 0, none⟩), .int .u32 s.a] W' fun e w' => e = .returned (.int .i64 (2 + roomI cap s.a * wd + 1)) ∧ Upd [] W' w' := fun W' k => by
    have h0 := ring_data s.a (h.keep (((Upd.refl [] w).alloc _).alloc _ |>.trans k) (by simp)) hc h1 h4 (by omega) (by omega)
    rw [hn] at h0
    exact h0
  have hp : ∀ W', Upd [] ((w.alloc (.cells #[.pointer (some ⟨b, 0, none⟩)] 124)).alloc (.cells #[.int .i64 0, .int .i64 0, .int .u32 0] 41)) W' → Calls Try.prog 107 #[.pointer (some ⟨b, 0, none⟩)] W' fun e w' => e = .returned (.int .i64 1) ∧ W' = w' := fun W' k => ring_past (n := 3) (((((Upd.refl [] w).alloc _).alloc _ |>.trans k).cell (p := ⟨b, 5, none⟩) lb (by simp)).trans x5) (by omega) (by omega)
  have HD := Lib.hid hd
  have HP := Lib.hid hp
  generalize roomI cap s.a = M at *
  have xb3 := (((Upd.refl [] w).alloc (.cells #[.pointer (some ⟨b, 0, none⟩)] 124)).alloc (.cells #[.int .i64 0, .int .i64 0, .int .u32 0] 41) |>.cell (p := ⟨b, 3, none⟩) lb (by simp)).trans x3
  have xb6 := (((Upd.refl [] w).alloc (.cells #[.pointer (some ⟨b, 0, none⟩)] 124)).alloc (.cells #[.int .i64 0, .int .i64 0, .int .u32 0] 41) |>.cell (p := ⟨b, 6, none⟩) lb (by simp)).trans x6
  have xbv := (((Upd.refl [] w).alloc (.cells #[.pointer (some ⟨b, 0, none⟩)] 124)).alloc (.cells #[.int .i64 0, .int .i64 0, .int .u32 0] 41) |>.cell (p := ⟨b, 9, none⟩) lb (by simp)).trans v1
  have ne1 : w.heap.size ≠ w.heap.size + 1 := by omega
  have ne2 : b ≠ w.heap.size + 1 := by omega
  have ne3 : w.heap.size + 1 ≠ w.heap.size := by omega
  have ne4 : w.heap.size + 1 ≠ b := by omega
  clear h hn hw hon hc h1 h4 hd hp
  go_enter Try.func114, Try.ntmps114
  go_wp2
  refine wp_scope_jump1 2 rfl ?_
  intro K HK
  go_wp2
  go_region_held3 (fun w' => w'.cell? ⟨w.heap.size, 0, none⟩ = some (.pointer (some ⟨b, 0, none⟩)) ∧ w'.cell? ⟨b, 3, none⟩ = some (.int .i64 wd))
    (first | (with_reducible exact ⟨hbx, xb3⟩) | (go_keep; done))
    (first | (go_at_call 107; refine (HP.out _ (by first | exact Upd.refl _ _ | exact (Upd.refl _ _).drew | exact (Upd.refl _ _).drewN _ | exact (Upd.refl _ _).drew.drew)).mono ?_; rintro e w1 ⟨rfl, rfl⟩))
  all_goals
    go_wp2
    go_step3
    refine And.intro rfl (HK.out _ _ ?_)
    go_wp2
    go_region_held3 (fun w' => w'.cell? ⟨w.heap.size, 0, none⟩ = some (.pointer (some ⟨b, 0, none⟩)) ∧ w'.cell? ⟨b, 6, none⟩ = some (.int .u32 s.a))
      (first | (with_reducible exact ⟨hbx, xb6⟩) | (with_reducible exact ⟨bx, y6⟩) | (go_keep; done))
      (first
        | (go_at_call 107; refine (HP.out _ (by first | exact HB1.out | exact HB1.out.drew | exact Upd.refl _ _ | exact (Upd.refl _ _).drew | exact (Upd.refl _ _).drewN _ | exact (Upd.refl _ _).drew.drew)).mono ?_; rintro e w2 ⟨rfl, rfl⟩)
        | (go_at_call 108; refine (HD.out _ (by first | exact Upd.refl _ _ | exact (Upd.refl _ _).drew | exact (Upd.refl _ _).drewN _ | exact (Upd.refl _ _).drew.drew)).mono ?_; rintro e w1 ⟨rfl, hu1⟩; have HB1 := Lib.hid (show Upd [] ((w.alloc (.cells #[.pointer (some ⟨b, 0, none⟩)] 124)).alloc (.cells #[.int .i64 0, .int .i64 0, .int .u32 0] 41)) w1 from by first | exact hu1 | exact hu1.of_drew | exact hu1.of_drewN | exact hu1.of_drew.of_drew); have HU1 := Lib.hid (show Upd [] w w1 from (((Upd.refl [] w).alloc _).alloc _).trans (show Upd [] ((w.alloc (.cells #[.pointer (some ⟨b, 0, none⟩)] 124)).alloc (.cells #[.int .i64 0, .int .i64 0, .int .u32 0] 41)) w1 from by first | exact hu1 | exact hu1.of_drew | exact hu1.of_drewN | exact hu1.of_drew.of_drew)); have hz := hu1.keepb (k := w.heap.size + 1) (by first | exact heap_alloc_at _ (by simp) | exact heap_drew' (heap_alloc_at _ (by simp)) | exact heap_drew' (heap_drew' (heap_alloc_at _ (by simp)))) (by simp); obtain ⟨z0, z1, z2⟩ := cells3 hz; have zf := fun j => frozen_of_heap hz j; have HZ := Lib.hid hz; have hbx := hu1.keepb (k := w.heap.size) (by first | exact heap_alloc' (heap_alloc_new _ _) | exact heap_drew' (heap_alloc' (heap_alloc_new _ _)) | exact heap_drew' (heap_drew' (heap_alloc' (heap_alloc_new _ _)))) (by simp); have bx := cell_of_heap hbx 0; simp at bx; obtain ⟨y0, y1, y2, y3, y4, y5, y6, y7⟩ := (HG.out.keep HU1.out (by simp)).cells; clear hu1 hz hbx; have yv := (HU1.out.cell (p := ⟨b, 9, none⟩) lb (by simp)).trans v1))
    all_goals
      go_wp2
      rw [Exit.noGoto_ret]
      refine ret_act rfl (g := w.heap.size + 1) (t := 41) (fr := (0, 0)) (x := .int .i64 1) (y := .int .i64 (2 + M * wd + 1)) (z := .int .u32 0) rfl rfl rfl (hg := ?hg) ?_
      case hg =>
        repeat (first | (with_reducible exact HZ.out) | (with_reducible apply heap_set2) | (with_reducible apply heap_drew'))
        all_goals first | rfl | simp
      refine ⟨rfl, ?_⟩
      repeat (first | (with_reducible refine Upd.setCell ?_ (by simp) _) | (with_reducible refine Upd.drew ?_))
      exact HU1.out
set_option maxRecDepth 100000 in
set_option maxHeartbeats 2000000 in
theorem pop_word2 {cap wd : Int} {w : World} {b : Nat} {t : TypeId} {s : RgS} (h : RG cap wd w b t s) (hn : s.n = 4) (hw : 2 < wd) (hon : s.on = true) (hc : Cap5 cap) (h1 : 1 ≤ wd) (h4 : wd ≤ 4) :
    Calls Try.prog 114 #[.pointer (some ⟨b, 0, none⟩)] w fun e w' => e = .returned (.tuple #[.agg #[.int .i64 1, .int .i64 (2 + roomI cap s.a * wd + 2), .int .u32 0], .bool true]) ∧ Upd [] w w' := by
  obtain ⟨x0, x1, x2, x3, x4, x5, x6, x7⟩ := h.cells
  obtain ⟨-, -, -, -, -, -, -, -, -, -, x18⟩ := h.cells2
  rw [hn] at x5
  rw [hon] at x18
  have lb := heap_lt h.h
  have HG := Lib.hid h
  have hmf : ∀ (fn : Fn) (first cap : Array Value) (w : World), (Instr.makeFunc fn first cap).run Try.prog w = .ok (.func fn first cap) w := fun _ _ _ _ => rfl
  have hbx : ((w.alloc (.cells #[.pointer (some ⟨b, 0, none⟩)] 124)).alloc (.cells #[.int .i64 0, .int .i64 0, .int .u32 0] 41)).cell? ⟨w.heap.size, 0, none⟩ = some (.pointer (some ⟨b, 0, none⟩)) := by rw [cell_of_heap (heap_alloc' (heap_alloc_new _ _))]; rfl
  obtain ⟨v0, v1, v2, v3, -, -, -, -, -, -, -⟩ := h.cells2
  have dk : decide (2 < wd) = true := by simpa using hw
  have hd : ∀ W', Upd [] ((w.alloc (.cells #[.pointer (some ⟨b, 0, none⟩)] 124)).alloc (.cells #[.int .i64 0, .int .i64 0, .int .u32 0] 41)) W' → Calls Try.prog 108 #[.pointer (some ⟨b, 0, none⟩), .int .u32 s.a] W' fun e w' => e = .returned (.int .i64 (2 + roomI cap s.a * wd + 2)) ∧ Upd [] W' w' := fun W' k => by
    have h0 := ring_data s.a (h.keep (((Upd.refl [] w).alloc _).alloc _ |>.trans k) (by simp)) hc h1 h4 (by omega) (by omega)
    rw [hn] at h0
    exact h0
  have hp : ∀ W', Upd [] ((w.alloc (.cells #[.pointer (some ⟨b, 0, none⟩)] 124)).alloc (.cells #[.int .i64 0, .int .i64 0, .int .u32 0] 41)) W' → Calls Try.prog 107 #[.pointer (some ⟨b, 0, none⟩)] W' fun e w' => e = .returned (.int .i64 2) ∧ W' = w' := fun W' k => ring_past (n := 4) (((((Upd.refl [] w).alloc _).alloc _ |>.trans k).cell (p := ⟨b, 5, none⟩) lb (by simp)).trans x5) (by omega) (by omega)
  have HD := Lib.hid hd
  have HP := Lib.hid hp
  generalize roomI cap s.a = M at *
  have xb3 := (((Upd.refl [] w).alloc (.cells #[.pointer (some ⟨b, 0, none⟩)] 124)).alloc (.cells #[.int .i64 0, .int .i64 0, .int .u32 0] 41) |>.cell (p := ⟨b, 3, none⟩) lb (by simp)).trans x3
  have xb6 := (((Upd.refl [] w).alloc (.cells #[.pointer (some ⟨b, 0, none⟩)] 124)).alloc (.cells #[.int .i64 0, .int .i64 0, .int .u32 0] 41) |>.cell (p := ⟨b, 6, none⟩) lb (by simp)).trans x6
  have xbv := (((Upd.refl [] w).alloc (.cells #[.pointer (some ⟨b, 0, none⟩)] 124)).alloc (.cells #[.int .i64 0, .int .i64 0, .int .u32 0] 41) |>.cell (p := ⟨b, 10, none⟩) lb (by simp)).trans v2
  have ne1 : w.heap.size ≠ w.heap.size + 1 := by omega
  have ne2 : b ≠ w.heap.size + 1 := by omega
  have ne3 : w.heap.size + 1 ≠ w.heap.size := by omega
  have ne4 : w.heap.size + 1 ≠ b := by omega
  clear h hn hw hon hc h1 h4 hd hp
  go_enter Try.func114, Try.ntmps114
  go_wp2
  refine wp_scope_jump1 2 rfl ?_
  intro K HK
  go_wp2
  go_region_held3 (fun w' => w'.cell? ⟨w.heap.size, 0, none⟩ = some (.pointer (some ⟨b, 0, none⟩)) ∧ w'.cell? ⟨b, 3, none⟩ = some (.int .i64 wd))
    (first | (with_reducible exact ⟨hbx, xb3⟩) | (go_keep; done))
    (first | (go_at_call 107; refine (HP.out _ (by first | exact Upd.refl _ _ | exact (Upd.refl _ _).drew | exact (Upd.refl _ _).drewN _ | exact (Upd.refl _ _).drew.drew)).mono ?_; rintro e w1 ⟨rfl, rfl⟩))
  all_goals
    go_wp2
    go_step3
    refine And.intro rfl (HK.out _ _ ?_)
    go_wp2
    go_region_held3 (fun w' => w'.cell? ⟨w.heap.size, 0, none⟩ = some (.pointer (some ⟨b, 0, none⟩)) ∧ w'.cell? ⟨b, 6, none⟩ = some (.int .u32 s.a))
      (first | (with_reducible exact ⟨hbx, xb6⟩) | (with_reducible exact ⟨bx, y6⟩) | (go_keep; done))
      (first
        | (go_at_call 107; refine (HP.out _ (by first | exact HB1.out | exact HB1.out.drew | exact Upd.refl _ _ | exact (Upd.refl _ _).drew | exact (Upd.refl _ _).drewN _ | exact (Upd.refl _ _).drew.drew)).mono ?_; rintro e w2 ⟨rfl, rfl⟩)
        | (go_at_call 108; refine (HD.out _ (by first | exact Upd.refl _ _ | exact (Upd.refl _ _).drew | exact (Upd.refl _ _).drewN _ | exact (Upd.refl _ _).drew.drew)).mono ?_; rintro e w1 ⟨rfl, hu1⟩; have HB1 := Lib.hid (show Upd [] ((w.alloc (.cells #[.pointer (some ⟨b, 0, none⟩)] 124)).alloc (.cells #[.int .i64 0, .int .i64 0, .int .u32 0] 41)) w1 from by first | exact hu1 | exact hu1.of_drew | exact hu1.of_drewN | exact hu1.of_drew.of_drew); have HU1 := Lib.hid (show Upd [] w w1 from (((Upd.refl [] w).alloc _).alloc _).trans (show Upd [] ((w.alloc (.cells #[.pointer (some ⟨b, 0, none⟩)] 124)).alloc (.cells #[.int .i64 0, .int .i64 0, .int .u32 0] 41)) w1 from by first | exact hu1 | exact hu1.of_drew | exact hu1.of_drewN | exact hu1.of_drew.of_drew)); have hz := hu1.keepb (k := w.heap.size + 1) (by first | exact heap_alloc_at _ (by simp) | exact heap_drew' (heap_alloc_at _ (by simp)) | exact heap_drew' (heap_drew' (heap_alloc_at _ (by simp)))) (by simp); obtain ⟨z0, z1, z2⟩ := cells3 hz; have zf := fun j => frozen_of_heap hz j; have HZ := Lib.hid hz; have hbx := hu1.keepb (k := w.heap.size) (by first | exact heap_alloc' (heap_alloc_new _ _) | exact heap_drew' (heap_alloc' (heap_alloc_new _ _)) | exact heap_drew' (heap_drew' (heap_alloc' (heap_alloc_new _ _)))) (by simp); have bx := cell_of_heap hbx 0; simp at bx; obtain ⟨y0, y1, y2, y3, y4, y5, y6, y7⟩ := (HG.out.keep HU1.out (by simp)).cells; clear hu1 hz hbx; have yv := (HU1.out.cell (p := ⟨b, 10, none⟩) lb (by simp)).trans v2))
    all_goals
      go_wp2
      rw [Exit.noGoto_ret]
      refine ret_act rfl (g := w.heap.size + 1) (t := 41) (fr := (0, 0)) (x := .int .i64 1) (y := .int .i64 (2 + M * wd + 2)) (z := .int .u32 0) rfl rfl rfl (hg := ?hg) ?_
      case hg =>
        repeat (first | (with_reducible exact HZ.out) | (with_reducible apply heap_set2) | (with_reducible apply heap_drew'))
        all_goals first | rfl | simp
      refine ⟨rfl, ?_⟩
      repeat (first | (with_reducible refine Upd.setCell ?_ (by simp) _) | (with_reducible refine Upd.drew ?_))
      exact HU1.out
set_option maxRecDepth 100000 in
set_option maxHeartbeats 2000000 in
theorem pop_word3 {cap wd : Int} {w : World} {b : Nat} {t : TypeId} {s : RgS} (h : RG cap wd w b t s) (hn : s.n = 5) (hw : 3 < wd) (hon : s.on = true) (hc : Cap5 cap) (h1 : 1 ≤ wd) (h4 : wd ≤ 4) :
    Calls Try.prog 114 #[.pointer (some ⟨b, 0, none⟩)] w fun e w' => e = .returned (.tuple #[.agg #[.int .i64 1, .int .i64 (2 + roomI cap s.a * wd + 3), .int .u32 0], .bool true]) ∧ Upd [] w w' := by
  obtain ⟨x0, x1, x2, x3, x4, x5, x6, x7⟩ := h.cells
  obtain ⟨-, -, -, -, -, -, -, -, -, -, x18⟩ := h.cells2
  rw [hn] at x5
  rw [hon] at x18
  have lb := heap_lt h.h
  have HG := Lib.hid h
  have hmf : ∀ (fn : Fn) (first cap : Array Value) (w : World), (Instr.makeFunc fn first cap).run Try.prog w = .ok (.func fn first cap) w := fun _ _ _ _ => rfl
  have hbx : ((w.alloc (.cells #[.pointer (some ⟨b, 0, none⟩)] 124)).alloc (.cells #[.int .i64 0, .int .i64 0, .int .u32 0] 41)).cell? ⟨w.heap.size, 0, none⟩ = some (.pointer (some ⟨b, 0, none⟩)) := by rw [cell_of_heap (heap_alloc' (heap_alloc_new _ _))]; rfl
  obtain ⟨v0, v1, v2, v3, -, -, -, -, -, -, -⟩ := h.cells2
  have dk : decide (3 < wd) = true := by simpa using hw
  have hd : ∀ W', Upd [] ((w.alloc (.cells #[.pointer (some ⟨b, 0, none⟩)] 124)).alloc (.cells #[.int .i64 0, .int .i64 0, .int .u32 0] 41)) W' → Calls Try.prog 108 #[.pointer (some ⟨b, 0, none⟩), .int .u32 s.a] W' fun e w' => e = .returned (.int .i64 (2 + roomI cap s.a * wd + 3)) ∧ Upd [] W' w' := fun W' k => by
    have h0 := ring_data s.a (h.keep (((Upd.refl [] w).alloc _).alloc _ |>.trans k) (by simp)) hc h1 h4 (by omega) (by omega)
    rw [hn] at h0
    exact h0
  have hp : ∀ W', Upd [] ((w.alloc (.cells #[.pointer (some ⟨b, 0, none⟩)] 124)).alloc (.cells #[.int .i64 0, .int .i64 0, .int .u32 0] 41)) W' → Calls Try.prog 107 #[.pointer (some ⟨b, 0, none⟩)] W' fun e w' => e = .returned (.int .i64 3) ∧ W' = w' := fun W' k => ring_past (n := 5) (((((Upd.refl [] w).alloc _).alloc _ |>.trans k).cell (p := ⟨b, 5, none⟩) lb (by simp)).trans x5) (by omega) (by omega)
  have HD := Lib.hid hd
  have HP := Lib.hid hp
  generalize roomI cap s.a = M at *
  have xb3 := (((Upd.refl [] w).alloc (.cells #[.pointer (some ⟨b, 0, none⟩)] 124)).alloc (.cells #[.int .i64 0, .int .i64 0, .int .u32 0] 41) |>.cell (p := ⟨b, 3, none⟩) lb (by simp)).trans x3
  have xb6 := (((Upd.refl [] w).alloc (.cells #[.pointer (some ⟨b, 0, none⟩)] 124)).alloc (.cells #[.int .i64 0, .int .i64 0, .int .u32 0] 41) |>.cell (p := ⟨b, 6, none⟩) lb (by simp)).trans x6
  have xbv := (((Upd.refl [] w).alloc (.cells #[.pointer (some ⟨b, 0, none⟩)] 124)).alloc (.cells #[.int .i64 0, .int .i64 0, .int .u32 0] 41) |>.cell (p := ⟨b, 11, none⟩) lb (by simp)).trans v3
  have ne1 : w.heap.size ≠ w.heap.size + 1 := by omega
  have ne2 : b ≠ w.heap.size + 1 := by omega
  have ne3 : w.heap.size + 1 ≠ w.heap.size := by omega
  have ne4 : w.heap.size + 1 ≠ b := by omega
  clear h hn hw hon hc h1 h4 hd hp
  go_enter Try.func114, Try.ntmps114
  go_wp2
  refine wp_scope_jump1 2 rfl ?_
  intro K HK
  go_wp2
  go_region_held3 (fun w' => w'.cell? ⟨w.heap.size, 0, none⟩ = some (.pointer (some ⟨b, 0, none⟩)) ∧ w'.cell? ⟨b, 3, none⟩ = some (.int .i64 wd))
    (first | (with_reducible exact ⟨hbx, xb3⟩) | (go_keep; done))
    (first | (go_at_call 107; refine (HP.out _ (by first | exact Upd.refl _ _ | exact (Upd.refl _ _).drew | exact (Upd.refl _ _).drewN _ | exact (Upd.refl _ _).drew.drew)).mono ?_; rintro e w1 ⟨rfl, rfl⟩))
  all_goals
    go_wp2
    go_step3
    refine And.intro rfl (HK.out _ _ ?_)
    go_wp2
    go_region_held3 (fun w' => w'.cell? ⟨w.heap.size, 0, none⟩ = some (.pointer (some ⟨b, 0, none⟩)) ∧ w'.cell? ⟨b, 6, none⟩ = some (.int .u32 s.a))
      (first | (with_reducible exact ⟨hbx, xb6⟩) | (with_reducible exact ⟨bx, y6⟩) | (go_keep; done))
      (first
        | (go_at_call 107; refine (HP.out _ (by first | exact HB1.out | exact HB1.out.drew | exact Upd.refl _ _ | exact (Upd.refl _ _).drew | exact (Upd.refl _ _).drewN _ | exact (Upd.refl _ _).drew.drew)).mono ?_; rintro e w2 ⟨rfl, rfl⟩)
        | (go_at_call 108; refine (HD.out _ (by first | exact Upd.refl _ _ | exact (Upd.refl _ _).drew | exact (Upd.refl _ _).drewN _ | exact (Upd.refl _ _).drew.drew)).mono ?_; rintro e w1 ⟨rfl, hu1⟩; have HB1 := Lib.hid (show Upd [] ((w.alloc (.cells #[.pointer (some ⟨b, 0, none⟩)] 124)).alloc (.cells #[.int .i64 0, .int .i64 0, .int .u32 0] 41)) w1 from by first | exact hu1 | exact hu1.of_drew | exact hu1.of_drewN | exact hu1.of_drew.of_drew); have HU1 := Lib.hid (show Upd [] w w1 from (((Upd.refl [] w).alloc _).alloc _).trans (show Upd [] ((w.alloc (.cells #[.pointer (some ⟨b, 0, none⟩)] 124)).alloc (.cells #[.int .i64 0, .int .i64 0, .int .u32 0] 41)) w1 from by first | exact hu1 | exact hu1.of_drew | exact hu1.of_drewN | exact hu1.of_drew.of_drew)); have hz := hu1.keepb (k := w.heap.size + 1) (by first | exact heap_alloc_at _ (by simp) | exact heap_drew' (heap_alloc_at _ (by simp)) | exact heap_drew' (heap_drew' (heap_alloc_at _ (by simp)))) (by simp); obtain ⟨z0, z1, z2⟩ := cells3 hz; have zf := fun j => frozen_of_heap hz j; have HZ := Lib.hid hz; have hbx := hu1.keepb (k := w.heap.size) (by first | exact heap_alloc' (heap_alloc_new _ _) | exact heap_drew' (heap_alloc' (heap_alloc_new _ _)) | exact heap_drew' (heap_drew' (heap_alloc' (heap_alloc_new _ _)))) (by simp); have bx := cell_of_heap hbx 0; simp at bx; obtain ⟨y0, y1, y2, y3, y4, y5, y6, y7⟩ := (HG.out.keep HU1.out (by simp)).cells; clear hu1 hz hbx; have yv := (HU1.out.cell (p := ⟨b, 11, none⟩) lb (by simp)).trans v3))
    all_goals
      go_wp2
      rw [Exit.noGoto_ret]
      refine ret_act rfl (g := w.heap.size + 1) (t := 41) (fr := (0, 0)) (x := .int .i64 1) (y := .int .i64 (2 + M * wd + 3)) (z := .int .u32 0) rfl rfl rfl (hg := ?hg) ?_
      case hg =>
        repeat (first | (with_reducible exact HZ.out) | (with_reducible apply heap_set2) | (with_reducible apply heap_drew'))
        all_goals first | rfl | simp
      refine ⟨rfl, ?_⟩
      repeat (first | (with_reducible refine Upd.setCell ?_ (by simp) _) | (with_reducible refine Upd.drew ?_))
      exact HU1.out
end Go.Proofs.Ytnnakiojfpnphaa
