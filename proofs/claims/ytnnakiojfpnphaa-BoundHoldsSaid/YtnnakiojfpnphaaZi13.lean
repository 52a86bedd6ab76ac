/- The walk, part 13: Ring7 Flags3 Flags4. -/
import Derived.Test.YtnnakiojfpnphaaZi12
import Derived.Test.YtnnakiojfpnphaaZi09
import Derived.Test.YtnnakiojfpnphaaZi04
import Derived.Test.YtnnakiojfpnphaaZi07
set_option linter.unusedVariables false
set_option linter.unusedSimpArgs false

namespace Go.Proofs.Ytnnakiojfpnphaa
open Go.RowKit

set_option maxRecDepth 100000 in
set_option maxHeartbeats 2000000 in
theorem push_word0 {cap wd : Int} {w : World} {b : Nat} {t : TypeId} {s : RgS} (h : RG cap wd w b t s) (hn : s.n = 2) (hw : 0 < wd) (hon : s.on = true) (hc : Cap5 cap) (h1 : 1 ≤ wd) (h4 : wd ≤ 4) :
    Calls Try.prog 103 #[.pointer (some ⟨b, 0, none⟩)] w fun e w' => e = .returned (.tuple #[.agg #[.int .i64 2, .int .i64 (2 + roomI cap s.a * wd + 0), .int .u32 s.v0], .bool true]) ∧ Upd [] w w' := by
  obtain ⟨x0, x1, x2, x3, x4, x5, x6, x7⟩ := h.cells
  obtain ⟨-, -, -, -, -, -, -, -, -, -, x18⟩ := h.cells2
  rw [hn] at x5
  rw [hon] at x18
  have lb := heap_lt h.h
  have HG := Lib.hid h
  have hmf : ∀ (fn : Fn) (first cap : Array Value) (w : World), (Instr.makeFunc fn first cap).run Try.prog w = .ok (.func fn first cap) w := fun _ _ _ _ => rfl
  have hbx : ((w.alloc (.cells #[.pointer (some ⟨b, 0, none⟩)] 122)).alloc (.cells #[.int .i64 0, .int .i64 0, .int .u32 0] 41)).cell? ⟨w.heap.size, 0, none⟩ = some (.pointer (some ⟨b, 0, none⟩)) := by rw [cell_of_heap (heap_alloc' (heap_alloc_new _ _))]; rfl
  obtain ⟨v0, v1, v2, v3, -, -, -, -, -, -, -⟩ := h.cells2
  have dk : decide (0 < wd) = true := by simpa using hw
  have hd : ∀ W', Upd [] ((w.alloc (.cells #[.pointer (some ⟨b, 0, none⟩)] 122)).alloc (.cells #[.int .i64 0, .int .i64 0, .int .u32 0] 41)) W' → Calls Try.prog 108 #[.pointer (some ⟨b, 0, none⟩), .int .u32 s.a] W' fun e w' => e = .returned (.int .i64 (2 + roomI cap s.a * wd + 0)) ∧ Upd [] W' w' := fun W' k => by
    have h0 := ring_data s.a (h.keep (((Upd.refl [] w).alloc _).alloc _ |>.trans k) (by simp)) hc h1 h4 (by omega) (by omega)
    rw [hn] at h0
    exact h0
  have hp : ∀ W', Upd [] ((w.alloc (.cells #[.pointer (some ⟨b, 0, none⟩)] 122)).alloc (.cells #[.int .i64 0, .int .i64 0, .int .u32 0] 41)) W' → Calls Try.prog 107 #[.pointer (some ⟨b, 0, none⟩)] W' fun e w' => e = .returned (.int .i64 0) ∧ W' = w' := fun W' k => ring_past (n := 2) (((((Upd.refl [] w).alloc _).alloc _ |>.trans k).cell (p := ⟨b, 5, none⟩) lb (by simp)).trans x5) (by omega) (by omega)
  have HD := Lib.hid hd
  have HP := Lib.hid hp
  generalize roomI cap s.a = M at *
  have xb3 := (((Upd.refl [] w).alloc (.cells #[.pointer (some ⟨b, 0, none⟩)] 122)).alloc (.cells #[.int .i64 0, .int .i64 0, .int .u32 0] 41) |>.cell (p := ⟨b, 3, none⟩) lb (by simp)).trans x3
  have xb6 := (((Upd.refl [] w).alloc (.cells #[.pointer (some ⟨b, 0, none⟩)] 122)).alloc (.cells #[.int .i64 0, .int .i64 0, .int .u32 0] 41) |>.cell (p := ⟨b, 6, none⟩) lb (by simp)).trans x6
  have xbv := (((Upd.refl [] w).alloc (.cells #[.pointer (some ⟨b, 0, none⟩)] 122)).alloc (.cells #[.int .i64 0, .int .i64 0, .int .u32 0] 41) |>.cell (p := ⟨b, 8, none⟩) lb (by simp)).trans v0
  have ne1 : w.heap.size ≠ w.heap.size + 1 := by omega
  have ne2 : b ≠ w.heap.size + 1 := by omega
  have ne3 : w.heap.size + 1 ≠ w.heap.size := by omega
  have ne4 : w.heap.size + 1 ≠ b := by omega
  clear h hn hw hon hc h1 h4 hd hp
  go_enter Try.func103, Try.ntmps103
  go_wp2
  refine wp_scope_jump1 2 rfl ?_
  intro K HK
  go_wp2
  go_region_held3 (fun w' => w'.cell? ⟨w.heap.size, 0, none⟩ = some (.pointer (some ⟨b, 0, none⟩)) ∧ w'.cell? ⟨b, 3, none⟩ = some (.int .i64 wd))
    (first | (with_reducible exact ⟨hbx, xb3⟩) | (go_keep; done))
    (first | (go_at_call 107; refine (HP.out _ (by first | exact Upd.refl _ _ | exact (Upd.refl _ _).drew | exact (Upd.refl _ _).drewN _ | exact (Upd.refl _ _).drew.drew)).mono ?_; rintro e w1 ⟨rfl, rfl⟩))
  all_goals
    go_wp2
    go_step3
    refine And.intro rfl (HK.out _ _ ?_)
    go_wp2
    go_region_held3 (fun w' => w'.cell? ⟨w.heap.size, 0, none⟩ = some (.pointer (some ⟨b, 0, none⟩)) ∧ w'.cell? ⟨b, 6, none⟩ = some (.int .u32 s.a) ∧ w'.cell? ⟨b, 8, none⟩ = some (.int .u32 s.v0))
      (first | (with_reducible exact ⟨hbx, xb6, xbv⟩) | (with_reducible exact ⟨bx, y6, yv⟩) | (go_keep; done))
      (first
        | (go_at_call 107; refine (HP.out _ (by first | exact HB1.out | exact HB1.out.drew | exact Upd.refl _ _ | exact (Upd.refl _ _).drew | exact (Upd.refl _ _).drewN _ | exact (Upd.refl _ _).drew.drew)).mono ?_; rintro e w2 ⟨rfl, rfl⟩)
        | (go_at_call 108; refine (HD.out _ (by first | exact Upd.refl _ _ | exact (Upd.refl _ _).drew | exact (Upd.refl _ _).drewN _ | exact (Upd.refl _ _).drew.drew)).mono ?_; rintro e w1 ⟨rfl, hu1⟩; have HB1 := Lib.hid (show Upd [] ((w.alloc (.cells #[.pointer (some ⟨b, 0, none⟩)] 122)).alloc (.cells #[.int .i64 0, .int .i64 0, .int .u32 0] 41)) w1 from by first | exact hu1 | exact hu1.of_drew | exact hu1.of_drewN | exact hu1.of_drew.of_drew); have HU1 := Lib.hid (show Upd [] w w1 from (((Upd.refl [] w).alloc _).alloc _).trans (show Upd [] ((w.alloc (.cells #[.pointer (some ⟨b, 0, none⟩)] 122)).alloc (.cells #[.int .i64 0, .int .i64 0, .int .u32 0] 41)) w1 from by first | exact hu1 | exact hu1.of_drew | exact hu1.of_drewN | exact hu1.of_drew.of_drew)); have hz := hu1.keepb (k := w.heap.size + 1) (by first | exact heap_alloc_at _ (by simp) | exact heap_drew' (heap_alloc_at _ (by simp)) | exact heap_drew' (heap_drew' (heap_alloc_at _ (by simp)))) (by simp); obtain ⟨z0, z1, z2⟩ := cells3 hz; have zf := fun j => frozen_of_heap hz j; have HZ := Lib.hid hz; have hbx := hu1.keepb (k := w.heap.size) (by first | exact heap_alloc' (heap_alloc_new _ _) | exact heap_drew' (heap_alloc' (heap_alloc_new _ _)) | exact heap_drew' (heap_drew' (heap_alloc' (heap_alloc_new _ _)))) (by simp); have bx := cell_of_heap hbx 0; simp at bx; obtain ⟨y0, y1, y2, y3, y4, y5, y6, y7⟩ := (HG.out.keep HU1.out (by simp)).cells; clear hu1 hz hbx; have yv := (HU1.out.cell (p := ⟨b, 8, none⟩) lb (by simp)).trans v0))
    all_goals
      go_wp2
      rw [Exit.noGoto_ret]
      refine ret_act rfl (g := w.heap.size + 1) (t := 41) (fr := (0, 0)) (x := .int .i64 2) (y := .int .i64 (2 + M * wd + 0)) (z := .int .u32 s.v0) rfl rfl rfl (hg := ?hg) ?_
      case hg =>
        repeat (first | (with_reducible exact HZ.out) | (with_reducible apply heap_set2) | (with_reducible apply heap_drew'))
        all_goals first | rfl | simp
      refine ⟨rfl, ?_⟩
      repeat (first | (with_reducible refine Upd.setCell ?_ (by simp) _) | (with_reducible refine Upd.drew ?_))
      exact HU1.out
set_option maxRecDepth 100000 in
set_option maxHeartbeats 2000000 in
theorem push_word1 {cap wd : Int} {w : World} {b : Nat} {t : TypeId} {s : RgS} (h : RG cap wd w b t s) (hn : s.n = 3) (hw : 1 < wd) (hon : s.on = true) (hc : Cap5 cap) (h1 : 1 ≤ wd) (h4 : wd ≤ 4) :
    Calls Try.prog 103 #[.pointer (some ⟨b, 0, none⟩)] w fun e w' => e = .returned (.tuple #[.agg #[.int .i64 2, .int .i64 (2 + roomI cap s.a * wd + 1), .int .u32 s.v1], .bool true]) ∧ Upd [] w w' := by
  obtain ⟨x0, x1, x2, x3, x4, x5, x6, x7⟩ := h.cells
  obtain ⟨-, -, -, -, -, -, -, -, -, -, x18⟩ := h.cells2
  rw [hn] at x5
  rw [hon] at x18
  have lb := heap_lt h.h
  have HG := Lib.hid h
  have hmf : ∀ (fn : Fn) (first cap : Array Value) (w : World), (Instr.makeFunc fn first cap).run Try.prog w = .ok (.func fn first cap) w := fun _ _ _ _ => rfl
  have hbx : ((w.alloc (.cells #[.pointer (some ⟨b, 0, none⟩)] 122)).alloc (.cells #[.int .i64 0, .int .i64 0, .int .u32 0] 41)).cell? ⟨w.heap.size, 0, none⟩ = some (.pointer (some ⟨b, 0, none⟩)) := by rw [cell_of_heap (heap_alloc' (heap_alloc_new _ _))]; rfl
  obtain ⟨v0, v1, v2, v3, -, -, -, -, -, -, -⟩ := h.cells2
  have dk : decide (1 < wd) = true := by simpa using hw
  have hd : ∀ W', Upd [] ((w.alloc (.cells #[.pointer (some ⟨b, 0, none⟩)] 122)).alloc (.cells #[.int .i64 0, .int .i64 0, .int .u32 0] 41)) W' → Calls Try.prog 108 #[.pointer (some ⟨b, 0, none⟩), .int .u32 s.a] W' fun e w' => e = .returned (.int .i64 (2 + roomI cap s.a * wd + 1)) ∧ Upd [] W' w' := fun W' k => by
    have h0 := ring_data s.a (h.keep (((Upd.refl [] w).alloc _).alloc _ |>.trans k) (by simp)) hc h1 h4 (by omega) (by omega)
    rw [hn] at h0
    exact h0
  have hp : ∀ W', Upd [] ((w.alloc (.cells #[.pointer (some ⟨b, 0, none⟩)] 122)).alloc (.cells #[.int .i64 0, .int .i64 0, .int .u32 0] 41)) W' → Calls Try.prog 107 #[.pointer (some ⟨b, 0, none⟩)] W' fun e w' => e = .returned (.int .i64 1) ∧ W' = w' := fun W' k => ring_past (n := 3) (((((Upd.refl [] w).alloc _).alloc _ |>.trans k).cell (p := ⟨b, 5, none⟩) lb (by simp)).trans x5) (by omega) (by omega)
  have HD := Lib.hid hd
  have HP := Lib.hid hp
  generalize roomI cap s.a = M at *
  have xb3 := (((Upd.refl [] w).alloc (.cells #[.pointer (some ⟨b, 0, none⟩)] 122)).alloc (.cells #[.int .i64 0, .int .i64 0, .int .u32 0] 41) |>.cell (p := ⟨b, 3, none⟩) lb (by simp)).trans x3
  have xb6 := (((Upd.refl [] w).alloc (.cells #[.pointer (some ⟨b, 0, none⟩)] 122)).alloc (.cells #[.int .i64 0, .int .i64 0, .int .u32 0] 41) |>.cell (p := ⟨b, 6, none⟩) lb (by simp)).trans x6
  have xbv := (((Upd.refl [] w).alloc (.cells #[.pointer (some ⟨b, 0, none⟩)] 122)).alloc (.cells #[.int .i64 0, .int .i64 0, .int .u32 0] 41) |>.cell (p := ⟨b, 9, none⟩) lb (by simp)).trans v1
  have ne1 : w.heap.size ≠ w.heap.size + 1 := by omega
  have ne2 : b ≠ w.heap.size + 1 := by omega
  have ne3 : w.heap.size + 1 ≠ w.heap.size := by omega
  have ne4 : w.heap.size + 1 ≠ b := by omega
  clear h hn hw hon hc h1 h4 hd hp
  go_enter Try.func103, Try.ntmps103
  go_wp2
  refine wp_scope_jump1 2 rfl ?_
  intro K HK
  go_wp2
  go_region_held3 (fun w' => w'.cell? ⟨w.heap.size, 0, none⟩ = some (.pointer (some ⟨b, 0, none⟩)) ∧ w'.cell? ⟨b, 3, none⟩ = some (.int .i64 wd))
    (first | (with_reducible exact ⟨hbx, xb3⟩) | (go_keep; done))
    (first | (go_at_call 107; refine (HP.out _ (by first | exact Upd.refl _ _ | exact (Upd.refl _ _).drew | exact (Upd.refl _ _).drewN _ | exact (Upd.refl _ _).drew.drew)).mono ?_; rintro e w1 ⟨rfl, rfl⟩))
  all_goals
    go_wp2
    go_step3
    refine And.intro rfl (HK.out _ _ ?_)
    go_wp2
    go_region_held3 (fun w' => w'.cell? ⟨w.heap.size, 0, none⟩ = some (.pointer (some ⟨b, 0, none⟩)) ∧ w'.cell? ⟨b, 6, none⟩ = some (.int .u32 s.a) ∧ w'.cell? ⟨b, 9, none⟩ = some (.int .u32 s.v1))
      (first | (with_reducible exact ⟨hbx, xb6, xbv⟩) | (with_reducible exact ⟨bx, y6, yv⟩) | (go_keep; done))
      (first
        | (go_at_call 107; refine (HP.out _ (by first | exact HB1.out | exact HB1.out.drew | exact Upd.refl _ _ | exact (Upd.refl _ _).drew | exact (Upd.refl _ _).drewN _ | exact (Upd.refl _ _).drew.drew)).mono ?_; rintro e w2 ⟨rfl, rfl⟩)
        | (go_at_call 108; refine (HD.out _ (by first | exact Upd.refl _ _ | exact (Upd.refl _ _).drew | exact (Upd.refl _ _).drewN _ | exact (Upd.refl _ _).drew.drew)).mono ?_; rintro e w1 ⟨rfl, hu1⟩; have HB1 := Lib.hid (show Upd [] ((w.alloc (.cells #[.pointer (some ⟨b, 0, none⟩)] 122)).alloc (.cells #[.int .i64 0, .int .i64 0, .int .u32 0] 41)) w1 from by first | exact hu1 | exact hu1.of_drew | exact hu1.of_drewN | exact hu1.of_drew.of_drew); have HU1 := Lib.hid (show Upd [] w w1 from (((Upd.refl [] w).alloc _).alloc _).trans (show Upd [] ((w.alloc (.cells #[.pointer (some ⟨b, 0, none⟩)] 122)).alloc (.cells #[.int .i64 0, .int .i64 0, .int .u32 0] 41)) w1 from by first | exact hu1 | exact hu1.of_drew | exact hu1.of_drewN | exact hu1.of_drew.of_drew)); have hz := hu1.keepb (k := w.heap.size + 1) (by first | exact heap_alloc_at _ (by simp) | exact heap_drew' (heap_alloc_at _ (by simp)) | exact heap_drew' (heap_drew' (heap_alloc_at _ (by simp)))) (by simp); obtain ⟨z0, z1, z2⟩ := cells3 hz; have zf := fun j => frozen_of_heap hz j; have HZ := Lib.hid hz; have hbx := hu1.keepb (k := w.heap.size) (by first | exact heap_alloc' (heap_alloc_new _ _) | exact heap_drew' (heap_alloc' (heap_alloc_new _ _)) | exact heap_drew' (heap_drew' (heap_alloc' (heap_alloc_new _ _)))) (by simp); have bx := cell_of_heap hbx 0; simp at bx; obtain ⟨y0, y1, y2, y3, y4, y5, y6, y7⟩ := (HG.out.keep HU1.out (by simp)).cells; clear hu1 hz hbx; have yv := (HU1.out.cell (p := ⟨b, 9, none⟩) lb (by simp)).trans v1))
    all_goals
      go_wp2
      rw [Exit.noGoto_ret]
      refine ret_act rfl (g := w.heap.size + 1) (t := 41) (fr := (0, 0)) (x := .int .i64 2) (y := .int .i64 (2 + M * wd + 1)) (z := .int .u32 s.v1) rfl rfl rfl (hg := ?hg) ?_
      case hg =>
        repeat (first | (with_reducible exact HZ.out) | (with_reducible apply heap_set2) | (with_reducible apply heap_drew'))
        all_goals first | rfl | simp
      refine ⟨rfl, ?_⟩
      repeat (first | (with_reducible refine Upd.setCell ?_ (by simp) _) | (with_reducible refine Upd.drew ?_))
      exact HU1.out
set_option maxRecDepth 100000 in
set_option maxHeartbeats 2000000 in
theorem push_word2 {cap wd : Int} {w : World} {b : Nat} {t : TypeId} {s : RgS} (h : RG cap wd w b t s) (hn : s.n = 4) (hw : 2 < wd) (hon : s.on = true) (hc : Cap5 cap) (h1 : 1 ≤ wd) (h4 : wd ≤ 4) :
    Calls Try.prog 103 #[.pointer (some ⟨b, 0, none⟩)] w fun e w' => e = .returned (.tuple #[.agg #[.int .i64 2, .int .i64 (2 + roomI cap s.a * wd + 2), .int .u32 s.v2], .bool true]) ∧ Upd [] w w' := by
  obtain ⟨x0, x1, x2, x3, x4, x5, x6, x7⟩ := h.cells
  obtain ⟨-, -, -, -, -, -, -, -, -, -, x18⟩ := h.cells2
  rw [hn] at x5
  rw [hon] at x18
  have lb := heap_lt h.h
  have HG := Lib.hid h
  have hmf : ∀ (fn : Fn) (first cap : Array Value) (w : World), (Instr.makeFunc fn first cap).run Try.prog w = .ok (.func fn first cap) w := fun _ _ _ _ => rfl
  have hbx : ((w.alloc (.cells #[.pointer (some ⟨b, 0, none⟩)] 122)).alloc (.cells #[.int .i64 0, .int .i64 0, .int .u32 0] 41)).cell? ⟨w.heap.size, 0, none⟩ = some (.pointer (some ⟨b, 0, none⟩)) := by rw [cell_of_heap (heap_alloc' (heap_alloc_new _ _))]; rfl
  obtain ⟨v0, v1, v2, v3, -, -, -, -, -, -, -⟩ := h.cells2
  have dk : decide (2 < wd) = true := by simpa using hw
  have hd : ∀ W', Upd [] ((w.alloc (.cells #[.pointer (some ⟨b, 0, none⟩)] 122)).alloc (.cells #[.int .i64 0, .int .i64 0, .int .u32 0] 41)) W' → Calls Try.prog 108 #[.pointer (some ⟨b, 0, none⟩), .int .u32 s.a] W' fun e w' => e = .returned (.int .i64 (2 + roomI cap s.a * wd + 2)) ∧ Upd [] W' w' := fun W' k => by
    have h0 := ring_data s.a (h.keep (((Upd.refl [] w).alloc _).alloc _ |>.trans k) (by simp)) hc h1 h4 (by omega) (by omega)
    rw [hn] at h0
    exact h0
  have hp : ∀ W', Upd [] ((w.alloc (.cells #[.pointer (some ⟨b, 0, none⟩)] 122)).alloc (.cells #[.int .i64 0, .int .i64 0, .int .u32 0] 41)) W' → Calls Try.prog 107 #[.pointer (some ⟨b, 0, none⟩)] W' fun e w' => e = .returned (.int .i64 2) ∧ W' = w' := fun W' k => ring_past (n := 4) (((((Upd.refl [] w).alloc _).alloc _ |>.trans k).cell (p := ⟨b, 5, none⟩) lb (by simp)).trans x5) (by omega) (by omega)
  have HD := Lib.hid hd
  have HP := Lib.hid hp
  generalize roomI cap s.a = M at *
  have xb3 := (((Upd.refl [] w).alloc (.cells #[.pointer (some ⟨b, 0, none⟩)] 122)).alloc (.cells #[.int .i64 0, .int .i64 0, .int .u32 0] 41) |>.cell (p := ⟨b, 3, none⟩) lb (by simp)).trans x3
  have xb6 := (((Upd.refl [] w).alloc (.cells #[.pointer (some ⟨b, 0, none⟩)] 122)).alloc (.cells #[.int .i64 0, .int .i64 0, .int .u32 0] 41) |>.cell (p := ⟨b, 6, none⟩) lb (by simp)).trans x6
  have xbv := (((Upd.refl [] w).alloc (.cells #[.pointer (some ⟨b, 0, none⟩)] 122)).alloc (.cells #[.int .i64 0, .int .i64 0, .int .u32 0] 41) |>.cell (p := ⟨b, 10, none⟩) lb (by simp)).trans v2
  have ne1 : w.heap.size ≠ w.heap.size + 1 := by omega
  have ne2 : b ≠ w.heap.size + 1 := by omega
  have ne3 : w.heap.size + 1 ≠ w.heap.size := by omega
  have ne4 : w.heap.size + 1 ≠ b := by omega
  clear h hn hw hon hc h1 h4 hd hp
  go_enter Try.func103, Try.ntmps103
  go_wp2
  refine wp_scope_jump1 2 rfl ?_
  intro K HK
  go_wp2
  go_region_held3 (fun w' => w'.cell? ⟨w.heap.size, 0, none⟩ = some (.pointer (some ⟨b, 0, none⟩)) ∧ w'.cell? ⟨b, 3, none⟩ = some (.int .i64 wd))
    (first | (with_reducible exact ⟨hbx, xb3⟩) | (go_keep; done))
    (first | (go_at_call 107; refine (HP.out _ (by first | exact Upd.refl _ _ | exact (Upd.refl _ _).drew | exact (Upd.refl _ _).drewN _ | exact (Upd.refl _ _).drew.drew)).mono ?_; rintro e w1 ⟨rfl, rfl⟩))
  all_goals
    go_wp2
    go_step3
    refine And.intro rfl (HK.out _ _ ?_)
    go_wp2
    go_region_held3 (fun w' => w'.cell? ⟨w.heap.size, 0, none⟩ = some (.pointer (some ⟨b, 0, none⟩)) ∧ w'.cell? ⟨b, 6, none⟩ = some (.int .u32 s.a) ∧ w'.cell? ⟨b, 10, none⟩ = some (.int .u32 s.v2))
      (first | (with_reducible exact ⟨hbx, xb6, xbv⟩) | (with_reducible exact ⟨bx, y6, yv⟩) | (go_keep; done))
      (first
        | (go_at_call 107; refine (HP.out _ (by first | exact HB1.out | exact HB1.out.drew | exact Upd.refl _ _ | exact (Upd.refl _ _).drew | exact (Upd.refl _ _).drewN _ | exact (Upd.refl _ _).drew.drew)).mono ?_; rintro e w2 ⟨rfl, rfl⟩)
        | (go_at_call 108; refine (HD.out _ (by first | exact Upd.refl _ _ | exact (Upd.refl _ _).drew | exact (Upd.refl _ _).drewN _ | exact (Upd.refl _ _).drew.drew)).mono ?_; rintro e w1 ⟨rfl, hu1⟩; have HB1 := Lib.hid (show Upd [] ((w.alloc (.cells #[.pointer (some ⟨b, 0, none⟩)] 122)).alloc (.cells #[.int .i64 0, .int .i64 0, .int .u32 0] 41)) w1 from by first | exact hu1 | exact hu1.of_drew | exact hu1.of_drewN | exact hu1.of_drew.of_drew); have HU1 := Lib.hid (show Upd [] w w1 from (((Upd.refl [] w).alloc _).alloc _).trans (show Upd [] ((w.alloc (.cells #[.pointer (some ⟨b, 0, none⟩)] 122)).alloc (.cells #[.int .i64 0, .int .i64 0, .int .u32 0] 41)) w1 from by first | exact hu1 | exact hu1.of_drew | exact hu1.of_drewN | exact hu1.of_drew.of_drew)); have hz := hu1.keepb (k := w.heap.size + 1) (by first | exact heap_alloc_at _ (by simp) | exact heap_drew' (heap_alloc_at _ (by simp)) | exact heap_drew' (heap_drew' (heap_alloc_at _ (by simp)))) (by simp); obtain ⟨z0, z1, z2⟩ := cells3 hz; have zf := fun j => frozen_of_heap hz j; have HZ := Lib.hid hz; have hbx := hu1.keepb (k := w.heap.size) (by first | exact heap_alloc' (heap_alloc_new _ _) | exact heap_drew' (heap_alloc' (heap_alloc_new _ _)) | exact heap_drew' (heap_drew' (heap_alloc' (heap_alloc_new _ _)))) (by simp); have bx := cell_of_heap hbx 0; simp at bx; obtain ⟨y0, y1, y2, y3, y4, y5, y6, y7⟩ := (HG.out.keep HU1.out (by simp)).cells; clear hu1 hz hbx; have yv := (HU1.out.cell (p := ⟨b, 10, none⟩) lb (by simp)).trans v2))
    all_goals
      go_wp2
      rw [Exit.noGoto_ret]
      refine ret_act rfl (g := w.heap.size + 1) (t := 41) (fr := (0, 0)) (x := .int .i64 2) (y := .int .i64 (2 + M * wd + 2)) (z := .int .u32 s.v2) rfl rfl rfl (hg := ?hg) ?_
      case hg =>
        repeat (first | (with_reducible exact HZ.out) | (with_reducible apply heap_set2) | (with_reducible apply heap_drew'))
        all_goals first | rfl | simp
      refine ⟨rfl, ?_⟩
      repeat (first | (with_reducible refine Upd.setCell ?_ (by simp) _) | (with_reducible refine Upd.drew ?_))
      exact HU1.out
set_option maxRecDepth 100000 in
set_option maxHeartbeats 2000000 in
theorem push_word3 {cap wd : Int} {w : World} {b : Nat} {t : TypeId} {s : RgS} (h : RG cap wd w b t s) (hn : s.n = 5) (hw : 3 < wd) (hon : s.on = true) (hc : Cap5 cap) (h1 : 1 ≤ wd) (h4 : wd ≤ 4) :
    Calls Try.prog 103 #[.pointer (some ⟨b, 0, none⟩)] w fun e w' => e = .returned (.tuple #[.agg #[.int .i64 2, .int .i64 (2 + roomI cap s.a * wd + 3), .int .u32 s.v3], .bool true]) ∧ Upd [] w w' := by
  obtain ⟨x0, x1, x2, x3, x4, x5, x6, x7⟩ := h.cells
  obtain ⟨-, -, -, -, -, -, -, -, -, -, x18⟩ := h.cells2
  rw [hn] at x5
  rw [hon] at x18
  have lb := heap_lt h.h
  have HG := Lib.hid h
  have hmf : ∀ (fn : Fn) (first cap : Array Value) (w : World), (Instr.makeFunc fn first cap).run Try.prog w = .ok (.func fn first cap) w := fun _ _ _ _ => rfl
  have hbx : ((w.alloc (.cells #[.pointer (some ⟨b, 0, none⟩)] 122)).alloc (.cells #[.int .i64 0, .int .i64 0, .int .u32 0] 41)).cell? ⟨w.heap.size, 0, none⟩ = some (.pointer (some ⟨b, 0, none⟩)) := by rw [cell_of_heap (heap_alloc' (heap_alloc_new _ _))]; rfl
  obtain ⟨v0, v1, v2, v3, -, -, -, -, -, -, -⟩ := h.cells2
  have dk : decide (3 < wd) = true := by simpa using hw
  have hd : ∀ W', Upd [] ((w.alloc (.cells #[.pointer (some ⟨b, 0, none⟩)] 122)).alloc (.cells #[.int .i64 0, .int .i64 0, .int .u32 0] 41)) W' → Calls Try.prog 108 #[.pointer (some ⟨b, 0, none⟩), .int .u32 s.a] W' fun e w' => e = .returned (.int .i64 (2 + roomI cap s.a * wd + 3)) ∧ Upd [] W' w' := fun W' k => by
    have h0 := ring_data s.a (h.keep (((Upd.refl [] w).alloc _).alloc _ |>.trans k) (by simp)) hc h1 h4 (by omega) (by omega)
    rw [hn] at h0
    exact h0
  have hp : ∀ W', Upd [] ((w.alloc (.cells #[.pointer (some ⟨b, 0, none⟩)] 122)).alloc (.cells #[.int .i64 0, .int .i64 0, .int .u32 0] 41)) W' → Calls Try.prog 107 #[.pointer (some ⟨b, 0, none⟩)] W' fun e w' => e = .returned (.int .i64 3) ∧ W' = w' := fun W' k => ring_past (n := 5) (((((Upd.refl [] w).alloc _).alloc _ |>.trans k).cell (p := ⟨b, 5, none⟩) lb (by simp)).trans x5) (by omega) (by omega)
  have HD := Lib.hid hd
  have HP := Lib.hid hp
  generalize roomI cap s.a = M at *
  have xb3 := (((Upd.refl [] w).alloc (.cells #[.pointer (some ⟨b, 0, none⟩)] 122)).alloc (.cells #[.int .i64 0, .int .i64 0, .int .u32 0] 41) |>.cell (p := ⟨b, 3, none⟩) lb (by simp)).trans x3
  have xb6 := (((Upd.refl [] w).alloc (.cells #[.pointer (some ⟨b, 0, none⟩)] 122)).alloc (.cells #[.int .i64 0, .int .i64 0, .int .u32 0] 41) |>.cell (p := ⟨b, 6, none⟩) lb (by simp)).trans x6
  have xbv := (((Upd.refl [] w).alloc (.cells #[.pointer (some ⟨b, 0, none⟩)] 122)).alloc (.cells #[.int .i64 0, .int .i64 0, .int .u32 0] 41) |>.cell (p := ⟨b, 11, none⟩) lb (by simp)).trans v3
  have ne1 : w.heap.size ≠ w.heap.size + 1 := by omega
  have ne2 : b ≠ w.heap.size + 1 := by omega
  have ne3 : w.heap.size + 1 ≠ w.heap.size := by omega
  have ne4 : w.heap.size + 1 ≠ b := by omega
  clear h hn hw hon hc h1 h4 hd hp
  go_enter Try.func103, Try.ntmps103
  go_wp2
  refine wp_scope_jump1 2 rfl ?_
  intro K HK
  go_wp2
  go_region_held3 (fun w' => w'.cell? ⟨w.heap.size, 0, none⟩ = some (.pointer (some ⟨b, 0, none⟩)) ∧ w'.cell? ⟨b, 3, none⟩ = some (.int .i64 wd))
    (first | (with_reducible exact ⟨hbx, xb3⟩) | (go_keep; done))
    (first | (go_at_call 107; refine (HP.out _ (by first | exact Upd.refl _ _ | exact (Upd.refl _ _).drew | exact (Upd.refl _ _).drewN _ | exact (Upd.refl _ _).drew.drew)).mono ?_; rintro e w1 ⟨rfl, rfl⟩))
  all_goals
    go_wp2
    go_step3
    refine And.intro rfl (HK.out _ _ ?_)
    go_wp2
    go_region_held3 (fun w' => w'.cell? ⟨w.heap.size, 0, none⟩ = some (.pointer (some ⟨b, 0, none⟩)) ∧ w'.cell? ⟨b, 6, none⟩ = some (.int .u32 s.a) ∧ w'.cell? ⟨b, 11, none⟩ = some (.int .u32 s.v3))
      (first | (with_reducible exact ⟨hbx, xb6, xbv⟩) | (with_reducible exact ⟨bx, y6, yv⟩) | (go_keep; done))
      (first
        | (go_at_call 107; refine (HP.out _ (by first | exact HB1.out | exact HB1.out.drew | exact Upd.refl _ _ | exact (Upd.refl _ _).drew | exact (Upd.refl _ _).drewN _ | exact (Upd.refl _ _).drew.drew)).mono ?_; rintro e w2 ⟨rfl, rfl⟩)
        | (go_at_call 108; refine (HD.out _ (by first | exact Upd.refl _ _ | exact (Upd.refl _ _).drew | exact (Upd.refl _ _).drewN _ | exact (Upd.refl _ _).drew.drew)).mono ?_; rintro e w1 ⟨rfl, hu1⟩; have HB1 := Lib.hid (show Upd [] ((w.alloc (.cells #[.pointer (some ⟨b, 0, none⟩)] 122)).alloc (.cells #[.int .i64 0, .int .i64 0, .int .u32 0] 41)) w1 from by first | exact hu1 | exact hu1.of_drew | exact hu1.of_drewN | exact hu1.of_drew.of_drew); have HU1 := Lib.hid (show Upd [] w w1 from (((Upd.refl [] w).alloc _).alloc _).trans (show Upd [] ((w.alloc (.cells #[.pointer (some ⟨b, 0, none⟩)] 122)).alloc (.cells #[.int .i64 0, .int .i64 0, .int .u32 0] 41)) w1 from by first | exact hu1 | exact hu1.of_drew | exact hu1.of_drewN | exact hu1.of_drew.of_drew)); have hz := hu1.keepb (k := w.heap.size + 1) (by first | exact heap_alloc_at _ (by simp) | exact heap_drew' (heap_alloc_at _ (by simp)) | exact heap_drew' (heap_drew' (heap_alloc_at _ (by simp)))) (by simp); obtain ⟨z0, z1, z2⟩ := cells3 hz; have zf := fun j => frozen_of_heap hz j; have HZ := Lib.hid hz; have hbx := hu1.keepb (k := w.heap.size) (by first | exact heap_alloc' (heap_alloc_new _ _) | exact heap_drew' (heap_alloc' (heap_alloc_new _ _)) | exact heap_drew' (heap_drew' (heap_alloc' (heap_alloc_new _ _)))) (by simp); have bx := cell_of_heap hbx 0; simp at bx; obtain ⟨y0, y1, y2, y3, y4, y5, y6, y7⟩ := (HG.out.keep HU1.out (by simp)).cells; clear hu1 hz hbx; have yv := (HU1.out.cell (p := ⟨b, 11, none⟩) lb (by simp)).trans v3))
    all_goals
      go_wp2
      rw [Exit.noGoto_ret]
      refine ret_act rfl (g := w.heap.size + 1) (t := 41) (fr := (0, 0)) (x := .int .i64 2) (y := .int .i64 (2 + M * wd + 3)) (z := .int .u32 s.v3) rfl rfl rfl (hg := ?hg) ?_
      case hg =>
        repeat (first | (with_reducible exact HZ.out) | (with_reducible apply heap_set2) | (with_reducible apply heap_drew'))
        all_goals first | rfl | simp
      refine ⟨rfl, ?_⟩
      repeat (first | (with_reducible refine Upd.setCell ?_ (by simp) _) | (with_reducible refine Upd.drew ?_))
      exact HU1.out
end Go.Proofs.Ytnnakiojfpnphaa
namespace Go.Proofs.Ytnnakiojfpnphaa
open Go.RowKit

def notU (m : Int) : Int := bits .xor .u32 IntKind.u32.max m
theorem FlagAt.cells {w : World} {b : Nat} {at' kind mask f v0 : Int} {on : Bool} (h : FlagAt w b at' kind mask f v0 on) :
    w.cell? ⟨b, 0, none⟩ = some (.int .i64 4) ∧ w.cell? ⟨b, 1, none⟩ = some (.int .i64 at') ∧ w.cell? ⟨b, 2, none⟩ = some (.int .i64 0) ∧ w.cell? ⟨b, 3, none⟩ = some (.int .i64 0) ∧ w.cell? ⟨b, 4, none⟩ = some (.int .i64 0) ∧ w.cell? ⟨b, 5, none⟩ = some (.int .i64 kind) ∧ w.cell? ⟨b, 6, none⟩ = some (.int .u32 mask) :=
  ⟨by rw [cell_of_heap h.h]; rfl, by rw [cell_of_heap h.h]; rfl, by rw [cell_of_heap h.h]; rfl, by rw [cell_of_heap h.h]; rfl, by rw [cell_of_heap h.h]; rfl, by rw [cell_of_heap h.h]; rfl, by rw [cell_of_heap h.h]; rfl⟩
theorem FlagAt.cells2 {w : World} {b : Nat} {at' kind mask f v0 : Int} {on : Bool} (h : FlagAt w b at' kind mask f v0 on) :
    w.cell? ⟨b, 7, none⟩ = some (.int .i64 f) ∧ w.cell? ⟨b, 8, none⟩ = some (.int .u32 v0) ∧ w.cell? ⟨b, 9, none⟩ = some (.int .u32 0) ∧ w.cell? ⟨b, 10, none⟩ = some (.int .u32 0) ∧ w.cell? ⟨b, 11, none⟩ = some (.int .u32 0) ∧ w.cell? ⟨b, 12, none⟩ = some (.bool true) ∧ w.cell? ⟨b, 13, none⟩ = some (.bool on) :=
  ⟨by rw [cell_of_heap h.h]; rfl, by rw [cell_of_heap h.h]; rfl, by rw [cell_of_heap h.h]; rfl, by rw [cell_of_heap h.h]; rfl, by rw [cell_of_heap h.h]; rfl, by rw [cell_of_heap h.h]; rfl, by rw [cell_of_heap h.h]; rfl⟩

set_option maxRecDepth 100000 in
set_option maxHeartbeats 1000000 in
theorem flag_done {w : World} {b : Nat} {at' kind mask f v0 : Int} (h : FlagAt w b at' kind mask f v0 false) :
    Calls Try.prog 129 #[.pointer (some ⟨b, 0, none⟩)] w fun e w' => e = .returned (.tuple #[.agg #[.int .i64 0, .int .i64 0, .int .u32 0], .bool false]) ∧ Upd [] w w' := by
  obtain ⟨-, -, -, -, -, -, x13⟩ := h.cells2
  have lb := heap_lt h.h
  have nb : w.heap.size ≠ b := by omega
  have nb' : b ≠ w.heap.size := by omega
  clear h
  go_enter Try.func129, Try.ntmps129
  go_wp2
  refine bodyPost_ret (v := .tuple #[.agg #[.int .i64 0, .int .i64 0, .int .u32 0], .bool false]) (by simp [results, Try.results129, go_sem]) rfl ?_
  refine ⟨rfl, ?_⟩
  exact (Upd.refl _ _).alloc _

set_option maxRecDepth 100000 in
set_option maxHeartbeats 1000000 in
theorem flag_result {w : World} {b : Nat} {at' kind mask f v0 : Int} (h : FlagAt w b at' kind mask f v0 false) :
    Calls Try.prog 130 #[.pointer (some ⟨b, 0, none⟩)] w fun e w' => e = .returned (.tuple #[.agg #[.int .i64 f, .int .u32 v0, .int .u32 0, .int .u32 0, .int .u32 0], .bool true]) ∧ Upd [] w w' := by
  obtain ⟨x7, x8, x9, x10, x11, x12, x13⟩ := h.cells2
  have lb := heap_lt h.h
  have nb : w.heap.size ≠ b := by omega
  have nb' : b ≠ w.heap.size := by omega
  clear h
  go_enter Try.func130, Try.ntmps130
  go_wp2
  refine bodyPost_ret (v := .tuple #[.agg #[.int .i64 f, .int .u32 v0, .int .u32 0, .int .u32 0, .int .u32 0], .bool true]) (by simp [results, Try.results130, go_sem]) rfl ?_
  refine ⟨rfl, ?_⟩
  exact (Upd.refl _ _).alloc _

set_option maxRecDepth 100000 in
set_option maxHeartbeats 1000000 in
theorem flag_act_load {w : World} {b : Nat} {at' kind mask f v0 : Int} (h : FlagAt w b at' kind mask f v0 true) (hk : kind = 3 ∨ kind = 4 ∨ kind = 5) :
    Calls Try.prog 129 #[.pointer (some ⟨b, 0, none⟩)] w fun e w' => e = .returned (.tuple #[.agg #[.int .i64 1, .int .i64 at', .int .u32 0], .bool true]) ∧ Upd [] w w' := by
  obtain ⟨x0, x1, x2, x3, x4, x5, x6⟩ := h.cells
  obtain ⟨-, -, -, -, -, -, x13⟩ := h.cells2
  have lb := heap_lt h.h
  have nb : w.heap.size ≠ b := by omega
  have nb' : b ≠ w.heap.size := by omega
  have H := Lib.hid h
  have HC := Lib.hid fun w => cell_flags at' w
  clear h
  rcases hk with rfl | rfl | rfl
  all_goals
    go_enter Try.func129, Try.ntmps129
    go_wp2_with (go_at_call 54; refine (HC.out _).mono ?_; rintro e w1 ⟨rfl, hu1⟩; have HU1 := Lib.hid hu1; have hz := hu1.keepb (heap_alloc_new _ _) (by simp); obtain ⟨z0, z1, z2⟩ := cells3 hz; have zf := fun j => frozen_of_heap hz j; have HZ := Lib.hid hz; obtain ⟨y0, y1, y2, y3, y4, y5, y6⟩ := (H.out.keep (((Upd.refl [] w).alloc _).trans hu1) (by simp)).cells; clear hu1 hz)
    refine ret_act rfl (g := w.heap.size) (t := 41) (fr := (0, 0)) (x := .int .i64 1) (y := .int .i64 at') (z := .int .u32 0) rfl rfl rfl (hg := ?hg) ?_
    case hg =>
      repeat (first | (with_reducible exact HZ.out) | (with_reducible apply heap_set2) | (with_reducible apply heap_drew'))
      all_goals rfl
    refine ⟨rfl, ?_⟩
    repeat (with_reducible refine Upd.setCell ?_ (by simp) _)
    exact ((Upd.refl _ _).alloc _).trans HU1.out


set_option maxRecDepth 100000 in
set_option maxHeartbeats 1000000 in
theorem flag_act_set {w : World} {b : Nat} {at' mask f v0 : Int} (h : FlagAt w b at' 1 mask f v0 true) :
    Calls Try.prog 129 #[.pointer (some ⟨b, 0, none⟩)] w fun e w' => e = .returned (.tuple #[.agg #[.int .i64 4, .int .i64 at', .int .u32 mask], .bool true]) ∧ Upd [] w w' := by
  obtain ⟨x0, x1, x2, x3, x4, x5, x6⟩ := h.cells
  obtain ⟨-, -, -, -, -, -, x13⟩ := h.cells2
  have lb := heap_lt h.h
  have nb : w.heap.size ≠ b := by omega
  have nb' : b ≠ w.heap.size := by omega
  have H := Lib.hid h
  have HC := Lib.hid fun w => cell_flags at' w
  clear h
  go_enter Try.func129, Try.ntmps129
  go_wp2_with (go_at_call 54; refine (HC.out _).mono ?_; rintro e w1 ⟨rfl, hu1⟩; have HU1 := Lib.hid hu1; have hz := hu1.keepb (heap_alloc_new _ _) (by simp); obtain ⟨z0, z1, z2⟩ := cells3 hz; have zf := fun j => frozen_of_heap hz j; have HZ := Lib.hid hz; obtain ⟨y0, y1, y2, y3, y4, y5, y6⟩ := (H.out.keep (((Upd.refl [] w).alloc _).trans hu1) (by simp)).cells; clear hu1 hz)
  go_region
  all_goals
    go_wp2
    refine ret_act rfl (g := w.heap.size) (t := 41) (fr := (0, 0)) (x := .int .i64 4) (y := .int .i64 at') (z := .int .u32 mask) rfl rfl rfl (hg := ?hg) ?_
    case hg =>
      repeat (first | (with_reducible exact HZ.out) | (with_reducible apply heap_set2) | (with_reducible apply heap_drew'))
      all_goals rfl
    refine ⟨rfl, ?_⟩
    repeat (first | (with_reducible refine Upd.setCell ?_ (by simp) _) | (with_reducible refine Upd.drew ?_))
    exact ((Upd.refl _ _).alloc _).trans HU1.out

set_option maxRecDepth 100000 in
set_option maxHeartbeats 1000000 in
theorem flag_act_clear {w : World} {b : Nat} {at' mask f v0 : Int} (h : FlagAt w b at' 2 mask f v0 true) :
    Calls Try.prog 129 #[.pointer (some ⟨b, 0, none⟩)] w fun e w' => e = .returned (.tuple #[.agg #[.int .i64 5, .int .i64 at', .int .u32 (notU mask)], .bool true]) ∧ Upd [] w w' := by
  obtain ⟨x0, x1, x2, x3, x4, x5, x6⟩ := h.cells
  obtain ⟨-, -, -, -, -, -, x13⟩ := h.cells2
  have lb := heap_lt h.h
  have nb : w.heap.size ≠ b := by omega
  have nb' : b ≠ w.heap.size := by omega
  have H := Lib.hid h
  have HC := Lib.hid fun w => cell_flags at' w
  clear h
  go_enter Try.func129, Try.ntmps129
  go_wp2_with (go_at_call 54; refine (HC.out _).mono ?_; rintro e w1 ⟨rfl, hu1⟩; have HU1 := Lib.hid hu1; have hz := hu1.keepb (heap_alloc_new _ _) (by simp); obtain ⟨z0, z1, z2⟩ := cells3 hz; have zf := fun j => frozen_of_heap hz j; have HZ := Lib.hid hz; obtain ⟨y0, y1, y2, y3, y4, y5, y6⟩ := (H.out.keep (((Upd.refl [] w).alloc _).trans hu1) (by simp)).cells; clear hu1 hz)
  go_region
  all_goals
    go_wp2
    refine ret_act rfl (g := w.heap.size) (t := 41) (fr := (0, 0)) (x := .int .i64 5) (y := .int .i64 at') (z := .int .u32 (notU mask)) rfl rfl rfl (hg := ?hg) ?_
    case hg =>
      repeat (first | (with_reducible exact HZ.out) | (with_reducible apply heap_set2) | (with_reducible apply heap_drew'))
      all_goals rfl
    refine ⟨rfl, ?_⟩
    repeat (first | (with_reducible refine Upd.setCell ?_ (by simp) _) | (with_reducible refine Upd.drew ?_))
    exact ((Upd.refl _ _).alloc _).trans HU1.out

set_option maxRecDepth 100000 in
set_option maxHeartbeats 1000000 in
theorem flag_take {w : World} {b : Nat} {at' kind mask f v0 : Int} (got : Int) (h : FlagAt w b at' kind mask f v0 true) :
    Calls Try.prog 131 #[.pointer (some ⟨b, 0, none⟩), .int .u32 got] w fun e w' => e = .returned (.tuple #[]) ∧ FlagAt w' b at' kind mask (if holdsB kind got mask then f else 7) (if holdsB kind got mask then got else v0) false ∧ Upd [b] w w' := by
  obtain ⟨x0, x1, x2, x3, x4, x5, x6⟩ := h.cells
  obtain ⟨x7, x8, x9, x10, x11, x12, x13⟩ := h.cells2
  have lb := heap_lt h.h
  have xf := fun j => frozen_of_heap h.h j
  have hset := heap_set h.h 13 (.bool false)
  have H := Lib.hid hset
  have HS := Lib.hid (show Upd [b] w (w.setCell ⟨b, 13, none⟩ (.bool false)) from (Upd.refl _ _).setCell (by simp) _)
  obtain ⟨y0, y1, y2, y3, y4, y5, y6, y7, y8⟩ : (w.setCell ⟨b, 13, none⟩ (.bool false)).cell? ⟨b, 0, none⟩ = some (.int .i64 4) ∧ (w.setCell ⟨b, 13, none⟩ (.bool false)).cell? ⟨b, 1, none⟩ = some (.int .i64 at') ∧ (w.setCell ⟨b, 13, none⟩ (.bool false)).cell? ⟨b, 2, none⟩ = some (.int .i64 0) ∧ (w.setCell ⟨b, 13, none⟩ (.bool false)).cell? ⟨b, 3, none⟩ = some (.int .i64 0) ∧ (w.setCell ⟨b, 13, none⟩ (.bool false)).cell? ⟨b, 4, none⟩ = some (.int .i64 0) ∧ (w.setCell ⟨b, 13, none⟩ (.bool false)).cell? ⟨b, 5, none⟩ = some (.int .i64 kind) ∧ (w.setCell ⟨b, 13, none⟩ (.bool false)).cell? ⟨b, 6, none⟩ = some (.int .u32 mask) ∧ (w.setCell ⟨b, 13, none⟩ (.bool false)).cell? ⟨b, 7, none⟩ = some (.int .i64 f) ∧ (w.setCell ⟨b, 13, none⟩ (.bool false)).cell? ⟨b, 8, none⟩ = some (.int .u32 v0) := by
    refine ⟨?_, ?_, ?_, ?_, ?_, ?_, ?_, ?_, ?_⟩ <;> (rw [cell_of_heap hset]; rfl)
  have HH := Lib.hid fun w => holds_any kind got mask w
  clear h hset
  rcases hb : holdsB kind got mask with _ | _
  all_goals
    rw [hb] at HH
    clear hb
    go_enter Try.func131, Try.ntmps131
    go_wp2
    go_region_with (first | (go_at_call 132; refine (HH.out _).mono ?_; rintro e w2 ⟨rfl, hu2⟩; have HU2 := Lib.hid hu2; have hz := hu2.keepb H.out (by simp); have HZ := Lib.hid hz; have zf := fun j => frozen_of_heap hz j; have z7 := cell_of_heap hz 7; have z8 := cell_of_heap hz 8; simp [flagC] at z7 z8; clear hu2 hz))
    all_goals
      go_wp2
      first | refine bodyPost_ret (results_none rfl _ _ _) rfl ?_ | go_end0
      refine ⟨rfl, ⟨?hg⟩, ?_⟩
      case hg =>
        unfold flagC at *
        repeat (first | (with_reducible exact HZ.out) | (with_reducible apply heap_set2) | (with_reducible apply heap_drew'))
        all_goals rfl
      refine Upd.setCell ?_ (by simp) _
      first | exact HS.out.trans (HU2.out.mono (by simp)) | exact HS.out.trans (((Upd.refl _ _).drew.trans HU2.out).mono (by simp))
end Go.Proofs.Ytnnakiojfpnphaa
namespace Go.Proofs.Ytnnakiojfpnphaa
open Go.RowKit

structure FlagSt where
  f : Int
  v0 : Int
  on : Bool
def flagAct (a : Nat) (kind mask : Int) (s : FlagSt) : Option (Int × Nat × Int) :=
  if s.on then (if kind = 1 then some (4, a, mask) else if kind = 2 then some (5, a, notU mask) else some (1, a, 0)) else none
def flagTake (kind mask : Int) (s : FlagSt) (g : Int) : FlagSt := ⟨if holdsB kind g mask then s.f else 7, if holdsB kind g mask then g else s.v0, false⟩
def flagRes (s : FlagSt) : Ans := ⟨s.f, s.v0, 0, 0, 0⟩

set_option maxRecDepth 100000 in
theorem flag_rou (b a : Nat) (kind mask : Int) (hk1 : 1 ≤ kind) (hk5 : kind ≤ 5) :
    Rou 130 (.pointer (some ⟨b, 0, none⟩)) [b] (fun s w => FlagAt w b a kind mask s.f s.v0 s.on) (flagAct a kind mask) (flagTake kind mask) flagRes 129 131 130 where
  mA := fun _ => by kernel_rfl
  mT := fun _ => by kernel_rfl
  mR := fun _ => by kernel_rfl
  cA := fun _ _ => by kernel_rfl
  cT := fun _ _ => by kernel_rfl
  cR := fun _ _ => by kernel_rfl
  keep := fun s w w' S' h hu hS => h.keep hu (fun hk => hS b hk (by simp))
  lt := fun s w h k hk => by simp at hk; subst hk; exact heap_lt h.h
  more := fun s w o a' x h hs => by
    obtain ⟨f, v0, on⟩ := s
    unfold flagAct at hs
    rcases on with _ | _
    · simp at hs
    · simp only [if_true] at hs
      split at hs
      · rename_i hk; subst hk; cases hs; exact flag_act_set h
      · split at hs
        · rename_i hk; subst hk; cases hs; exact flag_act_clear h
        · cases hs; exact flag_act_load h (by omega)
  noAct := fun s w h hs => by
    obtain ⟨f, v0, on⟩ := s
    unfold flagAct at hs
    rcases on with _ | _
    · exact flag_done h
    · simp only [if_true] at hs
      split at hs
      · cases hs
      · split at hs <;> cases hs
  took := fun s w o a' x g h hs => by
    obtain ⟨f, v0, on⟩ := s
    rcases on with _ | _
    · simp [flagAct] at hs
    · exact flag_take g h
  ans := fun s w h hs => by
    obtain ⟨f, v0, on⟩ := s
    rcases on with _ | _
    · exact flag_result h
    · unfold flagAct at hs
      simp only [if_true] at hs
      split at hs
      · cases hs
      · split at hs <;> cases hs

/-- What one routine does alone: one act. -/
theorem flag_run (a : Nat) (kind mask f v0 got : Int) (xs xs' : List Int) (o x : Int) (hs : flagAct a kind mask ⟨f, v0, true⟩ = some (o, a, x)) (hd : doC o a x xs = some (got, xs')) :
    Run (flagAct a kind mask) (flagTake kind mask) ⟨f, v0, true⟩ xs 1 (flagTake kind mask ⟨f, v0, true⟩ got) xs' :=
  .step _ _ o a x got xs' 0 _ _ hs hd (.done _ _ (by simp [flagAct, flagTake]))
end Go.Proofs.Ytnnakiojfpnphaa
