/- The walk, part 16: Ring12. -/
import Derived.Test.YtnnakiojfpnphaaZi15
import Derived.Test.YtnnakiojfpnphaaZi01
import Derived.Deep.QuietTactic
import Derived.BigQuiet
set_option linter.unusedVariables false
set_option linter.unusedSimpArgs false

namespace Go.Proofs.Ytnnakiojfpnphaa
open Go.RowKit

set_option maxRecDepth 100000 in
set_option maxHeartbeats 2000000 in
theorem pop_take_plain1 {cap wd : Int} {w : World} {b : Nat} {t : TypeId} {s s1 : RgS} (g : Int) (h : RG cap wd w b t s) (hs1 : s1 = noteS s g) (hn : s.n = 0) (hon : s.on = true) (hc : Cap5 cap) (h1 : 1 ≤ wd) (h4 : wd ≤ 4)  :
    Calls Try.prog 116 #[.pointer (some ⟨b, 0, none⟩), .int .u32 g] w fun e w' => e = .returned (.tuple #[]) ∧ RG cap wd w' b t s1 ∧ Upd [b] w w' := by
  obtain ⟨-, -, -, x3, -, x5, -, -⟩ := h.cells
  obtain ⟨-, -, -, -, -, r0, r1, r2, r3, -, x18⟩ := h.cells2
  have rf := fun j => h.fz j
  rw [hon] at x18
  rw [hn] at x5
  have lb := heap_lt h.h
  have hm : s1.n = 1 := by rw [hs1]; simp [noteS, hn]
  have HN := Lib.hid (show ∀ w', RG cap wd w' b t s → Calls Try.prog 110 #[.pointer (some ⟨b, 0, none⟩), .int .u32 g] w' fun e w'' => e = .returned (.tuple #[]) ∧ RG cap wd w'' b t s1 ∧ Upd [b] w' w'' from fun w' h' => by rw [hs1]; exact ring_note g h' (by simp only [hn]; omega) (by simp only [hn]; omega))
  have HQ := Lib.hid (show ∀ (w : World), w.cell? ⟨b, 5, none⟩ = some (.int .i64 0) → Calls Try.prog 107 #[.pointer (some ⟨b, 0, none⟩)] w fun e w' => e = .returned (.int .i64 (-2)) ∧ w = w' from fun w x => ring_past x (by omega) (by omega))
  have HP := Lib.hid (show ∀ (w : World), w.cell? ⟨b, 5, none⟩ = some (.int .i64 1) → Calls Try.prog 107 #[.pointer (some ⟨b, 0, none⟩)] w fun e w' => e = .returned (.int .i64 (-1)) ∧ w' = w from fun w x => (ring_past x (by omega) (by omega)).mono fun _ _ h => ⟨h.1, h.2.symm⟩)
  have HM := Lib.hid hm
  have HG := Lib.hid h
  have d3 : decide (wd < (-1 : Int)) = false := by simp; omega
  clear h hs1 hn hon hc h1 h4 hm
  go_enter Try.func116, Try.ntmps116
  go_wp2_with (first
    | (go_at_call 107; refine (HQ.out _ x5).mono ?_; rintro e w0 ⟨rfl, rfl⟩; clear HQ)
    | (go_at_call 110; refine (HN.out _ (by first | exact HG.out | exact RG.mk (heap_drewN' HG.out.h))).mono ?_; rintro e w1 ⟨rfl, hg1, hu1⟩; have HG1 := Lib.hid hg1; have HU1 := Lib.hid (show Upd [b] w w1 from (by first | exact hu1 | exact ((Upd.refl [b] w).drewN _).trans hu1)); obtain ⟨y0, y1, y2, y3, y4, y5, y6, y7⟩ := hg1.cells; rw [HM.out] at y5; clear hu1 hg1 HN))
  go_quiet (fail)
  go_wp2
  go_quiet ((go_at_call 107; exact (HP.out _ (by first | exact y5 | simpa using y5)).mono (fun _ _ h => ⟨h.1, _, h.2⟩)))
  go_wp2
  first | refine bodyPost_ret (results_none rfl _ _ _) rfl ?_ | go_end0
  exact ⟨rfl, (by first | exact HG1.out | exact RG.mk HG1.out.h | exact RG.mk (heap_drewN' HG1.out.h) | exact RG.mk (heap_drewN' (heap_drewN' HG1.out.h))), (by first | exact HU1.out | exact HU1.out.drewN _ | exact (HU1.out.drewN _).drewN _)⟩
set_option maxRecDepth 100000 in
set_option maxHeartbeats 2000000 in
theorem pop_take_empty {cap wd : Int} {w : World} {b : Nat} {t : TypeId} {s s1 : RgS} (g : Int) (h : RG cap wd w b t s) (hs1 : s1 = noteS s g) (hn : s.n = 1) (hon : s.on = true) (hc : Cap5 cap) (h1 : 1 ≤ wd) (h4 : wd ≤ 4) (hf : s1.a = s1.b) :
    Calls Try.prog 116 #[.pointer (some ⟨b, 0, none⟩), .int .u32 g] w fun e w' => e = .returned (.tuple #[]) ∧ RG cap wd w' b t { s1 with f := 7, on := false } ∧ Upd [b] w w' := by
  obtain ⟨-, -, -, x3, -, x5, -, -⟩ := h.cells
  obtain ⟨-, -, -, -, -, r0, r1, r2, r3, -, x18⟩ := h.cells2
  have rf := fun j => h.fz j
  rw [hon] at x18
  rw [hn] at x5
  have lb := heap_lt h.h
  have hm : s1.n = 2 := by rw [hs1]; simp [noteS, hn]
  have HN := Lib.hid (show ∀ w', RG cap wd w' b t s → Calls Try.prog 110 #[.pointer (some ⟨b, 0, none⟩), .int .u32 g] w' fun e w'' => e = .returned (.tuple #[]) ∧ RG cap wd w'' b t s1 ∧ Upd [b] w' w'' from fun w' h' => by rw [hs1]; exact ring_note g h' (by simp only [hn]; omega) (by simp only [hn]; omega))
  have HQ := Lib.hid (show ∀ (w : World), w.cell? ⟨b, 5, none⟩ = some (.int .i64 1) → Calls Try.prog 107 #[.pointer (some ⟨b, 0, none⟩)] w fun e w' => e = .returned (.int .i64 (-1)) ∧ w = w' from fun w x => ring_past x (by omega) (by omega))
  have HP := Lib.hid (show ∀ (w : World), w.cell? ⟨b, 5, none⟩ = some (.int .i64 2) → Calls Try.prog 107 #[.pointer (some ⟨b, 0, none⟩)] w fun e w' => e = .returned (.int .i64 0) ∧ w' = w from fun w x => (ring_past x (by omega) (by omega)).mono fun _ _ h => ⟨h.1, h.2.symm⟩)
  have HM := Lib.hid hm
  have HG := Lib.hid h
  have d1 : (s1.a == s1.b) = true := by simpa using hf
  clear hf
  clear h hs1 hn hon hc h1 h4 hm
  go_enter Try.func116, Try.ntmps116
  go_wp2_with (first
    | (go_at_call 107; refine (HQ.out _ x5).mono ?_; rintro e w0 ⟨rfl, rfl⟩; clear HQ)
    | (go_at_call 110; refine (HN.out _ (by first | exact HG.out | exact RG.mk (heap_drewN' HG.out.h))).mono ?_; rintro e w1 ⟨rfl, hg1, hu1⟩; have HG1 := Lib.hid hg1; have HU1 := Lib.hid (show Upd [b] w w1 from (by first | exact hu1 | exact ((Upd.refl [b] w).drewN _).trans hu1)); obtain ⟨y0, y1, y2, y3, y4, y5, y6, y7⟩ := hg1.cells; rw [HM.out] at y5; clear hu1 hg1 HN))
  go_quiet (fail)
  go_wp2_with (go_at_call 112; refine (ring_end 7 (by first | exact HG1.out | exact RG.mk HG1.out.h | exact RG.mk (heap_drewN' HG1.out.h) | exact RG.mk (heap_drewN' (heap_drewN' HG1.out.h)))).mono ?_; rintro e w2 ⟨rfl, hr2, hu2⟩; have HR2 := Lib.hid hr2; have HU2 := Lib.hid (show Upd [b] w1 w2 from (by first | exact hu2 | exact hu2.of_drewN | exact hu2.of_drewN.of_drewN)); clear hr2 hu2)
  first | refine bodyPost_ret (results_none rfl _ _ _) rfl ?_ | go_end0
  exact ⟨rfl, HR2.out, HU1.out.trans HU2.out⟩
set_option maxRecDepth 100000 in
set_option maxHeartbeats 2000000 in
theorem pop_take_two {cap wd : Int} {w : World} {b : Nat} {t : TypeId} {s s1 : RgS} (g : Int) (h : RG cap wd w b t s) (hs1 : s1 = noteS s g) (hn : s.n = 1) (hon : s.on = true) (hc : Cap5 cap) (h1 : 1 ≤ wd) (h4 : wd ≤ 4) (hf : ¬ s1.a = s1.b) :
    Calls Try.prog 116 #[.pointer (some ⟨b, 0, none⟩), .int .u32 g] w fun e w' => e = .returned (.tuple #[]) ∧ RG cap wd w' b t s1 ∧ Upd [b] w w' := by
  obtain ⟨-, -, -, x3, -, x5, -, -⟩ := h.cells
  obtain ⟨-, -, -, -, -, r0, r1, r2, r3, -, x18⟩ := h.cells2
  have rf := fun j => h.fz j
  rw [hon] at x18
  rw [hn] at x5
  have lb := heap_lt h.h
  have hm : s1.n = 2 := by rw [hs1]; simp [noteS, hn]
  have HN := Lib.hid (show ∀ w', RG cap wd w' b t s → Calls Try.prog 110 #[.pointer (some ⟨b, 0, none⟩), .int .u32 g] w' fun e w'' => e = .returned (.tuple #[]) ∧ RG cap wd w'' b t s1 ∧ Upd [b] w' w'' from fun w' h' => by rw [hs1]; exact ring_note g h' (by simp only [hn]; omega) (by simp only [hn]; omega))
  have HQ := Lib.hid (show ∀ (w : World), w.cell? ⟨b, 5, none⟩ = some (.int .i64 1) → Calls Try.prog 107 #[.pointer (some ⟨b, 0, none⟩)] w fun e w' => e = .returned (.int .i64 (-1)) ∧ w = w' from fun w x => ring_past x (by omega) (by omega))
  have HP := Lib.hid (show ∀ (w : World), w.cell? ⟨b, 5, none⟩ = some (.int .i64 2) → Calls Try.prog 107 #[.pointer (some ⟨b, 0, none⟩)] w fun e w' => e = .returned (.int .i64 0) ∧ w' = w from fun w x => (ring_past x (by omega) (by omega)).mono fun _ _ h => ⟨h.1, h.2.symm⟩)
  have HM := Lib.hid hm
  have HG := Lib.hid h
  have d1 : (s1.a == s1.b) = false := by simpa using hf
  have d3 : decide (wd < 0) = false := by simp; omega
  clear hf
  clear h hs1 hn hon hc h1 h4 hm
  go_enter Try.func116, Try.ntmps116
  go_wp2_with (first
    | (go_at_call 107; refine (HQ.out _ x5).mono ?_; rintro e w0 ⟨rfl, rfl⟩; clear HQ)
    | (go_at_call 110; refine (HN.out _ (by first | exact HG.out | exact RG.mk (heap_drewN' HG.out.h))).mono ?_; rintro e w1 ⟨rfl, hg1, hu1⟩; have HG1 := Lib.hid hg1; have HU1 := Lib.hid (show Upd [b] w w1 from (by first | exact hu1 | exact ((Upd.refl [b] w).drewN _).trans hu1)); obtain ⟨y0, y1, y2, y3, y4, y5, y6, y7⟩ := hg1.cells; rw [HM.out] at y5; clear hu1 hg1 HN))
  go_quiet (fail)
  go_wp2
  go_quiet ((go_at_call 107; exact (HP.out _ (by first | exact y5 | simpa using y5)).mono (fun _ _ h => ⟨h.1, _, h.2⟩)))
  go_wp2
  first | refine bodyPost_ret (results_none rfl _ _ _) rfl ?_ | go_end0
  exact ⟨rfl, (by first | exact HG1.out | exact RG.mk HG1.out.h | exact RG.mk (heap_drewN' HG1.out.h) | exact RG.mk (heap_drewN' (heap_drewN' HG1.out.h))), (by first | exact HU1.out | exact HU1.out.drewN _ | exact (HU1.out.drewN _).drewN _)⟩
set_option maxRecDepth 100000 in
set_option maxHeartbeats 2000000 in
theorem pop_take_word0 {cap wd : Int} {w : World} {b : Nat} {t : TypeId} {s s1 : RgS} (g : Int) (h : RG cap wd w b t s) (hs1 : s1 = noteS { s with r0 := g } g) (hn : s.n = 2) (hon : s.on = true) (hc : Cap5 cap) (h1 : 1 ≤ wd) (h4 : wd ≤ 4) (hw : 0 < wd) :
    Calls Try.prog 116 #[.pointer (some ⟨b, 0, none⟩), .int .u32 g] w fun e w' => e = .returned (.tuple #[]) ∧ RG cap wd w' b t s1 ∧ Upd [b] w w' := by
  obtain ⟨-, -, -, x3, -, x5, -, -⟩ := h.cells
  obtain ⟨-, -, -, -, -, r0, r1, r2, r3, -, x18⟩ := h.cells2
  have rf := fun j => h.fz j
  rw [hon] at x18
  rw [hn] at x5
  have lb := heap_lt h.h
  have hm : s1.n = 3 := by rw [hs1]; simp [noteS, hn]
  have HN := Lib.hid (show ∀ w', RG cap wd w' b t { s with r0 := g } → Calls Try.prog 110 #[.pointer (some ⟨b, 0, none⟩), .int .u32 g] w' fun e w'' => e = .returned (.tuple #[]) ∧ RG cap wd w'' b t s1 ∧ Upd [b] w' w'' from fun w' h' => by rw [hs1]; exact ring_note g h' (by simp only [hn]; omega) (by simp only [hn]; omega))
  have HQ := Lib.hid (show ∀ (w : World), w.cell? ⟨b, 5, none⟩ = some (.int .i64 2) → Calls Try.prog 107 #[.pointer (some ⟨b, 0, none⟩)] w fun e w' => e = .returned (.int .i64 0) ∧ w = w' from fun w x => ring_past x (by omega) (by omega))
  have HP := Lib.hid (show ∀ (w : World), w.cell? ⟨b, 5, none⟩ = some (.int .i64 3) → Calls Try.prog 107 #[.pointer (some ⟨b, 0, none⟩)] w fun e w' => e = .returned (.int .i64 1) ∧ w' = w from fun w x => (ring_past x (by omega) (by omega)).mono fun _ _ h => ⟨h.1, h.2.symm⟩)
  have HM := Lib.hid hm
  have HG := Lib.hid h
  have d0 : decide ((0 : Int) < wd) = true := by simp; omega
  have d3 : decide (wd < 1) = false := by simp; omega
  clear hw
  clear h hs1 hn hon hc h1 h4 hm
  go_enter Try.func116, Try.ntmps116
  go_wp2_with (first
    | (go_at_call 107; refine (HQ.out _ x5).mono ?_; rintro e w0 ⟨rfl, rfl⟩; clear HQ)
    | (go_at_call 110; refine (HN.out _ (by first | exact HG.out | exact RG.mk (heap_drewN' HG.out.h) | exact RG.mk (heap_set2 HG.out.h rfl) | exact RG.mk (heap_set2 (heap_drewN' HG.out.h) rfl) | exact RG.mk (heap_drewN' (heap_set2 (heap_drewN' HG.out.h) rfl)) | exact RG.mk (heap_drew' (heap_set2 (heap_drewN' HG.out.h) rfl)) | exact RG.mk (heap_set2 (heap_drew' (heap_drewN' HG.out.h)) rfl))).mono ?_; rintro e w1 ⟨rfl, hg1, hu1⟩; have HG1 := Lib.hid hg1; have HU1 := Lib.hid (show Upd [b] w w1 from (by first | exact hu1 | exact ((Upd.refl [b] w).drewN _).trans hu1 | exact (((Upd.refl [b] w).drewN _).setCell (by simp) _).trans hu1 | exact ((Upd.refl [b] w).setCell (by simp) _).trans hu1 | exact ((((Upd.refl [b] w).drewN _).drew).setCell (by simp) _).trans hu1 | exact ((((Upd.refl [b] w).drewN _).setCell (by simp) _).drew).trans hu1)); obtain ⟨y0, y1, y2, y3, y4, y5, y6, y7⟩ := hg1.cells; rw [HM.out] at y5; clear hu1 hg1 HN))
  go_quiet (fail)
  go_wp2
  go_quiet ((go_at_call 107; exact (HP.out _ (by first | exact y5 | simpa using y5)).mono (fun _ _ h => ⟨h.1, _, h.2⟩)))
  go_wp2
  first | refine bodyPost_ret (results_none rfl _ _ _) rfl ?_ | go_end0
  exact ⟨rfl, (by first | exact HG1.out | exact RG.mk HG1.out.h | exact RG.mk (heap_drewN' HG1.out.h) | exact RG.mk (heap_drewN' (heap_drewN' HG1.out.h))), (by first | exact HU1.out | exact HU1.out.drewN _ | exact (HU1.out.drewN _).drewN _)⟩
set_option maxRecDepth 100000 in
set_option maxHeartbeats 2000000 in
theorem pop_take_word1 {cap wd : Int} {w : World} {b : Nat} {t : TypeId} {s s1 : RgS} (g : Int) (h : RG cap wd w b t s) (hs1 : s1 = noteS { s with r1 := g } g) (hn : s.n = 3) (hon : s.on = true) (hc : Cap5 cap) (h1 : 1 ≤ wd) (h4 : wd ≤ 4) (hw : 1 < wd) :
    Calls Try.prog 116 #[.pointer (some ⟨b, 0, none⟩), .int .u32 g] w fun e w' => e = .returned (.tuple #[]) ∧ RG cap wd w' b t s1 ∧ Upd [b] w w' := by
  obtain ⟨-, -, -, x3, -, x5, -, -⟩ := h.cells
  obtain ⟨-, -, -, -, -, r0, r1, r2, r3, -, x18⟩ := h.cells2
  have rf := fun j => h.fz j
  rw [hon] at x18
  rw [hn] at x5
  have lb := heap_lt h.h
  have hm : s1.n = 4 := by rw [hs1]; simp [noteS, hn]
  have HN := Lib.hid (show ∀ w', RG cap wd w' b t { s with r1 := g } → Calls Try.prog 110 #[.pointer (some ⟨b, 0, none⟩), .int .u32 g] w' fun e w'' => e = .returned (.tuple #[]) ∧ RG cap wd w'' b t s1 ∧ Upd [b] w' w'' from fun w' h' => by rw [hs1]; exact ring_note g h' (by simp only [hn]; omega) (by simp only [hn]; omega))
  have HQ := Lib.hid (show ∀ (w : World), w.cell? ⟨b, 5, none⟩ = some (.int .i64 3) → Calls Try.prog 107 #[.pointer (some ⟨b, 0, none⟩)] w fun e w' => e = .returned (.int .i64 1) ∧ w = w' from fun w x => ring_past x (by omega) (by omega))
  have HP := Lib.hid (show ∀ (w : World), w.cell? ⟨b, 5, none⟩ = some (.int .i64 4) → Calls Try.prog 107 #[.pointer (some ⟨b, 0, none⟩)] w fun e w' => e = .returned (.int .i64 2) ∧ w' = w from fun w x => (ring_past x (by omega) (by omega)).mono fun _ _ h => ⟨h.1, h.2.symm⟩)
  have HM := Lib.hid hm
  have HG := Lib.hid h
  have d0 : decide ((1 : Int) < wd) = true := by simp; omega
  have d3 : decide (wd < 2) = false := by simp; omega
  clear hw
  clear h hs1 hn hon hc h1 h4 hm
  go_enter Try.func116, Try.ntmps116
  go_wp2_with (first
    | (go_at_call 107; refine (HQ.out _ x5).mono ?_; rintro e w0 ⟨rfl, rfl⟩; clear HQ)
    | (go_at_call 110; refine (HN.out _ (by first | exact HG.out | exact RG.mk (heap_drewN' HG.out.h) | exact RG.mk (heap_set2 HG.out.h rfl) | exact RG.mk (heap_set2 (heap_drewN' HG.out.h) rfl) | exact RG.mk (heap_drewN' (heap_set2 (heap_drewN' HG.out.h) rfl)) | exact RG.mk (heap_drew' (heap_set2 (heap_drewN' HG.out.h) rfl)) | exact RG.mk (heap_set2 (heap_drew' (heap_drewN' HG.out.h)) rfl))).mono ?_; rintro e w1 ⟨rfl, hg1, hu1⟩; have HG1 := Lib.hid hg1; have HU1 := Lib.hid (show Upd [b] w w1 from (by first | exact hu1 | exact ((Upd.refl [b] w).drewN _).trans hu1 | exact (((Upd.refl [b] w).drewN _).setCell (by simp) _).trans hu1 | exact ((Upd.refl [b] w).setCell (by simp) _).trans hu1 | exact ((((Upd.refl [b] w).drewN _).drew).setCell (by simp) _).trans hu1 | exact ((((Upd.refl [b] w).drewN _).setCell (by simp) _).drew).trans hu1)); obtain ⟨y0, y1, y2, y3, y4, y5, y6, y7⟩ := hg1.cells; rw [HM.out] at y5; clear hu1 hg1 HN))
  go_quiet (fail)
  go_wp2
  go_quiet ((go_at_call 107; exact (HP.out _ (by first | exact y5 | simpa using y5)).mono (fun _ _ h => ⟨h.1, _, h.2⟩)))
  go_wp2
  first | refine bodyPost_ret (results_none rfl _ _ _) rfl ?_ | go_end0
  exact ⟨rfl, (by first | exact HG1.out | exact RG.mk HG1.out.h | exact RG.mk (heap_drewN' HG1.out.h) | exact RG.mk (heap_drewN' (heap_drewN' HG1.out.h))), (by first | exact HU1.out | exact HU1.out.drewN _ | exact (HU1.out.drewN _).drewN _)⟩
set_option maxRecDepth 100000 in
set_option maxHeartbeats 2000000 in
theorem pop_take_word2 {cap wd : Int} {w : World} {b : Nat} {t : TypeId} {s s1 : RgS} (g : Int) (h : RG cap wd w b t s) (hs1 : s1 = noteS { s with r2 := g } g) (hn : s.n = 4) (hon : s.on = true) (hc : Cap5 cap) (h1 : 1 ≤ wd) (h4 : wd ≤ 4) (hw : 2 < wd) :
    Calls Try.prog 116 #[.pointer (some ⟨b, 0, none⟩), .int .u32 g] w fun e w' => e = .returned (.tuple #[]) ∧ RG cap wd w' b t s1 ∧ Upd [b] w w' := by
  obtain ⟨-, -, -, x3, -, x5, -, -⟩ := h.cells
  obtain ⟨-, -, -, -, -, r0, r1, r2, r3, -, x18⟩ := h.cells2
  have rf := fun j => h.fz j
  rw [hon] at x18
  rw [hn] at x5
  have lb := heap_lt h.h
  have hm : s1.n = 5 := by rw [hs1]; simp [noteS, hn]
  have HN := Lib.hid (show ∀ w', RG cap wd w' b t { s with r2 := g } → Calls Try.prog 110 #[.pointer (some ⟨b, 0, none⟩), .int .u32 g] w' fun e w'' => e = .returned (.tuple #[]) ∧ RG cap wd w'' b t s1 ∧ Upd [b] w' w'' from fun w' h' => by rw [hs1]; exact ring_note g h' (by simp only [hn]; omega) (by simp only [hn]; omega))
  have HQ := Lib.hid (show ∀ (w : World), w.cell? ⟨b, 5, none⟩ = some (.int .i64 4) → Calls Try.prog 107 #[.pointer (some ⟨b, 0, none⟩)] w fun e w' => e = .returned (.int .i64 2) ∧ w = w' from fun w x => ring_past x (by omega) (by omega))
  have HP := Lib.hid (show ∀ (w : World), w.cell? ⟨b, 5, none⟩ = some (.int .i64 5) → Calls Try.prog 107 #[.pointer (some ⟨b, 0, none⟩)] w fun e w' => e = .returned (.int .i64 3) ∧ w' = w from fun w x => (ring_past x (by omega) (by omega)).mono fun _ _ h => ⟨h.1, h.2.symm⟩)
  have HM := Lib.hid hm
  have HG := Lib.hid h
  have d0 : decide ((2 : Int) < wd) = true := by simp; omega
  have d3 : decide (wd < 3) = false := by simp; omega
  clear hw
  clear h hs1 hn hon hc h1 h4 hm
  go_enter Try.func116, Try.ntmps116
  go_wp2_with (first
    | (go_at_call 107; refine (HQ.out _ x5).mono ?_; rintro e w0 ⟨rfl, rfl⟩; clear HQ)
    | (go_at_call 110; refine (HN.out _ (by first | exact HG.out | exact RG.mk (heap_drewN' HG.out.h) | exact RG.mk (heap_set2 HG.out.h rfl) | exact RG.mk (heap_set2 (heap_drewN' HG.out.h) rfl) | exact RG.mk (heap_drewN' (heap_set2 (heap_drewN' HG.out.h) rfl)) | exact RG.mk (heap_drew' (heap_set2 (heap_drewN' HG.out.h) rfl)) | exact RG.mk (heap_set2 (heap_drew' (heap_drewN' HG.out.h)) rfl))).mono ?_; rintro e w1 ⟨rfl, hg1, hu1⟩; have HG1 := Lib.hid hg1; have HU1 := Lib.hid (show Upd [b] w w1 from (by first | exact hu1 | exact ((Upd.refl [b] w).drewN _).trans hu1 | exact (((Upd.refl [b] w).drewN _).setCell (by simp) _).trans hu1 | exact ((Upd.refl [b] w).setCell (by simp) _).trans hu1 | exact ((((Upd.refl [b] w).drewN _).drew).setCell (by simp) _).trans hu1 | exact ((((Upd.refl [b] w).drewN _).setCell (by simp) _).drew).trans hu1)); obtain ⟨y0, y1, y2, y3, y4, y5, y6, y7⟩ := hg1.cells; rw [HM.out] at y5; clear hu1 hg1 HN))
  go_quiet (fail)
  go_wp2
  go_quiet ((go_at_call 107; exact (HP.out _ (by first | exact y5 | simpa using y5)).mono (fun _ _ h => ⟨h.1, _, h.2⟩)))
  go_wp2
  first | refine bodyPost_ret (results_none rfl _ _ _) rfl ?_ | go_end0
  exact ⟨rfl, (by first | exact HG1.out | exact RG.mk HG1.out.h | exact RG.mk (heap_drewN' HG1.out.h) | exact RG.mk (heap_drewN' (heap_drewN' HG1.out.h))), (by first | exact HU1.out | exact HU1.out.drewN _ | exact (HU1.out.drewN _).drewN _)⟩
set_option maxRecDepth 100000 in
set_option maxHeartbeats 2000000 in
theorem pop_take_word3 {cap wd : Int} {w : World} {b : Nat} {t : TypeId} {s s1 : RgS} (g : Int) (h : RG cap wd w b t s) (hs1 : s1 = noteS { s with r3 := g } g) (hn : s.n = 5) (hon : s.on = true) (hc : Cap5 cap) (h1 : 1 ≤ wd) (h4 : wd ≤ 4) (hw : 3 < wd) :
    Calls Try.prog 116 #[.pointer (some ⟨b, 0, none⟩), .int .u32 g] w fun e w' => e = .returned (.tuple #[]) ∧ RG cap wd w' b t s1 ∧ Upd [b] w w' := by
  obtain ⟨-, -, -, x3, -, x5, -, -⟩ := h.cells
  obtain ⟨-, -, -, -, -, r0, r1, r2, r3, -, x18⟩ := h.cells2
  have rf := fun j => h.fz j
  rw [hon] at x18
  rw [hn] at x5
  have lb := heap_lt h.h
  have hm : s1.n = 6 := by rw [hs1]; simp [noteS, hn]
  have HN := Lib.hid (show ∀ w', RG cap wd w' b t { s with r3 := g } → Calls Try.prog 110 #[.pointer (some ⟨b, 0, none⟩), .int .u32 g] w' fun e w'' => e = .returned (.tuple #[]) ∧ RG cap wd w'' b t s1 ∧ Upd [b] w' w'' from fun w' h' => by rw [hs1]; exact ring_note g h' (by simp only [hn]; omega) (by simp only [hn]; omega))
  have HQ := Lib.hid (show ∀ (w : World), w.cell? ⟨b, 5, none⟩ = some (.int .i64 5) → Calls Try.prog 107 #[.pointer (some ⟨b, 0, none⟩)] w fun e w' => e = .returned (.int .i64 3) ∧ w = w' from fun w x => ring_past x (by omega) (by omega))
  have HP := Lib.hid (show ∀ (w : World), w.cell? ⟨b, 5, none⟩ = some (.int .i64 6) → Calls Try.prog 107 #[.pointer (some ⟨b, 0, none⟩)] w fun e w' => e = .returned (.int .i64 4) ∧ w' = w from fun w x => (ring_past x (by omega) (by omega)).mono fun _ _ h => ⟨h.1, h.2.symm⟩)
  have HM := Lib.hid hm
  have HG := Lib.hid h
  have d0 : decide ((3 : Int) < wd) = true := by simp; omega
  have d3 : decide (wd < 4) = false := by simp; omega
  clear hw
  clear h hs1 hn hon hc h1 h4 hm
  go_enter Try.func116, Try.ntmps116
  go_wp2_with (first
    | (go_at_call 107; refine (HQ.out _ x5).mono ?_; rintro e w0 ⟨rfl, rfl⟩; clear HQ)
    | (go_at_call 110; refine (HN.out _ (by first | exact HG.out | exact RG.mk (heap_drewN' HG.out.h) | exact RG.mk (heap_set2 HG.out.h rfl) | exact RG.mk (heap_set2 (heap_drewN' HG.out.h) rfl) | exact RG.mk (heap_drewN' (heap_set2 (heap_drewN' HG.out.h) rfl)) | exact RG.mk (heap_drew' (heap_set2 (heap_drewN' HG.out.h) rfl)) | exact RG.mk (heap_set2 (heap_drew' (heap_drewN' HG.out.h)) rfl))).mono ?_; rintro e w1 ⟨rfl, hg1, hu1⟩; have HG1 := Lib.hid hg1; have HU1 := Lib.hid (show Upd [b] w w1 from (by first | exact hu1 | exact ((Upd.refl [b] w).drewN _).trans hu1 | exact (((Upd.refl [b] w).drewN _).setCell (by simp) _).trans hu1 | exact ((Upd.refl [b] w).setCell (by simp) _).trans hu1 | exact ((((Upd.refl [b] w).drewN _).drew).setCell (by simp) _).trans hu1 | exact ((((Upd.refl [b] w).drewN _).setCell (by simp) _).drew).trans hu1)); obtain ⟨y0, y1, y2, y3, y4, y5, y6, y7⟩ := hg1.cells; rw [HM.out] at y5; clear hu1 hg1 HN))
  go_quiet (fail)
  go_wp2
  go_quiet ((go_at_call 107; exact (HP.out _ (by first | exact y5 | simpa using y5)).mono (fun _ _ h => ⟨h.1, _, h.2⟩)))
  go_wp2
  first | refine bodyPost_ret (results_none rfl _ _ _) rfl ?_ | go_end0
  exact ⟨rfl, (by first | exact HG1.out | exact RG.mk HG1.out.h | exact RG.mk (heap_drewN' HG1.out.h) | exact RG.mk (heap_drewN' (heap_drewN' HG1.out.h))), (by first | exact HU1.out | exact HU1.out.drewN _ | exact (HU1.out.drewN _).drewN _)⟩
set_option maxRecDepth 100000 in
set_option maxHeartbeats 2000000 in
theorem pop_take_last1 {cap wd : Int} {w : World} {b : Nat} {t : TypeId} {s s1 : RgS} (g : Int) (h : RG cap wd w b t s) (hs1 : s1 = noteS s g) (hn : s.n = 3) (hon : s.on = true) (hc : Cap5 cap) (h1 : 1 ≤ wd) (h4 : wd ≤ 4) (hw : 1 = wd) :
    Calls Try.prog 116 #[.pointer (some ⟨b, 0, none⟩), .int .u32 g] w fun e w' => e = .returned (.tuple #[]) ∧ RG cap wd w' b t { s1 with f := 0, on := false } ∧ Upd [b] w w' := by
  obtain ⟨-, -, -, x3, -, x5, -, -⟩ := h.cells
  obtain ⟨-, -, -, -, -, r0, r1, r2, r3, -, x18⟩ := h.cells2
  have rf := fun j => h.fz j
  rw [hon] at x18
  rw [hn] at x5
  have lb := heap_lt h.h
  have hm : s1.n = 4 := by rw [hs1]; simp [noteS, hn]
  have HN := Lib.hid (show ∀ w', RG cap wd w' b t s → Calls Try.prog 110 #[.pointer (some ⟨b, 0, none⟩), .int .u32 g] w' fun e w'' => e = .returned (.tuple #[]) ∧ RG cap wd w'' b t s1 ∧ Upd [b] w' w'' from fun w' h' => by rw [hs1]; exact ring_note g h' (by simp only [hn]; omega) (by simp only [hn]; omega))
  have HQ := Lib.hid (show ∀ (w : World), w.cell? ⟨b, 5, none⟩ = some (.int .i64 3) → Calls Try.prog 107 #[.pointer (some ⟨b, 0, none⟩)] w fun e w' => e = .returned (.int .i64 1) ∧ w = w' from fun w x => ring_past x (by omega) (by omega))
  have HP := Lib.hid (show ∀ (w : World), w.cell? ⟨b, 5, none⟩ = some (.int .i64 4) → Calls Try.prog 107 #[.pointer (some ⟨b, 0, none⟩)] w fun e w' => e = .returned (.int .i64 2) ∧ w' = w from fun w x => (ring_past x (by omega) (by omega)).mono fun _ _ h => ⟨h.1, h.2.symm⟩)
  have HM := Lib.hid hm
  have HG := Lib.hid h
  have d0 : decide ((1 : Int) < wd) = false := by simp; omega
  have d3 : decide (wd < 2) = true := by simp; omega
  clear hw
  clear h hs1 hn hon hc h1 h4 hm
  go_enter Try.func116, Try.ntmps116
  go_wp2_with (first
    | (go_at_call 107; refine (HQ.out _ x5).mono ?_; rintro e w0 ⟨rfl, rfl⟩; clear HQ)
    | (go_at_call 110; refine (HN.out _ (by first | exact HG.out | exact RG.mk (heap_drewN' HG.out.h))).mono ?_; rintro e w1 ⟨rfl, hg1, hu1⟩; have HG1 := Lib.hid hg1; have HU1 := Lib.hid (show Upd [b] w w1 from (by first | exact hu1 | exact ((Upd.refl [b] w).drewN _).trans hu1)); obtain ⟨y0, y1, y2, y3, y4, y5, y6, y7⟩ := hg1.cells; rw [HM.out] at y5; clear hu1 hg1 HN))
  go_quiet (fail)
  go_wp2
  go_quiet ((go_at_call 107; exact (HP.out _ (by first | exact y5 | simpa using y5)).mono (fun _ _ h => ⟨h.1, _, h.2⟩)))
  go_wp2_with (go_at_call 112; refine (ring_end 0 (by first | exact HG1.out | exact RG.mk HG1.out.h | exact RG.mk (heap_drewN' HG1.out.h) | exact RG.mk (heap_drewN' (heap_drewN' HG1.out.h)))).mono ?_; rintro e w2 ⟨rfl, hr2, hu2⟩; have HR2 := Lib.hid hr2; have HU2 := Lib.hid (show Upd [b] w1 w2 from (by first | exact hu2 | exact hu2.of_drewN | exact hu2.of_drewN.of_drewN)); clear hr2 hu2)
  first | refine bodyPost_ret (results_none rfl _ _ _) rfl ?_ | go_end0
  exact ⟨rfl, HR2.out, HU1.out.trans HU2.out⟩
set_option maxRecDepth 100000 in
set_option maxHeartbeats 2000000 in
theorem pop_take_last2 {cap wd : Int} {w : World} {b : Nat} {t : TypeId} {s s1 : RgS} (g : Int) (h : RG cap wd w b t s) (hs1 : s1 = noteS s g) (hn : s.n = 4) (hon : s.on = true) (hc : Cap5 cap) (h1 : 1 ≤ wd) (h4 : wd ≤ 4) (hw : 2 = wd) :
    Calls Try.prog 116 #[.pointer (some ⟨b, 0, none⟩), .int .u32 g] w fun e w' => e = .returned (.tuple #[]) ∧ RG cap wd w' b t { s1 with f := 0, on := false } ∧ Upd [b] w w' := by
  obtain ⟨-, -, -, x3, -, x5, -, -⟩ := h.cells
  obtain ⟨-, -, -, -, -, r0, r1, r2, r3, -, x18⟩ := h.cells2
  have rf := fun j => h.fz j
  rw [hon] at x18
  rw [hn] at x5
  have lb := heap_lt h.h
  have hm : s1.n = 5 := by rw [hs1]; simp [noteS, hn]
  have HN := Lib.hid (show ∀ w', RG cap wd w' b t s → Calls Try.prog 110 #[.pointer (some ⟨b, 0, none⟩), .int .u32 g] w' fun e w'' => e = .returned (.tuple #[]) ∧ RG cap wd w'' b t s1 ∧ Upd [b] w' w'' from fun w' h' => by rw [hs1]; exact ring_note g h' (by simp only [hn]; omega) (by simp only [hn]; omega))
  have HQ := Lib.hid (show ∀ (w : World), w.cell? ⟨b, 5, none⟩ = some (.int .i64 4) → Calls Try.prog 107 #[.pointer (some ⟨b, 0, none⟩)] w fun e w' => e = .returned (.int .i64 2) ∧ w = w' from fun w x => ring_past x (by omega) (by omega))
  have HP := Lib.hid (show ∀ (w : World), w.cell? ⟨b, 5, none⟩ = some (.int .i64 5) → Calls Try.prog 107 #[.pointer (some ⟨b, 0, none⟩)] w fun e w' => e = .returned (.int .i64 3) ∧ w' = w from fun w x => (ring_past x (by omega) (by omega)).mono fun _ _ h => ⟨h.1, h.2.symm⟩)
  have HM := Lib.hid hm
  have HG := Lib.hid h
  have d0 : decide ((2 : Int) < wd) = false := by simp; omega
  have d3 : decide (wd < 3) = true := by simp; omega
  clear hw
  clear h hs1 hn hon hc h1 h4 hm
  go_enter Try.func116, Try.ntmps116
  go_wp2_with (first
    | (go_at_call 107; refine (HQ.out _ x5).mono ?_; rintro e w0 ⟨rfl, rfl⟩; clear HQ)
    | (go_at_call 110; refine (HN.out _ (by first | exact HG.out | exact RG.mk (heap_drewN' HG.out.h))).mono ?_; rintro e w1 ⟨rfl, hg1, hu1⟩; have HG1 := Lib.hid hg1; have HU1 := Lib.hid (show Upd [b] w w1 from (by first | exact hu1 | exact ((Upd.refl [b] w).drewN _).trans hu1)); obtain ⟨y0, y1, y2, y3, y4, y5, y6, y7⟩ := hg1.cells; rw [HM.out] at y5; clear hu1 hg1 HN))
  go_quiet (fail)
  go_wp2
  go_quiet ((go_at_call 107; exact (HP.out _ (by first | exact y5 | simpa using y5)).mono (fun _ _ h => ⟨h.1, _, h.2⟩)))
  go_wp2_with (go_at_call 112; refine (ring_end 0 (by first | exact HG1.out | exact RG.mk HG1.out.h | exact RG.mk (heap_drewN' HG1.out.h) | exact RG.mk (heap_drewN' (heap_drewN' HG1.out.h)))).mono ?_; rintro e w2 ⟨rfl, hr2, hu2⟩; have HR2 := Lib.hid hr2; have HU2 := Lib.hid (show Upd [b] w1 w2 from (by first | exact hu2 | exact hu2.of_drewN | exact hu2.of_drewN.of_drewN)); clear hr2 hu2)
  first | refine bodyPost_ret (results_none rfl _ _ _) rfl ?_ | go_end0
  exact ⟨rfl, HR2.out, HU1.out.trans HU2.out⟩
set_option maxRecDepth 100000 in
set_option maxHeartbeats 2000000 in
theorem pop_take_last3 {cap wd : Int} {w : World} {b : Nat} {t : TypeId} {s s1 : RgS} (g : Int) (h : RG cap wd w b t s) (hs1 : s1 = noteS s g) (hn : s.n = 5) (hon : s.on = true) (hc : Cap5 cap) (h1 : 1 ≤ wd) (h4 : wd ≤ 4) (hw : 3 = wd) :
    Calls Try.prog 116 #[.pointer (some ⟨b, 0, none⟩), .int .u32 g] w fun e w' => e = .returned (.tuple #[]) ∧ RG cap wd w' b t { s1 with f := 0, on := false } ∧ Upd [b] w w' := by
  obtain ⟨-, -, -, x3, -, x5, -, -⟩ := h.cells
  obtain ⟨-, -, -, -, -, r0, r1, r2, r3, -, x18⟩ := h.cells2
  have rf := fun j => h.fz j
  rw [hon] at x18
  rw [hn] at x5
  have lb := heap_lt h.h
  have hm : s1.n = 6 := by rw [hs1]; simp [noteS, hn]
  have HN := Lib.hid (show ∀ w', RG cap wd w' b t s → Calls Try.prog 110 #[.pointer (some ⟨b, 0, none⟩), .int .u32 g] w' fun e w'' => e = .returned (.tuple #[]) ∧ RG cap wd w'' b t s1 ∧ Upd [b] w' w'' from fun w' h' => by rw [hs1]; exact ring_note g h' (by simp only [hn]; omega) (by simp only [hn]; omega))
  have HQ := Lib.hid (show ∀ (w : World), w.cell? ⟨b, 5, none⟩ = some (.int .i64 5) → Calls Try.prog 107 #[.pointer (some ⟨b, 0, none⟩)] w fun e w' => e = .returned (.int .i64 3) ∧ w = w' from fun w x => ring_past x (by omega) (by omega))
  have HP := Lib.hid (show ∀ (w : World), w.cell? ⟨b, 5, none⟩ = some (.int .i64 6) → Calls Try.prog 107 #[.pointer (some ⟨b, 0, none⟩)] w fun e w' => e = .returned (.int .i64 4) ∧ w' = w from fun w x => (ring_past x (by omega) (by omega)).mono fun _ _ h => ⟨h.1, h.2.symm⟩)
  have HM := Lib.hid hm
  have HG := Lib.hid h
  have d0 : decide ((3 : Int) < wd) = false := by simp; omega
  have d3 : decide (wd < 4) = true := by simp; omega
  clear hw
  clear h hs1 hn hon hc h1 h4 hm
  go_enter Try.func116, Try.ntmps116
  go_wp2_with (first
    | (go_at_call 107; refine (HQ.out _ x5).mono ?_; rintro e w0 ⟨rfl, rfl⟩; clear HQ)
    | (go_at_call 110; refine (HN.out _ (by first | exact HG.out | exact RG.mk (heap_drewN' HG.out.h))).mono ?_; rintro e w1 ⟨rfl, hg1, hu1⟩; have HG1 := Lib.hid hg1; have HU1 := Lib.hid (show Upd [b] w w1 from (by first | exact hu1 | exact ((Upd.refl [b] w).drewN _).trans hu1)); obtain ⟨y0, y1, y2, y3, y4, y5, y6, y7⟩ := hg1.cells; rw [HM.out] at y5; clear hu1 hg1 HN))
  go_quiet (fail)
  go_wp2
  go_quiet ((go_at_call 107; exact (HP.out _ (by first | exact y5 | simpa using y5)).mono (fun _ _ h => ⟨h.1, _, h.2⟩)))
  go_wp2_with (go_at_call 112; refine (ring_end 0 (by first | exact HG1.out | exact RG.mk HG1.out.h | exact RG.mk (heap_drewN' HG1.out.h) | exact RG.mk (heap_drewN' (heap_drewN' HG1.out.h)))).mono ?_; rintro e w2 ⟨rfl, hr2, hu2⟩; have HR2 := Lib.hid hr2; have HU2 := Lib.hid (show Upd [b] w1 w2 from (by first | exact hu2 | exact hu2.of_drewN | exact hu2.of_drewN.of_drewN)); clear hr2 hu2)
  first | refine bodyPost_ret (results_none rfl _ _ _) rfl ?_ | go_end0
  exact ⟨rfl, HR2.out, HU1.out.trans HU2.out⟩
set_option maxRecDepth 100000 in
set_option maxHeartbeats 2000000 in
theorem pop_take_last4 {cap wd : Int} {w : World} {b : Nat} {t : TypeId} {s s1 : RgS} (g : Int) (h : RG cap wd w b t s) (hs1 : s1 = noteS s g) (hn : s.n = 6) (hon : s.on = true) (hc : Cap5 cap) (h1 : 1 ≤ wd) (h4 : wd ≤ 4) (hw : 4 = wd) :
    Calls Try.prog 116 #[.pointer (some ⟨b, 0, none⟩), .int .u32 g] w fun e w' => e = .returned (.tuple #[]) ∧ RG cap wd w' b t { s1 with f := 0, on := false } ∧ Upd [b] w w' := by
  obtain ⟨-, -, -, x3, -, x5, -, -⟩ := h.cells
  obtain ⟨-, -, -, -, -, r0, r1, r2, r3, -, x18⟩ := h.cells2
  have rf := fun j => h.fz j
  rw [hon] at x18
  rw [hn] at x5
  have lb := heap_lt h.h
  have hm : s1.n = 7 := by rw [hs1]; simp [noteS, hn]
  have HN := Lib.hid (show ∀ w', RG cap wd w' b t s → Calls Try.prog 110 #[.pointer (some ⟨b, 0, none⟩), .int .u32 g] w' fun e w'' => e = .returned (.tuple #[]) ∧ RG cap wd w'' b t s1 ∧ Upd [b] w' w'' from fun w' h' => by rw [hs1]; exact ring_note g h' (by simp only [hn]; omega) (by simp only [hn]; omega))
  have HQ := Lib.hid (show ∀ (w : World), w.cell? ⟨b, 5, none⟩ = some (.int .i64 6) → Calls Try.prog 107 #[.pointer (some ⟨b, 0, none⟩)] w fun e w' => e = .returned (.int .i64 4) ∧ w = w' from fun w x => ring_past x (by omega) (by omega))
  have HP := Lib.hid (show ∀ (w : World), w.cell? ⟨b, 5, none⟩ = some (.int .i64 7) → Calls Try.prog 107 #[.pointer (some ⟨b, 0, none⟩)] w fun e w' => e = .returned (.int .i64 5) ∧ w' = w from fun w x => (ring_past x (by omega) (by omega)).mono fun _ _ h => ⟨h.1, h.2.symm⟩)
  have HM := Lib.hid hm
  have HG := Lib.hid h
  have d0 : decide ((4 : Int) < wd) = false := by simp; omega
  have d3 : decide (wd < 5) = true := by simp; omega
  clear hw
  clear h hs1 hn hon hc h1 h4 hm
  go_enter Try.func116, Try.ntmps116
  go_wp2_with (first
    | (go_at_call 107; refine (HQ.out _ x5).mono ?_; rintro e w0 ⟨rfl, rfl⟩; clear HQ)
    | (go_at_call 110; refine (HN.out _ (by first | exact HG.out | exact RG.mk (heap_drewN' HG.out.h))).mono ?_; rintro e w1 ⟨rfl, hg1, hu1⟩; have HG1 := Lib.hid hg1; have HU1 := Lib.hid (show Upd [b] w w1 from (by first | exact hu1 | exact ((Upd.refl [b] w).drewN _).trans hu1)); obtain ⟨y0, y1, y2, y3, y4, y5, y6, y7⟩ := hg1.cells; rw [HM.out] at y5; clear hu1 hg1 HN))
  go_quiet (fail)
  go_wp2
  go_quiet ((go_at_call 107; exact (HP.out _ (by first | exact y5 | simpa using y5)).mono (fun _ _ h => ⟨h.1, _, h.2⟩)))
  go_wp2_with (go_at_call 112; refine (ring_end 0 (by first | exact HG1.out | exact RG.mk HG1.out.h | exact RG.mk (heap_drewN' HG1.out.h) | exact RG.mk (heap_drewN' (heap_drewN' HG1.out.h)))).mono ?_; rintro e w2 ⟨rfl, hr2, hu2⟩; have HR2 := Lib.hid hr2; have HU2 := Lib.hid (show Upd [b] w1 w2 from (by first | exact hu2 | exact hu2.of_drewN | exact hu2.of_drewN.of_drewN)); clear hr2 hu2)
  first | refine bodyPost_ret (results_none rfl _ _ _) rfl ?_ | go_end0
  exact ⟨rfl, HR2.out, HU1.out.trans HU2.out⟩
end Go.Proofs.Ytnnakiojfpnphaa
