/- The walk, part 15: Ring10 Ring11. -/
import Derived.Test.YtnnakiojfpnphaaZi09
import Derived.Test.YtnnakiojfpnphaaZi01
import Derived.Deep.QuietTactic
import Derived.BigQuiet
set_option linter.unusedVariables false
set_option linter.unusedSimpArgs false

namespace Go.Proofs.Ytnnakiojfpnphaa
open Go.RowKit

set_option maxRecDepth 100000 in
set_option maxHeartbeats 2000000 in
theorem push_take_plain1 {cap wd : Int} {w : World} {b : Nat} {t : TypeId} {s s1 : RgS} (g : Int) (h : RG cap wd w b t s) (hs1 : s1 = noteS s g) (hn0 : 0 ≤ s.n) (hn : s.n < 50) (hon : s.on = true) (hc : Cap5 cap) (h1 : 1 ≤ wd) (h4 : wd ≤ 4) (hm : s1.n = 1) (hw : (-1 : Int) ≤ wd) :
    Calls Try.prog 105 #[.pointer (some ⟨b, 0, none⟩), .int .u32 g] w fun e w' => e = .returned (.tuple #[]) ∧ RG cap wd w' b t s1 ∧ Upd [b] w w' := by
  obtain ⟨-, -, -, -, -, -, -, -, -, -, x18⟩ := h.cells2
  rw [hon] at x18
  have lb := heap_lt h.h
  have hN := ring_note g h hn0 (by omega)
  rw [← hs1] at hN
  have HN := Lib.hid hN
  have hsn : s1.n = s.n + 1 := by rw [hs1]; rfl
  have HP := Lib.hid (show ∀ (w : World), w.cell? ⟨b, 5, none⟩ = some (.int .i64 1) → Calls Try.prog 107 #[.pointer (some ⟨b, 0, none⟩)] w fun e w' => e = .returned (.int .i64 (-1)) ∧ w = w' from fun w x => ring_past x (by omega) (by omega))
  have HM := Lib.hid hm
  have e2 : IntKind.u32.wrap cap = cap := by have := hc.le; rw [IntKind.wrap_u32]; omega
  have d3 : decide (wd < (-1 : Int)) = false := by simp; omega
  clear hm hw
  clear h hN hs1 hn0 hn hon hc h1 h4 hsn
  go_enter Try.func105, Try.ntmps105
  go_wp2_with (go_at_call 110; refine (HN.out).mono ?_; rintro e w1 ⟨rfl, hg1, hu1⟩; have HG1 := Lib.hid hg1; have HU1 := Lib.hid hu1; obtain ⟨y0, y1, y2, y3, y4, y5, y6, y7⟩ := hg1.cells; rw [HM.out] at y5; clear hu1 hg1)
  go_region
  all_goals
    go_wp2
    go_region_held3 (fun w' => w'.cell? ⟨b, 3, none⟩ = some (.int .i64 wd) ∧ w'.cell? ⟨b, 5, none⟩ = some (.int .i64 1))
      (first | (with_reducible exact ⟨y3, y5⟩) | (go_keep; done))
      (first | (go_at_call 107; refine (HP.out _ (by first | exact y5 | simpa using y5)).mono ?_; rintro e w3 ⟨rfl, rfl⟩))
    all_goals
      go_wp2
      first | refine bodyPost_ret (results_none rfl _ _ _) rfl ?_ | go_end0
      refine ⟨rfl, by first | exact HG1.out | exact RG.mk (heap_drew' HG1.out.h) | exact RG.mk (heap_drew' (heap_drew' HG1.out.h)), by first | exact HU1.out | exact HU1.out.drew | exact HU1.out.drew.drew⟩
set_option maxRecDepth 100000 in
set_option maxHeartbeats 2000000 in
theorem push_take_plain3 {cap wd : Int} {w : World} {b : Nat} {t : TypeId} {s s1 : RgS} (g : Int) (h : RG cap wd w b t s) (hs1 : s1 = noteS s g) (hn0 : 0 ≤ s.n) (hn : s.n < 50) (hon : s.on = true) (hc : Cap5 cap) (h1 : 1 ≤ wd) (h4 : wd ≤ 4) (hm : s1.n = 3) (hw : (1 : Int) ≤ wd) :
    Calls Try.prog 105 #[.pointer (some ⟨b, 0, none⟩), .int .u32 g] w fun e w' => e = .returned (.tuple #[]) ∧ RG cap wd w' b t s1 ∧ Upd [b] w w' := by
  obtain ⟨-, -, -, -, -, -, -, -, -, -, x18⟩ := h.cells2
  rw [hon] at x18
  have lb := heap_lt h.h
  have hN := ring_note g h hn0 (by omega)
  rw [← hs1] at hN
  have HN := Lib.hid hN
  have hsn : s1.n = s.n + 1 := by rw [hs1]; rfl
  have HP := Lib.hid (show ∀ (w : World), w.cell? ⟨b, 5, none⟩ = some (.int .i64 3) → Calls Try.prog 107 #[.pointer (some ⟨b, 0, none⟩)] w fun e w' => e = .returned (.int .i64 1) ∧ w = w' from fun w x => ring_past x (by omega) (by omega))
  have HM := Lib.hid hm
  have e2 : IntKind.u32.wrap cap = cap := by have := hc.le; rw [IntKind.wrap_u32]; omega
  have d3 : decide (wd < (1 : Int)) = false := by simp; omega
  clear hm hw
  clear h hN hs1 hn0 hn hon hc h1 h4 hsn
  go_enter Try.func105, Try.ntmps105
  go_wp2_with (go_at_call 110; refine (HN.out).mono ?_; rintro e w1 ⟨rfl, hg1, hu1⟩; have HG1 := Lib.hid hg1; have HU1 := Lib.hid hu1; obtain ⟨y0, y1, y2, y3, y4, y5, y6, y7⟩ := hg1.cells; rw [HM.out] at y5; clear hu1 hg1)
  go_region
  all_goals
    go_wp2
    go_region_held3 (fun w' => w'.cell? ⟨b, 3, none⟩ = some (.int .i64 wd) ∧ w'.cell? ⟨b, 5, none⟩ = some (.int .i64 3))
      (first | (with_reducible exact ⟨y3, y5⟩) | (go_keep; done))
      (first | (go_at_call 107; refine (HP.out _ (by first | exact y5 | simpa using y5)).mono ?_; rintro e w3 ⟨rfl, rfl⟩))
    all_goals
      go_wp2
      first | refine bodyPost_ret (results_none rfl _ _ _) rfl ?_ | go_end0
      refine ⟨rfl, by first | exact HG1.out | exact RG.mk (heap_drew' HG1.out.h) | exact RG.mk (heap_drew' (heap_drew' HG1.out.h)), by first | exact HU1.out | exact HU1.out.drew | exact HU1.out.drew.drew⟩
set_option maxRecDepth 100000 in
set_option maxHeartbeats 2000000 in
theorem push_take_plain4 {cap wd : Int} {w : World} {b : Nat} {t : TypeId} {s s1 : RgS} (g : Int) (h : RG cap wd w b t s) (hs1 : s1 = noteS s g) (hn0 : 0 ≤ s.n) (hn : s.n < 50) (hon : s.on = true) (hc : Cap5 cap) (h1 : 1 ≤ wd) (h4 : wd ≤ 4) (hm : s1.n = 4) (hw : (2 : Int) ≤ wd) :
    Calls Try.prog 105 #[.pointer (some ⟨b, 0, none⟩), .int .u32 g] w fun e w' => e = .returned (.tuple #[]) ∧ RG cap wd w' b t s1 ∧ Upd [b] w w' := by
  obtain ⟨-, -, -, -, -, -, -, -, -, -, x18⟩ := h.cells2
  rw [hon] at x18
  have lb := heap_lt h.h
  have hN := ring_note g h hn0 (by omega)
  rw [← hs1] at hN
  have HN := Lib.hid hN
  have hsn : s1.n = s.n + 1 := by rw [hs1]; rfl
  have HP := Lib.hid (show ∀ (w : World), w.cell? ⟨b, 5, none⟩ = some (.int .i64 4) → Calls Try.prog 107 #[.pointer (some ⟨b, 0, none⟩)] w fun e w' => e = .returned (.int .i64 2) ∧ w = w' from fun w x => ring_past x (by omega) (by omega))
  have HM := Lib.hid hm
  have e2 : IntKind.u32.wrap cap = cap := by have := hc.le; rw [IntKind.wrap_u32]; omega
  have d3 : decide (wd < (2 : Int)) = false := by simp; omega
  clear hm hw
  clear h hN hs1 hn0 hn hon hc h1 h4 hsn
  go_enter Try.func105, Try.ntmps105
  go_wp2_with (go_at_call 110; refine (HN.out).mono ?_; rintro e w1 ⟨rfl, hg1, hu1⟩; have HG1 := Lib.hid hg1; have HU1 := Lib.hid hu1; obtain ⟨y0, y1, y2, y3, y4, y5, y6, y7⟩ := hg1.cells; rw [HM.out] at y5; clear hu1 hg1)
  go_region
  all_goals
    go_wp2
    go_region_held3 (fun w' => w'.cell? ⟨b, 3, none⟩ = some (.int .i64 wd) ∧ w'.cell? ⟨b, 5, none⟩ = some (.int .i64 4))
      (first | (with_reducible exact ⟨y3, y5⟩) | (go_keep; done))
      (first | (go_at_call 107; refine (HP.out _ (by first | exact y5 | simpa using y5)).mono ?_; rintro e w3 ⟨rfl, rfl⟩))
    all_goals
      go_wp2
      first | refine bodyPost_ret (results_none rfl _ _ _) rfl ?_ | go_end0
      refine ⟨rfl, by first | exact HG1.out | exact RG.mk (heap_drew' HG1.out.h) | exact RG.mk (heap_drew' (heap_drew' HG1.out.h)), by first | exact HU1.out | exact HU1.out.drew | exact HU1.out.drew.drew⟩
set_option maxRecDepth 100000 in
set_option maxHeartbeats 2000000 in
theorem push_take_plain5 {cap wd : Int} {w : World} {b : Nat} {t : TypeId} {s s1 : RgS} (g : Int) (h : RG cap wd w b t s) (hs1 : s1 = noteS s g) (hn0 : 0 ≤ s.n) (hn : s.n < 50) (hon : s.on = true) (hc : Cap5 cap) (h1 : 1 ≤ wd) (h4 : wd ≤ 4) (hm : s1.n = 5) (hw : (3 : Int) ≤ wd) :
    Calls Try.prog 105 #[.pointer (some ⟨b, 0, none⟩), .int .u32 g] w fun e w' => e = .returned (.tuple #[]) ∧ RG cap wd w' b t s1 ∧ Upd [b] w w' := by
  obtain ⟨-, -, -, -, -, -, -, -, -, -, x18⟩ := h.cells2
  rw [hon] at x18
  have lb := heap_lt h.h
  have hN := ring_note g h hn0 (by omega)
  rw [← hs1] at hN
  have HN := Lib.hid hN
  have hsn : s1.n = s.n + 1 := by rw [hs1]; rfl
  have HP := Lib.hid (show ∀ (w : World), w.cell? ⟨b, 5, none⟩ = some (.int .i64 5) → Calls Try.prog 107 #[.pointer (some ⟨b, 0, none⟩)] w fun e w' => e = .returned (.int .i64 3) ∧ w = w' from fun w x => ring_past x (by omega) (by omega))
  have HM := Lib.hid hm
  have e2 : IntKind.u32.wrap cap = cap := by have := hc.le; rw [IntKind.wrap_u32]; omega
  have d3 : decide (wd < (3 : Int)) = false := by simp; omega
  clear hm hw
  clear h hN hs1 hn0 hn hon hc h1 h4 hsn
  go_enter Try.func105, Try.ntmps105
  go_wp2_with (go_at_call 110; refine (HN.out).mono ?_; rintro e w1 ⟨rfl, hg1, hu1⟩; have HG1 := Lib.hid hg1; have HU1 := Lib.hid hu1; obtain ⟨y0, y1, y2, y3, y4, y5, y6, y7⟩ := hg1.cells; rw [HM.out] at y5; clear hu1 hg1)
  go_region
  all_goals
    go_wp2
    go_region_held3 (fun w' => w'.cell? ⟨b, 3, none⟩ = some (.int .i64 wd) ∧ w'.cell? ⟨b, 5, none⟩ = some (.int .i64 5))
      (first | (with_reducible exact ⟨y3, y5⟩) | (go_keep; done))
      (first | (go_at_call 107; refine (HP.out _ (by first | exact y5 | simpa using y5)).mono ?_; rintro e w3 ⟨rfl, rfl⟩))
    all_goals
      go_wp2
      first | refine bodyPost_ret (results_none rfl _ _ _) rfl ?_ | go_end0
      refine ⟨rfl, by first | exact HG1.out | exact RG.mk (heap_drew' HG1.out.h) | exact RG.mk (heap_drew' (heap_drew' HG1.out.h)), by first | exact HU1.out | exact HU1.out.drew | exact HU1.out.drew.drew⟩
set_option maxRecDepth 100000 in
set_option maxHeartbeats 2000000 in
theorem push_take_plain6 {cap wd : Int} {w : World} {b : Nat} {t : TypeId} {s s1 : RgS} (g : Int) (h : RG cap wd w b t s) (hs1 : s1 = noteS s g) (hn0 : 0 ≤ s.n) (hn : s.n < 50) (hon : s.on = true) (hc : Cap5 cap) (h1 : 1 ≤ wd) (h4 : wd ≤ 4) (hm : s1.n = 6) (hw : (4 : Int) ≤ wd) :
    Calls Try.prog 105 #[.pointer (some ⟨b, 0, none⟩), .int .u32 g] w fun e w' => e = .returned (.tuple #[]) ∧ RG cap wd w' b t s1 ∧ Upd [b] w w' := by
  obtain ⟨-, -, -, -, -, -, -, -, -, -, x18⟩ := h.cells2
  rw [hon] at x18
  have lb := heap_lt h.h
  have hN := ring_note g h hn0 (by omega)
  rw [← hs1] at hN
  have HN := Lib.hid hN
  have hsn : s1.n = s.n + 1 := by rw [hs1]; rfl
  have HP := Lib.hid (show ∀ (w : World), w.cell? ⟨b, 5, none⟩ = some (.int .i64 6) → Calls Try.prog 107 #[.pointer (some ⟨b, 0, none⟩)] w fun e w' => e = .returned (.int .i64 4) ∧ w = w' from fun w x => ring_past x (by omega) (by omega))
  have HM := Lib.hid hm
  have e2 : IntKind.u32.wrap cap = cap := by have := hc.le; rw [IntKind.wrap_u32]; omega
  have d3 : decide (wd < (4 : Int)) = false := by simp; omega
  clear hm hw
  clear h hN hs1 hn0 hn hon hc h1 h4 hsn
  go_enter Try.func105, Try.ntmps105
  go_wp2_with (go_at_call 110; refine (HN.out).mono ?_; rintro e w1 ⟨rfl, hg1, hu1⟩; have HG1 := Lib.hid hg1; have HU1 := Lib.hid hu1; obtain ⟨y0, y1, y2, y3, y4, y5, y6, y7⟩ := hg1.cells; rw [HM.out] at y5; clear hu1 hg1)
  go_region
  all_goals
    go_wp2
    go_region_held3 (fun w' => w'.cell? ⟨b, 3, none⟩ = some (.int .i64 wd) ∧ w'.cell? ⟨b, 5, none⟩ = some (.int .i64 6))
      (first | (with_reducible exact ⟨y3, y5⟩) | (go_keep; done))
      (first | (go_at_call 107; refine (HP.out _ (by first | exact y5 | simpa using y5)).mono ?_; rintro e w3 ⟨rfl, rfl⟩))
    all_goals
      go_wp2
      first | refine bodyPost_ret (results_none rfl _ _ _) rfl ?_ | go_end0
      refine ⟨rfl, by first | exact HG1.out | exact RG.mk (heap_drew' HG1.out.h) | exact RG.mk (heap_drew' (heap_drew' HG1.out.h)), by first | exact HU1.out | exact HU1.out.drew | exact HU1.out.drew.drew⟩
set_option maxRecDepth 100000 in
set_option maxHeartbeats 2000000 in
theorem push_take_last4 {cap wd : Int} {w : World} {b : Nat} {t : TypeId} {s s1 : RgS} (g : Int) (h : RG cap wd w b t s) (hs1 : s1 = noteS s g) (hn0 : 0 ≤ s.n) (hn : s.n < 50) (hon : s.on = true) (hc : Cap5 cap) (h1 : 1 ≤ wd) (h4 : wd ≤ 4) (hm : s1.n = 4) (hw : wd < (2 : Int)) :
    Calls Try.prog 105 #[.pointer (some ⟨b, 0, none⟩), .int .u32 g] w fun e w' => e = .returned (.tuple #[]) ∧ RG cap wd w' b t { s1 with f := 0, on := false } ∧ Upd [b] w w' := by
  obtain ⟨-, -, -, -, -, -, -, -, -, -, x18⟩ := h.cells2
  rw [hon] at x18
  have lb := heap_lt h.h
  have hN := ring_note g h hn0 (by omega)
  rw [← hs1] at hN
  have HN := Lib.hid hN
  have hsn : s1.n = s.n + 1 := by rw [hs1]; rfl
  have HP := Lib.hid (show ∀ (w : World), w.cell? ⟨b, 5, none⟩ = some (.int .i64 4) → Calls Try.prog 107 #[.pointer (some ⟨b, 0, none⟩)] w fun e w' => e = .returned (.int .i64 2) ∧ w = w' from fun w x => ring_past x (by omega) (by omega))
  have HM := Lib.hid hm
  have e2 : IntKind.u32.wrap cap = cap := by have := hc.le; rw [IntKind.wrap_u32]; omega
  have d3 : decide (wd < (2 : Int)) = true := by simp; omega
  clear hm hw
  clear h hN hs1 hn0 hn hon hc h1 h4 hsn
  go_enter Try.func105, Try.ntmps105
  go_wp2_with (go_at_call 110; refine (HN.out).mono ?_; rintro e w1 ⟨rfl, hg1, hu1⟩; have HG1 := Lib.hid hg1; have HU1 := Lib.hid hu1; obtain ⟨y0, y1, y2, y3, y4, y5, y6, y7⟩ := hg1.cells; rw [HM.out] at y5; clear hu1 hg1)
  go_region
  all_goals
    go_wp2
    go_region_held3 (fun w' => w'.cell? ⟨b, 3, none⟩ = some (.int .i64 wd) ∧ w'.cell? ⟨b, 5, none⟩ = some (.int .i64 4))
      (first | (with_reducible exact ⟨y3, y5⟩) | (go_keep; done))
      (first | (go_at_call 107; refine (HP.out _ (by first | exact y5 | simpa using y5)).mono ?_; rintro e w3 ⟨rfl, rfl⟩))
    all_goals
      go_wp2_with (go_at_call 112; refine (ring_end 0 (by first | exact HG1.out | exact RG.mk HG1.out.h | exact RG.mk (heap_drew' HG1.out.h) | exact RG.mk (heap_drew' (heap_drew' HG1.out.h)))).mono ?_; rintro e w2 ⟨rfl, hr2, hu2⟩; have HR2 := Lib.hid hr2; have HU2 := Lib.hid (show Upd [b] w1 w2 from by first | exact hu2 | exact hu2.of_drew | exact hu2.of_drew.of_drew); clear hr2 hu2)
      first | refine bodyPost_ret (results_none rfl _ _ _) rfl ?_ | go_end0
      exact ⟨rfl, HR2.out, HU1.out.trans HU2.out⟩
set_option maxRecDepth 100000 in
set_option maxHeartbeats 2000000 in
theorem push_take_last5 {cap wd : Int} {w : World} {b : Nat} {t : TypeId} {s s1 : RgS} (g : Int) (h : RG cap wd w b t s) (hs1 : s1 = noteS s g) (hn0 : 0 ≤ s.n) (hn : s.n < 50) (hon : s.on = true) (hc : Cap5 cap) (h1 : 1 ≤ wd) (h4 : wd ≤ 4) (hm : s1.n = 5) (hw : wd < (3 : Int)) :
    Calls Try.prog 105 #[.pointer (some ⟨b, 0, none⟩), .int .u32 g] w fun e w' => e = .returned (.tuple #[]) ∧ RG cap wd w' b t { s1 with f := 0, on := false } ∧ Upd [b] w w' := by
  obtain ⟨-, -, -, -, -, -, -, -, -, -, x18⟩ := h.cells2
  rw [hon] at x18
  have lb := heap_lt h.h
  have hN := ring_note g h hn0 (by omega)
  rw [← hs1] at hN
  have HN := Lib.hid hN
  have hsn : s1.n = s.n + 1 := by rw [hs1]; rfl
  have HP := Lib.hid (show ∀ (w : World), w.cell? ⟨b, 5, none⟩ = some (.int .i64 5) → Calls Try.prog 107 #[.pointer (some ⟨b, 0, none⟩)] w fun e w' => e = .returned (.int .i64 3) ∧ w = w' from fun w x => ring_past x (by omega) (by omega))
  have HM := Lib.hid hm
  have e2 : IntKind.u32.wrap cap = cap := by have := hc.le; rw [IntKind.wrap_u32]; omega
  have d3 : decide (wd < (3 : Int)) = true := by simp; omega
  clear hm hw
  clear h hN hs1 hn0 hn hon hc h1 h4 hsn
  go_enter Try.func105, Try.ntmps105
  go_wp2_with (go_at_call 110; refine (HN.out).mono ?_; rintro e w1 ⟨rfl, hg1, hu1⟩; have HG1 := Lib.hid hg1; have HU1 := Lib.hid hu1; obtain ⟨y0, y1, y2, y3, y4, y5, y6, y7⟩ := hg1.cells; rw [HM.out] at y5; clear hu1 hg1)
  go_region
  all_goals
    go_wp2
    go_region_held3 (fun w' => w'.cell? ⟨b, 3, none⟩ = some (.int .i64 wd) ∧ w'.cell? ⟨b, 5, none⟩ = some (.int .i64 5))
      (first | (with_reducible exact ⟨y3, y5⟩) | (go_keep; done))
      (first | (go_at_call 107; refine (HP.out _ (by first | exact y5 | simpa using y5)).mono ?_; rintro e w3 ⟨rfl, rfl⟩))
    all_goals
      go_wp2_with (go_at_call 112; refine (ring_end 0 (by first | exact HG1.out | exact RG.mk HG1.out.h | exact RG.mk (heap_drew' HG1.out.h) | exact RG.mk (heap_drew' (heap_drew' HG1.out.h)))).mono ?_; rintro e w2 ⟨rfl, hr2, hu2⟩; have HR2 := Lib.hid hr2; have HU2 := Lib.hid (show Upd [b] w1 w2 from by first | exact hu2 | exact hu2.of_drew | exact hu2.of_drew.of_drew); clear hr2 hu2)
      first | refine bodyPost_ret (results_none rfl _ _ _) rfl ?_ | go_end0
      exact ⟨rfl, HR2.out, HU1.out.trans HU2.out⟩
set_option maxRecDepth 100000 in
set_option maxHeartbeats 2000000 in
theorem push_take_last6 {cap wd : Int} {w : World} {b : Nat} {t : TypeId} {s s1 : RgS} (g : Int) (h : RG cap wd w b t s) (hs1 : s1 = noteS s g) (hn0 : 0 ≤ s.n) (hn : s.n < 50) (hon : s.on = true) (hc : Cap5 cap) (h1 : 1 ≤ wd) (h4 : wd ≤ 4) (hm : s1.n = 6) (hw : wd < (4 : Int)) :
    Calls Try.prog 105 #[.pointer (some ⟨b, 0, none⟩), .int .u32 g] w fun e w' => e = .returned (.tuple #[]) ∧ RG cap wd w' b t { s1 with f := 0, on := false } ∧ Upd [b] w w' := by
  obtain ⟨-, -, -, -, -, -, -, -, -, -, x18⟩ := h.cells2
  rw [hon] at x18
  have lb := heap_lt h.h
  have hN := ring_note g h hn0 (by omega)
  rw [← hs1] at hN
  have HN := Lib.hid hN
  have hsn : s1.n = s.n + 1 := by rw [hs1]; rfl
  have HP := Lib.hid (show ∀ (w : World), w.cell? ⟨b, 5, none⟩ = some (.int .i64 6) → Calls Try.prog 107 #[.pointer (some ⟨b, 0, none⟩)] w fun e w' => e = .returned (.int .i64 4) ∧ w = w' from fun w x => ring_past x (by omega) (by omega))
  have HM := Lib.hid hm
  have e2 : IntKind.u32.wrap cap = cap := by have := hc.le; rw [IntKind.wrap_u32]; omega
  have d3 : decide (wd < (4 : Int)) = true := by simp; omega
  clear hm hw
  clear h hN hs1 hn0 hn hon hc h1 h4 hsn
  go_enter Try.func105, Try.ntmps105
  go_wp2_with (go_at_call 110; refine (HN.out).mono ?_; rintro e w1 ⟨rfl, hg1, hu1⟩; have HG1 := Lib.hid hg1; have HU1 := Lib.hid hu1; obtain ⟨y0, y1, y2, y3, y4, y5, y6, y7⟩ := hg1.cells; rw [HM.out] at y5; clear hu1 hg1)
  go_region
  all_goals
    go_wp2
    go_region_held3 (fun w' => w'.cell? ⟨b, 3, none⟩ = some (.int .i64 wd) ∧ w'.cell? ⟨b, 5, none⟩ = some (.int .i64 6))
      (first | (with_reducible exact ⟨y3, y5⟩) | (go_keep; done))
      (first | (go_at_call 107; refine (HP.out _ (by first | exact y5 | simpa using y5)).mono ?_; rintro e w3 ⟨rfl, rfl⟩))
    all_goals
      go_wp2_with (go_at_call 112; refine (ring_end 0 (by first | exact HG1.out | exact RG.mk HG1.out.h | exact RG.mk (heap_drew' HG1.out.h) | exact RG.mk (heap_drew' (heap_drew' HG1.out.h)))).mono ?_; rintro e w2 ⟨rfl, hr2, hu2⟩; have HR2 := Lib.hid hr2; have HU2 := Lib.hid (show Upd [b] w1 w2 from by first | exact hu2 | exact hu2.of_drew | exact hu2.of_drew.of_drew); clear hr2 hu2)
      first | refine bodyPost_ret (results_none rfl _ _ _) rfl ?_ | go_end0
      exact ⟨rfl, HR2.out, HU1.out.trans HU2.out⟩
set_option maxRecDepth 100000 in
set_option maxHeartbeats 2000000 in
theorem push_take_last7 {cap wd : Int} {w : World} {b : Nat} {t : TypeId} {s s1 : RgS} (g : Int) (h : RG cap wd w b t s) (hs1 : s1 = noteS s g) (hn0 : 0 ≤ s.n) (hn : s.n < 50) (hon : s.on = true) (hc : Cap5 cap) (h1 : 1 ≤ wd) (h4 : wd ≤ 4) (hm : s1.n = 7) (hw : wd < (5 : Int)) :
    Calls Try.prog 105 #[.pointer (some ⟨b, 0, none⟩), .int .u32 g] w fun e w' => e = .returned (.tuple #[]) ∧ RG cap wd w' b t { s1 with f := 0, on := false } ∧ Upd [b] w w' := by
  obtain ⟨-, -, -, -, -, -, -, -, -, -, x18⟩ := h.cells2
  rw [hon] at x18
  have lb := heap_lt h.h
  have hN := ring_note g h hn0 (by omega)
  rw [← hs1] at hN
  have HN := Lib.hid hN
  have hsn : s1.n = s.n + 1 := by rw [hs1]; rfl
  have HP := Lib.hid (show ∀ (w : World), w.cell? ⟨b, 5, none⟩ = some (.int .i64 7) → Calls Try.prog 107 #[.pointer (some ⟨b, 0, none⟩)] w fun e w' => e = .returned (.int .i64 5) ∧ w = w' from fun w x => ring_past x (by omega) (by omega))
  have HM := Lib.hid hm
  have e2 : IntKind.u32.wrap cap = cap := by have := hc.le; rw [IntKind.wrap_u32]; omega
  have d3 : decide (wd < (5 : Int)) = true := by simp; omega
  clear hm hw
  clear h hN hs1 hn0 hn hon hc h1 h4 hsn
  go_enter Try.func105, Try.ntmps105
  go_wp2_with (go_at_call 110; refine (HN.out).mono ?_; rintro e w1 ⟨rfl, hg1, hu1⟩; have HG1 := Lib.hid hg1; have HU1 := Lib.hid hu1; obtain ⟨y0, y1, y2, y3, y4, y5, y6, y7⟩ := hg1.cells; rw [HM.out] at y5; clear hu1 hg1)
  go_region
  all_goals
    go_wp2
    go_region_held3 (fun w' => w'.cell? ⟨b, 3, none⟩ = some (.int .i64 wd) ∧ w'.cell? ⟨b, 5, none⟩ = some (.int .i64 7))
      (first | (with_reducible exact ⟨y3, y5⟩) | (go_keep; done))
      (first | (go_at_call 107; refine (HP.out _ (by first | exact y5 | simpa using y5)).mono ?_; rintro e w3 ⟨rfl, rfl⟩))
    all_goals
      go_wp2_with (go_at_call 112; refine (ring_end 0 (by first | exact HG1.out | exact RG.mk HG1.out.h | exact RG.mk (heap_drew' HG1.out.h) | exact RG.mk (heap_drew' (heap_drew' HG1.out.h)))).mono ?_; rintro e w2 ⟨rfl, hr2, hu2⟩; have HR2 := Lib.hid hr2; have HU2 := Lib.hid (show Upd [b] w1 w2 from by first | exact hu2 | exact hu2.of_drew | exact hu2.of_drew.of_drew); clear hr2 hu2)
      first | refine bodyPost_ret (results_none rfl _ _ _) rfl ?_ | go_end0
      exact ⟨rfl, HR2.out, HU1.out.trans HU2.out⟩
end Go.Proofs.Ytnnakiojfpnphaa
namespace Go.Proofs.Ytnnakiojfpnphaa
open Go.RowKit

theorem heap_drewN' {w : World} {b n : Nat} {o : Obj} (h : w.heap[b]? = some o) : (w.drewN n).heap[b]? = some o := h
set_option maxRecDepth 100000 in
set_option maxHeartbeats 2000000 in
theorem push_take_full {cap wd : Int} {w : World} {b : Nat} {t : TypeId} {s s1 : RgS} (g : Int) (h : RG cap wd w b t s) (hs1 : s1 = noteS s g) (hn0 : 0 ≤ s.n) (hn : s.n < 50) (hon : s.on = true) (hc : Cap5 cap) (h1 : 1 ≤ wd) (h4 : wd ≤ 4) (hm : s1.n = 2) (hf : cap ≤ IntKind.u32.wrap (s1.a - s1.b)) :
    Calls Try.prog 105 #[.pointer (some ⟨b, 0, none⟩), .int .u32 g] w fun e w' => e = .returned (.tuple #[]) ∧ RG cap wd w' b t { s1 with f := 6, on := false } ∧ Upd [b] w w' := by
  obtain ⟨-, -, -, -, -, -, -, -, -, -, x18⟩ := h.cells2
  rw [hon] at x18
  have lb := heap_lt h.h
  have hN := ring_note g h hn0 (by omega)
  rw [← hs1] at hN
  have HN := Lib.hid hN
  have HP := Lib.hid (show ∀ (w : World), w.cell? ⟨b, 5, none⟩ = some (.int .i64 2) → Calls Try.prog 107 #[.pointer (some ⟨b, 0, none⟩)] w fun e w' => e = .returned (.int .i64 0) ∧ w' = w from fun w x => (ring_past x (by omega) (by omega)).mono fun _ _ h => ⟨h.1, h.2.symm⟩)
  have HY := Lib.hid (show ∀ (w : World), Calls Try.prog 111 #[.int .u32 s1.b, .int .u32 s1.a] w fun e w' => e = .returned (.int .u32 (IntKind.u32.wrap (s1.a - s1.b))) ∧ w' = w from fun w => (ring_many _ _ w).mono fun _ _ h => ⟨h.1, h.2.symm⟩)
  have HM := Lib.hid hm
  have e2 : IntKind.u32.wrap cap = cap := by have := hc.le; rw [IntKind.wrap_u32]; omega
  generalize hmm : IntKind.u32.wrap (s1.a - s1.b) = mm at HY hf
  have d1 : decide (cap ≤ mm) = true := by simp; omega
  have d2 : decide (mm ≥ cap) = true := d1
  have d3 : decide (wd < 0) = false := by simp; omega
  clear h hN hs1 hn0 hn hon hc h1 h4 hm hf hmm
  go_enter Try.func105, Try.ntmps105
  go_wp2_with (go_at_call 110; refine (HN.out).mono ?_; rintro e w1 ⟨rfl, hg1, hu1⟩; have HG1 := Lib.hid hg1; have HU1 := Lib.hid hu1; obtain ⟨y0, y1, y2, y3, y4, y5, y6, y7⟩ := hg1.cells; rw [HM.out] at y5; clear hu1 hg1)
  go_quiet ((go_at_call 111; exact Calls.quiet_of_same (HY.out _)))
  go_wp2_with (go_at_call 112; refine (ring_end 6 (by first | exact HG1.out | exact RG.mk HG1.out.h | exact RG.mk (heap_drewN' HG1.out.h) | exact RG.mk (heap_drewN' (heap_drewN' HG1.out.h)))).mono ?_; rintro e w2 ⟨rfl, hr2, hu2⟩; have HR2 := Lib.hid hr2; have HU2 := Lib.hid (show Upd [b] w1 w2 from (by first | exact hu2 | exact hu2.of_drewN | exact hu2.of_drewN.of_drewN)); clear hr2 hu2)
  first | refine bodyPost_ret (results_none rfl _ _ _) rfl ?_ | go_end0
  exact ⟨rfl, HR2.out, HU1.out.trans HU2.out⟩
set_option maxRecDepth 100000 in
set_option maxHeartbeats 2000000 in
theorem push_take_two {cap wd : Int} {w : World} {b : Nat} {t : TypeId} {s s1 : RgS} (g : Int) (h : RG cap wd w b t s) (hs1 : s1 = noteS s g) (hn0 : 0 ≤ s.n) (hn : s.n < 50) (hon : s.on = true) (hc : Cap5 cap) (h1 : 1 ≤ wd) (h4 : wd ≤ 4) (hm : s1.n = 2) (hf : ¬ cap ≤ IntKind.u32.wrap (s1.a - s1.b)) :
    Calls Try.prog 105 #[.pointer (some ⟨b, 0, none⟩), .int .u32 g] w fun e w' => e = .returned (.tuple #[]) ∧ RG cap wd w' b t s1 ∧ Upd [b] w w' := by
  obtain ⟨-, -, -, -, -, -, -, -, -, -, x18⟩ := h.cells2
  rw [hon] at x18
  have lb := heap_lt h.h
  have hN := ring_note g h hn0 (by omega)
  rw [← hs1] at hN
  have HN := Lib.hid hN
  have HP := Lib.hid (show ∀ (w : World), w.cell? ⟨b, 5, none⟩ = some (.int .i64 2) → Calls Try.prog 107 #[.pointer (some ⟨b, 0, none⟩)] w fun e w' => e = .returned (.int .i64 0) ∧ w' = w from fun w x => (ring_past x (by omega) (by omega)).mono fun _ _ h => ⟨h.1, h.2.symm⟩)
  have HY := Lib.hid (show ∀ (w : World), Calls Try.prog 111 #[.int .u32 s1.b, .int .u32 s1.a] w fun e w' => e = .returned (.int .u32 (IntKind.u32.wrap (s1.a - s1.b))) ∧ w' = w from fun w => (ring_many _ _ w).mono fun _ _ h => ⟨h.1, h.2.symm⟩)
  have HM := Lib.hid hm
  have e2 : IntKind.u32.wrap cap = cap := by have := hc.le; rw [IntKind.wrap_u32]; omega
  generalize hmm : IntKind.u32.wrap (s1.a - s1.b) = mm at HY hf
  have d1 : decide (cap ≤ mm) = false := by simp; omega
  have d2 : decide (mm ≥ cap) = false := d1
  have d3 : decide (wd < 0) = false := by simp; omega
  clear h hN hs1 hn0 hn hon hc h1 h4 hm hf hmm
  go_enter Try.func105, Try.ntmps105
  go_wp2_with (go_at_call 110; refine (HN.out).mono ?_; rintro e w1 ⟨rfl, hg1, hu1⟩; have HG1 := Lib.hid hg1; have HU1 := Lib.hid hu1; obtain ⟨y0, y1, y2, y3, y4, y5, y6, y7⟩ := hg1.cells; rw [HM.out] at y5; clear hu1 hg1)
  go_quiet ((go_at_call 111; exact Calls.quiet_of_same (HY.out _)))
  go_wp2_with (go_at_call 112; refine (ring_end 6 (by first | exact HG1.out | exact RG.mk HG1.out.h | exact RG.mk (heap_drewN' HG1.out.h) | exact RG.mk (heap_drewN' (heap_drewN' HG1.out.h)))).mono ?_; rintro e w2 ⟨rfl, hr2, hu2⟩; have HR2 := Lib.hid hr2; have HU2 := Lib.hid (show Upd [b] w1 w2 from (by first | exact hu2 | exact hu2.of_drewN | exact hu2.of_drewN.of_drewN)); clear hr2 hu2)
  go_quiet ((go_at_call 107; exact (HP.out _ (by first | exact y5 | simpa using y5)).mono (fun _ _ h => ⟨h.1, _, h.2⟩)))
  go_wp2
  first | refine bodyPost_ret (results_none rfl _ _ _) rfl ?_ | go_end0
  exact ⟨rfl, (by first | exact HG1.out | exact RG.mk HG1.out.h | exact RG.mk (heap_drewN' HG1.out.h) | exact RG.mk (heap_drewN' (heap_drewN' HG1.out.h))), (by first | exact HU1.out | exact HU1.out.drewN _ | exact (HU1.out.drewN _).drewN _)⟩
end Go.Proofs.Ytnnakiojfpnphaa
