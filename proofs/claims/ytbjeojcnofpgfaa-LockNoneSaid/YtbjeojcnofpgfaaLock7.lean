/- Package lock: the routines by their states, done alone. -/
import Derived.Test.YtbjeojcnofpgfaaLock6
import Derived.Test.YtbjeojcnofpgfaaRou
set_option linter.unusedVariables false
set_option linter.unusedSimpArgs false
namespace Go.Proofs.Ytbjeojcnofpgfaa
open Go.RowKit

set_option maxRecDepth 100000 in
set_option maxHeartbeats 1000000 in
theorem lr_done {w : World} {b : Nat} {n seq v0 f r0 : Int} {more : List Value} (h : LW w b 129 more n seq v0 f r0 true false) :
    Calls Try.prog 61 #[.pointer (some ⟨b, 0, none⟩)] w fun e w' => e = .returned (.tuple #[.agg #[.int .i64 0, .int .i64 0, .int .u32 0], .bool false]) ∧ Upd [] w w' := by
  obtain ⟨-, -, -, -, -, -, -, -, x17⟩ := h.cells
  have lb := heap_lt h.h
  have nb : w.heap.size ≠ b := by omega
  have nb' : b ≠ w.heap.size := by omega
  clear h
  go_enter Try.func61, Try.ntmps61
  go_wp2
  refine bodyPost_ret (v := .tuple #[.agg #[.int .i64 0, .int .i64 0, .int .u32 0], .bool false]) (by simp [results, Try.results61, go_sem]) rfl ?_
  refine ⟨rfl, ?_⟩
  exact (Upd.refl _ _).alloc _
set_option maxRecDepth 100000 in
set_option maxHeartbeats 1000000 in
theorem lr_result {w : World} {b : Nat} {n seq v0 f r0 : Int} {more : List Value} (h : LW w b 129 more n seq v0 f r0 true false) :
    Calls Try.prog 63 #[.pointer (some ⟨b, 0, none⟩)] w fun e w' => e = .returned (.tuple #[.agg #[.int .i64 f, .int .u32 r0, .int .u32 0, .int .u32 0, .int .u32 0], .bool true]) ∧ Upd [] w w' := by
  have lb := heap_lt h.h
  have nb : w.heap.size ≠ b := by omega
  have nb' : b ≠ w.heap.size := by omega
  have HA := Lib.hid (lock_answer (h.keep ((Upd.refl [] w).alloc (.cells #[.int .i64 0, .int .u32 0, .int .u32 0, .int .u32 0, .int .u32 0] 39)) (by simp)))
  clear h
  go_enter Try.func63, Try.ntmps63
  go_wp2_with (go_at_call 122; refine (HA.out).mono ?_; rintro e w1 ⟨rfl, hu1⟩; have HU1 := Lib.hid hu1; have hz := hu1.keepb (heap_alloc_new _ _) (by simp); have HZ := Lib.hid hz; have zf := fun j => frozen_of_heap hz j; have z0 := cell_of_heap hz 0; have z1 := cell_of_heap hz 1; have z2 := cell_of_heap hz 2; have z3 := cell_of_heap hz 3; have z4 := cell_of_heap hz 4; simp at z0 z1 z2 z3 z4; clear hz hu1)
  refine ret_result rfl (g := w.heap.size) (t := 39) (fr := (0, 0)) (x0 := .int .i64 f) (x1 := .int .u32 r0) (x2 := .int .u32 0) (x3 := .int .u32 0) (x4 := .int .u32 0) rfl rfl rfl (hg := ?hg) ?_
  case hg =>
    repeat (first | (with_reducible exact HZ.out) | (with_reducible apply heap_set2))
    all_goals rfl
  refine ⟨rfl, ?_⟩
  repeat (with_reducible refine Upd.setCell ?_ (by simp) _)
  exact ((Upd.refl _ _).alloc _).trans HU1.out
set_option maxRecDepth 100000 in
set_option maxHeartbeats 1000000 in
theorem lr_new (again : Int) (h0 : 0 ≤ again) (h8 : again ≤ 8) (W : World) : Calls Try.prog 123 #[lockP, .int .i64 again] W fun e w' => ∃ b, e = .returned (.pointer (some ⟨b, 0, none⟩)) ∧ W.heap.size ≤ b ∧ LW w' b 129 [.int .i64 again, .int .i64 1] 0 0 0 0 0 true true ∧ Upd [] W w' := by
  have HB := Lib.hid fun w => lock_begun w
  unfold lockP lockC at HB
  unfold lockP
  have d1 : decide (again < 0) = false := by simp; omega
  have d2 : decide (again > 8) = false := by simp; omega
  have d3 : decide (8 < again) = false := by simp; omega
  clear h0 h8
  go_enter Try.func123, Try.ntmps123
  go_wp2_with (go_at_call 148; refine (HB.out _).mono ?_; rintro e w1 ⟨rfl, hu1⟩; have HU1 := Lib.hid (((Upd.refl [] W).alloc _).trans hu1); clear hu1)
  go_ret
  have hsz := HU1.out.size
  exact ⟨_, rfl, hsz, ⟨heap_alloc_new _ _⟩, HU1.out.alloc _⟩

structure LWS where
  n : Nat
  seq : Int
def lwAct (x : Int) (s : LWS) : Option (Int × Nat × Int) :=
  if s.n = 0 then some (1, 0, 0) else if s.n = 1 then some (2, 0, IntKind.u32.wrap (s.seq + 1)) else if s.n = 2 then some (2, 1, x) else if s.n = 3 then some (2, 0, IntKind.u32.wrap (s.seq + 2)) else none
def lwTake (s : LWS) (g : Int) : LWS := ⟨s.n + 1, if s.n = 0 then bits .andNot .u32 g 1 else s.seq⟩
theorem lw_rou (b : Nat) (x : Int) : Rou 122 (.pointer (some ⟨b, 0, none⟩)) [b] (fun s w => s.n ≤ 4 ∧ LW w b 127 [] s.n s.seq x 0 0 true (decide (s.n < 4))) (lwAct x) lwTake (fun _ => ⟨0, 0, 0, 0, 0⟩) 60 58 62 where
  mA := fun _ => by kernel_rfl
  mT := fun _ => by kernel_rfl
  mR := fun _ => by kernel_rfl
  cA := fun _ _ => by kernel_rfl
  cT := fun _ _ => by kernel_rfl
  cR := fun _ _ => by kernel_rfl
  keep := fun s w w' S' h hu hS => ⟨h.1, h.2.keep hu (fun hk => hS b hk (by simp))⟩
  lt := fun s w h k hk => by simp at hk; subst hk; exact heap_lt h.2.h
  more := fun s w o a' y h hs => by
    obtain ⟨n, seq⟩ := s
    obtain ⟨h4, h⟩ := h
    simp only at h h4
    unfold lwAct at hs
    simp only at hs
    split at hs
    · rename_i e; subst e; cases hs; exact lw_act0 h
    split at hs
    · rename_i e; subst e; cases hs; exact lw_act1 h
    split at hs
    · rename_i e; subst e; cases hs; exact lw_act2 h
    split at hs
    · rename_i e; subst e; cases hs; exact lw_act3 h
    · cases hs
  noAct := fun s w h hs => by
    obtain ⟨n, seq⟩ := s
    obtain ⟨h4, h⟩ := h
    simp only at h h4
    have e : n = 4 := by
      unfold lwAct at hs
      simp only at hs
      split at hs
      · cases hs
      split at hs
      · cases hs
      split at hs
      · cases hs
      split at hs
      · cases hs
      · omega
    subst e
    exact lw_done h
  took := fun s w o a' y g h hs => by
    obtain ⟨n, seq⟩ := s
    obtain ⟨h4, h⟩ := h
    simp only at h h4
    have e : n < 4 := by
      unfold lwAct at hs
      simp only at hs
      by_cases hn : n = 4
      · subst hn; simp at hs
      · omega
    rw [decide_eq_true e] at h
    refine (lw_take n g e h).mono fun e' w' ⟨he, hl, hu⟩ => ⟨he, ⟨by simp [lwTake]; omega, ?_⟩, hu⟩
    simp only [lwTake]
    rw [show decide (n + 1 < 4) = decide (n < 3) from by simp; omega]
    exact hl
  ans := fun s w h hs => by
    obtain ⟨n, seq⟩ := s
    obtain ⟨h4, h⟩ := h
    simp only at h h4
    have e : n = 4 := by
      unfold lwAct at hs
      simp only at hs
      split at hs
      · cases hs
      split at hs
      · cases hs
      split at hs
      · cases hs
      split at hs
      · cases hs
      · omega
    subst e
    exact lw_result h

structure LRS where
  n : Nat
  seq : Int
  v0 : Int
  f : Int
  r0 : Int
  on : Bool
  left : Int
  tries : Int
def lrFail (s : LRS) : LRS := if s.left = 0 then { s with n := 0, v0 := 0, f := 8, on := false } else { s with n := 0, v0 := 0, left := wrap64 (s.left - 1), tries := wrap64 (s.tries + 1) }
def lrAct (s : LRS) : Option (Int × Nat × Int) := if s.on then (if s.n = 1 then some (1, 1, 0) else some (1, 0, 0)) else none
def lrTake (s : LRS) (g : Int) : LRS :=
  if s.n = 0 then (if bits .and .u32 g 1 == 1 then lrFail s else { s with seq := g, n := 1 })
  else if s.n = 1 then { s with v0 := g, n := 2 }
  else if g = s.seq then { s with n := 3, r0 := s.v0, on := false } else lrFail s
def lrAt (b : Nat) (s : LRS) (w : World) : Prop := (s.on = true → s.n ≤ 2) ∧ LW w b 129 [.int .i64 s.left, .int .i64 s.tries] s.n s.seq s.v0 s.f s.r0 true s.on
theorem lr_rou (b : Nat) : Rou 123 (.pointer (some ⟨b, 0, none⟩)) [b] (lrAt b) lrAct lrTake (fun s => ⟨s.f, s.r0, 0, 0, 0⟩) 61 59 63 where
  mA := fun _ => by kernel_rfl
  mT := fun _ => by kernel_rfl
  mR := fun _ => by kernel_rfl
  cA := fun _ _ => by kernel_rfl
  cT := fun _ _ => by kernel_rfl
  cR := fun _ _ => by kernel_rfl
  keep := fun s w w' S' h hu hS => ⟨h.1, h.2.keep hu (fun hk => hS b hk (by simp))⟩
  lt := fun s w h k hk => by simp at hk; subst hk; exact heap_lt h.2.h
  more := fun s w o a' y h hs => by
    obtain ⟨n, seq, v0, f, r0, on, left, tries⟩ := s
    obtain ⟨h4, h⟩ := h
    simp only at h h4
    unfold lrAct at hs
    simp only at hs
    rcases on with _ | _
    · cases hs
    · have h2 := h4 rfl
      have hc : n = 0 ∨ n = 1 ∨ n = 2 := by omega
      rcases hc with rfl | rfl | rfl
      · simp at hs; obtain ⟨rfl, rfl, rfl⟩ := hs; exact lr_act0 h
      · simp at hs; obtain ⟨rfl, rfl, rfl⟩ := hs; exact lr_act1 h
      · simp at hs; obtain ⟨rfl, rfl, rfl⟩ := hs; exact lr_act2 h
  noAct := fun s w h hs => by
    obtain ⟨n, seq, v0, f, r0, on, left, tries⟩ := s
    obtain ⟨h4, h⟩ := h
    simp only at h h4
    unfold lrAct at hs
    simp only at hs
    rcases on with _ | _
    · exact lr_done h
    · simp only [if_true] at hs; split at hs <;> cases hs
  took := fun s w o a' y g h hs => by
    obtain ⟨n, seq, v0, f, r0, on, left, tries⟩ := s
    obtain ⟨h4, h⟩ := h
    simp only at h h4
    unfold lrAct at hs
    simp only at hs
    rcases on with _ | _
    · cases hs
    · have h2 := h4 rfl
      have hc : n = 0 ∨ n = 1 ∨ n = 2 := by omega
      clear hs h4 h2
      rcases hc with rfl | rfl | rfl
      · by_cases ho : (bits .and .u32 g 1 == 1) = true
        · by_cases hl : left = 0
          · refine (lr_take_odd0 g ho hl h).mono fun e' w' ⟨he, hw, hu⟩ => ⟨he, ?_, hu⟩
            simp only [lrTake, lrFail, ho, hl, if_true]
            exact ⟨fun h => (by cases h), by simpa [hl] using hw⟩
          · refine (lr_take_odd1 g ho hl h).mono fun e' w' ⟨he, hw, hu⟩ => ⟨he, ?_, hu⟩
            simp only [lrTake, lrFail, ho, hl, if_true, if_false]
            exact ⟨fun h => (by simp), hw⟩
        · have ho' : (bits .and .u32 g 1 == 1) = false := by simpa using ho
          refine (lr_take_even g ho' h).mono fun e' w' ⟨he, hw, hu⟩ => ⟨he, ?_, hu⟩
          simp only [lrTake, ho', if_true, Bool.false_eq_true, if_false]
          exact ⟨fun h => (by simp), hw⟩
      · refine (lr_take_word g h).mono fun e' w' ⟨he, hw, hu⟩ => ⟨he, ?_, hu⟩
        simp only [lrTake, if_true, show ¬ (1 = 0) by decide, if_false]
        exact ⟨fun h => (by simp), hw⟩
      · by_cases hg : g = seq
        · refine (lr_take_whole g hg h).mono fun e' w' ⟨he, hw, hu⟩ => ⟨he, ?_, hu⟩
          simp only [lrTake, hg, if_true, show ¬ (2 = 0) by decide, show ¬ (2 = 1) by decide, if_false]
          exact ⟨fun h => (by cases h), hw⟩
        · by_cases hl : left = 0
          · refine (lr_take_other0 g hg hl h).mono fun e' w' ⟨he, hw, hu⟩ => ⟨he, ?_, hu⟩
            simp only [lrTake, lrFail, hg, hl, if_true, show ¬ (2 = 0) by decide, show ¬ (2 = 1) by decide, if_false]
            exact ⟨fun h => (by cases h), by simpa [hl] using hw⟩
          · refine (lr_take_other1 g hg hl h).mono fun e' w' ⟨he, hw, hu⟩ => ⟨he, ?_, hu⟩
            simp only [lrTake, lrFail, hg, hl, if_true, show ¬ (2 = 0) by decide, show ¬ (2 = 1) by decide, if_false]
            exact ⟨fun h => (by simp), hw⟩
  ans := fun s w h hs => by
    obtain ⟨n, seq, v0, f, r0, on, left, tries⟩ := s
    obtain ⟨h4, h⟩ := h
    simp only at h h4
    unfold lrAct at hs
    simp only at hs
    rcases on with _ | _
    · exact lr_result h
    · simp only [if_true] at hs; split at hs <;> cases hs
end Go.Proofs.Ytbjeojcnofpgfaa
