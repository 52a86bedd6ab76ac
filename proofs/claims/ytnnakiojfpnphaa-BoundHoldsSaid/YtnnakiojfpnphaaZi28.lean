/- The walk, part 28: LK6. -/
import Derived.Test.YtnnakiojfpnphaaZi27
set_option linter.unusedVariables false
set_option linter.unusedSimpArgs false

namespace Go.Proofs.Ytnnakiojfpnphaa
open Go.RowKit
section
variable (a wd rt : Int)
variable {w : World} {b : Nat} {t : TypeId} {more : List Value} {s : LSt}
set_option maxRecDepth 100000 in
set_option maxHeartbeats 1000000 in
theorem lkr_take_word0_1 (g seq v0 v1 v2 v3 f r0 r1 r2 r3 left tries : Int) (h : LG a 1 rt w b 150 [.int .i64 left, .int .i64 tries] ⟨1, seq, v0, v1, v2, v3, f, r0, r1, r2, r3, true, true⟩) :
    Calls Try.prog 126 #[.pointer (some ⟨b, 0, none⟩), .int .u32 g] w fun e w' => e = .returned (.tuple #[]) ∧ LG a 1 rt w' b 150 [.int .i64 left, .int .i64 tries] ⟨2, seq, g, v1, v2, v3, f, r0, r1, r2, r3, true, true⟩ ∧ Upd [b] w w' := by
  have xf := fun j => h.fz j
  have lb := heap_lt h.h
  have nb : w.heap.size ≠ b := by omega
  have nb' : b ≠ w.heap.size := by omega
  obtain ⟨x0, x1, x2, x3, x4, x5, x6, x17⟩ := h.pl
  obtain ⟨x7, x8, x9, x10⟩ := h.vs
  obtain ⟨x11, x12, x13, x14, x15, x16⟩ := h.rs
  have x18 := h.cell 18
  have x19 := h.cell 19
  simp only [lkC, List.cons_append, List.nil_append, List.getElem?_cons_succ, List.getElem?_cons_zero] at x18 x19
  have HX := Lib.hid h.h
  have hmf : ∀ (fn : Fn) (first cap : Array Value) (w : World), (Instr.makeFunc fn first cap).run Try.prog w = .ok (.func fn first cap) w := fun _ _ _ _ => rfl
  have HO := Lib.hid (lkr_odd (cell_of_heap (heap_alloc_new w (.cells #[.int .u32 g] 32)) 0))
  clear h
  go_enter Try.func126, Try.ntmps126
  go_wp2
  go_step3
  go_wp2_with (go_at_call 128; refine (HO.out).mono ?_; rintro e w1 ⟨rfl, rfl⟩)
  go_region
  go_wp2
  go_region
  go_wp2
  go_region
  go_wp2
  first | rw [Exit.noGoto_ret] | skip
  first | refine bodyPost_ret (results_none rfl _ _ _) rfl ?_ | go_end0
  refine ⟨rfl, ⟨?hg⟩, ?_⟩
  case hg =>
    unfold lkC at *
    repeat (first | (with_reducible exact HX.out) | (with_reducible apply heap_set2) | (with_reducible apply heap_drew') | (with_reducible apply heap_alloc'))
    all_goals rfl
  repeat (first | (with_reducible refine Upd.setCell ?_ (by simp) _) | (with_reducible refine Upd.drew ?_) | (with_reducible refine Upd.alloc ?_ _))
  exact Upd.refl _ _
set_option maxRecDepth 100000 in
set_option maxHeartbeats 1000000 in
theorem lkr_take_whole_1 (g seq v0 v1 v2 v3 f r0 r1 r2 r3 left tries : Int) (hg : g = seq) (h : LG a 1 rt w b 150 [.int .i64 left, .int .i64 tries] ⟨2, seq, v0, v1, v2, v3, f, r0, r1, r2, r3, true, true⟩) :
    Calls Try.prog 126 #[.pointer (some ⟨b, 0, none⟩), .int .u32 g] w fun e w' => e = .returned (.tuple #[]) ∧ LG a 1 rt w' b 150 [.int .i64 left, .int .i64 tries] ⟨3, seq, v0, v1, v2, v3, f, v0, v1, v2, v3, true, false⟩ ∧ Upd [b] w w' := by
  have xf := fun j => h.fz j
  have lb := heap_lt h.h
  have nb : w.heap.size ≠ b := by omega
  have nb' : b ≠ w.heap.size := by omega
  obtain ⟨x0, x1, x2, x3, x4, x5, x6, x17⟩ := h.pl
  obtain ⟨x7, x8, x9, x10⟩ := h.vs
  obtain ⟨x11, x12, x13, x14, x15, x16⟩ := h.rs
  have x18 := h.cell 18
  have x19 := h.cell 19
  simp only [lkC, List.cons_append, List.nil_append, List.getElem?_cons_succ, List.getElem?_cons_zero] at x18 x19
  have HX := Lib.hid h.h
  have hmf : ∀ (fn : Fn) (first cap : Array Value) (w : World), (Instr.makeFunc fn first cap).run Try.prog w = .ok (.func fn first cap) w := fun _ _ _ _ => rfl
  have HO := Lib.hid (lkr_odd (cell_of_heap (heap_alloc_new w (.cells #[.int .u32 g] 32)) 0))
  subst hg
  clear h
  go_enter Try.func126, Try.ntmps126
  go_wp2
  go_step3
  go_wp2_with (go_at_call 128; refine (HO.out).mono ?_; rintro e w1 ⟨rfl, rfl⟩)
  go_region
  go_wp2
  go_region
  go_wp2
  first | rw [Exit.noGoto_ret] | skip
  first | refine bodyPost_ret (results_none rfl _ _ _) rfl ?_ | go_end0
  refine ⟨rfl, ⟨?hg⟩, ?_⟩
  case hg =>
    unfold lkC at *
    repeat (first | (with_reducible exact HX.out) | (with_reducible apply heap_set2) | (with_reducible apply heap_drew') | (with_reducible apply heap_alloc'))
    all_goals rfl
  repeat (first | (with_reducible refine Upd.setCell ?_ (by simp) _) | (with_reducible refine Upd.drew ?_) | (with_reducible refine Upd.alloc ?_ _))
  exact Upd.refl _ _
set_option maxRecDepth 100000 in
set_option maxHeartbeats 1000000 in
theorem lkr_take_other0_1 (g seq v0 v1 v2 v3 f r0 r1 r2 r3 left tries : Int) (hg : g ≠ seq) (hl : left = 0) (h : LG a 1 rt w b 150 [.int .i64 left, .int .i64 tries] ⟨2, seq, v0, v1, v2, v3, f, r0, r1, r2, r3, true, true⟩) :
    Calls Try.prog 126 #[.pointer (some ⟨b, 0, none⟩), .int .u32 g] w fun e w' => e = .returned (.tuple #[]) ∧ LG a 1 rt w' b 150 [.int .i64 left, .int .i64 tries] ⟨0, seq, 0, 0, 0, 0, 8, r0, r1, r2, r3, true, false⟩ ∧ Upd [b] w w' := by
  have xf := fun j => h.fz j
  have lb := heap_lt h.h
  have nb : w.heap.size ≠ b := by omega
  have nb' : b ≠ w.heap.size := by omega
  obtain ⟨x0, x1, x2, x3, x4, x5, x6, x17⟩ := h.pl
  obtain ⟨x7, x8, x9, x10⟩ := h.vs
  obtain ⟨x11, x12, x13, x14, x15, x16⟩ := h.rs
  have x18 := h.cell 18
  have x19 := h.cell 19
  simp only [lkC, List.cons_append, List.nil_append, List.getElem?_cons_succ, List.getElem?_cons_zero] at x18 x19
  have HX := Lib.hid h.h
  have hmf : ∀ (fn : Fn) (first cap : Array Value) (w : World), (Instr.makeFunc fn first cap).run Try.prog w = .ok (.func fn first cap) w := fun _ _ _ _ => rfl
  have HO := Lib.hid (lkr_odd (cell_of_heap (heap_alloc_new w (.cells #[.int .u32 g] 32)) 0))
  subst hl
  have hg1 : (g == seq) = false := by simpa using hg
  have hg2 : (g != seq) = true := by simpa using hg
  clear hg
  clear h
  go_enter Try.func126, Try.ntmps126
  go_wp2
  refine wp_scope_jump1 0 rfl ?_
  intro K HK
  go_wp2_with (go_at_call 128; refine (HO.out).mono ?_; rintro e w1 ⟨rfl, rfl⟩)
  go_region
  go_wp2
  go_step3
  refine And.intro rfl (HK.out _ _ ?_)
  clear HK
  go_wp2_with (go_at_call 127; refine (lkr_fails0 _ _ _ _ _ _ _ _ _ _ _ _ _ _ _ (by first | exact LG.mk (heap_alloc' HX.out) | exact LG.mk (heap_drew' (heap_alloc' HX.out)))).mono ?_; rintro e w2 ⟨rfl, hw2, hu2⟩)
  refine end0L rfl rfl ?_
  refine ⟨rfl, hw2, ?_⟩
  refine Upd.trans ?_ hu2
  repeat (first | (with_reducible refine Upd.drew ?_) | (with_reducible refine Upd.alloc ?_ _))
  exact Upd.refl _ _
set_option maxRecDepth 100000 in
set_option maxHeartbeats 1000000 in
theorem lkr_take_other1_1 (g seq v0 v1 v2 v3 f r0 r1 r2 r3 left tries : Int) (hg : g ≠ seq) (hl : left ≠ 0) (h : LG a 1 rt w b 150 [.int .i64 left, .int .i64 tries] ⟨2, seq, v0, v1, v2, v3, f, r0, r1, r2, r3, true, true⟩) :
    Calls Try.prog 126 #[.pointer (some ⟨b, 0, none⟩), .int .u32 g] w fun e w' => e = .returned (.tuple #[]) ∧ LG a 1 rt w' b 150 [.int .i64 (wrap64 (left - 1)), .int .i64 (wrap64 (tries + 1))] ⟨0, seq, 0, 0, 0, 0, f, r0, r1, r2, r3, true, true⟩ ∧ Upd [b] w w' := by
  have xf := fun j => h.fz j
  have lb := heap_lt h.h
  have nb : w.heap.size ≠ b := by omega
  have nb' : b ≠ w.heap.size := by omega
  obtain ⟨x0, x1, x2, x3, x4, x5, x6, x17⟩ := h.pl
  obtain ⟨x7, x8, x9, x10⟩ := h.vs
  obtain ⟨x11, x12, x13, x14, x15, x16⟩ := h.rs
  have x18 := h.cell 18
  have x19 := h.cell 19
  simp only [lkC, List.cons_append, List.nil_append, List.getElem?_cons_succ, List.getElem?_cons_zero] at x18 x19
  have HX := Lib.hid h.h
  have hmf : ∀ (fn : Fn) (first cap : Array Value) (w : World), (Instr.makeFunc fn first cap).run Try.prog w = .ok (.func fn first cap) w := fun _ _ _ _ => rfl
  have HO := Lib.hid (lkr_odd (cell_of_heap (heap_alloc_new w (.cells #[.int .u32 g] 32)) 0))
  have HL := Lib.hid hl
  clear hl
  have hg1 : (g == seq) = false := by simpa using hg
  have hg2 : (g != seq) = true := by simpa using hg
  clear hg
  clear h
  go_enter Try.func126, Try.ntmps126
  go_wp2
  refine wp_scope_jump1 0 rfl ?_
  intro K HK
  go_wp2_with (go_at_call 128; refine (HO.out).mono ?_; rintro e w1 ⟨rfl, rfl⟩)
  go_region
  go_wp2
  go_step3
  refine And.intro rfl (HK.out _ _ ?_)
  clear HK
  go_wp2_with (go_at_call 127; refine (lkr_fails1 _ _ _ _ _ _ _ _ _ _ _ _ _ _ _ _ HL.out (by first | exact LG.mk (heap_alloc' HX.out) | exact LG.mk (heap_drew' (heap_alloc' HX.out)))).mono ?_; rintro e w2 ⟨rfl, hw2, hu2⟩)
  refine end0L rfl rfl ?_
  refine ⟨rfl, hw2, ?_⟩
  refine Upd.trans ?_ hu2
  repeat (first | (with_reducible refine Upd.drew ?_) | (with_reducible refine Upd.alloc ?_ _))
  exact Upd.refl _ _
set_option maxRecDepth 100000 in
set_option maxHeartbeats 1000000 in
theorem lkr_take_word0_2 (g seq v0 v1 v2 v3 f r0 r1 r2 r3 left tries : Int) (h : LG a 2 rt w b 150 [.int .i64 left, .int .i64 tries] ⟨1, seq, v0, v1, v2, v3, f, r0, r1, r2, r3, true, true⟩) :
    Calls Try.prog 126 #[.pointer (some ⟨b, 0, none⟩), .int .u32 g] w fun e w' => e = .returned (.tuple #[]) ∧ LG a 2 rt w' b 150 [.int .i64 left, .int .i64 tries] ⟨2, seq, g, v1, v2, v3, f, r0, r1, r2, r3, true, true⟩ ∧ Upd [b] w w' := by
  have xf := fun j => h.fz j
  have lb := heap_lt h.h
  have nb : w.heap.size ≠ b := by omega
  have nb' : b ≠ w.heap.size := by omega
  obtain ⟨x0, x1, x2, x3, x4, x5, x6, x17⟩ := h.pl
  obtain ⟨x7, x8, x9, x10⟩ := h.vs
  obtain ⟨x11, x12, x13, x14, x15, x16⟩ := h.rs
  have x18 := h.cell 18
  have x19 := h.cell 19
  simp only [lkC, List.cons_append, List.nil_append, List.getElem?_cons_succ, List.getElem?_cons_zero] at x18 x19
  have HX := Lib.hid h.h
  have hmf : ∀ (fn : Fn) (first cap : Array Value) (w : World), (Instr.makeFunc fn first cap).run Try.prog w = .ok (.func fn first cap) w := fun _ _ _ _ => rfl
  have HO := Lib.hid (lkr_odd (cell_of_heap (heap_alloc_new w (.cells #[.int .u32 g] 32)) 0))
  clear h
  go_enter Try.func126, Try.ntmps126
  go_wp2
  go_step3
  go_wp2_with (go_at_call 128; refine (HO.out).mono ?_; rintro e w1 ⟨rfl, rfl⟩)
  go_region
  go_wp2
  go_region
  go_wp2
  go_region
  go_wp2
  first | rw [Exit.noGoto_ret] | skip
  first | refine bodyPost_ret (results_none rfl _ _ _) rfl ?_ | go_end0
  refine ⟨rfl, ⟨?hg⟩, ?_⟩
  case hg =>
    unfold lkC at *
    repeat (first | (with_reducible exact HX.out) | (with_reducible apply heap_set2) | (with_reducible apply heap_drew') | (with_reducible apply heap_alloc'))
    all_goals rfl
  repeat (first | (with_reducible refine Upd.setCell ?_ (by simp) _) | (with_reducible refine Upd.drew ?_) | (with_reducible refine Upd.alloc ?_ _))
  exact Upd.refl _ _
set_option maxRecDepth 100000 in
set_option maxHeartbeats 1000000 in
theorem lkr_take_word1_2 (g seq v0 v1 v2 v3 f r0 r1 r2 r3 left tries : Int) (h : LG a 2 rt w b 150 [.int .i64 left, .int .i64 tries] ⟨2, seq, v0, v1, v2, v3, f, r0, r1, r2, r3, true, true⟩) :
    Calls Try.prog 126 #[.pointer (some ⟨b, 0, none⟩), .int .u32 g] w fun e w' => e = .returned (.tuple #[]) ∧ LG a 2 rt w' b 150 [.int .i64 left, .int .i64 tries] ⟨3, seq, v0, g, v2, v3, f, r0, r1, r2, r3, true, true⟩ ∧ Upd [b] w w' := by
  have xf := fun j => h.fz j
  have lb := heap_lt h.h
  have nb : w.heap.size ≠ b := by omega
  have nb' : b ≠ w.heap.size := by omega
  obtain ⟨x0, x1, x2, x3, x4, x5, x6, x17⟩ := h.pl
  obtain ⟨x7, x8, x9, x10⟩ := h.vs
  obtain ⟨x11, x12, x13, x14, x15, x16⟩ := h.rs
  have x18 := h.cell 18
  have x19 := h.cell 19
  simp only [lkC, List.cons_append, List.nil_append, List.getElem?_cons_succ, List.getElem?_cons_zero] at x18 x19
  have HX := Lib.hid h.h
  have hmf : ∀ (fn : Fn) (first cap : Array Value) (w : World), (Instr.makeFunc fn first cap).run Try.prog w = .ok (.func fn first cap) w := fun _ _ _ _ => rfl
  have HO := Lib.hid (lkr_odd (cell_of_heap (heap_alloc_new w (.cells #[.int .u32 g] 32)) 0))
  clear h
  go_enter Try.func126, Try.ntmps126
  go_wp2
  go_step3
  go_wp2_with (go_at_call 128; refine (HO.out).mono ?_; rintro e w1 ⟨rfl, rfl⟩)
  go_region
  go_wp2
  go_region
  go_wp2
  go_region
  go_wp2
  first | rw [Exit.noGoto_ret] | skip
  first | refine bodyPost_ret (results_none rfl _ _ _) rfl ?_ | go_end0
  refine ⟨rfl, ⟨?hg⟩, ?_⟩
  case hg =>
    unfold lkC at *
    repeat (first | (with_reducible exact HX.out) | (with_reducible apply heap_set2) | (with_reducible apply heap_drew') | (with_reducible apply heap_alloc'))
    all_goals rfl
  repeat (first | (with_reducible refine Upd.setCell ?_ (by simp) _) | (with_reducible refine Upd.drew ?_) | (with_reducible refine Upd.alloc ?_ _))
  exact Upd.refl _ _
set_option maxRecDepth 100000 in
set_option maxHeartbeats 1000000 in
theorem lkr_take_whole_2 (g seq v0 v1 v2 v3 f r0 r1 r2 r3 left tries : Int) (hg : g = seq) (h : LG a 2 rt w b 150 [.int .i64 left, .int .i64 tries] ⟨3, seq, v0, v1, v2, v3, f, r0, r1, r2, r3, true, true⟩) :
    Calls Try.prog 126 #[.pointer (some ⟨b, 0, none⟩), .int .u32 g] w fun e w' => e = .returned (.tuple #[]) ∧ LG a 2 rt w' b 150 [.int .i64 left, .int .i64 tries] ⟨4, seq, v0, v1, v2, v3, f, v0, v1, v2, v3, true, false⟩ ∧ Upd [b] w w' := by
  have xf := fun j => h.fz j
  have lb := heap_lt h.h
  have nb : w.heap.size ≠ b := by omega
  have nb' : b ≠ w.heap.size := by omega
  obtain ⟨x0, x1, x2, x3, x4, x5, x6, x17⟩ := h.pl
  obtain ⟨x7, x8, x9, x10⟩ := h.vs
  obtain ⟨x11, x12, x13, x14, x15, x16⟩ := h.rs
  have x18 := h.cell 18
  have x19 := h.cell 19
  simp only [lkC, List.cons_append, List.nil_append, List.getElem?_cons_succ, List.getElem?_cons_zero] at x18 x19
  have HX := Lib.hid h.h
  have hmf : ∀ (fn : Fn) (first cap : Array Value) (w : World), (Instr.makeFunc fn first cap).run Try.prog w = .ok (.func fn first cap) w := fun _ _ _ _ => rfl
  have HO := Lib.hid (lkr_odd (cell_of_heap (heap_alloc_new w (.cells #[.int .u32 g] 32)) 0))
  subst hg
  clear h
  go_enter Try.func126, Try.ntmps126
  go_wp2
  go_step3
  go_wp2_with (go_at_call 128; refine (HO.out).mono ?_; rintro e w1 ⟨rfl, rfl⟩)
  go_region
  go_wp2
  go_region
  go_wp2
  first | rw [Exit.noGoto_ret] | skip
  first | refine bodyPost_ret (results_none rfl _ _ _) rfl ?_ | go_end0
  refine ⟨rfl, ⟨?hg⟩, ?_⟩
  case hg =>
    unfold lkC at *
    repeat (first | (with_reducible exact HX.out) | (with_reducible apply heap_set2) | (with_reducible apply heap_drew') | (with_reducible apply heap_alloc'))
    all_goals rfl
  repeat (first | (with_reducible refine Upd.setCell ?_ (by simp) _) | (with_reducible refine Upd.drew ?_) | (with_reducible refine Upd.alloc ?_ _))
  exact Upd.refl _ _
set_option maxRecDepth 100000 in
set_option maxHeartbeats 1000000 in
theorem lkr_take_other0_2 (g seq v0 v1 v2 v3 f r0 r1 r2 r3 left tries : Int) (hg : g ≠ seq) (hl : left = 0) (h : LG a 2 rt w b 150 [.int .i64 left, .int .i64 tries] ⟨3, seq, v0, v1, v2, v3, f, r0, r1, r2, r3, true, true⟩) :
    Calls Try.prog 126 #[.pointer (some ⟨b, 0, none⟩), .int .u32 g] w fun e w' => e = .returned (.tuple #[]) ∧ LG a 2 rt w' b 150 [.int .i64 left, .int .i64 tries] ⟨0, seq, 0, 0, 0, 0, 8, r0, r1, r2, r3, true, false⟩ ∧ Upd [b] w w' := by
  have xf := fun j => h.fz j
  have lb := heap_lt h.h
  have nb : w.heap.size ≠ b := by omega
  have nb' : b ≠ w.heap.size := by omega
  obtain ⟨x0, x1, x2, x3, x4, x5, x6, x17⟩ := h.pl
  obtain ⟨x7, x8, x9, x10⟩ := h.vs
  obtain ⟨x11, x12, x13, x14, x15, x16⟩ := h.rs
  have x18 := h.cell 18
  have x19 := h.cell 19
  simp only [lkC, List.cons_append, List.nil_append, List.getElem?_cons_succ, List.getElem?_cons_zero] at x18 x19
  have HX := Lib.hid h.h
  have hmf : ∀ (fn : Fn) (first cap : Array Value) (w : World), (Instr.makeFunc fn first cap).run Try.prog w = .ok (.func fn first cap) w := fun _ _ _ _ => rfl
  have HO := Lib.hid (lkr_odd (cell_of_heap (heap_alloc_new w (.cells #[.int .u32 g] 32)) 0))
  subst hl
  have hg1 : (g == seq) = false := by simpa using hg
  have hg2 : (g != seq) = true := by simpa using hg
  clear hg
  clear h
  go_enter Try.func126, Try.ntmps126
  go_wp2
  refine wp_scope_jump1 0 rfl ?_
  intro K HK
  go_wp2_with (go_at_call 128; refine (HO.out).mono ?_; rintro e w1 ⟨rfl, rfl⟩)
  go_region
  go_wp2
  go_step3
  refine And.intro rfl (HK.out _ _ ?_)
  clear HK
  go_wp2_with (go_at_call 127; refine (lkr_fails0 _ _ _ _ _ _ _ _ _ _ _ _ _ _ _ (by first | exact LG.mk (heap_alloc' HX.out) | exact LG.mk (heap_drew' (heap_alloc' HX.out)))).mono ?_; rintro e w2 ⟨rfl, hw2, hu2⟩)
  refine end0L rfl rfl ?_
  refine ⟨rfl, hw2, ?_⟩
  refine Upd.trans ?_ hu2
  repeat (first | (with_reducible refine Upd.drew ?_) | (with_reducible refine Upd.alloc ?_ _))
  exact Upd.refl _ _
set_option maxRecDepth 100000 in
set_option maxHeartbeats 1000000 in
theorem lkr_take_other1_2 (g seq v0 v1 v2 v3 f r0 r1 r2 r3 left tries : Int) (hg : g ≠ seq) (hl : left ≠ 0) (h : LG a 2 rt w b 150 [.int .i64 left, .int .i64 tries] ⟨3, seq, v0, v1, v2, v3, f, r0, r1, r2, r3, true, true⟩) :
    Calls Try.prog 126 #[.pointer (some ⟨b, 0, none⟩), .int .u32 g] w fun e w' => e = .returned (.tuple #[]) ∧ LG a 2 rt w' b 150 [.int .i64 (wrap64 (left - 1)), .int .i64 (wrap64 (tries + 1))] ⟨0, seq, 0, 0, 0, 0, f, r0, r1, r2, r3, true, true⟩ ∧ Upd [b] w w' := by
  have xf := fun j => h.fz j
  have lb := heap_lt h.h
  have nb : w.heap.size ≠ b := by omega
  have nb' : b ≠ w.heap.size := by omega
  obtain ⟨x0, x1, x2, x3, x4, x5, x6, x17⟩ := h.pl
  obtain ⟨x7, x8, x9, x10⟩ := h.vs
  obtain ⟨x11, x12, x13, x14, x15, x16⟩ := h.rs
  have x18 := h.cell 18
  have x19 := h.cell 19
  simp only [lkC, List.cons_append, List.nil_append, List.getElem?_cons_succ, List.getElem?_cons_zero] at x18 x19
  have HX := Lib.hid h.h
  have hmf : ∀ (fn : Fn) (first cap : Array Value) (w : World), (Instr.makeFunc fn first cap).run Try.prog w = .ok (.func fn first cap) w := fun _ _ _ _ => rfl
  have HO := Lib.hid (lkr_odd (cell_of_heap (heap_alloc_new w (.cells #[.int .u32 g] 32)) 0))
  have HL := Lib.hid hl
  clear hl
  have hg1 : (g == seq) = false := by simpa using hg
  have hg2 : (g != seq) = true := by simpa using hg
  clear hg
  clear h
  go_enter Try.func126, Try.ntmps126
  go_wp2
  refine wp_scope_jump1 0 rfl ?_
  intro K HK
  go_wp2_with (go_at_call 128; refine (HO.out).mono ?_; rintro e w1 ⟨rfl, rfl⟩)
  go_region
  go_wp2
  go_step3
  refine And.intro rfl (HK.out _ _ ?_)
  clear HK
  go_wp2_with (go_at_call 127; refine (lkr_fails1 _ _ _ _ _ _ _ _ _ _ _ _ _ _ _ _ HL.out (by first | exact LG.mk (heap_alloc' HX.out) | exact LG.mk (heap_drew' (heap_alloc' HX.out)))).mono ?_; rintro e w2 ⟨rfl, hw2, hu2⟩)
  refine end0L rfl rfl ?_
  refine ⟨rfl, hw2, ?_⟩
  refine Upd.trans ?_ hu2
  repeat (first | (with_reducible refine Upd.drew ?_) | (with_reducible refine Upd.alloc ?_ _))
  exact Upd.refl _ _
set_option maxRecDepth 100000 in
set_option maxHeartbeats 1000000 in
theorem lkr_take_word0_3 (g seq v0 v1 v2 v3 f r0 r1 r2 r3 left tries : Int) (h : LG a 3 rt w b 150 [.int .i64 left, .int .i64 tries] ⟨1, seq, v0, v1, v2, v3, f, r0, r1, r2, r3, true, true⟩) :
    Calls Try.prog 126 #[.pointer (some ⟨b, 0, none⟩), .int .u32 g] w fun e w' => e = .returned (.tuple #[]) ∧ LG a 3 rt w' b 150 [.int .i64 left, .int .i64 tries] ⟨2, seq, g, v1, v2, v3, f, r0, r1, r2, r3, true, true⟩ ∧ Upd [b] w w' := by
  have xf := fun j => h.fz j
  have lb := heap_lt h.h
  have nb : w.heap.size ≠ b := by omega
  have nb' : b ≠ w.heap.size := by omega
  obtain ⟨x0, x1, x2, x3, x4, x5, x6, x17⟩ := h.pl
  obtain ⟨x7, x8, x9, x10⟩ := h.vs
  obtain ⟨x11, x12, x13, x14, x15, x16⟩ := h.rs
  have x18 := h.cell 18
  have x19 := h.cell 19
  simp only [lkC, List.cons_append, List.nil_append, List.getElem?_cons_succ, List.getElem?_cons_zero] at x18 x19
  have HX := Lib.hid h.h
  have hmf : ∀ (fn : Fn) (first cap : Array Value) (w : World), (Instr.makeFunc fn first cap).run Try.prog w = .ok (.func fn first cap) w := fun _ _ _ _ => rfl
  have HO := Lib.hid (lkr_odd (cell_of_heap (heap_alloc_new w (.cells #[.int .u32 g] 32)) 0))
  clear h
  go_enter Try.func126, Try.ntmps126
  go_wp2
  go_step3
  go_wp2_with (go_at_call 128; refine (HO.out).mono ?_; rintro e w1 ⟨rfl, rfl⟩)
  go_region
  go_wp2
  go_region
  go_wp2
  go_region
  go_wp2
  first | rw [Exit.noGoto_ret] | skip
  first | refine bodyPost_ret (results_none rfl _ _ _) rfl ?_ | go_end0
  refine ⟨rfl, ⟨?hg⟩, ?_⟩
  case hg =>
    unfold lkC at *
    repeat (first | (with_reducible exact HX.out) | (with_reducible apply heap_set2) | (with_reducible apply heap_drew') | (with_reducible apply heap_alloc'))
    all_goals rfl
  repeat (first | (with_reducible refine Upd.setCell ?_ (by simp) _) | (with_reducible refine Upd.drew ?_) | (with_reducible refine Upd.alloc ?_ _))
  exact Upd.refl _ _
set_option maxRecDepth 100000 in
set_option maxHeartbeats 1000000 in
theorem lkr_take_word1_3 (g seq v0 v1 v2 v3 f r0 r1 r2 r3 left tries : Int) (h : LG a 3 rt w b 150 [.int .i64 left, .int .i64 tries] ⟨2, seq, v0, v1, v2, v3, f, r0, r1, r2, r3, true, true⟩) :
    Calls Try.prog 126 #[.pointer (some ⟨b, 0, none⟩), .int .u32 g] w fun e w' => e = .returned (.tuple #[]) ∧ LG a 3 rt w' b 150 [.int .i64 left, .int .i64 tries] ⟨3, seq, v0, g, v2, v3, f, r0, r1, r2, r3, true, true⟩ ∧ Upd [b] w w' := by
  have xf := fun j => h.fz j
  have lb := heap_lt h.h
  have nb : w.heap.size ≠ b := by omega
  have nb' : b ≠ w.heap.size := by omega
  obtain ⟨x0, x1, x2, x3, x4, x5, x6, x17⟩ := h.pl
  obtain ⟨x7, x8, x9, x10⟩ := h.vs
  obtain ⟨x11, x12, x13, x14, x15, x16⟩ := h.rs
  have x18 := h.cell 18
  have x19 := h.cell 19
  simp only [lkC, List.cons_append, List.nil_append, List.getElem?_cons_succ, List.getElem?_cons_zero] at x18 x19
  have HX := Lib.hid h.h
  have hmf : ∀ (fn : Fn) (first cap : Array Value) (w : World), (Instr.makeFunc fn first cap).run Try.prog w = .ok (.func fn first cap) w := fun _ _ _ _ => rfl
  have HO := Lib.hid (lkr_odd (cell_of_heap (heap_alloc_new w (.cells #[.int .u32 g] 32)) 0))
  clear h
  go_enter Try.func126, Try.ntmps126
  go_wp2
  go_step3
  go_wp2_with (go_at_call 128; refine (HO.out).mono ?_; rintro e w1 ⟨rfl, rfl⟩)
  go_region
  go_wp2
  go_region
  go_wp2
  go_region
  go_wp2
  first | rw [Exit.noGoto_ret] | skip
  first | refine bodyPost_ret (results_none rfl _ _ _) rfl ?_ | go_end0
  refine ⟨rfl, ⟨?hg⟩, ?_⟩
  case hg =>
    unfold lkC at *
    repeat (first | (with_reducible exact HX.out) | (with_reducible apply heap_set2) | (with_reducible apply heap_drew') | (with_reducible apply heap_alloc'))
    all_goals rfl
  repeat (first | (with_reducible refine Upd.setCell ?_ (by simp) _) | (with_reducible refine Upd.drew ?_) | (with_reducible refine Upd.alloc ?_ _))
  exact Upd.refl _ _
set_option maxRecDepth 100000 in
set_option maxHeartbeats 1000000 in
theorem lkr_take_word2_3 (g seq v0 v1 v2 v3 f r0 r1 r2 r3 left tries : Int) (h : LG a 3 rt w b 150 [.int .i64 left, .int .i64 tries] ⟨3, seq, v0, v1, v2, v3, f, r0, r1, r2, r3, true, true⟩) :
    Calls Try.prog 126 #[.pointer (some ⟨b, 0, none⟩), .int .u32 g] w fun e w' => e = .returned (.tuple #[]) ∧ LG a 3 rt w' b 150 [.int .i64 left, .int .i64 tries] ⟨4, seq, v0, v1, g, v3, f, r0, r1, r2, r3, true, true⟩ ∧ Upd [b] w w' := by
  have xf := fun j => h.fz j
  have lb := heap_lt h.h
  have nb : w.heap.size ≠ b := by omega
  have nb' : b ≠ w.heap.size := by omega
  obtain ⟨x0, x1, x2, x3, x4, x5, x6, x17⟩ := h.pl
  obtain ⟨x7, x8, x9, x10⟩ := h.vs
  obtain ⟨x11, x12, x13, x14, x15, x16⟩ := h.rs
  have x18 := h.cell 18
  have x19 := h.cell 19
  simp only [lkC, List.cons_append, List.nil_append, List.getElem?_cons_succ, List.getElem?_cons_zero] at x18 x19
  have HX := Lib.hid h.h
  have hmf : ∀ (fn : Fn) (first cap : Array Value) (w : World), (Instr.makeFunc fn first cap).run Try.prog w = .ok (.func fn first cap) w := fun _ _ _ _ => rfl
  have HO := Lib.hid (lkr_odd (cell_of_heap (heap_alloc_new w (.cells #[.int .u32 g] 32)) 0))
  clear h
  go_enter Try.func126, Try.ntmps126
  go_wp2
  go_step3
  go_wp2_with (go_at_call 128; refine (HO.out).mono ?_; rintro e w1 ⟨rfl, rfl⟩)
  go_region
  go_wp2
  go_region
  go_wp2
  go_region
  go_wp2
  first | rw [Exit.noGoto_ret] | skip
  first | refine bodyPost_ret (results_none rfl _ _ _) rfl ?_ | go_end0
  refine ⟨rfl, ⟨?hg⟩, ?_⟩
  case hg =>
    unfold lkC at *
    repeat (first | (with_reducible exact HX.out) | (with_reducible apply heap_set2) | (with_reducible apply heap_drew') | (with_reducible apply heap_alloc'))
    all_goals rfl
  repeat (first | (with_reducible refine Upd.setCell ?_ (by simp) _) | (with_reducible refine Upd.drew ?_) | (with_reducible refine Upd.alloc ?_ _))
  exact Upd.refl _ _
set_option maxRecDepth 100000 in
set_option maxHeartbeats 1000000 in
theorem lkr_take_whole_3 (g seq v0 v1 v2 v3 f r0 r1 r2 r3 left tries : Int) (hg : g = seq) (h : LG a 3 rt w b 150 [.int .i64 left, .int .i64 tries] ⟨4, seq, v0, v1, v2, v3, f, r0, r1, r2, r3, true, true⟩) :
    Calls Try.prog 126 #[.pointer (some ⟨b, 0, none⟩), .int .u32 g] w fun e w' => e = .returned (.tuple #[]) ∧ LG a 3 rt w' b 150 [.int .i64 left, .int .i64 tries] ⟨5, seq, v0, v1, v2, v3, f, v0, v1, v2, v3, true, false⟩ ∧ Upd [b] w w' := by
  have xf := fun j => h.fz j
  have lb := heap_lt h.h
  have nb : w.heap.size ≠ b := by omega
  have nb' : b ≠ w.heap.size := by omega
  obtain ⟨x0, x1, x2, x3, x4, x5, x6, x17⟩ := h.pl
  obtain ⟨x7, x8, x9, x10⟩ := h.vs
  obtain ⟨x11, x12, x13, x14, x15, x16⟩ := h.rs
  have x18 := h.cell 18
  have x19 := h.cell 19
  simp only [lkC, List.cons_append, List.nil_append, List.getElem?_cons_succ, List.getElem?_cons_zero] at x18 x19
  have HX := Lib.hid h.h
  have hmf : ∀ (fn : Fn) (first cap : Array Value) (w : World), (Instr.makeFunc fn first cap).run Try.prog w = .ok (.func fn first cap) w := fun _ _ _ _ => rfl
  have HO := Lib.hid (lkr_odd (cell_of_heap (heap_alloc_new w (.cells #[.int .u32 g] 32)) 0))
  subst hg
  clear h
  go_enter Try.func126, Try.ntmps126
  go_wp2
  go_step3
  go_wp2_with (go_at_call 128; refine (HO.out).mono ?_; rintro e w1 ⟨rfl, rfl⟩)
  go_region
  go_wp2
  go_region
  go_wp2
  first | rw [Exit.noGoto_ret] | skip
  first | refine bodyPost_ret (results_none rfl _ _ _) rfl ?_ | go_end0
  refine ⟨rfl, ⟨?hg⟩, ?_⟩
  case hg =>
    unfold lkC at *
    repeat (first | (with_reducible exact HX.out) | (with_reducible apply heap_set2) | (with_reducible apply heap_drew') | (with_reducible apply heap_alloc'))
    all_goals rfl
  repeat (first | (with_reducible refine Upd.setCell ?_ (by simp) _) | (with_reducible refine Upd.drew ?_) | (with_reducible refine Upd.alloc ?_ _))
  exact Upd.refl _ _
set_option maxRecDepth 100000 in
set_option maxHeartbeats 1000000 in
theorem lkr_take_other0_3 (g seq v0 v1 v2 v3 f r0 r1 r2 r3 left tries : Int) (hg : g ≠ seq) (hl : left = 0) (h : LG a 3 rt w b 150 [.int .i64 left, .int .i64 tries] ⟨4, seq, v0, v1, v2, v3, f, r0, r1, r2, r3, true, true⟩) :
    Calls Try.prog 126 #[.pointer (some ⟨b, 0, none⟩), .int .u32 g] w fun e w' => e = .returned (.tuple #[]) ∧ LG a 3 rt w' b 150 [.int .i64 left, .int .i64 tries] ⟨0, seq, 0, 0, 0, 0, 8, r0, r1, r2, r3, true, false⟩ ∧ Upd [b] w w' := by
  have xf := fun j => h.fz j
  have lb := heap_lt h.h
  have nb : w.heap.size ≠ b := by omega
  have nb' : b ≠ w.heap.size := by omega
  obtain ⟨x0, x1, x2, x3, x4, x5, x6, x17⟩ := h.pl
  obtain ⟨x7, x8, x9, x10⟩ := h.vs
  obtain ⟨x11, x12, x13, x14, x15, x16⟩ := h.rs
  have x18 := h.cell 18
  have x19 := h.cell 19
  simp only [lkC, List.cons_append, List.nil_append, List.getElem?_cons_succ, List.getElem?_cons_zero] at x18 x19
  have HX := Lib.hid h.h
  have hmf : ∀ (fn : Fn) (first cap : Array Value) (w : World), (Instr.makeFunc fn first cap).run Try.prog w = .ok (.func fn first cap) w := fun _ _ _ _ => rfl
  have HO := Lib.hid (lkr_odd (cell_of_heap (heap_alloc_new w (.cells #[.int .u32 g] 32)) 0))
  subst hl
  have hg1 : (g == seq) = false := by simpa using hg
  have hg2 : (g != seq) = true := by simpa using hg
  clear hg
  clear h
  go_enter Try.func126, Try.ntmps126
  go_wp2
  refine wp_scope_jump1 0 rfl ?_
  intro K HK
  go_wp2_with (go_at_call 128; refine (HO.out).mono ?_; rintro e w1 ⟨rfl, rfl⟩)
  go_region
  go_wp2
  go_step3
  refine And.intro rfl (HK.out _ _ ?_)
  clear HK
  go_wp2_with (go_at_call 127; refine (lkr_fails0 _ _ _ _ _ _ _ _ _ _ _ _ _ _ _ (by first | exact LG.mk (heap_alloc' HX.out) | exact LG.mk (heap_drew' (heap_alloc' HX.out)))).mono ?_; rintro e w2 ⟨rfl, hw2, hu2⟩)
  refine end0L rfl rfl ?_
  refine ⟨rfl, hw2, ?_⟩
  refine Upd.trans ?_ hu2
  repeat (first | (with_reducible refine Upd.drew ?_) | (with_reducible refine Upd.alloc ?_ _))
  exact Upd.refl _ _
set_option maxRecDepth 100000 in
set_option maxHeartbeats 1000000 in
theorem lkr_take_other1_3 (g seq v0 v1 v2 v3 f r0 r1 r2 r3 left tries : Int) (hg : g ≠ seq) (hl : left ≠ 0) (h : LG a 3 rt w b 150 [.int .i64 left, .int .i64 tries] ⟨4, seq, v0, v1, v2, v3, f, r0, r1, r2, r3, true, true⟩) :
    Calls Try.prog 126 #[.pointer (some ⟨b, 0, none⟩), .int .u32 g] w fun e w' => e = .returned (.tuple #[]) ∧ LG a 3 rt w' b 150 [.int .i64 (wrap64 (left - 1)), .int .i64 (wrap64 (tries + 1))] ⟨0, seq, 0, 0, 0, 0, f, r0, r1, r2, r3, true, true⟩ ∧ Upd [b] w w' := by
  have xf := fun j => h.fz j
  have lb := heap_lt h.h
  have nb : w.heap.size ≠ b := by omega
  have nb' : b ≠ w.heap.size := by omega
  obtain ⟨x0, x1, x2, x3, x4, x5, x6, x17⟩ := h.pl
  obtain ⟨x7, x8, x9, x10⟩ := h.vs
  obtain ⟨x11, x12, x13, x14, x15, x16⟩ := h.rs
  have x18 := h.cell 18
  have x19 := h.cell 19
  simp only [lkC, List.cons_append, List.nil_append, List.getElem?_cons_succ, List.getElem?_cons_zero] at x18 x19
  have HX := Lib.hid h.h
  have hmf : ∀ (fn : Fn) (first cap : Array Value) (w : World), (Instr.makeFunc fn first cap).run Try.prog w = .ok (.func fn first cap) w := fun _ _ _ _ => rfl
  have HO := Lib.hid (lkr_odd (cell_of_heap (heap_alloc_new w (.cells #[.int .u32 g] 32)) 0))
  have HL := Lib.hid hl
  clear hl
  have hg1 : (g == seq) = false := by simpa using hg
  have hg2 : (g != seq) = true := by simpa using hg
  clear hg
  clear h
  go_enter Try.func126, Try.ntmps126
  go_wp2
  refine wp_scope_jump1 0 rfl ?_
  intro K HK
  go_wp2_with (go_at_call 128; refine (HO.out).mono ?_; rintro e w1 ⟨rfl, rfl⟩)
  go_region
  go_wp2
  go_step3
  refine And.intro rfl (HK.out _ _ ?_)
  clear HK
  go_wp2_with (go_at_call 127; refine (lkr_fails1 _ _ _ _ _ _ _ _ _ _ _ _ _ _ _ _ HL.out (by first | exact LG.mk (heap_alloc' HX.out) | exact LG.mk (heap_drew' (heap_alloc' HX.out)))).mono ?_; rintro e w2 ⟨rfl, hw2, hu2⟩)
  refine end0L rfl rfl ?_
  refine ⟨rfl, hw2, ?_⟩
  refine Upd.trans ?_ hu2
  repeat (first | (with_reducible refine Upd.drew ?_) | (with_reducible refine Upd.alloc ?_ _))
  exact Upd.refl _ _
set_option maxRecDepth 100000 in
set_option maxHeartbeats 1000000 in
theorem lkr_take_word0_4 (g seq v0 v1 v2 v3 f r0 r1 r2 r3 left tries : Int) (h : LG a 4 rt w b 150 [.int .i64 left, .int .i64 tries] ⟨1, seq, v0, v1, v2, v3, f, r0, r1, r2, r3, true, true⟩) :
    Calls Try.prog 126 #[.pointer (some ⟨b, 0, none⟩), .int .u32 g] w fun e w' => e = .returned (.tuple #[]) ∧ LG a 4 rt w' b 150 [.int .i64 left, .int .i64 tries] ⟨2, seq, g, v1, v2, v3, f, r0, r1, r2, r3, true, true⟩ ∧ Upd [b] w w' := by
  have xf := fun j => h.fz j
  have lb := heap_lt h.h
  have nb : w.heap.size ≠ b := by omega
  have nb' : b ≠ w.heap.size := by omega
  obtain ⟨x0, x1, x2, x3, x4, x5, x6, x17⟩ := h.pl
  obtain ⟨x7, x8, x9, x10⟩ := h.vs
  obtain ⟨x11, x12, x13, x14, x15, x16⟩ := h.rs
  have x18 := h.cell 18
  have x19 := h.cell 19
  simp only [lkC, List.cons_append, List.nil_append, List.getElem?_cons_succ, List.getElem?_cons_zero] at x18 x19
  have HX := Lib.hid h.h
  have hmf : ∀ (fn : Fn) (first cap : Array Value) (w : World), (Instr.makeFunc fn first cap).run Try.prog w = .ok (.func fn first cap) w := fun _ _ _ _ => rfl
  have HO := Lib.hid (lkr_odd (cell_of_heap (heap_alloc_new w (.cells #[.int .u32 g] 32)) 0))
  clear h
  go_enter Try.func126, Try.ntmps126
  go_wp2
  go_step3
  go_wp2_with (go_at_call 128; refine (HO.out).mono ?_; rintro e w1 ⟨rfl, rfl⟩)
  go_region
  go_wp2
  go_region
  go_wp2
  go_region
  go_wp2
  first | rw [Exit.noGoto_ret] | skip
  first | refine bodyPost_ret (results_none rfl _ _ _) rfl ?_ | go_end0
  refine ⟨rfl, ⟨?hg⟩, ?_⟩
  case hg =>
    unfold lkC at *
    repeat (first | (with_reducible exact HX.out) | (with_reducible apply heap_set2) | (with_reducible apply heap_drew') | (with_reducible apply heap_alloc'))
    all_goals rfl
  repeat (first | (with_reducible refine Upd.setCell ?_ (by simp) _) | (with_reducible refine Upd.drew ?_) | (with_reducible refine Upd.alloc ?_ _))
  exact Upd.refl _ _
set_option maxRecDepth 100000 in
set_option maxHeartbeats 1000000 in
theorem lkr_take_word1_4 (g seq v0 v1 v2 v3 f r0 r1 r2 r3 left tries : Int) (h : LG a 4 rt w b 150 [.int .i64 left, .int .i64 tries] ⟨2, seq, v0, v1, v2, v3, f, r0, r1, r2, r3, true, true⟩) :
    Calls Try.prog 126 #[.pointer (some ⟨b, 0, none⟩), .int .u32 g] w fun e w' => e = .returned (.tuple #[]) ∧ LG a 4 rt w' b 150 [.int .i64 left, .int .i64 tries] ⟨3, seq, v0, g, v2, v3, f, r0, r1, r2, r3, true, true⟩ ∧ Upd [b] w w' := by
  have xf := fun j => h.fz j
  have lb := heap_lt h.h
  have nb : w.heap.size ≠ b := by omega
  have nb' : b ≠ w.heap.size := by omega
  obtain ⟨x0, x1, x2, x3, x4, x5, x6, x17⟩ := h.pl
  obtain ⟨x7, x8, x9, x10⟩ := h.vs
  obtain ⟨x11, x12, x13, x14, x15, x16⟩ := h.rs
  have x18 := h.cell 18
  have x19 := h.cell 19
  simp only [lkC, List.cons_append, List.nil_append, List.getElem?_cons_succ, List.getElem?_cons_zero] at x18 x19
  have HX := Lib.hid h.h
  have hmf : ∀ (fn : Fn) (first cap : Array Value) (w : World), (Instr.makeFunc fn first cap).run Try.prog w = .ok (.func fn first cap) w := fun _ _ _ _ => rfl
  have HO := Lib.hid (lkr_odd (cell_of_heap (heap_alloc_new w (.cells #[.int .u32 g] 32)) 0))
  clear h
  go_enter Try.func126, Try.ntmps126
  go_wp2
  go_step3
  go_wp2_with (go_at_call 128; refine (HO.out).mono ?_; rintro e w1 ⟨rfl, rfl⟩)
  go_region
  go_wp2
  go_region
  go_wp2
  go_region
  go_wp2
  first | rw [Exit.noGoto_ret] | skip
  first | refine bodyPost_ret (results_none rfl _ _ _) rfl ?_ | go_end0
  refine ⟨rfl, ⟨?hg⟩, ?_⟩
  case hg =>
    unfold lkC at *
    repeat (first | (with_reducible exact HX.out) | (with_reducible apply heap_set2) | (with_reducible apply heap_drew') | (with_reducible apply heap_alloc'))
    all_goals rfl
  repeat (first | (with_reducible refine Upd.setCell ?_ (by simp) _) | (with_reducible refine Upd.drew ?_) | (with_reducible refine Upd.alloc ?_ _))
  exact Upd.refl _ _
set_option maxRecDepth 100000 in
set_option maxHeartbeats 1000000 in
theorem lkr_take_word2_4 (g seq v0 v1 v2 v3 f r0 r1 r2 r3 left tries : Int) (h : LG a 4 rt w b 150 [.int .i64 left, .int .i64 tries] ⟨3, seq, v0, v1, v2, v3, f, r0, r1, r2, r3, true, true⟩) :
    Calls Try.prog 126 #[.pointer (some ⟨b, 0, none⟩), .int .u32 g] w fun e w' => e = .returned (.tuple #[]) ∧ LG a 4 rt w' b 150 [.int .i64 left, .int .i64 tries] ⟨4, seq, v0, v1, g, v3, f, r0, r1, r2, r3, true, true⟩ ∧ Upd [b] w w' := by
  have xf := fun j => h.fz j
  have lb := heap_lt h.h
  have nb : w.heap.size ≠ b := by omega
  have nb' : b ≠ w.heap.size := by omega
  obtain ⟨x0, x1, x2, x3, x4, x5, x6, x17⟩ := h.pl
  obtain ⟨x7, x8, x9, x10⟩ := h.vs
  obtain ⟨x11, x12, x13, x14, x15, x16⟩ := h.rs
  have x18 := h.cell 18
  have x19 := h.cell 19
  simp only [lkC, List.cons_append, List.nil_append, List.getElem?_cons_succ, List.getElem?_cons_zero] at x18 x19
  have HX := Lib.hid h.h
  have hmf : ∀ (fn : Fn) (first cap : Array Value) (w : World), (Instr.makeFunc fn first cap).run Try.prog w = .ok (.func fn first cap) w := fun _ _ _ _ => rfl
  have HO := Lib.hid (lkr_odd (cell_of_heap (heap_alloc_new w (.cells #[.int .u32 g] 32)) 0))
  clear h
  go_enter Try.func126, Try.ntmps126
  go_wp2
  go_step3
  go_wp2_with (go_at_call 128; refine (HO.out).mono ?_; rintro e w1 ⟨rfl, rfl⟩)
  go_region
  go_wp2
  go_region
  go_wp2
  go_region
  go_wp2
  first | rw [Exit.noGoto_ret] | skip
  first | refine bodyPost_ret (results_none rfl _ _ _) rfl ?_ | go_end0
  refine ⟨rfl, ⟨?hg⟩, ?_⟩
  case hg =>
    unfold lkC at *
    repeat (first | (with_reducible exact HX.out) | (with_reducible apply heap_set2) | (with_reducible apply heap_drew') | (with_reducible apply heap_alloc'))
    all_goals rfl
  repeat (first | (with_reducible refine Upd.setCell ?_ (by simp) _) | (with_reducible refine Upd.drew ?_) | (with_reducible refine Upd.alloc ?_ _))
  exact Upd.refl _ _
set_option maxRecDepth 100000 in
set_option maxHeartbeats 1000000 in
theorem lkr_take_word3_4 (g seq v0 v1 v2 v3 f r0 r1 r2 r3 left tries : Int) (h : LG a 4 rt w b 150 [.int .i64 left, .int .i64 tries] ⟨4, seq, v0, v1, v2, v3, f, r0, r1, r2, r3, true, true⟩) :
    Calls Try.prog 126 #[.pointer (some ⟨b, 0, none⟩), .int .u32 g] w fun e w' => e = .returned (.tuple #[]) ∧ LG a 4 rt w' b 150 [.int .i64 left, .int .i64 tries] ⟨5, seq, v0, v1, v2, g, f, r0, r1, r2, r3, true, true⟩ ∧ Upd [b] w w' := by
  have xf := fun j => h.fz j
  have lb := heap_lt h.h
  have nb : w.heap.size ≠ b := by omega
  have nb' : b ≠ w.heap.size := by omega
  obtain ⟨x0, x1, x2, x3, x4, x5, x6, x17⟩ := h.pl
  obtain ⟨x7, x8, x9, x10⟩ := h.vs
  obtain ⟨x11, x12, x13, x14, x15, x16⟩ := h.rs
  have x18 := h.cell 18
  have x19 := h.cell 19
  simp only [lkC, List.cons_append, List.nil_append, List.getElem?_cons_succ, List.getElem?_cons_zero] at x18 x19
  have HX := Lib.hid h.h
  have hmf : ∀ (fn : Fn) (first cap : Array Value) (w : World), (Instr.makeFunc fn first cap).run Try.prog w = .ok (.func fn first cap) w := fun _ _ _ _ => rfl
  have HO := Lib.hid (lkr_odd (cell_of_heap (heap_alloc_new w (.cells #[.int .u32 g] 32)) 0))
  clear h
  go_enter Try.func126, Try.ntmps126
  go_wp2
  go_step3
  go_wp2_with (go_at_call 128; refine (HO.out).mono ?_; rintro e w1 ⟨rfl, rfl⟩)
  go_region
  go_wp2
  go_region
  go_wp2
  go_region
  go_wp2
  first | rw [Exit.noGoto_ret] | skip
  first | refine bodyPost_ret (results_none rfl _ _ _) rfl ?_ | go_end0
  refine ⟨rfl, ⟨?hg⟩, ?_⟩
  case hg =>
    unfold lkC at *
    repeat (first | (with_reducible exact HX.out) | (with_reducible apply heap_set2) | (with_reducible apply heap_drew') | (with_reducible apply heap_alloc'))
    all_goals rfl
  repeat (first | (with_reducible refine Upd.setCell ?_ (by simp) _) | (with_reducible refine Upd.drew ?_) | (with_reducible refine Upd.alloc ?_ _))
  exact Upd.refl _ _
set_option maxRecDepth 100000 in
set_option maxHeartbeats 1000000 in
theorem lkr_take_whole_4 (g seq v0 v1 v2 v3 f r0 r1 r2 r3 left tries : Int) (hg : g = seq) (h : LG a 4 rt w b 150 [.int .i64 left, .int .i64 tries] ⟨5, seq, v0, v1, v2, v3, f, r0, r1, r2, r3, true, true⟩) :
    Calls Try.prog 126 #[.pointer (some ⟨b, 0, none⟩), .int .u32 g] w fun e w' => e = .returned (.tuple #[]) ∧ LG a 4 rt w' b 150 [.int .i64 left, .int .i64 tries] ⟨6, seq, v0, v1, v2, v3, f, v0, v1, v2, v3, true, false⟩ ∧ Upd [b] w w' := by
  have xf := fun j => h.fz j
  have lb := heap_lt h.h
  have nb : w.heap.size ≠ b := by omega
  have nb' : b ≠ w.heap.size := by omega
  obtain ⟨x0, x1, x2, x3, x4, x5, x6, x17⟩ := h.pl
  obtain ⟨x7, x8, x9, x10⟩ := h.vs
  obtain ⟨x11, x12, x13, x14, x15, x16⟩ := h.rs
  have x18 := h.cell 18
  have x19 := h.cell 19
  simp only [lkC, List.cons_append, List.nil_append, List.getElem?_cons_succ, List.getElem?_cons_zero] at x18 x19
  have HX := Lib.hid h.h
  have hmf : ∀ (fn : Fn) (first cap : Array Value) (w : World), (Instr.makeFunc fn first cap).run Try.prog w = .ok (.func fn first cap) w := fun _ _ _ _ => rfl
  have HO := Lib.hid (lkr_odd (cell_of_heap (heap_alloc_new w (.cells #[.int .u32 g] 32)) 0))
  subst hg
  clear h
  go_enter Try.func126, Try.ntmps126
  go_wp2
  go_step3
  go_wp2_with (go_at_call 128; refine (HO.out).mono ?_; rintro e w1 ⟨rfl, rfl⟩)
  go_region
  go_wp2
  go_region
  go_wp2
  first | rw [Exit.noGoto_ret] | skip
  first | refine bodyPost_ret (results_none rfl _ _ _) rfl ?_ | go_end0
  refine ⟨rfl, ⟨?hg⟩, ?_⟩
  case hg =>
    unfold lkC at *
    repeat (first | (with_reducible exact HX.out) | (with_reducible apply heap_set2) | (with_reducible apply heap_drew') | (with_reducible apply heap_alloc'))
    all_goals rfl
  repeat (first | (with_reducible refine Upd.setCell ?_ (by simp) _) | (with_reducible refine Upd.drew ?_) | (with_reducible refine Upd.alloc ?_ _))
  exact Upd.refl _ _
set_option maxRecDepth 100000 in
set_option maxHeartbeats 1000000 in
theorem lkr_take_other0_4 (g seq v0 v1 v2 v3 f r0 r1 r2 r3 left tries : Int) (hg : g ≠ seq) (hl : left = 0) (h : LG a 4 rt w b 150 [.int .i64 left, .int .i64 tries] ⟨5, seq, v0, v1, v2, v3, f, r0, r1, r2, r3, true, true⟩) :
    Calls Try.prog 126 #[.pointer (some ⟨b, 0, none⟩), .int .u32 g] w fun e w' => e = .returned (.tuple #[]) ∧ LG a 4 rt w' b 150 [.int .i64 left, .int .i64 tries] ⟨0, seq, 0, 0, 0, 0, 8, r0, r1, r2, r3, true, false⟩ ∧ Upd [b] w w' := by
  have xf := fun j => h.fz j
  have lb := heap_lt h.h
  have nb : w.heap.size ≠ b := by omega
  have nb' : b ≠ w.heap.size := by omega
  obtain ⟨x0, x1, x2, x3, x4, x5, x6, x17⟩ := h.pl
  obtain ⟨x7, x8, x9, x10⟩ := h.vs
  obtain ⟨x11, x12, x13, x14, x15, x16⟩ := h.rs
  have x18 := h.cell 18
  have x19 := h.cell 19
  simp only [lkC, List.cons_append, List.nil_append, List.getElem?_cons_succ, List.getElem?_cons_zero] at x18 x19
  have HX := Lib.hid h.h
  have hmf : ∀ (fn : Fn) (first cap : Array Value) (w : World), (Instr.makeFunc fn first cap).run Try.prog w = .ok (.func fn first cap) w := fun _ _ _ _ => rfl
  have HO := Lib.hid (lkr_odd (cell_of_heap (heap_alloc_new w (.cells #[.int .u32 g] 32)) 0))
  subst hl
  have hg1 : (g == seq) = false := by simpa using hg
  have hg2 : (g != seq) = true := by simpa using hg
  clear hg
  clear h
  go_enter Try.func126, Try.ntmps126
  go_wp2
  refine wp_scope_jump1 0 rfl ?_
  intro K HK
  go_wp2_with (go_at_call 128; refine (HO.out).mono ?_; rintro e w1 ⟨rfl, rfl⟩)
  go_region
  go_wp2
  go_step3
  refine And.intro rfl (HK.out _ _ ?_)
  clear HK
  go_wp2_with (go_at_call 127; refine (lkr_fails0 _ _ _ _ _ _ _ _ _ _ _ _ _ _ _ (by first | exact LG.mk (heap_alloc' HX.out) | exact LG.mk (heap_drew' (heap_alloc' HX.out)))).mono ?_; rintro e w2 ⟨rfl, hw2, hu2⟩)
  refine end0L rfl rfl ?_
  refine ⟨rfl, hw2, ?_⟩
  refine Upd.trans ?_ hu2
  repeat (first | (with_reducible refine Upd.drew ?_) | (with_reducible refine Upd.alloc ?_ _))
  exact Upd.refl _ _
set_option maxRecDepth 100000 in
set_option maxHeartbeats 1000000 in
theorem lkr_take_other1_4 (g seq v0 v1 v2 v3 f r0 r1 r2 r3 left tries : Int) (hg : g ≠ seq) (hl : left ≠ 0) (h : LG a 4 rt w b 150 [.int .i64 left, .int .i64 tries] ⟨5, seq, v0, v1, v2, v3, f, r0, r1, r2, r3, true, true⟩) :
    Calls Try.prog 126 #[.pointer (some ⟨b, 0, none⟩), .int .u32 g] w fun e w' => e = .returned (.tuple #[]) ∧ LG a 4 rt w' b 150 [.int .i64 (wrap64 (left - 1)), .int .i64 (wrap64 (tries + 1))] ⟨0, seq, 0, 0, 0, 0, f, r0, r1, r2, r3, true, true⟩ ∧ Upd [b] w w' := by
  have xf := fun j => h.fz j
  have lb := heap_lt h.h
  have nb : w.heap.size ≠ b := by omega
  have nb' : b ≠ w.heap.size := by omega
  obtain ⟨x0, x1, x2, x3, x4, x5, x6, x17⟩ := h.pl
  obtain ⟨x7, x8, x9, x10⟩ := h.vs
  obtain ⟨x11, x12, x13, x14, x15, x16⟩ := h.rs
  have x18 := h.cell 18
  have x19 := h.cell 19
  simp only [lkC, List.cons_append, List.nil_append, List.getElem?_cons_succ, List.getElem?_cons_zero] at x18 x19
  have HX := Lib.hid h.h
  have hmf : ∀ (fn : Fn) (first cap : Array Value) (w : World), (Instr.makeFunc fn first cap).run Try.prog w = .ok (.func fn first cap) w := fun _ _ _ _ => rfl
  have HO := Lib.hid (lkr_odd (cell_of_heap (heap_alloc_new w (.cells #[.int .u32 g] 32)) 0))
  have HL := Lib.hid hl
  clear hl
  have hg1 : (g == seq) = false := by simpa using hg
  have hg2 : (g != seq) = true := by simpa using hg
  clear hg
  clear h
  go_enter Try.func126, Try.ntmps126
  go_wp2
  refine wp_scope_jump1 0 rfl ?_
  intro K HK
  go_wp2_with (go_at_call 128; refine (HO.out).mono ?_; rintro e w1 ⟨rfl, rfl⟩)
  go_region
  go_wp2
  go_step3
  refine And.intro rfl (HK.out _ _ ?_)
  clear HK
  go_wp2_with (go_at_call 127; refine (lkr_fails1 _ _ _ _ _ _ _ _ _ _ _ _ _ _ _ _ HL.out (by first | exact LG.mk (heap_alloc' HX.out) | exact LG.mk (heap_drew' (heap_alloc' HX.out)))).mono ?_; rintro e w2 ⟨rfl, hw2, hu2⟩)
  refine end0L rfl rfl ?_
  refine ⟨rfl, hw2, ?_⟩
  refine Upd.trans ?_ hu2
  repeat (first | (with_reducible refine Upd.drew ?_) | (with_reducible refine Upd.alloc ?_ _))
  exact Upd.refl _ _
end
end Go.Proofs.Ytnnakiojfpnphaa
