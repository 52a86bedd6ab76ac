/- Package lock: what a read takes. -/
import Derived.Test.YtbjeojcnofpgfaaLock5
set_option linter.unusedVariables false
set_option linter.unusedSimpArgs false
namespace Go.Proofs.Ytbjeojcnofpgfaa
open Go.RowKit

theorem end0 {P : Program} {fn : Func} {R : Ending → World → Prop} {a : Act} {w : World} (hr : fn.results = #[]) (hd : a.defers = []) (hR : R (.returned (.tuple #[])) w) : Exit.noGoto (bodyPost P fn R) .normal a w := by
  show bodyPost P fn R .normal a w
  exact bodyPost_end (results_none hr _ _ _) hd hR

set_option maxRecDepth 100000 in
set_option maxHeartbeats 1000000 in
theorem lr_fails0 {w : World} {b : Nat} {seq v0 f r0 left tries : Int} {n : Int} (h : LW w b 129 [.int .i64 0, .int .i64 tries] n seq v0 f r0 true true) :
    Calls Try.prog 119 #[.pointer (some ⟨b, 0, none⟩)] w fun e w' => e = .returned (.tuple #[]) ∧ LW w' b 129 [.int .i64 0, .int .i64 tries] 0 seq 0 8 r0 true false ∧ Upd [b] w w' := by
  obtain ⟨x0, x1, x2, x3, x4, x5, x6, x7, x17⟩ := h.cells
  obtain ⟨x8, x9, x10, x11, x12, x13, x14, x15, x16⟩ := h.cells2
  have x18 : w.cell? ⟨b, 18, none⟩ = some (.int .i64 0) := h.cell 18
  have x19 : w.cell? ⟨b, 19, none⟩ = some (.int .i64 tries) := h.cell 19
  have lb := heap_lt h.h
  have nb : w.heap.size ≠ b := by omega
  have nb' : b ≠ w.heap.size := by omega
  have xf := fun j => h.f j
  have HX := Lib.hid h.h
  clear h
  go_enter Try.func119, Try.ntmps119
  go_wp2
  first | refine bodyPost_ret (results_none rfl _ _ _) rfl ?_ | go_end0
  refine ⟨rfl, ⟨?hg⟩, ?_⟩
  case hg =>
    unfold lockC at *
    repeat (first | (with_reducible exact HX.out) | (with_reducible apply heap_set2) | (with_reducible apply heap_drew') | (with_reducible apply heap_alloc'))
    all_goals rfl
  repeat (first | (with_reducible refine Upd.setCell ?_ (by simp) _) | (with_reducible refine Upd.drew ?_) | (with_reducible refine Upd.alloc ?_ _))
  exact Upd.refl _ _
set_option maxRecDepth 100000 in
set_option maxHeartbeats 1000000 in
theorem lr_fails1 {w : World} {b : Nat} {seq v0 f r0 left tries : Int} {n : Int} (hl : left ≠ 0) (h : LW w b 129 [.int .i64 left, .int .i64 tries] n seq v0 f r0 true true) :
    Calls Try.prog 119 #[.pointer (some ⟨b, 0, none⟩)] w fun e w' => e = .returned (.tuple #[]) ∧ LW w' b 129 [.int .i64 (wrap64 (left - 1)), .int .i64 (wrap64 (tries + 1))] 0 seq 0 f r0 true true ∧ Upd [b] w w' := by
  obtain ⟨x0, x1, x2, x3, x4, x5, x6, x7, x17⟩ := h.cells
  obtain ⟨x8, x9, x10, x11, x12, x13, x14, x15, x16⟩ := h.cells2
  have x18 : w.cell? ⟨b, 18, none⟩ = some (.int .i64 left) := h.cell 18
  have x19 : w.cell? ⟨b, 19, none⟩ = some (.int .i64 tries) := h.cell 19
  have lb := heap_lt h.h
  have nb : w.heap.size ≠ b := by omega
  have nb' : b ≠ w.heap.size := by omega
  have xf := fun j => h.f j
  have HX := Lib.hid h.h
  have hl1 : (left == 0) = false := by simpa using hl
  clear h hl
  go_enter Try.func119, Try.ntmps119
  go_wp2
  first | refine bodyPost_ret (results_none rfl _ _ _) rfl ?_ | go_end0
  refine ⟨rfl, ⟨?hg⟩, ?_⟩
  case hg =>
    unfold lockC at *
    repeat (first | (with_reducible exact HX.out) | (with_reducible apply heap_set2) | (with_reducible apply heap_drew') | (with_reducible apply heap_alloc'))
    all_goals rfl
  repeat (first | (with_reducible refine Upd.setCell ?_ (by simp) _) | (with_reducible refine Upd.drew ?_) | (with_reducible refine Upd.alloc ?_ _))
  exact Upd.refl _ _
set_option maxRecDepth 100000 in
set_option maxHeartbeats 1000000 in
theorem lr_odd {w : World} {p : Nat} {g : Int} (hp : w.cell? ⟨p, 0, none⟩ = some (.int .u32 g)) : Calls Try.prog 118 #[.pointer (some ⟨p, 0, none⟩)] w fun e w' => e = .returned (.bool (bits .and .u32 g 1 == 1)) ∧ w = w' := by
  go_enter Try.func118, Try.ntmps118
  go_wp2
  go_ret
  exact ⟨rfl, rfl⟩
set_option maxRecDepth 100000 in
set_option maxHeartbeats 1000000 in
theorem lr_take_even {w : World} {b : Nat} {seq v0 f r0 left tries : Int} (g : Int) (hg : (bits .and .u32 g 1 == 1) = false) (h : LW w b 129 [.int .i64 left, .int .i64 tries] 0 seq v0 f r0 true true) :
    Calls Try.prog 59 #[.pointer (some ⟨b, 0, none⟩), .int .u32 g] w fun e w' => e = .returned (.tuple #[]) ∧ LW w' b 129 [.int .i64 left, .int .i64 tries] 1 g v0 f r0 true true ∧ Upd [b] w w' := by
  obtain ⟨x0, x1, x2, x3, x4, x5, x6, x7, x17⟩ := h.cells
  obtain ⟨x8, x9, x10, x11, x12, x13, x14, x15, x16⟩ := h.cells2
  have x18 : w.cell? ⟨b, 18, none⟩ = some (.int .i64 left) := h.cell 18
  have x19 : w.cell? ⟨b, 19, none⟩ = some (.int .i64 tries) := h.cell 19
  have lb := heap_lt h.h
  have nb : w.heap.size ≠ b := by omega
  have nb' : b ≠ w.heap.size := by omega
  have xf := fun j => h.f j
  have hmf : ∀ (fn : Fn) (first cap : Array Value) (w : World), (Instr.makeFunc fn first cap).run Try.prog w = .ok (.func fn first cap) w := fun _ _ _ _ => rfl
  have HO := Lib.hid (lr_odd (cell_of_heap (heap_alloc_new w (.cells #[.int .u32 g] 33)) 0))
  have HX := Lib.hid h.h
  clear h
  go_enter Try.func59, Try.ntmps59
  go_wp2
  go_step3
  go_wp2_with (go_at_call 118; refine (HO.out).mono ?_; rintro e w1 ⟨rfl, rfl⟩)
  go_region
  go_wp2
  first | rw [Exit.noGoto_ret] | skip
  first | refine bodyPost_ret (results_none rfl _ _ _) rfl ?_ | go_end0
  refine ⟨rfl, ⟨?hg⟩, ?_⟩
  case hg =>
    unfold lockC at *
    repeat (first | (with_reducible exact HX.out) | (with_reducible apply heap_set2) | (with_reducible apply heap_drew') | (with_reducible apply heap_alloc'))
    all_goals rfl
  repeat (first | (with_reducible refine Upd.setCell ?_ (by simp) _) | (with_reducible refine Upd.drew ?_) | (with_reducible refine Upd.alloc ?_ _))
  exact Upd.refl _ _
set_option maxRecDepth 100000 in
set_option maxHeartbeats 1000000 in
theorem lr_take_word {w : World} {b : Nat} {seq v0 f r0 left tries : Int} (g : Int)  (h : LW w b 129 [.int .i64 left, .int .i64 tries] 1 seq v0 f r0 true true) :
    Calls Try.prog 59 #[.pointer (some ⟨b, 0, none⟩), .int .u32 g] w fun e w' => e = .returned (.tuple #[]) ∧ LW w' b 129 [.int .i64 left, .int .i64 tries] 2 seq g f r0 true true ∧ Upd [b] w w' := by
  obtain ⟨x0, x1, x2, x3, x4, x5, x6, x7, x17⟩ := h.cells
  obtain ⟨x8, x9, x10, x11, x12, x13, x14, x15, x16⟩ := h.cells2
  have x18 : w.cell? ⟨b, 18, none⟩ = some (.int .i64 left) := h.cell 18
  have x19 : w.cell? ⟨b, 19, none⟩ = some (.int .i64 tries) := h.cell 19
  have lb := heap_lt h.h
  have nb : w.heap.size ≠ b := by omega
  have nb' : b ≠ w.heap.size := by omega
  have xf := fun j => h.f j
  have hmf : ∀ (fn : Fn) (first cap : Array Value) (w : World), (Instr.makeFunc fn first cap).run Try.prog w = .ok (.func fn first cap) w := fun _ _ _ _ => rfl
  have HO := Lib.hid (lr_odd (cell_of_heap (heap_alloc_new w (.cells #[.int .u32 g] 33)) 0))
  have HX := Lib.hid h.h
  clear h
  go_enter Try.func59, Try.ntmps59
  go_wp2
  go_step3
  go_wp2_with (go_at_call 118; refine (HO.out).mono ?_; rintro e w1 ⟨rfl, rfl⟩)
  go_region
  go_wp2
  go_region
  go_wp2
  go_region
  go_wp2
  first | rw [Exit.noGoto_ret] | skip
  first | refine bodyPost_ret (results_none rfl _ _ _) rfl ?_ | go_end0
  refine ⟨rfl, ⟨?hg⟩, ?_⟩
  case hg =>
    unfold lockC at *
    repeat (first | (with_reducible exact HX.out) | (with_reducible apply heap_set2) | (with_reducible apply heap_drew') | (with_reducible apply heap_alloc'))
    all_goals rfl
  repeat (first | (with_reducible refine Upd.setCell ?_ (by simp) _) | (with_reducible refine Upd.drew ?_) | (with_reducible refine Upd.alloc ?_ _))
  exact Upd.refl _ _
set_option maxRecDepth 100000 in
set_option maxHeartbeats 1000000 in
theorem lr_take_whole {w : World} {b : Nat} {seq v0 f r0 left tries : Int} (g : Int) (hg : g = seq) (h : LW w b 129 [.int .i64 left, .int .i64 tries] 2 seq v0 f r0 true true) :
    Calls Try.prog 59 #[.pointer (some ⟨b, 0, none⟩), .int .u32 g] w fun e w' => e = .returned (.tuple #[]) ∧ LW w' b 129 [.int .i64 left, .int .i64 tries] 3 seq v0 f v0 true false ∧ Upd [b] w w' := by
  obtain ⟨x0, x1, x2, x3, x4, x5, x6, x7, x17⟩ := h.cells
  obtain ⟨x8, x9, x10, x11, x12, x13, x14, x15, x16⟩ := h.cells2
  have x18 : w.cell? ⟨b, 18, none⟩ = some (.int .i64 left) := h.cell 18
  have x19 : w.cell? ⟨b, 19, none⟩ = some (.int .i64 tries) := h.cell 19
  have lb := heap_lt h.h
  have nb : w.heap.size ≠ b := by omega
  have nb' : b ≠ w.heap.size := by omega
  have xf := fun j => h.f j
  have hmf : ∀ (fn : Fn) (first cap : Array Value) (w : World), (Instr.makeFunc fn first cap).run Try.prog w = .ok (.func fn first cap) w := fun _ _ _ _ => rfl
  have HO := Lib.hid (lr_odd (cell_of_heap (heap_alloc_new w (.cells #[.int .u32 g] 33)) 0))
  have HX := Lib.hid h.h
  subst hg
  clear h
  go_enter Try.func59, Try.ntmps59
  go_wp2
  go_step3
  go_wp2_with (go_at_call 118; refine (HO.out).mono ?_; rintro e w1 ⟨rfl, rfl⟩)
  go_region
  go_wp2
  go_region
  go_wp2
  first | rw [Exit.noGoto_ret] | skip
  first | refine bodyPost_ret (results_none rfl _ _ _) rfl ?_ | go_end0
  refine ⟨rfl, ⟨?hg⟩, ?_⟩
  case hg =>
    unfold lockC at *
    repeat (first | (with_reducible exact HX.out) | (with_reducible apply heap_set2) | (with_reducible apply heap_drew') | (with_reducible apply heap_alloc'))
    all_goals rfl
  repeat (first | (with_reducible refine Upd.setCell ?_ (by simp) _) | (with_reducible refine Upd.drew ?_) | (with_reducible refine Upd.alloc ?_ _))
  exact Upd.refl _ _
set_option maxRecDepth 100000 in
set_option maxHeartbeats 1000000 in
theorem lr_take_odd0 {w : World} {b : Nat} {seq v0 f r0 left tries : Int} (g : Int) (hg : (bits .and .u32 g 1 == 1) = true) (hl : left = 0) (h : LW w b 129 [.int .i64 left, .int .i64 tries] 0 seq v0 f r0 true true) :
    Calls Try.prog 59 #[.pointer (some ⟨b, 0, none⟩), .int .u32 g] w fun e w' => e = .returned (.tuple #[]) ∧ LW w' b 129 [.int .i64 left, .int .i64 tries] 0 seq 0 8 r0 true false ∧ Upd [b] w w' := by
  obtain ⟨x0, x1, x2, x3, x4, x5, x6, x7, x17⟩ := h.cells
  obtain ⟨x8, x9, x10, x11, x12, x13, x14, x15, x16⟩ := h.cells2
  have x18 : w.cell? ⟨b, 18, none⟩ = some (.int .i64 left) := h.cell 18
  have x19 : w.cell? ⟨b, 19, none⟩ = some (.int .i64 tries) := h.cell 19
  have lb := heap_lt h.h
  have nb : w.heap.size ≠ b := by omega
  have nb' : b ≠ w.heap.size := by omega
  have xf := fun j => h.f j
  have hmf : ∀ (fn : Fn) (first cap : Array Value) (w : World), (Instr.makeFunc fn first cap).run Try.prog w = .ok (.func fn first cap) w := fun _ _ _ _ => rfl
  have HO := Lib.hid (lr_odd (cell_of_heap (heap_alloc_new w (.cells #[.int .u32 g] 33)) 0))
  have HX := Lib.hid h.h
  subst hl
  clear h
  go_enter Try.func59, Try.ntmps59
  go_wp2
  refine wp_scope_jump1 0 rfl ?_
  intro K HK
  go_wp2_with (go_at_call 118; refine (HO.out).mono ?_; rintro e w1 ⟨rfl, rfl⟩)
  go_step3
  refine And.intro rfl (HK.out _ _ ?_)
  clear HK
  go_wp2_with (go_at_call 119; refine (lr_fails0 (left := 0) (by first | exact LW.mk (heap_alloc' HX.out) | exact LW.mk (heap_drew' (heap_alloc' HX.out)))).mono ?_; rintro e w2 ⟨rfl, hw2, hu2⟩)
  refine end0 rfl rfl ?_
  refine ⟨rfl, hw2, ?_⟩
  refine Upd.trans ?_ hu2
  repeat (first | (with_reducible refine Upd.drew ?_) | (with_reducible refine Upd.alloc ?_ _))
  exact Upd.refl _ _
set_option maxRecDepth 100000 in
set_option maxHeartbeats 1000000 in
theorem lr_take_odd1 {w : World} {b : Nat} {seq v0 f r0 left tries : Int} (g : Int) (hg : (bits .and .u32 g 1 == 1) = true) (hl : left ≠ 0) (h : LW w b 129 [.int .i64 left, .int .i64 tries] 0 seq v0 f r0 true true) :
    Calls Try.prog 59 #[.pointer (some ⟨b, 0, none⟩), .int .u32 g] w fun e w' => e = .returned (.tuple #[]) ∧ LW w' b 129 [.int .i64 (wrap64 (left - 1)), .int .i64 (wrap64 (tries + 1))] 0 seq 0 f r0 true true ∧ Upd [b] w w' := by
  obtain ⟨x0, x1, x2, x3, x4, x5, x6, x7, x17⟩ := h.cells
  obtain ⟨x8, x9, x10, x11, x12, x13, x14, x15, x16⟩ := h.cells2
  have x18 : w.cell? ⟨b, 18, none⟩ = some (.int .i64 left) := h.cell 18
  have x19 : w.cell? ⟨b, 19, none⟩ = some (.int .i64 tries) := h.cell 19
  have lb := heap_lt h.h
  have nb : w.heap.size ≠ b := by omega
  have nb' : b ≠ w.heap.size := by omega
  have xf := fun j => h.f j
  have hmf : ∀ (fn : Fn) (first cap : Array Value) (w : World), (Instr.makeFunc fn first cap).run Try.prog w = .ok (.func fn first cap) w := fun _ _ _ _ => rfl
  have HO := Lib.hid (lr_odd (cell_of_heap (heap_alloc_new w (.cells #[.int .u32 g] 33)) 0))
  have HX := Lib.hid h.h
  have HL := Lib.hid hl
  clear hl
  clear h
  go_enter Try.func59, Try.ntmps59
  go_wp2
  refine wp_scope_jump1 0 rfl ?_
  intro K HK
  go_wp2_with (go_at_call 118; refine (HO.out).mono ?_; rintro e w1 ⟨rfl, rfl⟩)
  go_step3
  refine And.intro rfl (HK.out _ _ ?_)
  clear HK
  go_wp2_with (go_at_call 119; refine (lr_fails1 HL.out (by first | exact LW.mk (heap_alloc' HX.out) | exact LW.mk (heap_drew' (heap_alloc' HX.out)))).mono ?_; rintro e w2 ⟨rfl, hw2, hu2⟩)
  refine end0 rfl rfl ?_
  refine ⟨rfl, hw2, ?_⟩
  refine Upd.trans ?_ hu2
  repeat (first | (with_reducible refine Upd.drew ?_) | (with_reducible refine Upd.alloc ?_ _))
  exact Upd.refl _ _
set_option maxRecDepth 100000 in
set_option maxHeartbeats 1000000 in
theorem lr_take_other0 {w : World} {b : Nat} {seq v0 f r0 left tries : Int} (g : Int) (hg : g ≠ seq) (hl : left = 0) (h : LW w b 129 [.int .i64 left, .int .i64 tries] 2 seq v0 f r0 true true) :
    Calls Try.prog 59 #[.pointer (some ⟨b, 0, none⟩), .int .u32 g] w fun e w' => e = .returned (.tuple #[]) ∧ LW w' b 129 [.int .i64 left, .int .i64 tries] 0 seq 0 8 r0 true false ∧ Upd [b] w w' := by
  obtain ⟨x0, x1, x2, x3, x4, x5, x6, x7, x17⟩ := h.cells
  obtain ⟨x8, x9, x10, x11, x12, x13, x14, x15, x16⟩ := h.cells2
  have x18 : w.cell? ⟨b, 18, none⟩ = some (.int .i64 left) := h.cell 18
  have x19 : w.cell? ⟨b, 19, none⟩ = some (.int .i64 tries) := h.cell 19
  have lb := heap_lt h.h
  have nb : w.heap.size ≠ b := by omega
  have nb' : b ≠ w.heap.size := by omega
  have xf := fun j => h.f j
  have hmf : ∀ (fn : Fn) (first cap : Array Value) (w : World), (Instr.makeFunc fn first cap).run Try.prog w = .ok (.func fn first cap) w := fun _ _ _ _ => rfl
  have HO := Lib.hid (lr_odd (cell_of_heap (heap_alloc_new w (.cells #[.int .u32 g] 33)) 0))
  have HX := Lib.hid h.h
  subst hl
  have hg1 : (g == seq) = false := by simpa using hg
  have hg2 : (g != seq) = true := by simpa using hg
  clear hg
  clear h
  go_enter Try.func59, Try.ntmps59
  go_wp2
  refine wp_scope_jump1 0 rfl ?_
  intro K HK
  go_wp2_with (go_at_call 118; refine (HO.out).mono ?_; rintro e w1 ⟨rfl, rfl⟩)
  go_region
  go_wp2
  go_step3
  refine And.intro rfl (HK.out _ _ ?_)
  clear HK
  go_wp2_with (go_at_call 119; refine (lr_fails0 (left := 0) (by first | exact LW.mk (heap_alloc' HX.out) | exact LW.mk (heap_drew' (heap_alloc' HX.out)))).mono ?_; rintro e w2 ⟨rfl, hw2, hu2⟩)
  refine end0 rfl rfl ?_
  refine ⟨rfl, hw2, ?_⟩
  refine Upd.trans ?_ hu2
  repeat (first | (with_reducible refine Upd.drew ?_) | (with_reducible refine Upd.alloc ?_ _))
  exact Upd.refl _ _
set_option maxRecDepth 100000 in
set_option maxHeartbeats 1000000 in
theorem lr_take_other1 {w : World} {b : Nat} {seq v0 f r0 left tries : Int} (g : Int) (hg : g ≠ seq) (hl : left ≠ 0) (h : LW w b 129 [.int .i64 left, .int .i64 tries] 2 seq v0 f r0 true true) :
    Calls Try.prog 59 #[.pointer (some ⟨b, 0, none⟩), .int .u32 g] w fun e w' => e = .returned (.tuple #[]) ∧ LW w' b 129 [.int .i64 (wrap64 (left - 1)), .int .i64 (wrap64 (tries + 1))] 0 seq 0 f r0 true true ∧ Upd [b] w w' := by
  obtain ⟨x0, x1, x2, x3, x4, x5, x6, x7, x17⟩ := h.cells
  obtain ⟨x8, x9, x10, x11, x12, x13, x14, x15, x16⟩ := h.cells2
  have x18 : w.cell? ⟨b, 18, none⟩ = some (.int .i64 left) := h.cell 18
  have x19 : w.cell? ⟨b, 19, none⟩ = some (.int .i64 tries) := h.cell 19
  have lb := heap_lt h.h
  have nb : w.heap.size ≠ b := by omega
  have nb' : b ≠ w.heap.size := by omega
  have xf := fun j => h.f j
  have hmf : ∀ (fn : Fn) (first cap : Array Value) (w : World), (Instr.makeFunc fn first cap).run Try.prog w = .ok (.func fn first cap) w := fun _ _ _ _ => rfl
  have HO := Lib.hid (lr_odd (cell_of_heap (heap_alloc_new w (.cells #[.int .u32 g] 33)) 0))
  have HX := Lib.hid h.h
  have HL := Lib.hid hl
  have hg1 : (g == seq) = false := by simpa using hg
  have hg2 : (g != seq) = true := by simpa using hg
  clear hg hl
  clear h
  go_enter Try.func59, Try.ntmps59
  go_wp2
  refine wp_scope_jump1 0 rfl ?_
  intro K HK
  go_wp2_with (go_at_call 118; refine (HO.out).mono ?_; rintro e w1 ⟨rfl, rfl⟩)
  go_region
  go_wp2
  go_step3
  refine And.intro rfl (HK.out _ _ ?_)
  clear HK
  go_wp2_with (go_at_call 119; refine (lr_fails1 HL.out (by first | exact LW.mk (heap_alloc' HX.out) | exact LW.mk (heap_drew' (heap_alloc' HX.out)))).mono ?_; rintro e w2 ⟨rfl, hw2, hu2⟩)
  refine end0 rfl rfl ?_
  refine ⟨rfl, hw2, ?_⟩
  refine Upd.trans ?_ hu2
  repeat (first | (with_reducible refine Upd.drew ?_) | (with_reducible refine Upd.alloc ?_ _))
  exact Upd.refl _ _
end Go.Proofs.Ytbjeojcnofpgfaa

