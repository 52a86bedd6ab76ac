/- The walk, part 27: LK5. -/
import Derived.Test.YtnnakiojfpnphaaZi26
set_option linter.unusedVariables false
set_option linter.unusedSimpArgs false

namespace Go.Proofs.Ytnnakiojfpnphaa
open Go.RowKit
section
variable (a wd rt : Int)
variable {w : World} {b : Nat} {t : TypeId} {more : List Value} {s : LSt}
set_option maxRecDepth 100000 in
set_option maxHeartbeats 2000000 in
theorem lkr_actd0 (h : LG a wd rt w b t more s) (hw : 1 ≤ wd ∧ wd ≤ 4) (hrt : 0 ≤ rt ∧ rt ≤ 8) (ha : 0 ≤ a ∧ a < 1000000) (hn : s.n = 1) (hon : s.on = true) (hk : (0 : Int) ≤ 0 ∧ 0 < wd) :
    Calls Try.prog 124 #[.pointer (some ⟨b, 0, none⟩)] w fun e w' => e = .returned (.tuple #[.agg #[.int .i64 1, .int .i64 (a + 1), .int .u32 0], .bool true]) ∧ Upd [] w w' := by
  obtain ⟨x0, x1, x2, x3, x4, x5, x6, x17⟩ := h.pl
  obtain ⟨x7, x8, x9, x10⟩ := h.vs
  rw [hn] at x5
  rw [hon] at x17
  have lb := heap_lt h.h
  have HN := Lib.hid (fun (w1 : World) (hu : Upd [] w w1) => lk_count a wd rt (h.keep hu (by simp)) hw hrt)
  have HC := Lib.hid (fun (w1 : World) (hu : Upd [] w w1) => lk_data a wd rt 0 (h.keep hu (by simp)) hw hrt ha hk)
  have qk : decide ((0 : Int) < wd) = true := by simp; omega
  clear h hn hon hrt ha hw hk
  go_enter Try.func124, Try.ntmps124
  go_wp2_with (first
    | (go_at_call 121; (with_reducible refine (HN.out _ (by repeat (first | (with_reducible exact Upd.refl _ _) | (with_reducible apply Upd.drew) | (with_reducible refine Upd.grE ?_ _) | (with_reducible refine Upd.alloc ?_ _)))).mono ?_); rintro e w1 ⟨rfl, hu1⟩; obtain ⟨p1, rfl⟩ := hu1.grown; clear hu1)
    | (go_at_call 122; (with_reducible refine (HC.out _ (by repeat (first | (with_reducible exact Upd.refl _ _) | (with_reducible apply Upd.drew) | (with_reducible refine Upd.grE ?_ _) | (with_reducible refine Upd.alloc ?_ _) | (with_reducible refine Upd.setB ?_ (.inr (by simp)))))).mono ?_); rintro e w2 ⟨rfl, hu2⟩; obtain ⟨p2, rfl⟩ := hu2.grown; clear hu2))
  refine ret_act' rfl (g := w.heap.size) (t := 41) (fr := (0, 0)) (x := .int .i64 1) (y := .int .i64 (a + 1)) (z := .int .u32 0) rfl rfl rfl (hg := ?hg) ?_
  case hg => repeat (first | ((with_reducible refine heap_alloc_at _ ?_); (first | rfl | (simp; done))) | (with_reducible apply heap_drewE) | (with_reducible apply heap_grE) | (with_reducible apply heap_alloc') | (with_reducible apply heap_set2))
  exact ⟨rfl, (by repeat (first | (with_reducible exact Upd.refl _ _) | (with_reducible apply Upd.drew) | (with_reducible refine Upd.grE ?_ _) | (with_reducible refine Upd.alloc ?_ _) | (with_reducible refine Upd.setB ?_ (.inr (by simp)))))⟩
set_option maxRecDepth 100000 in
set_option maxHeartbeats 2000000 in
theorem lkr_actd1 (h : LG a wd rt w b t more s) (hw : 1 ≤ wd ∧ wd ≤ 4) (hrt : 0 ≤ rt ∧ rt ≤ 8) (ha : 0 ≤ a ∧ a < 1000000) (hn : s.n = 2) (hon : s.on = true) (hk : (0 : Int) ≤ 1 ∧ 1 < wd) :
    Calls Try.prog 124 #[.pointer (some ⟨b, 0, none⟩)] w fun e w' => e = .returned (.tuple #[.agg #[.int .i64 1, .int .i64 (a + 1 + 1), .int .u32 0], .bool true]) ∧ Upd [] w w' := by
  obtain ⟨x0, x1, x2, x3, x4, x5, x6, x17⟩ := h.pl
  obtain ⟨x7, x8, x9, x10⟩ := h.vs
  rw [hn] at x5
  rw [hon] at x17
  have lb := heap_lt h.h
  have HN := Lib.hid (fun (w1 : World) (hu : Upd [] w w1) => lk_count a wd rt (h.keep hu (by simp)) hw hrt)
  have HC := Lib.hid (fun (w1 : World) (hu : Upd [] w w1) => lk_data a wd rt 1 (h.keep hu (by simp)) hw hrt ha hk)
  have qk : decide ((1 : Int) < wd) = true := by simp; omega
  clear h hn hon hrt ha hw hk
  go_enter Try.func124, Try.ntmps124
  go_wp2_with (first
    | (go_at_call 121; (with_reducible refine (HN.out _ (by repeat (first | (with_reducible exact Upd.refl _ _) | (with_reducible apply Upd.drew) | (with_reducible refine Upd.grE ?_ _) | (with_reducible refine Upd.alloc ?_ _)))).mono ?_); rintro e w1 ⟨rfl, hu1⟩; obtain ⟨p1, rfl⟩ := hu1.grown; clear hu1)
    | (go_at_call 122; (with_reducible refine (HC.out _ (by repeat (first | (with_reducible exact Upd.refl _ _) | (with_reducible apply Upd.drew) | (with_reducible refine Upd.grE ?_ _) | (with_reducible refine Upd.alloc ?_ _) | (with_reducible refine Upd.setB ?_ (.inr (by simp)))))).mono ?_); rintro e w2 ⟨rfl, hu2⟩; obtain ⟨p2, rfl⟩ := hu2.grown; clear hu2))
  refine ret_act' rfl (g := w.heap.size) (t := 41) (fr := (0, 0)) (x := .int .i64 1) (y := .int .i64 (a + 1 + 1)) (z := .int .u32 0) rfl rfl rfl (hg := ?hg) ?_
  case hg => repeat (first | ((with_reducible refine heap_alloc_at _ ?_); (first | rfl | (simp; done))) | (with_reducible apply heap_drewE) | (with_reducible apply heap_grE) | (with_reducible apply heap_alloc') | (with_reducible apply heap_set2))
  exact ⟨rfl, (by repeat (first | (with_reducible exact Upd.refl _ _) | (with_reducible apply Upd.drew) | (with_reducible refine Upd.grE ?_ _) | (with_reducible refine Upd.alloc ?_ _) | (with_reducible refine Upd.setB ?_ (.inr (by simp)))))⟩
set_option maxRecDepth 100000 in
set_option maxHeartbeats 2000000 in
theorem lkr_actd2 (h : LG a wd rt w b t more s) (hw : 1 ≤ wd ∧ wd ≤ 4) (hrt : 0 ≤ rt ∧ rt ≤ 8) (ha : 0 ≤ a ∧ a < 1000000) (hn : s.n = 3) (hon : s.on = true) (hk : (0 : Int) ≤ 2 ∧ 2 < wd) :
    Calls Try.prog 124 #[.pointer (some ⟨b, 0, none⟩)] w fun e w' => e = .returned (.tuple #[.agg #[.int .i64 1, .int .i64 (a + 1 + 2), .int .u32 0], .bool true]) ∧ Upd [] w w' := by
  obtain ⟨x0, x1, x2, x3, x4, x5, x6, x17⟩ := h.pl
  obtain ⟨x7, x8, x9, x10⟩ := h.vs
  rw [hn] at x5
  rw [hon] at x17
  have lb := heap_lt h.h
  have HN := Lib.hid (fun (w1 : World) (hu : Upd [] w w1) => lk_count a wd rt (h.keep hu (by simp)) hw hrt)
  have HC := Lib.hid (fun (w1 : World) (hu : Upd [] w w1) => lk_data a wd rt 2 (h.keep hu (by simp)) hw hrt ha hk)
  have qk : decide ((2 : Int) < wd) = true := by simp; omega
  clear h hn hon hrt ha hw hk
  go_enter Try.func124, Try.ntmps124
  go_wp2_with (first
    | (go_at_call 121; (with_reducible refine (HN.out _ (by repeat (first | (with_reducible exact Upd.refl _ _) | (with_reducible apply Upd.drew) | (with_reducible refine Upd.grE ?_ _) | (with_reducible refine Upd.alloc ?_ _)))).mono ?_); rintro e w1 ⟨rfl, hu1⟩; obtain ⟨p1, rfl⟩ := hu1.grown; clear hu1)
    | (go_at_call 122; (with_reducible refine (HC.out _ (by repeat (first | (with_reducible exact Upd.refl _ _) | (with_reducible apply Upd.drew) | (with_reducible refine Upd.grE ?_ _) | (with_reducible refine Upd.alloc ?_ _) | (with_reducible refine Upd.setB ?_ (.inr (by simp)))))).mono ?_); rintro e w2 ⟨rfl, hu2⟩; obtain ⟨p2, rfl⟩ := hu2.grown; clear hu2))
  refine ret_act' rfl (g := w.heap.size) (t := 41) (fr := (0, 0)) (x := .int .i64 1) (y := .int .i64 (a + 1 + 2)) (z := .int .u32 0) rfl rfl rfl (hg := ?hg) ?_
  case hg => repeat (first | ((with_reducible refine heap_alloc_at _ ?_); (first | rfl | (simp; done))) | (with_reducible apply heap_drewE) | (with_reducible apply heap_grE) | (with_reducible apply heap_alloc') | (with_reducible apply heap_set2))
  exact ⟨rfl, (by repeat (first | (with_reducible exact Upd.refl _ _) | (with_reducible apply Upd.drew) | (with_reducible refine Upd.grE ?_ _) | (with_reducible refine Upd.alloc ?_ _) | (with_reducible refine Upd.setB ?_ (.inr (by simp)))))⟩
set_option maxRecDepth 100000 in
set_option maxHeartbeats 2000000 in
theorem lkr_actd3 (h : LG a wd rt w b t more s) (hw : 1 ≤ wd ∧ wd ≤ 4) (hrt : 0 ≤ rt ∧ rt ≤ 8) (ha : 0 ≤ a ∧ a < 1000000) (hn : s.n = 4) (hon : s.on = true) (hk : (0 : Int) ≤ 3 ∧ 3 < wd) :
    Calls Try.prog 124 #[.pointer (some ⟨b, 0, none⟩)] w fun e w' => e = .returned (.tuple #[.agg #[.int .i64 1, .int .i64 (a + 1 + 3), .int .u32 0], .bool true]) ∧ Upd [] w w' := by
  obtain ⟨x0, x1, x2, x3, x4, x5, x6, x17⟩ := h.pl
  obtain ⟨x7, x8, x9, x10⟩ := h.vs
  rw [hn] at x5
  rw [hon] at x17
  have lb := heap_lt h.h
  have HN := Lib.hid (fun (w1 : World) (hu : Upd [] w w1) => lk_count a wd rt (h.keep hu (by simp)) hw hrt)
  have HC := Lib.hid (fun (w1 : World) (hu : Upd [] w w1) => lk_data a wd rt 3 (h.keep hu (by simp)) hw hrt ha hk)
  have qk : decide ((3 : Int) < wd) = true := by simp; omega
  clear h hn hon hrt ha hw hk
  go_enter Try.func124, Try.ntmps124
  go_wp2_with (first
    | (go_at_call 121; (with_reducible refine (HN.out _ (by repeat (first | (with_reducible exact Upd.refl _ _) | (with_reducible apply Upd.drew) | (with_reducible refine Upd.grE ?_ _) | (with_reducible refine Upd.alloc ?_ _)))).mono ?_); rintro e w1 ⟨rfl, hu1⟩; obtain ⟨p1, rfl⟩ := hu1.grown; clear hu1)
    | (go_at_call 122; (with_reducible refine (HC.out _ (by repeat (first | (with_reducible exact Upd.refl _ _) | (with_reducible apply Upd.drew) | (with_reducible refine Upd.grE ?_ _) | (with_reducible refine Upd.alloc ?_ _) | (with_reducible refine Upd.setB ?_ (.inr (by simp)))))).mono ?_); rintro e w2 ⟨rfl, hu2⟩; obtain ⟨p2, rfl⟩ := hu2.grown; clear hu2))
  refine ret_act' rfl (g := w.heap.size) (t := 41) (fr := (0, 0)) (x := .int .i64 1) (y := .int .i64 (a + 1 + 3)) (z := .int .u32 0) rfl rfl rfl (hg := ?hg) ?_
  case hg => repeat (first | ((with_reducible refine heap_alloc_at _ ?_); (first | rfl | (simp; done))) | (with_reducible apply heap_drewE) | (with_reducible apply heap_grE) | (with_reducible apply heap_alloc') | (with_reducible apply heap_set2))
  exact ⟨rfl, (by repeat (first | (with_reducible exact Upd.refl _ _) | (with_reducible apply Upd.drew) | (with_reducible refine Upd.grE ?_ _) | (with_reducible refine Upd.alloc ?_ _) | (with_reducible refine Upd.setB ?_ (.inr (by simp)))))⟩
set_option maxRecDepth 100000 in
set_option maxHeartbeats 1000000 in
theorem lkr_fails0 (n seq v0 v1 v2 v3 f r0 r1 r2 r3 tries : Int) (h : LG a wd rt w b 150 [.int .i64 0, .int .i64 tries] ⟨n, seq, v0, v1, v2, v3, f, r0, r1, r2, r3, true, true⟩) :
    Calls Try.prog 127 #[.pointer (some ⟨b, 0, none⟩)] w fun e w' => e = .returned (.tuple #[]) ∧ LG a wd rt w' b 150 [.int .i64 0, .int .i64 tries] ⟨0, seq, 0, 0, 0, 0, 8, r0, r1, r2, r3, true, false⟩ ∧ Upd [b] w w' := by
  have xf := fun j => h.fz j
  have lb := heap_lt h.h
  have nb : w.heap.size ≠ b := by omega
  have nb' : b ≠ w.heap.size := by omega
  obtain ⟨x0, x1, x2, x3, x4, x5, x6, x17⟩ := h.pl
  obtain ⟨x7, x8, x9, x10⟩ := h.vs
  obtain ⟨x11, x12, x13, x14, x15, x16⟩ := h.rs
  have x18 := h.cell 18
  have x19 := h.cell 19
  simp only [lkC, List.cons_append, List.nil_append, List.getElem?_cons_succ, List.getElem?_cons_zero] at x18 x19
  have HX := Lib.hid h.h
  clear h
  go_enter Try.func127, Try.ntmps127
  go_wp2
  first | refine bodyPost_ret (results_none rfl _ _ _) rfl ?_ | go_end0
  refine ⟨rfl, ⟨?hg⟩, ?_⟩
  case hg =>
    unfold lkC at *
    repeat (first | (with_reducible exact HX.out) | (with_reducible apply heap_set2) | (with_reducible apply heap_drew') | (with_reducible apply heap_alloc'))
    all_goals rfl
  repeat (first | (with_reducible refine Upd.setCell ?_ (by simp) _) | (with_reducible refine Upd.drew ?_) | (with_reducible refine Upd.alloc ?_ _))
  exact Upd.refl _ _
set_option maxRecDepth 100000 in
set_option maxHeartbeats 1000000 in
theorem lkr_fails1 (n seq v0 v1 v2 v3 f r0 r1 r2 r3 left tries : Int) (hl : left ≠ 0) (h : LG a wd rt w b 150 [.int .i64 left, .int .i64 tries] ⟨n, seq, v0, v1, v2, v3, f, r0, r1, r2, r3, true, true⟩) :
    Calls Try.prog 127 #[.pointer (some ⟨b, 0, none⟩)] w fun e w' => e = .returned (.tuple #[]) ∧ LG a wd rt w' b 150 [.int .i64 (wrap64 (left - 1)), .int .i64 (wrap64 (tries + 1))] ⟨0, seq, 0, 0, 0, 0, f, r0, r1, r2, r3, true, true⟩ ∧ Upd [b] w w' := by
  have xf := fun j => h.fz j
  have lb := heap_lt h.h
  have nb : w.heap.size ≠ b := by omega
  have nb' : b ≠ w.heap.size := by omega
  obtain ⟨x0, x1, x2, x3, x4, x5, x6, x17⟩ := h.pl
  obtain ⟨x7, x8, x9, x10⟩ := h.vs
  obtain ⟨x11, x12, x13, x14, x15, x16⟩ := h.rs
  have x18 := h.cell 18
  have x19 := h.cell 19
  simp only [lkC, List.cons_append, List.nil_append, List.getElem?_cons_succ, List.getElem?_cons_zero] at x18 x19
  have HX := Lib.hid h.h
  have hl1 : (left == 0) = false := by simpa using hl
  clear hl
  clear h
  go_enter Try.func127, Try.ntmps127
  go_wp2
  first | refine bodyPost_ret (results_none rfl _ _ _) rfl ?_ | go_end0
  refine ⟨rfl, ⟨?hg⟩, ?_⟩
  case hg =>
    unfold lkC at *
    repeat (first | (with_reducible exact HX.out) | (with_reducible apply heap_set2) | (with_reducible apply heap_drew') | (with_reducible apply heap_alloc'))
    all_goals rfl
  repeat (first | (with_reducible refine Upd.setCell ?_ (by simp) _) | (with_reducible refine Upd.drew ?_) | (with_reducible refine Upd.alloc ?_ _))
  exact Upd.refl _ _
set_option maxRecDepth 100000 in
set_option maxHeartbeats 1000000 in
theorem lkr_odd {p : Nat} {g : Int} (hp : w.cell? ⟨p, 0, none⟩ = some (.int .u32 g)) : Calls Try.prog 128 #[.pointer (some ⟨p, 0, none⟩)] w fun e w' => e = .returned (.bool (bits .and .u32 g 1 == 1)) ∧ w = w' := by
  go_enter Try.func128, Try.ntmps128
  go_wp2
  go_ret
  exact ⟨rfl, rfl⟩
theorem end0L {P : Program} {fn : Func} {R : Ending → World → Prop} {a : Act} {w : World} (hr : fn.results = #[]) (hd : a.defers = []) (hR : R (.returned (.tuple #[])) w) : Exit.noGoto (bodyPost P fn R) .normal a w := by
  show bodyPost P fn R .normal a w
  exact bodyPost_end (results_none hr _ _ _) hd hR
set_option maxRecDepth 100000 in
set_option maxHeartbeats 1000000 in
theorem lkr_take_odd0 (g seq v0 v1 v2 v3 f r0 r1 r2 r3 left tries : Int) (hg : (bits .and .u32 g 1 == 1) = true) (hl : left = 0) (h : LG a wd rt w b 150 [.int .i64 left, .int .i64 tries] ⟨0, seq, v0, v1, v2, v3, f, r0, r1, r2, r3, true, true⟩) :
    Calls Try.prog 126 #[.pointer (some ⟨b, 0, none⟩), .int .u32 g] w fun e w' => e = .returned (.tuple #[]) ∧ LG a wd rt w' b 150 [.int .i64 left, .int .i64 tries] ⟨0, seq, 0, 0, 0, 0, 8, r0, r1, r2, r3, true, false⟩ ∧ Upd [b] w w' := by
  have xf := fun j => h.fz j
  have lb := heap_lt h.h
  have nb : w.heap.size ≠ b := by omega
  have nb' : b ≠ w.heap.size := by omega
  obtain ⟨x0, x1, x2, x3, x4, x5, x6, x17⟩ := h.pl
  obtain ⟨x7, x8, x9, x10⟩ := h.vs
  obtain ⟨x11, x12, x13, x14, x15, x16⟩ := h.rs
  have x18 := h.cell 18
  have x19 := h.cell 19
  simp only [lkC, List.cons_append, List.nil_append, List.getElem?_cons_succ, List.getElem?_cons_zero] at x18 x19
  have HX := Lib.hid h.h
  have hmf : ∀ (fn : Fn) (first cap : Array Value) (w : World), (Instr.makeFunc fn first cap).run Try.prog w = .ok (.func fn first cap) w := fun _ _ _ _ => rfl
  have HO := Lib.hid (lkr_odd (cell_of_heap (heap_alloc_new w (.cells #[.int .u32 g] 32)) 0))
  subst hl
  clear h
  go_enter Try.func126, Try.ntmps126
  go_wp2
  refine wp_scope_jump1 0 rfl ?_
  intro K HK
  go_wp2_with (go_at_call 128; refine (HO.out).mono ?_; rintro e w1 ⟨rfl, rfl⟩)
  go_step3
  refine And.intro rfl (HK.out _ _ ?_)
  clear HK
  go_wp2_with (go_at_call 127; refine (lkr_fails0 _ _ _ _ _ _ _ _ _ _ _ _ _ _ _ (by first | exact LG.mk (heap_alloc' HX.out) | exact LG.mk (heap_drew' (heap_alloc' HX.out)))).mono ?_; rintro e w2 ⟨rfl, hw2, hu2⟩)
  refine end0L rfl rfl ?_
  refine ⟨rfl, hw2, ?_⟩
  refine Upd.trans ?_ hu2
  repeat (first | (with_reducible refine Upd.drew ?_) | (with_reducible refine Upd.alloc ?_ _))
  exact Upd.refl _ _
set_option maxRecDepth 100000 in
set_option maxHeartbeats 1000000 in
theorem lkr_take_odd1 (g seq v0 v1 v2 v3 f r0 r1 r2 r3 left tries : Int) (hg : (bits .and .u32 g 1 == 1) = true) (hl : left ≠ 0) (h : LG a wd rt w b 150 [.int .i64 left, .int .i64 tries] ⟨0, seq, v0, v1, v2, v3, f, r0, r1, r2, r3, true, true⟩) :
    Calls Try.prog 126 #[.pointer (some ⟨b, 0, none⟩), .int .u32 g] w fun e w' => e = .returned (.tuple #[]) ∧ LG a wd rt w' b 150 [.int .i64 (wrap64 (left - 1)), .int .i64 (wrap64 (tries + 1))] ⟨0, seq, 0, 0, 0, 0, f, r0, r1, r2, r3, true, true⟩ ∧ Upd [b] w w' := by
  have xf := fun j => h.fz j
  have lb := heap_lt h.h
  have nb : w.heap.size ≠ b := by omega
  have nb' : b ≠ w.heap.size := by omega
  obtain ⟨x0, x1, x2, x3, x4, x5, x6, x17⟩ := h.pl
  obtain ⟨x7, x8, x9, x10⟩ := h.vs
  obtain ⟨x11, x12, x13, x14, x15, x16⟩ := h.rs
  have x18 := h.cell 18
  have x19 := h.cell 19
  simp only [lkC, List.cons_append, List.nil_append, List.getElem?_cons_succ, List.getElem?_cons_zero] at x18 x19
  have HX := Lib.hid h.h
  have hmf : ∀ (fn : Fn) (first cap : Array Value) (w : World), (Instr.makeFunc fn first cap).run Try.prog w = .ok (.func fn first cap) w := fun _ _ _ _ => rfl
  have HO := Lib.hid (lkr_odd (cell_of_heap (heap_alloc_new w (.cells #[.int .u32 g] 32)) 0))
  have HL := Lib.hid hl
  clear hl
  clear h
  go_enter Try.func126, Try.ntmps126
  go_wp2
  refine wp_scope_jump1 0 rfl ?_
  intro K HK
  go_wp2_with (go_at_call 128; refine (HO.out).mono ?_; rintro e w1 ⟨rfl, rfl⟩)
  go_step3
  refine And.intro rfl (HK.out _ _ ?_)
  clear HK
  go_wp2_with (go_at_call 127; refine (lkr_fails1 _ _ _ _ _ _ _ _ _ _ _ _ _ _ _ _ HL.out (by first | exact LG.mk (heap_alloc' HX.out) | exact LG.mk (heap_drew' (heap_alloc' HX.out)))).mono ?_; rintro e w2 ⟨rfl, hw2, hu2⟩)
  refine end0L rfl rfl ?_
  refine ⟨rfl, hw2, ?_⟩
  refine Upd.trans ?_ hu2
  repeat (first | (with_reducible refine Upd.drew ?_) | (with_reducible refine Upd.alloc ?_ _))
  exact Upd.refl _ _
set_option maxRecDepth 100000 in
set_option maxHeartbeats 1000000 in
theorem lkr_take_even_1 (g seq v0 v1 v2 v3 f r0 r1 r2 r3 left tries : Int) (hg : (bits .and .u32 g 1 == 1) = false) (h : LG a 1 rt w b 150 [.int .i64 left, .int .i64 tries] ⟨0, seq, v0, v1, v2, v3, f, r0, r1, r2, r3, true, true⟩) :
    Calls Try.prog 126 #[.pointer (some ⟨b, 0, none⟩), .int .u32 g] w fun e w' => e = .returned (.tuple #[]) ∧ LG a 1 rt w' b 150 [.int .i64 left, .int .i64 tries] ⟨1, g, v0, v1, v2, v3, f, r0, r1, r2, r3, true, true⟩ ∧ Upd [b] w w' := by
  have xf := fun j => h.fz j
  have lb := heap_lt h.h
  have nb : w.heap.size ≠ b := by omega
  have nb' : b ≠ w.heap.size := by omega
  obtain ⟨x0, x1, x2, x3, x4, x5, x6, x17⟩ := h.pl
  obtain ⟨x7, x8, x9, x10⟩ := h.vs
  obtain ⟨x11, x12, x13, x14, x15, x16⟩ := h.rs
  have x18 := h.cell 18
  have x19 := h.cell 19
  simp only [lkC, List.cons_append, List.nil_append, List.getElem?_cons_succ, List.getElem?_cons_zero] at x18 x19
  have HX := Lib.hid h.h
  have hmf : ∀ (fn : Fn) (first cap : Array Value) (w : World), (Instr.makeFunc fn first cap).run Try.prog w = .ok (.func fn first cap) w := fun _ _ _ _ => rfl
  have HO := Lib.hid (lkr_odd (cell_of_heap (heap_alloc_new w (.cells #[.int .u32 g] 32)) 0))
  clear h
  go_enter Try.func126, Try.ntmps126
  go_wp2
  go_step3
  go_wp2_with (go_at_call 128; refine (HO.out).mono ?_; rintro e w1 ⟨rfl, rfl⟩)
  go_region
  go_wp2
  first | rw [Exit.noGoto_ret] | skip
  first | refine bodyPost_ret (results_none rfl _ _ _) rfl ?_ | go_end0
  refine ⟨rfl, ⟨?hg⟩, ?_⟩
  case hg =>
    unfold lkC at *
    repeat (first | (with_reducible exact HX.out) | (with_reducible apply heap_set2) | (with_reducible apply heap_drew') | (with_reducible apply heap_alloc'))
    all_goals rfl
  repeat (first | (with_reducible refine Upd.setCell ?_ (by simp) _) | (with_reducible refine Upd.drew ?_) | (with_reducible refine Upd.alloc ?_ _))
  exact Upd.refl _ _
set_option maxRecDepth 100000 in
set_option maxHeartbeats 1000000 in
theorem lkr_take_even_2 (g seq v0 v1 v2 v3 f r0 r1 r2 r3 left tries : Int) (hg : (bits .and .u32 g 1 == 1) = false) (h : LG a 2 rt w b 150 [.int .i64 left, .int .i64 tries] ⟨0, seq, v0, v1, v2, v3, f, r0, r1, r2, r3, true, true⟩) :
    Calls Try.prog 126 #[.pointer (some ⟨b, 0, none⟩), .int .u32 g] w fun e w' => e = .returned (.tuple #[]) ∧ LG a 2 rt w' b 150 [.int .i64 left, .int .i64 tries] ⟨1, g, v0, v1, v2, v3, f, r0, r1, r2, r3, true, true⟩ ∧ Upd [b] w w' := by
  have xf := fun j => h.fz j
  have lb := heap_lt h.h
  have nb : w.heap.size ≠ b := by omega
  have nb' : b ≠ w.heap.size := by omega
  obtain ⟨x0, x1, x2, x3, x4, x5, x6, x17⟩ := h.pl
  obtain ⟨x7, x8, x9, x10⟩ := h.vs
  obtain ⟨x11, x12, x13, x14, x15, x16⟩ := h.rs
  have x18 := h.cell 18
  have x19 := h.cell 19
  simp only [lkC, List.cons_append, List.nil_append, List.getElem?_cons_succ, List.getElem?_cons_zero] at x18 x19
  have HX := Lib.hid h.h
  have hmf : ∀ (fn : Fn) (first cap : Array Value) (w : World), (Instr.makeFunc fn first cap).run Try.prog w = .ok (.func fn first cap) w := fun _ _ _ _ => rfl
  have HO := Lib.hid (lkr_odd (cell_of_heap (heap_alloc_new w (.cells #[.int .u32 g] 32)) 0))
  clear h
  go_enter Try.func126, Try.ntmps126
  go_wp2
  go_step3
  go_wp2_with (go_at_call 128; refine (HO.out).mono ?_; rintro e w1 ⟨rfl, rfl⟩)
  go_region
  go_wp2
  first | rw [Exit.noGoto_ret] | skip
  first | refine bodyPost_ret (results_none rfl _ _ _) rfl ?_ | go_end0
  refine ⟨rfl, ⟨?hg⟩, ?_⟩
  case hg =>
    unfold lkC at *
    repeat (first | (with_reducible exact HX.out) | (with_reducible apply heap_set2) | (with_reducible apply heap_drew') | (with_reducible apply heap_alloc'))
    all_goals rfl
  repeat (first | (with_reducible refine Upd.setCell ?_ (by simp) _) | (with_reducible refine Upd.drew ?_) | (with_reducible refine Upd.alloc ?_ _))
  exact Upd.refl _ _
set_option maxRecDepth 100000 in
set_option maxHeartbeats 1000000 in
theorem lkr_take_even_3 (g seq v0 v1 v2 v3 f r0 r1 r2 r3 left tries : Int) (hg : (bits .and .u32 g 1 == 1) = false) (h : LG a 3 rt w b 150 [.int .i64 left, .int .i64 tries] ⟨0, seq, v0, v1, v2, v3, f, r0, r1, r2, r3, true, true⟩) :
    Calls Try.prog 126 #[.pointer (some ⟨b, 0, none⟩), .int .u32 g] w fun e w' => e = .returned (.tuple #[]) ∧ LG a 3 rt w' b 150 [.int .i64 left, .int .i64 tries] ⟨1, g, v0, v1, v2, v3, f, r0, r1, r2, r3, true, true⟩ ∧ Upd [b] w w' := by
  have xf := fun j => h.fz j
  have lb := heap_lt h.h
  have nb : w.heap.size ≠ b := by omega
  have nb' : b ≠ w.heap.size := by omega
  obtain ⟨x0, x1, x2, x3, x4, x5, x6, x17⟩ := h.pl
  obtain ⟨x7, x8, x9, x10⟩ := h.vs
  obtain ⟨x11, x12, x13, x14, x15, x16⟩ := h.rs
  have x18 := h.cell 18
  have x19 := h.cell 19
  simp only [lkC, List.cons_append, List.nil_append, List.getElem?_cons_succ, List.getElem?_cons_zero] at x18 x19
  have HX := Lib.hid h.h
  have hmf : ∀ (fn : Fn) (first cap : Array Value) (w : World), (Instr.makeFunc fn first cap).run Try.prog w = .ok (.func fn first cap) w := fun _ _ _ _ => rfl
  have HO := Lib.hid (lkr_odd (cell_of_heap (heap_alloc_new w (.cells #[.int .u32 g] 32)) 0))
  clear h
  go_enter Try.func126, Try.ntmps126
  go_wp2
  go_step3
  go_wp2_with (go_at_call 128; refine (HO.out).mono ?_; rintro e w1 ⟨rfl, rfl⟩)
  go_region
  go_wp2
  first | rw [Exit.noGoto_ret] | skip
  first | refine bodyPost_ret (results_none rfl _ _ _) rfl ?_ | go_end0
  refine ⟨rfl, ⟨?hg⟩, ?_⟩
  case hg =>
    unfold lkC at *
    repeat (first | (with_reducible exact HX.out) | (with_reducible apply heap_set2) | (with_reducible apply heap_drew') | (with_reducible apply heap_alloc'))
    all_goals rfl
  repeat (first | (with_reducible refine Upd.setCell ?_ (by simp) _) | (with_reducible refine Upd.drew ?_) | (with_reducible refine Upd.alloc ?_ _))
  exact Upd.refl _ _
set_option maxRecDepth 100000 in
set_option maxHeartbeats 1000000 in
theorem lkr_take_even_4 (g seq v0 v1 v2 v3 f r0 r1 r2 r3 left tries : Int) (hg : (bits .and .u32 g 1 == 1) = false) (h : LG a 4 rt w b 150 [.int .i64 left, .int .i64 tries] ⟨0, seq, v0, v1, v2, v3, f, r0, r1, r2, r3, true, true⟩) :
    Calls Try.prog 126 #[.pointer (some ⟨b, 0, none⟩), .int .u32 g] w fun e w' => e = .returned (.tuple #[]) ∧ LG a 4 rt w' b 150 [.int .i64 left, .int .i64 tries] ⟨1, g, v0, v1, v2, v3, f, r0, r1, r2, r3, true, true⟩ ∧ Upd [b] w w' := by
  have xf := fun j => h.fz j
  have lb := heap_lt h.h
  have nb : w.heap.size ≠ b := by omega
  have nb' : b ≠ w.heap.size := by omega
  obtain ⟨x0, x1, x2, x3, x4, x5, x6, x17⟩ := h.pl
  obtain ⟨x7, x8, x9, x10⟩ := h.vs
  obtain ⟨x11, x12, x13, x14, x15, x16⟩ := h.rs
  have x18 := h.cell 18
  have x19 := h.cell 19
  simp only [lkC, List.cons_append, List.nil_append, List.getElem?_cons_succ, List.getElem?_cons_zero] at x18 x19
  have HX := Lib.hid h.h
  have hmf : ∀ (fn : Fn) (first cap : Array Value) (w : World), (Instr.makeFunc fn first cap).run Try.prog w = .ok (.func fn first cap) w := fun _ _ _ _ => rfl
  have HO := Lib.hid (lkr_odd (cell_of_heap (heap_alloc_new w (.cells #[.int .u32 g] 32)) 0))
  clear h
  go_enter Try.func126, Try.ntmps126
  go_wp2
  go_step3
  go_wp2_with (go_at_call 128; refine (HO.out).mono ?_; rintro e w1 ⟨rfl, rfl⟩)
  go_region
  go_wp2
  first | rw [Exit.noGoto_ret] | skip
  first | refine bodyPost_ret (results_none rfl _ _ _) rfl ?_ | go_end0
  refine ⟨rfl, ⟨?hg⟩, ?_⟩
  case hg =>
    unfold lkC at *
    repeat (first | (with_reducible exact HX.out) | (with_reducible apply heap_set2) | (with_reducible apply heap_drew') | (with_reducible apply heap_alloc'))
    all_goals rfl
  repeat (first | (with_reducible refine Upd.setCell ?_ (by simp) _) | (with_reducible refine Upd.drew ?_) | (with_reducible refine Upd.alloc ?_ _))
  exact Upd.refl _ _
end
end Go.Proofs.Ytnnakiojfpnphaa
