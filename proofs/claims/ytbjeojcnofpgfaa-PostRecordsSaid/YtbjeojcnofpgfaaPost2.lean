/- Package post: what a Put does next. -/
import Derived.Test.YtbjeojcnofpgfaaPost1
import Derived.Test.YtbjeojcnofpgfaaRing14
import Derived.Lib.BitFns
set_option linter.unusedVariables false
set_option linter.unusedSimpArgs false
namespace Go.Proofs.Ytbjeojcnofpgfaa
open Go.RowKit

set_option maxHeartbeats 4000000 in
set_option maxRecDepth 100000 in
theorem tab255 (hi : 255 < Lib.len8tab.size) : (Lib.len8tab[255]'hi).toNat = 8 := by
  first | rfl | kernel_rfl | decide
set_option maxHeartbeats 4000000 in
set_option maxRecDepth 100000 in
theorem len32_top (x : Int) (w : World) (hx : x = 4294967295) :
    Calls Try.prog 152 #[.int .u32 x] w fun e w' => e = .returned (.int .i64 32) ∧ w' = w := by
  have h0 : 0 ≤ x := by omega
  have h1 : x ≤ 4294967295 := by omega
  have hs : Lib.len8tab.size = 256 := by kernel_rfl
  have d1 : decide (65536 ≤ x) = true := by simp; omega
  have d2 : decide (256 ≤ x / 65536) = true := by simp; omega
  have hb : x / 65536 / 256 < 256 := by omega
  have HX := Lib.hid hx
  clear hx
  go_enter Try.func152, Try.ntmps152
  go_wp2
  go_ret
  refine ⟨congrArg Ending.returned (congrArg (Value.int IntKind.i64) ?_), rfl⟩
  have hx := HX.out
  subst hx
  have e : ((4294967295 : Int) / 65536 / 256).toNat = 255 := by decide
  simp only [e, tab255]
  unfold wrap64
  omega
set_option maxRecDepth 100000 in
set_option maxHeartbeats 2000000 in
theorem more_zero (w : World) : Calls Try.prog 134 #[.int .u32 0] w fun e w' => e = .returned (.int .u32 1) ∧ w' = w := by
  have HLN := Lib.hid (show ∀ w, Calls Try.prog 152 #[.int .u32 4294967295] w fun e w' => e = .returned (.int .i64 32) ∧ w' = w from fun w => by
    exact len32_top 4294967295 w rfl)
  go_enter Try.func134, Try.ntmps134
  go_wp2_with (go_at_call 152; refine (HLN.out _).mono ?_; rintro e w1 ⟨rfl, rfl⟩)
  go_ret
  exact ⟨rfl, rfl⟩
set_option maxRecDepth 100000 in
set_option maxHeartbeats 2000000 in
theorem hand_put_0 {cap ov : Int} {w : World} {b : Nat} {s : HdS} (h : HD cap ov w b s) (hn : s.n = 0) (hc : Cap5 cap)  :
    Calls Try.prog 85 #[.pointer (some ⟨b, 0, none⟩)] w fun e w' => e = .returned (.agg #[.int .i64 1, .int .i64 1, .int .u32 0]) ∧ Upd [] w w' := by
  obtain ⟨x0, x1, x2, x3, x4, x5, x6, x7, x8, x9, x10, x11, x12, x13, x14, x15, x16, x17⟩ := h.cells
  rw [hn] at x9
  have lb := heap_lt h.h
  have HG := Lib.hid h
  have hmf : ∀ (fn : Fn) (first cap : Array Value) (w : World), (Instr.makeFunc fn first cap).run Try.prog w = .ok (.func fn first cap) w := fun _ _ _ _ => rfl
  have hbx : ((w.alloc (.cells #[.pointer (some ⟨b, 0, none⟩)] 73)).alloc (.cells #[.int .i64 0, .int .i64 0, .int .u32 0] 80)).cell? ⟨w.heap.size, 0, none⟩ = some (.pointer (some ⟨b, 0, none⟩)) := by rw [cell_of_heap (heap_alloc' (heap_alloc_new _ _))]; rfl
  have hzz : ((w.alloc (.cells #[.pointer (some ⟨b, 0, none⟩)] 73)).alloc (.cells #[.int .i64 0, .int .i64 0, .int .u32 0] 80)).heap[w.heap.size + 1]? = some (.cells #[.int .i64 0, .int .i64 0, .int .u32 0] 80 (0, 0)) := heap_alloc_at _ (by simp)
  have hu1 : Upd [] w ((w.alloc (.cells #[.pointer (some ⟨b, 0, none⟩)] 73)).alloc (.cells #[.int .i64 0, .int .i64 0, .int .u32 0] 80)) := ((Upd.refl [] w).alloc _).alloc _
  have ne1 : w.heap.size ≠ w.heap.size + 1 := by omega
  have ne2 : b ≠ w.heap.size + 1 := by omega
  have ne3 : w.heap.size + 1 ≠ w.heap.size := by omega
  have ne4 : w.heap.size + 1 ≠ b := by omega
  have HAH := Lib.hid fun W' (k : Upd [] ((w.alloc (.cells #[.pointer (some ⟨b, 0, none⟩)] 73)).alloc (.cells #[.int .i64 0, .int .i64 0, .int .u32 0] 80)) W') => hand_at_head ((k.cell (p := ⟨w.heap.size, 0, none⟩) (by simp; omega) (by simp)).trans hbx) (h.keep (hu1.trans k) (by simp)) hc
  have HAT := Lib.hid fun W' (k : Upd [] ((w.alloc (.cells #[.pointer (some ⟨b, 0, none⟩)] 73)).alloc (.cells #[.int .i64 0, .int .i64 0, .int .u32 0] 80)) W') => hand_at_tail ((k.cell (p := ⟨w.heap.size, 0, none⟩) (by simp; omega) (by simp)).trans hbx) (h.keep (hu1.trans k) (by simp)) hc
  have HFU := Lib.hid fun W' (k : Upd [] ((w.alloc (.cells #[.pointer (some ⟨b, 0, none⟩)] 73)).alloc (.cells #[.int .i64 0, .int .i64 0, .int .u32 0] 80)) W') => hand_full (s := s) (((hu1.trans k).cell (p := ⟨b, 2, none⟩) lb (by simp)).trans x2) (((hu1.trans k).cell (p := ⟨b, 10, none⟩) lb (by simp)).trans x10) (((hu1.trans k).cell (p := ⟨b, 11, none⟩) lb (by simp)).trans x11) hc
  have HU1 := Lib.hid hu1
  have HZZ := Lib.hid hzz
  clear h hn hc
  go_enter Try.func85, Try.ntmps85
  go_wp2
  go_step3
  go_wp2_with (go_at_call 132; refine (HAT.out _ (by first | exact Upd.refl _ _ | exact (Upd.refl _ _).drew | exact (Upd.refl _ _).drewN _ | exact ((Upd.refl _ _).drewN _).drew | exact HK1.out | exact HK1.out.drew | exact HK1.out.drewN _)).mono ?_; rintro e w2 ⟨rfl, hux⟩; have hk1 : Upd [] ((w.alloc (.cells #[.pointer (some ⟨b, 0, none⟩)] 73)).alloc (.cells #[.int .i64 0, .int .i64 0, .int .u32 0] 80)) w2 := (by first | exact hux | exact hux.of_drew | exact hux.of_drewN | exact hux.of_drew.of_drewN | exact (HK1.out.trans hux) | exact (HK1.out.trans hux.of_drew) | exact (Upd.of_drewN (Upd.of_drew hux))); have HK1 := Lib.hid hk1; have hz := hk1.keepb (k := w.heap.size + 1) hzz (by simp); have HZ := Lib.hid hz; obtain ⟨z0, z1, z2⟩ := cells3 hz; have zf := fun j => frozen_of_heap hz j; have lz := heap_lt hz; have bx_w2 := (hk1.cell (p := ⟨w.heap.size, 0, none⟩) (by simp; omega) (by simp)).trans hbx;  clear hz hk1 hux)
  all_goals
    rw [Exit.noGoto_ret]
    refine bodyPost_ret (v := .agg #[.int .i64 1, .int .i64 1, .int .u32 0]) (results_cell_row rfl _ _ (w.heap.size + 1) 80 [.int .i64 1, .int .i64 1, .int .u32 0].toArray (0, 0) _ rfl ?hg Try.underlying80 rfl (info_act3 _ _ _)) rfl ?_
    case hg =>
      repeat (first | (with_reducible exact HZ.out) | (with_reducible exact HZZ.out) | (with_reducible apply heap_set2) | (with_reducible apply heap_drew') | (with_reducible apply heap_drewN'))
      all_goals first | rfl | simp
    refine ⟨rfl, ?_⟩
    repeat (first | (with_reducible refine Upd.setCell ?_ (by simp) _) | (with_reducible refine Upd.drew ?_) | (with_reducible refine Upd.drewN ?_ _))
    first | exact HU1.out.trans HK1.out | exact HU1.out
set_option maxRecDepth 100000 in
set_option maxHeartbeats 2000000 in
theorem hand_put_1 {cap ov : Int} {w : World} {b : Nat} {s : HdS} (h : HD cap ov w b s) (hn : s.n = 1) (hc : Cap5 cap)  :
    Calls Try.prog 85 #[.pointer (some ⟨b, 0, none⟩)] w fun e w' => e = .returned (.agg #[.int .i64 1, .int .i64 0, .int .u32 0]) ∧ Upd [] w w' := by
  obtain ⟨x0, x1, x2, x3, x4, x5, x6, x7, x8, x9, x10, x11, x12, x13, x14, x15, x16, x17⟩ := h.cells
  rw [hn] at x9
  have lb := heap_lt h.h
  have HG := Lib.hid h
  have hmf : ∀ (fn : Fn) (first cap : Array Value) (w : World), (Instr.makeFunc fn first cap).run Try.prog w = .ok (.func fn first cap) w := fun _ _ _ _ => rfl
  have hbx : ((w.alloc (.cells #[.pointer (some ⟨b, 0, none⟩)] 73)).alloc (.cells #[.int .i64 0, .int .i64 0, .int .u32 0] 80)).cell? ⟨w.heap.size, 0, none⟩ = some (.pointer (some ⟨b, 0, none⟩)) := by rw [cell_of_heap (heap_alloc' (heap_alloc_new _ _))]; rfl
  have hzz : ((w.alloc (.cells #[.pointer (some ⟨b, 0, none⟩)] 73)).alloc (.cells #[.int .i64 0, .int .i64 0, .int .u32 0] 80)).heap[w.heap.size + 1]? = some (.cells #[.int .i64 0, .int .i64 0, .int .u32 0] 80 (0, 0)) := heap_alloc_at _ (by simp)
  have hu1 : Upd [] w ((w.alloc (.cells #[.pointer (some ⟨b, 0, none⟩)] 73)).alloc (.cells #[.int .i64 0, .int .i64 0, .int .u32 0] 80)) := ((Upd.refl [] w).alloc _).alloc _
  have ne1 : w.heap.size ≠ w.heap.size + 1 := by omega
  have ne2 : b ≠ w.heap.size + 1 := by omega
  have ne3 : w.heap.size + 1 ≠ w.heap.size := by omega
  have ne4 : w.heap.size + 1 ≠ b := by omega
  have HAH := Lib.hid fun W' (k : Upd [] ((w.alloc (.cells #[.pointer (some ⟨b, 0, none⟩)] 73)).alloc (.cells #[.int .i64 0, .int .i64 0, .int .u32 0] 80)) W') => hand_at_head ((k.cell (p := ⟨w.heap.size, 0, none⟩) (by simp; omega) (by simp)).trans hbx) (h.keep (hu1.trans k) (by simp)) hc
  have HAT := Lib.hid fun W' (k : Upd [] ((w.alloc (.cells #[.pointer (some ⟨b, 0, none⟩)] 73)).alloc (.cells #[.int .i64 0, .int .i64 0, .int .u32 0] 80)) W') => hand_at_tail ((k.cell (p := ⟨w.heap.size, 0, none⟩) (by simp; omega) (by simp)).trans hbx) (h.keep (hu1.trans k) (by simp)) hc
  have HFU := Lib.hid fun W' (k : Upd [] ((w.alloc (.cells #[.pointer (some ⟨b, 0, none⟩)] 73)).alloc (.cells #[.int .i64 0, .int .i64 0, .int .u32 0] 80)) W') => hand_full (s := s) (((hu1.trans k).cell (p := ⟨b, 2, none⟩) lb (by simp)).trans x2) (((hu1.trans k).cell (p := ⟨b, 10, none⟩) lb (by simp)).trans x10) (((hu1.trans k).cell (p := ⟨b, 11, none⟩) lb (by simp)).trans x11) hc
  have HU1 := Lib.hid hu1
  have HZZ := Lib.hid hzz
  clear h hn hc
  go_enter Try.func85, Try.ntmps85
  go_wp2
  go_step3
  go_wp2_with (go_at_call 132; refine (HAH.out _ (by first | exact Upd.refl _ _ | exact (Upd.refl _ _).drew | exact (Upd.refl _ _).drewN _ | exact ((Upd.refl _ _).drewN _).drew | exact HK1.out | exact HK1.out.drew | exact HK1.out.drewN _)).mono ?_; rintro e w2 ⟨rfl, hux⟩; have hk1 : Upd [] ((w.alloc (.cells #[.pointer (some ⟨b, 0, none⟩)] 73)).alloc (.cells #[.int .i64 0, .int .i64 0, .int .u32 0] 80)) w2 := (by first | exact hux | exact hux.of_drew | exact hux.of_drewN | exact hux.of_drew.of_drewN | exact (HK1.out.trans hux) | exact (HK1.out.trans hux.of_drew) | exact (Upd.of_drewN (Upd.of_drew hux))); have HK1 := Lib.hid hk1; have hz := hk1.keepb (k := w.heap.size + 1) hzz (by simp); have HZ := Lib.hid hz; obtain ⟨z0, z1, z2⟩ := cells3 hz; have zf := fun j => frozen_of_heap hz j; have lz := heap_lt hz; have bx_w2 := (hk1.cell (p := ⟨w.heap.size, 0, none⟩) (by simp; omega) (by simp)).trans hbx;  clear hz hk1 hux)
  all_goals
    rw [Exit.noGoto_ret]
    refine bodyPost_ret (v := .agg #[.int .i64 1, .int .i64 0, .int .u32 0]) (results_cell_row rfl _ _ (w.heap.size + 1) 80 [.int .i64 1, .int .i64 0, .int .u32 0].toArray (0, 0) _ rfl ?hg Try.underlying80 rfl (info_act3 _ _ _)) rfl ?_
    case hg =>
      repeat (first | (with_reducible exact HZ.out) | (with_reducible exact HZZ.out) | (with_reducible apply heap_set2) | (with_reducible apply heap_drew') | (with_reducible apply heap_drewN'))
      all_goals first | rfl | simp
    refine ⟨rfl, ?_⟩
    repeat (first | (with_reducible refine Upd.setCell ?_ (by simp) _) | (with_reducible refine Upd.drew ?_) | (with_reducible refine Upd.drewN ?_ _))
    first | exact HU1.out.trans HK1.out | exact HU1.out
set_option maxRecDepth 100000 in
set_option maxHeartbeats 2000000 in
theorem hand_put_over2 {cap ov : Int} {w : World} {b : Nat} {s : HdS} (h : HD cap ov w b s) (hn : s.n = 2) (hc : Cap5 cap) (hf : handFull cap s = true) :
    Calls Try.prog 85 #[.pointer (some ⟨b, 0, none⟩)] w fun e w' => e = .returned (.agg #[.int .i64 1, .int .i64 ov, .int .u32 0]) ∧ Upd [] w w' := by
  obtain ⟨x0, x1, x2, x3, x4, x5, x6, x7, x8, x9, x10, x11, x12, x13, x14, x15, x16, x17⟩ := h.cells
  rw [hn] at x9
  have lb := heap_lt h.h
  have HG := Lib.hid h
  have hmf : ∀ (fn : Fn) (first cap : Array Value) (w : World), (Instr.makeFunc fn first cap).run Try.prog w = .ok (.func fn first cap) w := fun _ _ _ _ => rfl
  have hbx : ((w.alloc (.cells #[.pointer (some ⟨b, 0, none⟩)] 73)).alloc (.cells #[.int .i64 0, .int .i64 0, .int .u32 0] 80)).cell? ⟨w.heap.size, 0, none⟩ = some (.pointer (some ⟨b, 0, none⟩)) := by rw [cell_of_heap (heap_alloc' (heap_alloc_new _ _))]; rfl
  have hzz : ((w.alloc (.cells #[.pointer (some ⟨b, 0, none⟩)] 73)).alloc (.cells #[.int .i64 0, .int .i64 0, .int .u32 0] 80)).heap[w.heap.size + 1]? = some (.cells #[.int .i64 0, .int .i64 0, .int .u32 0] 80 (0, 0)) := heap_alloc_at _ (by simp)
  have hu1 : Upd [] w ((w.alloc (.cells #[.pointer (some ⟨b, 0, none⟩)] 73)).alloc (.cells #[.int .i64 0, .int .i64 0, .int .u32 0] 80)) := ((Upd.refl [] w).alloc _).alloc _
  have ne1 : w.heap.size ≠ w.heap.size + 1 := by omega
  have ne2 : b ≠ w.heap.size + 1 := by omega
  have ne3 : w.heap.size + 1 ≠ w.heap.size := by omega
  have ne4 : w.heap.size + 1 ≠ b := by omega
  have HAH := Lib.hid fun W' (k : Upd [] ((w.alloc (.cells #[.pointer (some ⟨b, 0, none⟩)] 73)).alloc (.cells #[.int .i64 0, .int .i64 0, .int .u32 0] 80)) W') => hand_at_head ((k.cell (p := ⟨w.heap.size, 0, none⟩) (by simp; omega) (by simp)).trans hbx) (h.keep (hu1.trans k) (by simp)) hc
  have HAT := Lib.hid fun W' (k : Upd [] ((w.alloc (.cells #[.pointer (some ⟨b, 0, none⟩)] 73)).alloc (.cells #[.int .i64 0, .int .i64 0, .int .u32 0] 80)) W') => hand_at_tail ((k.cell (p := ⟨w.heap.size, 0, none⟩) (by simp; omega) (by simp)).trans hbx) (h.keep (hu1.trans k) (by simp)) hc
  have HFU := Lib.hid fun W' (k : Upd [] ((w.alloc (.cells #[.pointer (some ⟨b, 0, none⟩)] 73)).alloc (.cells #[.int .i64 0, .int .i64 0, .int .u32 0] 80)) W') => hand_full (s := s) (((hu1.trans k).cell (p := ⟨b, 2, none⟩) lb (by simp)).trans x2) (((hu1.trans k).cell (p := ⟨b, 10, none⟩) lb (by simp)).trans x10) (((hu1.trans k).cell (p := ⟨b, 11, none⟩) lb (by simp)).trans x11) hc
  have HFB := Lib.hid hf
  have xb5 := (hu1.cell (p := ⟨b, 5, none⟩) lb (by simp)).trans x5
  have xb9 := (hu1.cell (p := ⟨b, 9, none⟩) lb (by simp)).trans x9
  have HU1 := Lib.hid hu1
  have HZZ := Lib.hid hzz
  clear h hn hc
  go_enter Try.func85, Try.ntmps85
  go_wp2
  refine wp_scope_jump1 0 rfl ?_
  intro K HK
  go_wp2_with (go_at_call 84; refine (HFU.out _ (by first | exact Upd.refl _ _ | exact (Upd.refl _ _).drew | exact (Upd.refl _ _).drewN _ | exact ((Upd.refl _ _).drewN _).drew | exact HK1.out | exact HK1.out.drew | exact HK1.out.drewN _)).mono ?_; rintro e w1 ⟨rfl, m1, rfl⟩; rw [HFB.out])
  go_step3
  refine And.intro rfl (HK.out _ _ ?_)
  clear HK
  go_wp2
  all_goals
    rw [Exit.noGoto_ret]
    refine bodyPost_ret (v := .agg #[.int .i64 1, .int .i64 ov, .int .u32 0]) (results_cell_row rfl _ _ (w.heap.size + 1) 80 [.int .i64 1, .int .i64 ov, .int .u32 0].toArray (0, 0) _ rfl ?hg Try.underlying80 rfl (info_act3 _ _ _)) rfl ?_
    case hg =>
      repeat (first | (with_reducible exact HZ.out) | (with_reducible exact HZZ.out) | (with_reducible apply heap_set2) | (with_reducible apply heap_drew') | (with_reducible apply heap_drewN'))
      all_goals first | rfl | simp
    refine ⟨rfl, ?_⟩
    repeat (first | (with_reducible refine Upd.setCell ?_ (by simp) _) | (with_reducible refine Upd.drew ?_) | (with_reducible refine Upd.drewN ?_ _))
    first | exact HU1.out.trans HK1.out | exact HU1.out
set_option maxRecDepth 100000 in
set_option maxHeartbeats 2000000 in
theorem hand_put_over3 {cap ov : Int} {w : World} {b : Nat} {s : HdS} (h : HD cap ov w b s) (hn : s.n = 3) (hc : Cap5 cap) (hf : handFull cap s = true) (hr : s.r0 = 0) :
    Calls Try.prog 85 #[.pointer (some ⟨b, 0, none⟩)] w fun e w' => e = .returned (.agg #[.int .i64 2, .int .i64 ov, .int .u32 1]) ∧ Upd [] w w' := by
  obtain ⟨x0, x1, x2, x3, x4, x5, x6, x7, x8, x9, x10, x11, x12, x13, x14, x15, x16, x17⟩ := h.cells
  rw [hn] at x9
  have lb := heap_lt h.h
  have HG := Lib.hid h
  have hmf : ∀ (fn : Fn) (first cap : Array Value) (w : World), (Instr.makeFunc fn first cap).run Try.prog w = .ok (.func fn first cap) w := fun _ _ _ _ => rfl
  have hbx : ((w.alloc (.cells #[.pointer (some ⟨b, 0, none⟩)] 73)).alloc (.cells #[.int .i64 0, .int .i64 0, .int .u32 0] 80)).cell? ⟨w.heap.size, 0, none⟩ = some (.pointer (some ⟨b, 0, none⟩)) := by rw [cell_of_heap (heap_alloc' (heap_alloc_new _ _))]; rfl
  have hzz : ((w.alloc (.cells #[.pointer (some ⟨b, 0, none⟩)] 73)).alloc (.cells #[.int .i64 0, .int .i64 0, .int .u32 0] 80)).heap[w.heap.size + 1]? = some (.cells #[.int .i64 0, .int .i64 0, .int .u32 0] 80 (0, 0)) := heap_alloc_at _ (by simp)
  have hu1 : Upd [] w ((w.alloc (.cells #[.pointer (some ⟨b, 0, none⟩)] 73)).alloc (.cells #[.int .i64 0, .int .i64 0, .int .u32 0] 80)) := ((Upd.refl [] w).alloc _).alloc _
  have ne1 : w.heap.size ≠ w.heap.size + 1 := by omega
  have ne2 : b ≠ w.heap.size + 1 := by omega
  have ne3 : w.heap.size + 1 ≠ w.heap.size := by omega
  have ne4 : w.heap.size + 1 ≠ b := by omega
  have HAH := Lib.hid fun W' (k : Upd [] ((w.alloc (.cells #[.pointer (some ⟨b, 0, none⟩)] 73)).alloc (.cells #[.int .i64 0, .int .i64 0, .int .u32 0] 80)) W') => hand_at_head ((k.cell (p := ⟨w.heap.size, 0, none⟩) (by simp; omega) (by simp)).trans hbx) (h.keep (hu1.trans k) (by simp)) hc
  have HAT := Lib.hid fun W' (k : Upd [] ((w.alloc (.cells #[.pointer (some ⟨b, 0, none⟩)] 73)).alloc (.cells #[.int .i64 0, .int .i64 0, .int .u32 0] 80)) W') => hand_at_tail ((k.cell (p := ⟨w.heap.size, 0, none⟩) (by simp; omega) (by simp)).trans hbx) (h.keep (hu1.trans k) (by simp)) hc
  have HFU := Lib.hid fun W' (k : Upd [] ((w.alloc (.cells #[.pointer (some ⟨b, 0, none⟩)] 73)).alloc (.cells #[.int .i64 0, .int .i64 0, .int .u32 0] 80)) W') => hand_full (s := s) (((hu1.trans k).cell (p := ⟨b, 2, none⟩) lb (by simp)).trans x2) (((hu1.trans k).cell (p := ⟨b, 10, none⟩) lb (by simp)).trans x10) (((hu1.trans k).cell (p := ⟨b, 11, none⟩) lb (by simp)).trans x11) hc
  have HFB := Lib.hid hf
  have xb5 := (hu1.cell (p := ⟨b, 5, none⟩) lb (by simp)).trans x5
  have xb9 := (hu1.cell (p := ⟨b, 9, none⟩) lb (by simp)).trans x9
  have xb13 := (hu1.cell (p := ⟨b, 13, none⟩) lb (by simp)).trans x13
  have HR0 := Lib.hid hr
  have HMO := Lib.hid more_zero
  have HA32 := Lib.hid fun W' (k : Upd [] ((w.alloc (.cells #[.pointer (some ⟨b, 0, none⟩)] 73)).alloc (.cells #[.int .i64 0, .int .i64 0, .int .u32 0] 80)) W') => hand_at32 (s := s) (((hu1.trans k).cell (p := ⟨b, 13, none⟩) lb (by simp)).trans x13)
  have HU1 := Lib.hid hu1
  have HZZ := Lib.hid hzz
  clear h hn hc
  go_enter Try.func85, Try.ntmps85
  go_wp2
  refine wp_scope_jump1 0 rfl ?_
  intro K HK
  go_wp2_with (go_at_call 84; refine (HFU.out _ (by first | exact Upd.refl _ _ | exact (Upd.refl _ _).drew | exact (Upd.refl _ _).drewN _ | exact ((Upd.refl _ _).drewN _).drew | exact HK1.out | exact HK1.out.drew | exact HK1.out.drewN _)).mono ?_; rintro e w1 ⟨rfl, m1, rfl⟩; rw [HFB.out])
  go_step3
  refine And.intro rfl (HK.out _ _ ?_)
  clear HK
  go_wp2
  go_region_held3 (fun w' => w'.cell? ⟨w.heap.size, 0, none⟩ = some (.pointer (some ⟨b, 0, none⟩)) ∧ w'.cell? ⟨b, 5, none⟩ = some (.int .i64 ov) ∧ w'.cell? ⟨b, 13, none⟩ = some (.int .u32 s.r0))
      (((try dsimp only); (repeat' apply And.intro) <;> (repeat (first | (with_reducible assumption) | (with_reducible apply cell_alloc2) | (with_reducible apply cell_drew2) | (with_reducible apply cell_drewN2) | (with_reducible refine cell_set3 (by omega) ?_)))))
      (first
        | (go_at_call 135; refine (HA32.out _ (by first | exact Upd.refl _ _ | exact (Upd.refl _ _).drew | exact (Upd.refl _ _).drewN _ | exact ((Upd.refl _ _).drewN _).drew | exact HK1.out | exact HK1.out.drew | exact HK1.out.drewN _)).mono ?_; rintro e w2 ⟨rfl, rfl⟩; rw [HR0.out])
        | (go_at_call 134; refine (HMO.out _).mono ?_; rintro e w3 ⟨rfl, rfl⟩))
  all_goals go_wp2
  all_goals
    rw [Exit.noGoto_ret]
    refine bodyPost_ret (v := .agg #[.int .i64 2, .int .i64 ov, .int .u32 1]) (results_cell_row rfl _ _ (w.heap.size + 1) 80 [.int .i64 2, .int .i64 ov, .int .u32 1].toArray (0, 0) _ rfl ?hg Try.underlying80 rfl (info_act3 _ _ _)) rfl ?_
    case hg =>
      repeat (first | (with_reducible exact HZ.out) | (with_reducible exact HZZ.out) | (with_reducible apply heap_set2) | (with_reducible apply heap_drew') | (with_reducible apply heap_drewN'))
      all_goals first | rfl | simp
    refine ⟨rfl, ?_⟩
    repeat (first | (with_reducible refine Upd.setCell ?_ (by simp) _) | (with_reducible refine Upd.drew ?_) | (with_reducible refine Upd.drewN ?_ _))
    first | exact HU1.out.trans HK1.out | exact HU1.out
set_option maxRecDepth 100000 in
set_option maxHeartbeats 2000000 in
theorem hand_put_word {cap ov : Int} {w : World} {b : Nat} {s : HdS} (h : HD cap ov w b s) (hn : s.n = 2) (hc : Cap5 cap) (hf : handFull cap s = false) :
    Calls Try.prog 85 #[.pointer (some ⟨b, 0, none⟩)] w fun e w' => e = .returned (.agg #[.int .i64 2, .int .i64 (2 + roomI cap s.a * 1 + 0), .int .u32 s.v]) ∧ Upd [] w w' := by
  obtain ⟨x0, x1, x2, x3, x4, x5, x6, x7, x8, x9, x10, x11, x12, x13, x14, x15, x16, x17⟩ := h.cells
  rw [hn] at x9
  have lb := heap_lt h.h
  have HG := Lib.hid h
  have hmf : ∀ (fn : Fn) (first cap : Array Value) (w : World), (Instr.makeFunc fn first cap).run Try.prog w = .ok (.func fn first cap) w := fun _ _ _ _ => rfl
  have hbx : ((w.alloc (.cells #[.pointer (some ⟨b, 0, none⟩)] 73)).alloc (.cells #[.int .i64 0, .int .i64 0, .int .u32 0] 80)).cell? ⟨w.heap.size, 0, none⟩ = some (.pointer (some ⟨b, 0, none⟩)) := by rw [cell_of_heap (heap_alloc' (heap_alloc_new _ _))]; rfl
  have hzz : ((w.alloc (.cells #[.pointer (some ⟨b, 0, none⟩)] 73)).alloc (.cells #[.int .i64 0, .int .i64 0, .int .u32 0] 80)).heap[w.heap.size + 1]? = some (.cells #[.int .i64 0, .int .i64 0, .int .u32 0] 80 (0, 0)) := heap_alloc_at _ (by simp)
  have hu1 : Upd [] w ((w.alloc (.cells #[.pointer (some ⟨b, 0, none⟩)] 73)).alloc (.cells #[.int .i64 0, .int .i64 0, .int .u32 0] 80)) := ((Upd.refl [] w).alloc _).alloc _
  have ne1 : w.heap.size ≠ w.heap.size + 1 := by omega
  have ne2 : b ≠ w.heap.size + 1 := by omega
  have ne3 : w.heap.size + 1 ≠ w.heap.size := by omega
  have ne4 : w.heap.size + 1 ≠ b := by omega
  have HAH := Lib.hid fun W' (k : Upd [] ((w.alloc (.cells #[.pointer (some ⟨b, 0, none⟩)] 73)).alloc (.cells #[.int .i64 0, .int .i64 0, .int .u32 0] 80)) W') => hand_at_head ((k.cell (p := ⟨w.heap.size, 0, none⟩) (by simp; omega) (by simp)).trans hbx) (h.keep (hu1.trans k) (by simp)) hc
  have HAT := Lib.hid fun W' (k : Upd [] ((w.alloc (.cells #[.pointer (some ⟨b, 0, none⟩)] 73)).alloc (.cells #[.int .i64 0, .int .i64 0, .int .u32 0] 80)) W') => hand_at_tail ((k.cell (p := ⟨w.heap.size, 0, none⟩) (by simp; omega) (by simp)).trans hbx) (h.keep (hu1.trans k) (by simp)) hc
  have HFU := Lib.hid fun W' (k : Upd [] ((w.alloc (.cells #[.pointer (some ⟨b, 0, none⟩)] 73)).alloc (.cells #[.int .i64 0, .int .i64 0, .int .u32 0] 80)) W') => hand_full (s := s) (((hu1.trans k).cell (p := ⟨b, 2, none⟩) lb (by simp)).trans x2) (((hu1.trans k).cell (p := ⟨b, 10, none⟩) lb (by simp)).trans x10) (((hu1.trans k).cell (p := ⟨b, 11, none⟩) lb (by simp)).trans x11) hc
  have HFB := Lib.hid hf
  have xb0 := (hu1.cell (p := ⟨b, 0, none⟩) lb (by simp)).trans x0
  have xb1 := (hu1.cell (p := ⟨b, 1, none⟩) lb (by simp)).trans x1
  have xb2 := (hu1.cell (p := ⟨b, 2, none⟩) lb (by simp)).trans x2
  have xb3 := (hu1.cell (p := ⟨b, 3, none⟩) lb (by simp)).trans x3
  have xb4 := (hu1.cell (p := ⟨b, 4, none⟩) lb (by simp)).trans x4
  have xb8 := (hu1.cell (p := ⟨b, 8, none⟩) lb (by simp)).trans x8
  have xb9 := (hu1.cell (p := ⟨b, 9, none⟩) lb (by simp)).trans x9
  have xb10 := (hu1.cell (p := ⟨b, 10, none⟩) lb (by simp)).trans x10
  have hr := roomI_lt s.a hc
  have HRM := Lib.hid fun W' => ring_room cap 1 s.a hc (by omega) (by omega) W'
  have HCD := Lib.hid fun W' => cell_ring_data cap 1 (roomI cap s.a) 0 hc (by omega) (by omega) hr.1 hr.2 (by omega) (by omega) W'
  have HU1 := Lib.hid hu1
  have HZZ := Lib.hid hzz
  clear h hn hc
  go_enter Try.func85, Try.ntmps85
  go_wp2
  go_step3
  go_wp2_with (go_at_call 84; refine (HFU.out _ (by first | exact Upd.refl _ _ | exact (Upd.refl _ _).drew | exact (Upd.refl _ _).drewN _ | exact ((Upd.refl _ _).drewN _).drew | exact HK1.out | exact HK1.out.drew | exact HK1.out.drewN _)).mono ?_; rintro e w1 ⟨rfl, m1, rfl⟩; rw [HFB.out])
  go_region_held3 (fun w' => w'.cell? ⟨w.heap.size, 0, none⟩ = some (.pointer (some ⟨b, 0, none⟩)) ∧ w'.cell? ⟨b, 0, none⟩ = some (.int .i64 1) ∧ w'.cell? ⟨b, 1, none⟩ = some (.int .i64 0) ∧ w'.cell? ⟨b, 2, none⟩ = some (.int .i64 cap) ∧ w'.cell? ⟨b, 3, none⟩ = some (.int .i64 1) ∧ w'.cell? ⟨b, 4, none⟩ = some (.int .i64 0) ∧ w'.cell? ⟨b, 8, none⟩ = some (.int .u32 s.v) ∧ w'.cell? ⟨b, 10, none⟩ = some (.int .u32 s.a))
      (((try dsimp only); (repeat' apply And.intro) <;> (repeat (first | (with_reducible assumption) | (with_reducible apply cell_alloc2) | (with_reducible apply cell_drew2) | (with_reducible apply cell_drewN2) | (with_reducible refine cell_set3 (by omega) ?_)))))
      (first
        | (go_at_call 133; refine (HRM.out _).mono ?_; rintro e w2 ⟨rfl, hux⟩; have hk1 : Upd [] ((w.alloc (.cells #[.pointer (some ⟨b, 0, none⟩)] 73)).alloc (.cells #[.int .i64 0, .int .i64 0, .int .u32 0] 80)) w2 := (by first | exact hux | exact hux.of_drew | exact hux.of_drewN | exact hux.of_drew.of_drewN | exact (HK1.out.trans hux) | exact (HK1.out.trans hux.of_drew) | exact (Upd.of_drewN (Upd.of_drew hux))); have HK1 := Lib.hid hk1; have hz := hk1.keepb (k := w.heap.size + 1) hzz (by simp); have HZ := Lib.hid hz; obtain ⟨z0, z1, z2⟩ := cells3 hz; have zf := fun j => frozen_of_heap hz j; have lz := heap_lt hz; have bx_w2 := (hk1.cell (p := ⟨w.heap.size, 0, none⟩) (by simp; omega) (by simp)).trans hbx; have y0_w2 := ((hu1.trans hk1).cell (p := ⟨b, 0, none⟩) lb (by simp)).trans x0; have y1_w2 := ((hu1.trans hk1).cell (p := ⟨b, 1, none⟩) lb (by simp)).trans x1; have y2_w2 := ((hu1.trans hk1).cell (p := ⟨b, 2, none⟩) lb (by simp)).trans x2; have y3_w2 := ((hu1.trans hk1).cell (p := ⟨b, 3, none⟩) lb (by simp)).trans x3; have y4_w2 := ((hu1.trans hk1).cell (p := ⟨b, 4, none⟩) lb (by simp)).trans x4; have y8_w2 := ((hu1.trans hk1).cell (p := ⟨b, 8, none⟩) lb (by simp)).trans x8; have y10_w2 := ((hu1.trans hk1).cell (p := ⟨b, 10, none⟩) lb (by simp)).trans x10; clear hz hk1 hux)
        | (go_at_call 38; refine (HCD.out _).mono ?_; rintro e w3 ⟨rfl, hux⟩; have hk1 : Upd [] ((w.alloc (.cells #[.pointer (some ⟨b, 0, none⟩)] 73)).alloc (.cells #[.int .i64 0, .int .i64 0, .int .u32 0] 80)) w3 := (by first | exact hux | exact hux.of_drew | exact hux.of_drewN | exact hux.of_drew.of_drewN | exact (HK1.out.trans hux) | exact (HK1.out.trans hux.of_drew) | exact (Upd.of_drewN (Upd.of_drew hux))); have HK1 := Lib.hid hk1; have hz := hk1.keepb (k := w.heap.size + 1) hzz (by simp); have HZ := Lib.hid hz; obtain ⟨z0, z1, z2⟩ := cells3 hz; have zf := fun j => frozen_of_heap hz j; have lz := heap_lt hz; have bx_w3 := (hk1.cell (p := ⟨w.heap.size, 0, none⟩) (by simp; omega) (by simp)).trans hbx; have y0_w3 := ((hu1.trans hk1).cell (p := ⟨b, 0, none⟩) lb (by simp)).trans x0; have y1_w3 := ((hu1.trans hk1).cell (p := ⟨b, 1, none⟩) lb (by simp)).trans x1; have y2_w3 := ((hu1.trans hk1).cell (p := ⟨b, 2, none⟩) lb (by simp)).trans x2; have y3_w3 := ((hu1.trans hk1).cell (p := ⟨b, 3, none⟩) lb (by simp)).trans x3; have y4_w3 := ((hu1.trans hk1).cell (p := ⟨b, 4, none⟩) lb (by simp)).trans x4; have y8_w3 := ((hu1.trans hk1).cell (p := ⟨b, 8, none⟩) lb (by simp)).trans x8; have y10_w3 := ((hu1.trans hk1).cell (p := ⟨b, 10, none⟩) lb (by simp)).trans x10; clear hz hk1 hux))
  all_goals go_wp2
  all_goals
    rw [Exit.noGoto_ret]
    refine bodyPost_ret (v := .agg #[.int .i64 2, .int .i64 (2 + roomI cap s.a * 1 + 0), .int .u32 s.v]) (results_cell_row rfl _ _ (w.heap.size + 1) 80 [.int .i64 2, .int .i64 (2 + roomI cap s.a * 1 + 0), .int .u32 s.v].toArray (0, 0) _ rfl ?hg Try.underlying80 rfl (info_act3 _ _ _)) rfl ?_
    case hg =>
      repeat (first | (with_reducible exact HZ.out) | (with_reducible exact HZZ.out) | (with_reducible apply heap_set2) | (with_reducible apply heap_drew') | (with_reducible apply heap_drewN'))
      all_goals first | rfl | simp
    refine ⟨rfl, ?_⟩
    repeat (first | (with_reducible refine Upd.setCell ?_ (by simp) _) | (with_reducible refine Upd.drew ?_) | (with_reducible refine Upd.drewN ?_ _))
    first | exact HU1.out.trans HK1.out | exact HU1.out
set_option maxRecDepth 100000 in
set_option maxHeartbeats 2000000 in
theorem hand_put_tail {cap ov : Int} {w : World} {b : Nat} {s : HdS} (h : HD cap ov w b s) (hn : s.n = 3) (hc : Cap5 cap) (hf : handFull cap s = false) :
    Calls Try.prog 85 #[.pointer (some ⟨b, 0, none⟩)] w fun e w' => e = .returned (.agg #[.int .i64 2, .int .i64 1, .int .u32 (IntKind.u32.wrap (s.a + 1))]) ∧ Upd [] w w' := by
  obtain ⟨x0, x1, x2, x3, x4, x5, x6, x7, x8, x9, x10, x11, x12, x13, x14, x15, x16, x17⟩ := h.cells
  rw [hn] at x9
  have lb := heap_lt h.h
  have HG := Lib.hid h
  have hmf : ∀ (fn : Fn) (first cap : Array Value) (w : World), (Instr.makeFunc fn first cap).run Try.prog w = .ok (.func fn first cap) w := fun _ _ _ _ => rfl
  have hbx : ((w.alloc (.cells #[.pointer (some ⟨b, 0, none⟩)] 73)).alloc (.cells #[.int .i64 0, .int .i64 0, .int .u32 0] 80)).cell? ⟨w.heap.size, 0, none⟩ = some (.pointer (some ⟨b, 0, none⟩)) := by rw [cell_of_heap (heap_alloc' (heap_alloc_new _ _))]; rfl
  have hzz : ((w.alloc (.cells #[.pointer (some ⟨b, 0, none⟩)] 73)).alloc (.cells #[.int .i64 0, .int .i64 0, .int .u32 0] 80)).heap[w.heap.size + 1]? = some (.cells #[.int .i64 0, .int .i64 0, .int .u32 0] 80 (0, 0)) := heap_alloc_at _ (by simp)
  have hu1 : Upd [] w ((w.alloc (.cells #[.pointer (some ⟨b, 0, none⟩)] 73)).alloc (.cells #[.int .i64 0, .int .i64 0, .int .u32 0] 80)) := ((Upd.refl [] w).alloc _).alloc _
  have ne1 : w.heap.size ≠ w.heap.size + 1 := by omega
  have ne2 : b ≠ w.heap.size + 1 := by omega
  have ne3 : w.heap.size + 1 ≠ w.heap.size := by omega
  have ne4 : w.heap.size + 1 ≠ b := by omega
  have HAH := Lib.hid fun W' (k : Upd [] ((w.alloc (.cells #[.pointer (some ⟨b, 0, none⟩)] 73)).alloc (.cells #[.int .i64 0, .int .i64 0, .int .u32 0] 80)) W') => hand_at_head ((k.cell (p := ⟨w.heap.size, 0, none⟩) (by simp; omega) (by simp)).trans hbx) (h.keep (hu1.trans k) (by simp)) hc
  have HAT := Lib.hid fun W' (k : Upd [] ((w.alloc (.cells #[.pointer (some ⟨b, 0, none⟩)] 73)).alloc (.cells #[.int .i64 0, .int .i64 0, .int .u32 0] 80)) W') => hand_at_tail ((k.cell (p := ⟨w.heap.size, 0, none⟩) (by simp; omega) (by simp)).trans hbx) (h.keep (hu1.trans k) (by simp)) hc
  have HFU := Lib.hid fun W' (k : Upd [] ((w.alloc (.cells #[.pointer (some ⟨b, 0, none⟩)] 73)).alloc (.cells #[.int .i64 0, .int .i64 0, .int .u32 0] 80)) W') => hand_full (s := s) (((hu1.trans k).cell (p := ⟨b, 2, none⟩) lb (by simp)).trans x2) (((hu1.trans k).cell (p := ⟨b, 10, none⟩) lb (by simp)).trans x10) (((hu1.trans k).cell (p := ⟨b, 11, none⟩) lb (by simp)).trans x11) hc
  have HFB := Lib.hid hf
  have xb9 := (hu1.cell (p := ⟨b, 9, none⟩) lb (by simp)).trans x9
  have xb10 := (hu1.cell (p := ⟨b, 10, none⟩) lb (by simp)).trans x10
  have HU1 := Lib.hid hu1
  have HZZ := Lib.hid hzz
  clear h hn hc
  go_enter Try.func85, Try.ntmps85
  go_wp2
  go_step3
  go_wp2_with (go_at_call 84; refine (HFU.out _ (by first | exact Upd.refl _ _ | exact (Upd.refl _ _).drew | exact (Upd.refl _ _).drewN _ | exact ((Upd.refl _ _).drewN _).drew | exact HK1.out | exact HK1.out.drew | exact HK1.out.drewN _)).mono ?_; rintro e w1 ⟨rfl, m1, rfl⟩; rw [HFB.out])
  go_region_held3 (fun w' => w'.cell? ⟨w.heap.size, 0, none⟩ = some (.pointer (some ⟨b, 0, none⟩)) ∧ w'.cell? ⟨b, 10, none⟩ = some (.int .u32 s.a))
      (((try dsimp only); (repeat' apply And.intro) <;> (repeat (first | (with_reducible assumption) | (with_reducible apply cell_alloc2) | (with_reducible apply cell_drew2) | (with_reducible apply cell_drewN2) | (with_reducible refine cell_set3 (by omega) ?_)))))
      (first
        | (go_at_call 132; refine (HAT.out _ (by first | exact Upd.refl _ _ | exact (Upd.refl _ _).drew | exact (Upd.refl _ _).drewN _ | exact ((Upd.refl _ _).drewN _).drew | exact HK1.out | exact HK1.out.drew | exact HK1.out.drewN _)).mono ?_; rintro e w2 ⟨rfl, hux⟩; have hk1 : Upd [] ((w.alloc (.cells #[.pointer (some ⟨b, 0, none⟩)] 73)).alloc (.cells #[.int .i64 0, .int .i64 0, .int .u32 0] 80)) w2 := (by first | exact hux | exact hux.of_drew | exact hux.of_drewN | exact hux.of_drew.of_drewN | exact (HK1.out.trans hux) | exact (HK1.out.trans hux.of_drew) | exact (Upd.of_drewN (Upd.of_drew hux))); have HK1 := Lib.hid hk1; have hz := hk1.keepb (k := w.heap.size + 1) hzz (by simp); have HZ := Lib.hid hz; obtain ⟨z0, z1, z2⟩ := cells3 hz; have zf := fun j => frozen_of_heap hz j; have lz := heap_lt hz; have bx_w2 := (hk1.cell (p := ⟨w.heap.size, 0, none⟩) (by simp; omega) (by simp)).trans hbx; have y10_w2 := ((hu1.trans hk1).cell (p := ⟨b, 10, none⟩) lb (by simp)).trans x10; clear hz hk1 hux))
  all_goals go_wp2
  all_goals
    rw [Exit.noGoto_ret]
    refine bodyPost_ret (v := .agg #[.int .i64 2, .int .i64 1, .int .u32 (IntKind.u32.wrap (s.a + 1))]) (results_cell_row rfl _ _ (w.heap.size + 1) 80 [.int .i64 2, .int .i64 1, .int .u32 (IntKind.u32.wrap (s.a + 1))].toArray (0, 0) _ rfl ?hg Try.underlying80 rfl (info_act3 _ _ _)) rfl ?_
    case hg =>
      repeat (first | (with_reducible exact HZ.out) | (with_reducible exact HZZ.out) | (with_reducible apply heap_set2) | (with_reducible apply heap_drew') | (with_reducible apply heap_drewN'))
      all_goals first | rfl | simp
    refine ⟨rfl, ?_⟩
    repeat (first | (with_reducible refine Upd.setCell ?_ (by simp) _) | (with_reducible refine Upd.drew ?_) | (with_reducible refine Upd.drewN ?_ _))
    first | exact HU1.out.trans HK1.out | exact HU1.out
set_option maxRecDepth 100000 in
set_option maxHeartbeats 2000000 in
theorem hand_put_raise {cap ov : Int} {w : World} {b : Nat} {s : HdS} (h : HD cap ov w b s) (hn : s.n = 4) (hc : Cap5 cap) (hf : handFull cap s = false) :
    Calls Try.prog 85 #[.pointer (some ⟨b, 0, none⟩)] w fun e w' => e = .returned (.agg #[.int .i64 6, .int .i64 0, .int .u32 0]) ∧ Upd [] w w' := by
  obtain ⟨x0, x1, x2, x3, x4, x5, x6, x7, x8, x9, x10, x11, x12, x13, x14, x15, x16, x17⟩ := h.cells
  rw [hn] at x9
  have lb := heap_lt h.h
  have HG := Lib.hid h
  have hmf : ∀ (fn : Fn) (first cap : Array Value) (w : World), (Instr.makeFunc fn first cap).run Try.prog w = .ok (.func fn first cap) w := fun _ _ _ _ => rfl
  have hbx : ((w.alloc (.cells #[.pointer (some ⟨b, 0, none⟩)] 73)).alloc (.cells #[.int .i64 0, .int .i64 0, .int .u32 0] 80)).cell? ⟨w.heap.size, 0, none⟩ = some (.pointer (some ⟨b, 0, none⟩)) := by rw [cell_of_heap (heap_alloc' (heap_alloc_new _ _))]; rfl
  have hzz : ((w.alloc (.cells #[.pointer (some ⟨b, 0, none⟩)] 73)).alloc (.cells #[.int .i64 0, .int .i64 0, .int .u32 0] 80)).heap[w.heap.size + 1]? = some (.cells #[.int .i64 0, .int .i64 0, .int .u32 0] 80 (0, 0)) := heap_alloc_at _ (by simp)
  have hu1 : Upd [] w ((w.alloc (.cells #[.pointer (some ⟨b, 0, none⟩)] 73)).alloc (.cells #[.int .i64 0, .int .i64 0, .int .u32 0] 80)) := ((Upd.refl [] w).alloc _).alloc _
  have ne1 : w.heap.size ≠ w.heap.size + 1 := by omega
  have ne2 : b ≠ w.heap.size + 1 := by omega
  have ne3 : w.heap.size + 1 ≠ w.heap.size := by omega
  have ne4 : w.heap.size + 1 ≠ b := by omega
  have HAH := Lib.hid fun W' (k : Upd [] ((w.alloc (.cells #[.pointer (some ⟨b, 0, none⟩)] 73)).alloc (.cells #[.int .i64 0, .int .i64 0, .int .u32 0] 80)) W') => hand_at_head ((k.cell (p := ⟨w.heap.size, 0, none⟩) (by simp; omega) (by simp)).trans hbx) (h.keep (hu1.trans k) (by simp)) hc
  have HAT := Lib.hid fun W' (k : Upd [] ((w.alloc (.cells #[.pointer (some ⟨b, 0, none⟩)] 73)).alloc (.cells #[.int .i64 0, .int .i64 0, .int .u32 0] 80)) W') => hand_at_tail ((k.cell (p := ⟨w.heap.size, 0, none⟩) (by simp; omega) (by simp)).trans hbx) (h.keep (hu1.trans k) (by simp)) hc
  have HFU := Lib.hid fun W' (k : Upd [] ((w.alloc (.cells #[.pointer (some ⟨b, 0, none⟩)] 73)).alloc (.cells #[.int .i64 0, .int .i64 0, .int .u32 0] 80)) W') => hand_full (s := s) (((hu1.trans k).cell (p := ⟨b, 2, none⟩) lb (by simp)).trans x2) (((hu1.trans k).cell (p := ⟨b, 10, none⟩) lb (by simp)).trans x10) (((hu1.trans k).cell (p := ⟨b, 11, none⟩) lb (by simp)).trans x11) hc
  have HFB := Lib.hid hf
  have xb9 := (hu1.cell (p := ⟨b, 9, none⟩) lb (by simp)).trans x9
  have HU1 := Lib.hid hu1
  have HZZ := Lib.hid hzz
  clear h hn hc
  go_enter Try.func85, Try.ntmps85
  go_wp2
  go_step3
  go_wp2_with (go_at_call 84; refine (HFU.out _ (by first | exact Upd.refl _ _ | exact (Upd.refl _ _).drew | exact (Upd.refl _ _).drewN _ | exact ((Upd.refl _ _).drewN _).drew | exact HK1.out | exact HK1.out.drew | exact HK1.out.drewN _)).mono ?_; rintro e w1 ⟨rfl, m1, rfl⟩; rw [HFB.out])
  all_goals
    rw [Exit.noGoto_ret]
    refine bodyPost_ret (v := .agg #[.int .i64 6, .int .i64 0, .int .u32 0]) (results_cell_row rfl _ _ (w.heap.size + 1) 80 [.int .i64 6, .int .i64 0, .int .u32 0].toArray (0, 0) _ rfl ?hg Try.underlying80 rfl (info_act3 _ _ _)) rfl ?_
    case hg =>
      repeat (first | (with_reducible exact HZ.out) | (with_reducible exact HZZ.out) | (with_reducible apply heap_set2) | (with_reducible apply heap_drew') | (with_reducible apply heap_drewN'))
      all_goals first | rfl | simp
    refine ⟨rfl, ?_⟩
    repeat (first | (with_reducible refine Upd.setCell ?_ (by simp) _) | (with_reducible refine Upd.drew ?_) | (with_reducible refine Upd.drewN ?_ _))
    first | exact HU1.out.trans HK1.out | exact HU1.out
end Go.Proofs.Ytbjeojcnofpgfaa

