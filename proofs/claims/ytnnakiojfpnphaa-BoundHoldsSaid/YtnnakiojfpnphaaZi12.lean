/- The walk, part 12: Ring5 Ring6 Ring9. -/
import Derived.Test.YtnnakiojfpnphaaZi09
set_option linter.unusedVariables false
set_option linter.unusedSimpArgs false

namespace Go.Proofs.Ytnnakiojfpnphaa
open Go.RowKit

set_option maxRecDepth 100000 in
set_option maxHeartbeats 1000000 in
theorem ring_answer_zero {w : World} {b : Nat} {t : TypeId} (h : ZR w b t) :
    Calls Try.prog 109 #[.pointer (some ⟨b, 0, none⟩)] w fun e w' => e = .returned (.tuple #[.agg #[.int .i64 0, .int .u32 0, .int .u32 0, .int .u32 0, .int .u32 0], .bool false]) ∧ Upd [] w w' := by
  have x17 := h.c17
  have x18 := h.c18
  have lb := heap_lt h.h
  have nb : w.heap.size ≠ b := by omega
  have nb' : b ≠ w.heap.size := by omega
  clear h
  go_enter Try.func109, Try.ntmps109
  go_wp2
  refine bodyPost_ret (v := .tuple #[.agg #[.int .i64 0, .int .u32 0, .int .u32 0, .int .u32 0, .int .u32 0], .bool false]) (by simp [results, Try.results109, go_sem]) rfl ?_
  refine ⟨rfl, ?_⟩
  exact (Upd.refl _ _).alloc _
set_option maxRecDepth 100000 in
set_option maxHeartbeats 1000000 in
theorem push_result_zero {w : World} {b : Nat} {t : TypeId} (h : ZR w b t) :
    Calls Try.prog 104 #[.pointer (some ⟨b, 0, none⟩)] w fun e w' => e = .returned (.tuple #[.agg #[.int .i64 0, .int .u32 0, .int .u32 0, .int .u32 0, .int .u32 0], .bool false]) ∧ Upd [] w w' := by
  have lb := heap_lt h.h
  have nb : w.heap.size ≠ b := by omega
  have nb' : b ≠ w.heap.size := by omega
  have HA := Lib.hid (ring_answer_zero (ZR.mk (heap_alloc' (o := .cells #[.int .i64 0, .int .u32 0, .int .u32 0, .int .u32 0, .int .u32 0] 46) h.h)))
  clear h
  go_enter Try.func104, Try.ntmps104
  go_wp2_with (go_at_call 109; refine (HA.out).mono ?_; rintro e w1 ⟨rfl, hu1⟩; have HU1 := Lib.hid hu1; have hz := hu1.keepb (heap_alloc_new _ _) (by simp); have HZ := Lib.hid hz; have zf := fun j => frozen_of_heap hz j; have z0 := cell_of_heap hz 0; have z1 := cell_of_heap hz 1; have z2 := cell_of_heap hz 2; have z3 := cell_of_heap hz 3; have z4 := cell_of_heap hz 4; simp at z0 z1 z2 z3 z4; clear hz hu1)
  refine ret_result rfl (g := w.heap.size) (t := 46) (fr := (0, 0)) (x0 := .int .i64 0) (x1 := .int .u32 0) (x2 := .int .u32 0) (x3 := .int .u32 0) (x4 := .int .u32 0) rfl rfl rfl (hg := ?hg) ?_
  case hg =>
    repeat (first | (with_reducible exact HZ.out) | (with_reducible apply heap_set2))
    all_goals rfl
  refine ⟨rfl, ?_⟩
  repeat (with_reducible refine Upd.setCell ?_ (by simp) _)
  exact ((Upd.refl _ _).alloc _).trans HU1.out
set_option maxRecDepth 100000 in
set_option maxHeartbeats 1000000 in
theorem push_result {cap wd : Int} {w : World} {b : Nat} {t : TypeId} {s : RgS} (h : RG cap wd w b t s) (hon : s.on = false) :
    Calls Try.prog 104 #[.pointer (some ⟨b, 0, none⟩)] w fun e w' => e = .returned (.tuple #[.agg #[.int .i64 s.f, .int .u32 s.r0, .int .u32 s.r1, .int .u32 s.r2, .int .u32 s.r3], .bool true]) ∧ Upd [] w w' := by
  have lb := heap_lt h.h
  have nb : w.heap.size ≠ b := by omega
  have nb' : b ≠ w.heap.size := by omega
  have HA := Lib.hid (ring_answer (h.keep ((Upd.refl [] w).alloc (.cells #[.int .i64 0, .int .u32 0, .int .u32 0, .int .u32 0, .int .u32 0] 46)) (by simp)) hon)
  clear h
  go_enter Try.func104, Try.ntmps104
  go_wp2_with (go_at_call 109; refine (HA.out).mono ?_; rintro e w1 ⟨rfl, hu1⟩; have HU1 := Lib.hid hu1; have hz := hu1.keepb (heap_alloc_new _ _) (by simp); have HZ := Lib.hid hz; have zf := fun j => frozen_of_heap hz j; have z0 := cell_of_heap hz 0; have z1 := cell_of_heap hz 1; have z2 := cell_of_heap hz 2; have z3 := cell_of_heap hz 3; have z4 := cell_of_heap hz 4; simp at z0 z1 z2 z3 z4; clear hz hu1)
  refine ret_result rfl (g := w.heap.size) (t := 46) (fr := (0, 0)) (x0 := .int .i64 s.f) (x1 := .int .u32 s.r0) (x2 := .int .u32 s.r1) (x3 := .int .u32 s.r2) (x4 := .int .u32 s.r3) rfl rfl rfl (hg := ?hg) ?_
  case hg =>
    repeat (first | (with_reducible exact HZ.out) | (with_reducible apply heap_set2))
    all_goals rfl
  refine ⟨rfl, ?_⟩
  repeat (with_reducible refine Upd.setCell ?_ (by simp) _)
  exact ((Upd.refl _ _).alloc _).trans HU1.out
set_option maxRecDepth 100000 in
set_option maxHeartbeats 1000000 in
theorem push_done {cap wd : Int} {w : World} {b : Nat} {t : TypeId} {s : RgS} (h : RG cap wd w b t s) (hon : s.on = false) : Calls Try.prog 103 #[.pointer (some ⟨b, 0, none⟩)] w fun e w' => e = .returned (.tuple #[.agg #[.int .i64 0, .int .i64 0, .int .u32 0], .bool false]) ∧ Upd [] w w' := by
  obtain ⟨-, -, -, -, -, -, -, -, -, -, x18⟩ := h.cells2
  rw [hon] at x18
  have lb := heap_lt h.h
  clear h hon
  go_enter Try.func103, Try.ntmps103
  go_wp2
  go_step3
  go_wp2
  rw [Exit.noGoto_ret]
  refine bodyPost_ret (v := .tuple #[.agg #[.int .i64 0, .int .i64 0, .int .u32 0], .bool false]) (by simp [results, Try.results103, go_sem]) rfl ?_
  refine ⟨rfl, ?_⟩
  exact ((Upd.refl _ _).alloc _).alloc _
set_option maxRecDepth 100000 in
set_option maxHeartbeats 1000000 in
theorem push_at_head {cap wd : Int} {w : World} {p b : Nat} {t : TypeId} {s : RgS} (hp : w.cell? ⟨p, 0, none⟩ = some (.pointer (some ⟨b, 0, none⟩))) (h : RG cap wd w b t s) (hc : Cap5 cap) (h1 : 1 ≤ wd) (h4 : wd ≤ 4) :
    Calls Try.prog 106 #[.int .i64 1, .pointer (some ⟨p, 0, none⟩)] w fun e w' => e = .returned (.int .i64 0) ∧ Upd [] w w' := by
  obtain ⟨x0, x1, x2, x3, x4, -, -, -⟩ := h.cells
  have HC := Lib.hid fun w => cell_ring_head cap wd hc h1 h4 w
  clear h hc h1 h4
  go_enter Try.func106, Try.ntmps106
  go_wp2_with (go_at_call 54; refine (HC.out _).mono ?_; rintro e w1 ⟨rfl, hu1⟩)
  go_ret
  exact ⟨rfl, hu1⟩
set_option maxRecDepth 100000 in
set_option maxHeartbeats 1000000 in
theorem push_at_tail {cap wd : Int} {w : World} {p b : Nat} {t : TypeId} {s : RgS} (hp : w.cell? ⟨p, 0, none⟩ = some (.pointer (some ⟨b, 0, none⟩))) (h : RG cap wd w b t s) (hc : Cap5 cap) (h1 : 1 ≤ wd) (h4 : wd ≤ 4) :
    Calls Try.prog 106 #[.int .i64 2, .pointer (some ⟨p, 0, none⟩)] w fun e w' => e = .returned (.int .i64 1) ∧ Upd [] w w' := by
  obtain ⟨x0, x1, x2, x3, x4, -, -, -⟩ := h.cells
  have HC := Lib.hid fun w => cell_ring_tail cap wd hc h1 h4 w
  clear h hc h1 h4
  go_enter Try.func106, Try.ntmps106
  go_wp2_with (go_at_call 54; refine (HC.out _).mono ?_; rintro e w1 ⟨rfl, hu1⟩)
  go_ret
  exact ⟨rfl, hu1⟩
set_option maxRecDepth 100000 in
set_option maxHeartbeats 1000000 in
theorem pop_result_zero {w : World} {b : Nat} {t : TypeId} (h : ZR w b t) :
    Calls Try.prog 115 #[.pointer (some ⟨b, 0, none⟩)] w fun e w' => e = .returned (.tuple #[.agg #[.int .i64 0, .int .u32 0, .int .u32 0, .int .u32 0, .int .u32 0], .bool false]) ∧ Upd [] w w' := by
  have lb := heap_lt h.h
  have nb : w.heap.size ≠ b := by omega
  have nb' : b ≠ w.heap.size := by omega
  have HA := Lib.hid (ring_answer_zero (ZR.mk (heap_alloc' (o := .cells #[.int .i64 0, .int .u32 0, .int .u32 0, .int .u32 0, .int .u32 0] 46) h.h)))
  clear h
  go_enter Try.func115, Try.ntmps115
  go_wp2_with (go_at_call 109; refine (HA.out).mono ?_; rintro e w1 ⟨rfl, hu1⟩; have HU1 := Lib.hid hu1; have hz := hu1.keepb (heap_alloc_new _ _) (by simp); have HZ := Lib.hid hz; have zf := fun j => frozen_of_heap hz j; have z0 := cell_of_heap hz 0; have z1 := cell_of_heap hz 1; have z2 := cell_of_heap hz 2; have z3 := cell_of_heap hz 3; have z4 := cell_of_heap hz 4; simp at z0 z1 z2 z3 z4; clear hz hu1)
  refine ret_result rfl (g := w.heap.size) (t := 46) (fr := (0, 0)) (x0 := .int .i64 0) (x1 := .int .u32 0) (x2 := .int .u32 0) (x3 := .int .u32 0) (x4 := .int .u32 0) rfl rfl rfl (hg := ?hg) ?_
  case hg =>
    repeat (first | (with_reducible exact HZ.out) | (with_reducible apply heap_set2))
    all_goals rfl
  refine ⟨rfl, ?_⟩
  repeat (with_reducible refine Upd.setCell ?_ (by simp) _)
  exact ((Upd.refl _ _).alloc _).trans HU1.out
set_option maxRecDepth 100000 in
set_option maxHeartbeats 1000000 in
theorem pop_result {cap wd : Int} {w : World} {b : Nat} {t : TypeId} {s : RgS} (h : RG cap wd w b t s) (hon : s.on = false) :
    Calls Try.prog 115 #[.pointer (some ⟨b, 0, none⟩)] w fun e w' => e = .returned (.tuple #[.agg #[.int .i64 s.f, .int .u32 s.r0, .int .u32 s.r1, .int .u32 s.r2, .int .u32 s.r3], .bool true]) ∧ Upd [] w w' := by
  have lb := heap_lt h.h
  have nb : w.heap.size ≠ b := by omega
  have nb' : b ≠ w.heap.size := by omega
  have HA := Lib.hid (ring_answer (h.keep ((Upd.refl [] w).alloc (.cells #[.int .i64 0, .int .u32 0, .int .u32 0, .int .u32 0, .int .u32 0] 46)) (by simp)) hon)
  clear h
  go_enter Try.func115, Try.ntmps115
  go_wp2_with (go_at_call 109; refine (HA.out).mono ?_; rintro e w1 ⟨rfl, hu1⟩; have HU1 := Lib.hid hu1; have hz := hu1.keepb (heap_alloc_new _ _) (by simp); have HZ := Lib.hid hz; have zf := fun j => frozen_of_heap hz j; have z0 := cell_of_heap hz 0; have z1 := cell_of_heap hz 1; have z2 := cell_of_heap hz 2; have z3 := cell_of_heap hz 3; have z4 := cell_of_heap hz 4; simp at z0 z1 z2 z3 z4; clear hz hu1)
  refine ret_result rfl (g := w.heap.size) (t := 46) (fr := (0, 0)) (x0 := .int .i64 s.f) (x1 := .int .u32 s.r0) (x2 := .int .u32 s.r1) (x3 := .int .u32 s.r2) (x4 := .int .u32 s.r3) rfl rfl rfl (hg := ?hg) ?_
  case hg =>
    repeat (first | (with_reducible exact HZ.out) | (with_reducible apply heap_set2))
    all_goals rfl
  refine ⟨rfl, ?_⟩
  repeat (with_reducible refine Upd.setCell ?_ (by simp) _)
  exact ((Upd.refl _ _).alloc _).trans HU1.out
set_option maxRecDepth 100000 in
set_option maxHeartbeats 1000000 in
theorem pop_done {cap wd : Int} {w : World} {b : Nat} {t : TypeId} {s : RgS} (h : RG cap wd w b t s) (hon : s.on = false) : Calls Try.prog 114 #[.pointer (some ⟨b, 0, none⟩)] w fun e w' => e = .returned (.tuple #[.agg #[.int .i64 0, .int .i64 0, .int .u32 0], .bool false]) ∧ Upd [] w w' := by
  obtain ⟨-, -, -, -, -, -, -, -, -, -, x18⟩ := h.cells2
  rw [hon] at x18
  have lb := heap_lt h.h
  clear h hon
  go_enter Try.func114, Try.ntmps114
  go_wp2
  go_step3
  go_wp2
  rw [Exit.noGoto_ret]
  refine bodyPost_ret (v := .tuple #[.agg #[.int .i64 0, .int .i64 0, .int .u32 0], .bool false]) (by simp [results, Try.results114, go_sem]) rfl ?_
  refine ⟨rfl, ?_⟩
  exact ((Upd.refl _ _).alloc _).alloc _
set_option maxRecDepth 100000 in
set_option maxHeartbeats 1000000 in
theorem pop_at_head {cap wd : Int} {w : World} {p b : Nat} {t : TypeId} {s : RgS} (hp : w.cell? ⟨p, 0, none⟩ = some (.pointer (some ⟨b, 0, none⟩))) (h : RG cap wd w b t s) (hc : Cap5 cap) (h1 : 1 ≤ wd) (h4 : wd ≤ 4) :
    Calls Try.prog 117 #[.int .i64 1, .pointer (some ⟨p, 0, none⟩)] w fun e w' => e = .returned (.int .i64 0) ∧ Upd [] w w' := by
  obtain ⟨x0, x1, x2, x3, x4, -, -, -⟩ := h.cells
  have HC := Lib.hid fun w => cell_ring_head cap wd hc h1 h4 w
  clear h hc h1 h4
  go_enter Try.func117, Try.ntmps117
  go_wp2_with (go_at_call 54; refine (HC.out _).mono ?_; rintro e w1 ⟨rfl, hu1⟩)
  go_ret
  exact ⟨rfl, hu1⟩
set_option maxRecDepth 100000 in
set_option maxHeartbeats 1000000 in
theorem pop_at_tail {cap wd : Int} {w : World} {p b : Nat} {t : TypeId} {s : RgS} (hp : w.cell? ⟨p, 0, none⟩ = some (.pointer (some ⟨b, 0, none⟩))) (h : RG cap wd w b t s) (hc : Cap5 cap) (h1 : 1 ≤ wd) (h4 : wd ≤ 4) :
    Calls Try.prog 117 #[.int .i64 2, .pointer (some ⟨p, 0, none⟩)] w fun e w' => e = .returned (.int .i64 1) ∧ Upd [] w w' := by
  obtain ⟨x0, x1, x2, x3, x4, -, -, -⟩ := h.cells
  have HC := Lib.hid fun w => cell_ring_tail cap wd hc h1 h4 w
  clear h hc h1 h4
  go_enter Try.func117, Try.ntmps117
  go_wp2_with (go_at_call 54; refine (HC.out _).mono ?_; rintro e w1 ⟨rfl, hu1⟩)
  go_ret
  exact ⟨rfl, hu1⟩
end Go.Proofs.Ytnnakiojfpnphaa
namespace Go.Proofs.Ytnnakiojfpnphaa
open Go.RowKit

set_option maxRecDepth 100000 in
set_option maxHeartbeats 2000000 in
theorem push_act0 {cap wd : Int} {w : World} {b : Nat} {t : TypeId} {s : RgS} (h : RG cap wd w b t s) (hn : s.n = 0) (hon : s.on = true) (hc : Cap5 cap) (h1 : 1 ≤ wd) (h4 : wd ≤ 4) :
    Calls Try.prog 103 #[.pointer (some ⟨b, 0, none⟩)] w fun e w' => e = .returned (.tuple #[.agg #[.int .i64 1, .int .i64 1, .int .u32 0], .bool true]) ∧ Upd [] w w' := by
  obtain ⟨x0, x1, x2, x3, x4, x5, x6, x7⟩ := h.cells
  obtain ⟨-, -, -, -, -, -, -, -, -, -, x18⟩ := h.cells2
  rw [hn] at x5
  rw [hon] at x18
  have lb := heap_lt h.h
  have HG := Lib.hid h
  have hmf : ∀ (fn : Fn) (first cap : Array Value) (w : World), (Instr.makeFunc fn first cap).run Try.prog w = .ok (.func fn first cap) w := fun _ _ _ _ => rfl
  have hbx : ((w.alloc (.cells #[.pointer (some ⟨b, 0, none⟩)] 122)).alloc (.cells #[.int .i64 0, .int .i64 0, .int .u32 0] 41)).cell? ⟨w.heap.size, 0, none⟩ = some (.pointer (some ⟨b, 0, none⟩)) := by rw [cell_of_heap (heap_alloc' (heap_alloc_new _ _))]; rfl
  have HAT := Lib.hid fun W' (k : Upd [] ((w.alloc (.cells #[.pointer (some ⟨b, 0, none⟩)] 122)).alloc (.cells #[.int .i64 0, .int .i64 0, .int .u32 0] 41)) W') => push_at_tail ((k.cell (p := ⟨w.heap.size, 0, none⟩) (by simp; omega) (by simp)).trans hbx) (h.keep (((Upd.refl [] w).alloc _).alloc _ |>.trans k) (by simp)) hc h1 h4
  clear h hn hon hc h1 h4 hbx
  go_enter Try.func103, Try.ntmps103
  go_wp2
  refine wp_scope_jump1 0 rfl ?_
  intro K HK
  go_wp2
  go_step3
  refine And.intro rfl (HK.out _ _ ?_)
  clear HK
  go_wp2_with (go_at_call 106; refine (HAT.out _ (by first | exact Upd.refl _ _ | exact (Upd.refl _ _).drew | exact (Upd.refl _ _).drewN _)).mono ?_; rintro e w1 ⟨rfl, hu1⟩; have HU1 := Lib.hid (show Upd [] w w1 from (((Upd.refl [] w).alloc _).alloc _).trans (show Upd [] ((w.alloc (.cells #[.pointer (some ⟨b, 0, none⟩)] 122)).alloc (.cells #[.int .i64 0, .int .i64 0, .int .u32 0] 41)) w1 from by first | exact hu1 | exact hu1.of_drew | exact hu1.of_drewN)); have hz := hu1.keepb (k := w.heap.size + 1) (by first | exact heap_alloc_at _ (by simp) | exact heap_drew' (heap_alloc_at _ (by simp))) (by simp); obtain ⟨z0, z1, z2⟩ := cells3 hz; have zf := fun j => frozen_of_heap hz j; have HZ := Lib.hid hz; have hbx := hu1.keepb (k := w.heap.size) (by first | exact heap_alloc' (heap_alloc_new _ _) | exact heap_drew' (heap_alloc' (heap_alloc_new _ _))) (by simp); have bx := cell_of_heap hbx 0; simp at bx; obtain ⟨y0, y1, y2, y3, y4, y5, y6, y7⟩ := (HG.out.keep HU1.out (by simp)).cells; clear hu1 hz hbx)
  all_goals
    rw [Exit.noGoto_ret]
    refine ret_act rfl (g := w.heap.size + 1) (t := 41) (fr := (0, 0)) (x := .int .i64 1) (y := .int .i64 1) (z := .int .u32 0) rfl rfl rfl (hg := ?hg) ?_
    case hg =>
      repeat (first | (with_reducible exact HZ.out) | (with_reducible apply heap_set2) | (with_reducible apply heap_drew'))
      all_goals rfl
    refine ⟨rfl, ?_⟩
    repeat (first | (with_reducible refine Upd.setCell ?_ (by simp) _) | (with_reducible refine Upd.drew ?_))
    exact HU1.out
set_option maxRecDepth 100000 in
set_option maxHeartbeats 2000000 in
theorem push_act1 {cap wd : Int} {w : World} {b : Nat} {t : TypeId} {s : RgS} (h : RG cap wd w b t s) (hn : s.n = 1) (hon : s.on = true) (hc : Cap5 cap) (h1 : 1 ≤ wd) (h4 : wd ≤ 4) :
    Calls Try.prog 103 #[.pointer (some ⟨b, 0, none⟩)] w fun e w' => e = .returned (.tuple #[.agg #[.int .i64 1, .int .i64 0, .int .u32 0], .bool true]) ∧ Upd [] w w' := by
  obtain ⟨x0, x1, x2, x3, x4, x5, x6, x7⟩ := h.cells
  obtain ⟨-, -, -, -, -, -, -, -, -, -, x18⟩ := h.cells2
  rw [hn] at x5
  rw [hon] at x18
  have lb := heap_lt h.h
  have HG := Lib.hid h
  have hmf : ∀ (fn : Fn) (first cap : Array Value) (w : World), (Instr.makeFunc fn first cap).run Try.prog w = .ok (.func fn first cap) w := fun _ _ _ _ => rfl
  have hbx : ((w.alloc (.cells #[.pointer (some ⟨b, 0, none⟩)] 122)).alloc (.cells #[.int .i64 0, .int .i64 0, .int .u32 0] 41)).cell? ⟨w.heap.size, 0, none⟩ = some (.pointer (some ⟨b, 0, none⟩)) := by rw [cell_of_heap (heap_alloc' (heap_alloc_new _ _))]; rfl
  have HAT := Lib.hid fun W' (k : Upd [] ((w.alloc (.cells #[.pointer (some ⟨b, 0, none⟩)] 122)).alloc (.cells #[.int .i64 0, .int .i64 0, .int .u32 0] 41)) W') => push_at_head ((k.cell (p := ⟨w.heap.size, 0, none⟩) (by simp; omega) (by simp)).trans hbx) (h.keep (((Upd.refl [] w).alloc _).alloc _ |>.trans k) (by simp)) hc h1 h4
  clear h hn hon hc h1 h4 hbx
  go_enter Try.func103, Try.ntmps103
  go_wp2
  refine wp_scope_jump1 1 rfl ?_
  intro K HK
  go_wp2
  go_step3
  refine And.intro rfl (HK.out _ _ ?_)
  clear HK
  go_wp2_with (go_at_call 106; refine (HAT.out _ (by first | exact Upd.refl _ _ | exact (Upd.refl _ _).drew | exact (Upd.refl _ _).drewN _)).mono ?_; rintro e w1 ⟨rfl, hu1⟩; have HU1 := Lib.hid (show Upd [] w w1 from (((Upd.refl [] w).alloc _).alloc _).trans (show Upd [] ((w.alloc (.cells #[.pointer (some ⟨b, 0, none⟩)] 122)).alloc (.cells #[.int .i64 0, .int .i64 0, .int .u32 0] 41)) w1 from by first | exact hu1 | exact hu1.of_drew | exact hu1.of_drewN)); have hz := hu1.keepb (k := w.heap.size + 1) (by first | exact heap_alloc_at _ (by simp) | exact heap_drew' (heap_alloc_at _ (by simp))) (by simp); obtain ⟨z0, z1, z2⟩ := cells3 hz; have zf := fun j => frozen_of_heap hz j; have HZ := Lib.hid hz; have hbx := hu1.keepb (k := w.heap.size) (by first | exact heap_alloc' (heap_alloc_new _ _) | exact heap_drew' (heap_alloc' (heap_alloc_new _ _))) (by simp); have bx := cell_of_heap hbx 0; simp at bx; obtain ⟨y0, y1, y2, y3, y4, y5, y6, y7⟩ := (HG.out.keep HU1.out (by simp)).cells; clear hu1 hz hbx)
  all_goals
    rw [Exit.noGoto_ret]
    refine ret_act rfl (g := w.heap.size + 1) (t := 41) (fr := (0, 0)) (x := .int .i64 1) (y := .int .i64 0) (z := .int .u32 0) rfl rfl rfl (hg := ?hg) ?_
    case hg =>
      repeat (first | (with_reducible exact HZ.out) | (with_reducible apply heap_set2) | (with_reducible apply heap_drew'))
      all_goals rfl
    refine ⟨rfl, ?_⟩
    repeat (first | (with_reducible refine Upd.setCell ?_ (by simp) _) | (with_reducible refine Upd.drew ?_))
    exact HU1.out
set_option maxRecDepth 100000 in
set_option maxHeartbeats 2000000 in
theorem pop_act0 {cap wd : Int} {w : World} {b : Nat} {t : TypeId} {s : RgS} (h : RG cap wd w b t s) (hn : s.n = 0) (hon : s.on = true) (hc : Cap5 cap) (h1 : 1 ≤ wd) (h4 : wd ≤ 4) :
    Calls Try.prog 114 #[.pointer (some ⟨b, 0, none⟩)] w fun e w' => e = .returned (.tuple #[.agg #[.int .i64 1, .int .i64 0, .int .u32 0], .bool true]) ∧ Upd [] w w' := by
  obtain ⟨x0, x1, x2, x3, x4, x5, x6, x7⟩ := h.cells
  obtain ⟨-, -, -, -, -, -, -, -, -, -, x18⟩ := h.cells2
  rw [hn] at x5
  rw [hon] at x18
  have lb := heap_lt h.h
  have HG := Lib.hid h
  have hmf : ∀ (fn : Fn) (first cap : Array Value) (w : World), (Instr.makeFunc fn first cap).run Try.prog w = .ok (.func fn first cap) w := fun _ _ _ _ => rfl
  have hbx : ((w.alloc (.cells #[.pointer (some ⟨b, 0, none⟩)] 124)).alloc (.cells #[.int .i64 0, .int .i64 0, .int .u32 0] 41)).cell? ⟨w.heap.size, 0, none⟩ = some (.pointer (some ⟨b, 0, none⟩)) := by rw [cell_of_heap (heap_alloc' (heap_alloc_new _ _))]; rfl
  have HAT := Lib.hid fun W' (k : Upd [] ((w.alloc (.cells #[.pointer (some ⟨b, 0, none⟩)] 124)).alloc (.cells #[.int .i64 0, .int .i64 0, .int .u32 0] 41)) W') => pop_at_head ((k.cell (p := ⟨w.heap.size, 0, none⟩) (by simp; omega) (by simp)).trans hbx) (h.keep (((Upd.refl [] w).alloc _).alloc _ |>.trans k) (by simp)) hc h1 h4
  clear h hn hon hc h1 h4 hbx
  go_enter Try.func114, Try.ntmps114
  go_wp2
  refine wp_scope_jump1 0 rfl ?_
  intro K HK
  go_wp2
  go_step3
  refine And.intro rfl (HK.out _ _ ?_)
  clear HK
  go_wp2_with (go_at_call 117; refine (HAT.out _ (by first | exact Upd.refl _ _ | exact (Upd.refl _ _).drew | exact (Upd.refl _ _).drewN _)).mono ?_; rintro e w1 ⟨rfl, hu1⟩; have HU1 := Lib.hid (show Upd [] w w1 from (((Upd.refl [] w).alloc _).alloc _).trans (show Upd [] ((w.alloc (.cells #[.pointer (some ⟨b, 0, none⟩)] 124)).alloc (.cells #[.int .i64 0, .int .i64 0, .int .u32 0] 41)) w1 from by first | exact hu1 | exact hu1.of_drew | exact hu1.of_drewN)); have hz := hu1.keepb (k := w.heap.size + 1) (by first | exact heap_alloc_at _ (by simp) | exact heap_drew' (heap_alloc_at _ (by simp))) (by simp); obtain ⟨z0, z1, z2⟩ := cells3 hz; have zf := fun j => frozen_of_heap hz j; have HZ := Lib.hid hz; have hbx := hu1.keepb (k := w.heap.size) (by first | exact heap_alloc' (heap_alloc_new _ _) | exact heap_drew' (heap_alloc' (heap_alloc_new _ _))) (by simp); have bx := cell_of_heap hbx 0; simp at bx; obtain ⟨y0, y1, y2, y3, y4, y5, y6, y7⟩ := (HG.out.keep HU1.out (by simp)).cells; clear hu1 hz hbx)
  all_goals
    rw [Exit.noGoto_ret]
    refine ret_act rfl (g := w.heap.size + 1) (t := 41) (fr := (0, 0)) (x := .int .i64 1) (y := .int .i64 0) (z := .int .u32 0) rfl rfl rfl (hg := ?hg) ?_
    case hg =>
      repeat (first | (with_reducible exact HZ.out) | (with_reducible apply heap_set2) | (with_reducible apply heap_drew'))
      all_goals rfl
    refine ⟨rfl, ?_⟩
    repeat (first | (with_reducible refine Upd.setCell ?_ (by simp) _) | (with_reducible refine Upd.drew ?_))
    exact HU1.out
set_option maxRecDepth 100000 in
set_option maxHeartbeats 2000000 in
theorem pop_act1 {cap wd : Int} {w : World} {b : Nat} {t : TypeId} {s : RgS} (h : RG cap wd w b t s) (hn : s.n = 1) (hon : s.on = true) (hc : Cap5 cap) (h1 : 1 ≤ wd) (h4 : wd ≤ 4) :
    Calls Try.prog 114 #[.pointer (some ⟨b, 0, none⟩)] w fun e w' => e = .returned (.tuple #[.agg #[.int .i64 1, .int .i64 1, .int .u32 0], .bool true]) ∧ Upd [] w w' := by
  obtain ⟨x0, x1, x2, x3, x4, x5, x6, x7⟩ := h.cells
  obtain ⟨-, -, -, -, -, -, -, -, -, -, x18⟩ := h.cells2
  rw [hn] at x5
  rw [hon] at x18
  have lb := heap_lt h.h
  have HG := Lib.hid h
  have hmf : ∀ (fn : Fn) (first cap : Array Value) (w : World), (Instr.makeFunc fn first cap).run Try.prog w = .ok (.func fn first cap) w := fun _ _ _ _ => rfl
  have hbx : ((w.alloc (.cells #[.pointer (some ⟨b, 0, none⟩)] 124)).alloc (.cells #[.int .i64 0, .int .i64 0, .int .u32 0] 41)).cell? ⟨w.heap.size, 0, none⟩ = some (.pointer (some ⟨b, 0, none⟩)) := by rw [cell_of_heap (heap_alloc' (heap_alloc_new _ _))]; rfl
  have HAT := Lib.hid fun W' (k : Upd [] ((w.alloc (.cells #[.pointer (some ⟨b, 0, none⟩)] 124)).alloc (.cells #[.int .i64 0, .int .i64 0, .int .u32 0] 41)) W') => pop_at_tail ((k.cell (p := ⟨w.heap.size, 0, none⟩) (by simp; omega) (by simp)).trans hbx) (h.keep (((Upd.refl [] w).alloc _).alloc _ |>.trans k) (by simp)) hc h1 h4
  clear h hn hon hc h1 h4 hbx
  go_enter Try.func114, Try.ntmps114
  go_wp2
  refine wp_scope_jump1 1 rfl ?_
  intro K HK
  go_wp2
  go_step3
  refine And.intro rfl (HK.out _ _ ?_)
  clear HK
  go_wp2_with (go_at_call 117; refine (HAT.out _ (by first | exact Upd.refl _ _ | exact (Upd.refl _ _).drew | exact (Upd.refl _ _).drewN _)).mono ?_; rintro e w1 ⟨rfl, hu1⟩; have HU1 := Lib.hid (show Upd [] w w1 from (((Upd.refl [] w).alloc _).alloc _).trans (show Upd [] ((w.alloc (.cells #[.pointer (some ⟨b, 0, none⟩)] 124)).alloc (.cells #[.int .i64 0, .int .i64 0, .int .u32 0] 41)) w1 from by first | exact hu1 | exact hu1.of_drew | exact hu1.of_drewN)); have hz := hu1.keepb (k := w.heap.size + 1) (by first | exact heap_alloc_at _ (by simp) | exact heap_drew' (heap_alloc_at _ (by simp))) (by simp); obtain ⟨z0, z1, z2⟩ := cells3 hz; have zf := fun j => frozen_of_heap hz j; have HZ := Lib.hid hz; have hbx := hu1.keepb (k := w.heap.size) (by first | exact heap_alloc' (heap_alloc_new _ _) | exact heap_drew' (heap_alloc' (heap_alloc_new _ _))) (by simp); have bx := cell_of_heap hbx 0; simp at bx; obtain ⟨y0, y1, y2, y3, y4, y5, y6, y7⟩ := (HG.out.keep HU1.out (by simp)).cells; clear hu1 hz hbx)
  all_goals
    rw [Exit.noGoto_ret]
    refine ret_act rfl (g := w.heap.size + 1) (t := 41) (fr := (0, 0)) (x := .int .i64 1) (y := .int .i64 1) (z := .int .u32 0) rfl rfl rfl (hg := ?hg) ?_
    case hg =>
      repeat (first | (with_reducible exact HZ.out) | (with_reducible apply heap_set2) | (with_reducible apply heap_drew'))
      all_goals rfl
    refine ⟨rfl, ?_⟩
    repeat (first | (with_reducible refine Upd.setCell ?_ (by simp) _) | (with_reducible refine Upd.drew ?_))
    exact HU1.out
end Go.Proofs.Ytnnakiojfpnphaa
namespace Go.Proofs.Ytnnakiojfpnphaa
open Go.RowKit

set_option maxRecDepth 100000 in
set_option maxHeartbeats 2000000 in
theorem push_last {cap wd : Int} {w : World} {b : Nat} {t : TypeId} {s : RgS} (h : RG cap wd w b t s) (hn : s.n = wd + 2) (hon : s.on = true) (hc : Cap5 cap) (h1 : 1 ≤ wd) (h4 : wd ≤ 4) :
    Calls Try.prog 103 #[.pointer (some ⟨b, 0, none⟩)] w fun e w' => e = .returned (.tuple #[.agg #[.int .i64 2, .int .i64 1, .int .u32 (IntKind.u32.wrap (s.a + 1))], .bool true]) ∧ Upd [] w w' := by
  obtain ⟨x0, x1, x2, x3, x4, x5, x6, x7⟩ := h.cells
  obtain ⟨-, -, -, -, -, -, -, -, -, -, x18⟩ := h.cells2
  rw [hn] at x5
  rw [hon] at x18
  have lb := heap_lt h.h
  have HG := Lib.hid h
  have hmf : ∀ (fn : Fn) (first cap : Array Value) (w : World), (Instr.makeFunc fn first cap).run Try.prog w = .ok (.func fn first cap) w := fun _ _ _ _ => rfl
  have hbx : ((w.alloc (.cells #[.pointer (some ⟨b, 0, none⟩)] 122)).alloc (.cells #[.int .i64 0, .int .i64 0, .int .u32 0] 41)).cell? ⟨w.heap.size, 0, none⟩ = some (.pointer (some ⟨b, 0, none⟩)) := by rw [cell_of_heap (heap_alloc' (heap_alloc_new _ _))]; rfl
  have HAT := Lib.hid fun W' (k : Upd [] ((w.alloc (.cells #[.pointer (some ⟨b, 0, none⟩)] 122)).alloc (.cells #[.int .i64 0, .int .i64 0, .int .u32 0] 41)) W') => push_at_tail ((k.cell (p := ⟨w.heap.size, 0, none⟩) (by simp; omega) (by simp)).trans hbx) (h.keep (((Upd.refl [] w).alloc _).alloc _ |>.trans k) (by simp)) hc h1 h4
  have hp : ∀ W', Upd [] ((w.alloc (.cells #[.pointer (some ⟨b, 0, none⟩)] 122)).alloc (.cells #[.int .i64 0, .int .i64 0, .int .u32 0] 41)) W' → Calls Try.prog 107 #[.pointer (some ⟨b, 0, none⟩)] W' fun e w' => e = .returned (.int .i64 wd) ∧ W' = w' := fun W' k => by
    have h0 := ring_past (n := wd + 2) (((((Upd.refl [] w).alloc _).alloc _ |>.trans k).cell (p := ⟨b, 5, none⟩) lb (by simp)).trans x5) (by omega) (by omega)
    rw [show wd + 2 - 2 = wd by omega] at h0
    exact h0
  have HP := Lib.hid hp
  have xb3 := (((Upd.refl [] w).alloc (.cells #[.pointer (some ⟨b, 0, none⟩)] 122)).alloc (.cells #[.int .i64 0, .int .i64 0, .int .u32 0] 41) |>.cell (p := ⟨b, 3, none⟩) lb (by simp)).trans x3
  have xb6 := (((Upd.refl [] w).alloc (.cells #[.pointer (some ⟨b, 0, none⟩)] 122)).alloc (.cells #[.int .i64 0, .int .i64 0, .int .u32 0] 41) |>.cell (p := ⟨b, 6, none⟩) lb (by simp)).trans x6
  have ne1 : w.heap.size ≠ w.heap.size + 1 := by omega
  have ne2 : b ≠ w.heap.size + 1 := by omega
  have ne3 : w.heap.size + 1 ≠ w.heap.size := by omega
  have ne4 : w.heap.size + 1 ≠ b := by omega
  have d0 : (wd + 2 == 0) = false := by simp; omega
  have d1 : (wd + 2 == 1) = false := by simp; omega
  have dw : decide (wd < wd) = false := by simp
  clear h hn hon hc h1 h4 hp
  go_enter Try.func103, Try.ntmps103
  go_wp2
  go_step3
  go_wp2
  go_region_held3 (fun w' => w'.cell? ⟨w.heap.size, 0, none⟩ = some (.pointer (some ⟨b, 0, none⟩)) ∧ w'.cell? ⟨b, 3, none⟩ = some (.int .i64 wd))
    (first | (with_reducible exact ⟨hbx, xb3⟩) | (go_keep; done))
    (first | (go_at_call 107; refine (HP.out _ (by first | exact Upd.refl _ _ | exact (Upd.refl _ _).drew | exact (Upd.refl _ _).drewN _ | exact (Upd.refl _ _).drew.drew)).mono ?_; rintro e w1 ⟨rfl, rfl⟩))
  all_goals
    go_wp2
    go_region_held3 (fun w' => w'.cell? ⟨w.heap.size, 0, none⟩ = some (.pointer (some ⟨b, 0, none⟩)) ∧ w'.cell? ⟨b, 6, none⟩ = some (.int .u32 s.a))
      (first | (with_reducible exact ⟨hbx, xb6⟩) | (with_reducible exact ⟨bx, y6⟩) | (go_keep; done))
      (first
        | (go_at_call 106; refine (HAT.out _ (by first | exact Upd.refl _ _ | exact (Upd.refl _ _).drew | exact (Upd.refl _ _).drewN _ | exact (Upd.refl _ _).drew.drew)).mono ?_; rintro e w1 ⟨rfl, hu1⟩; have HU1 := Lib.hid (show Upd [] w w1 from (((Upd.refl [] w).alloc _).alloc _).trans (show Upd [] ((w.alloc (.cells #[.pointer (some ⟨b, 0, none⟩)] 122)).alloc (.cells #[.int .i64 0, .int .i64 0, .int .u32 0] 41)) w1 from by first | exact hu1 | exact hu1.of_drew | exact hu1.of_drewN | exact hu1.of_drew.of_drew)); have hz := hu1.keepb (k := w.heap.size + 1) (by first | exact heap_alloc_at _ (by simp) | exact heap_drew' (heap_alloc_at _ (by simp)) | exact heap_drew' (heap_drew' (heap_alloc_at _ (by simp)))) (by simp); obtain ⟨z0, z1, z2⟩ := cells3 hz; have zf := fun j => frozen_of_heap hz j; have HZ := Lib.hid hz; have hbx := hu1.keepb (k := w.heap.size) (by first | exact heap_alloc' (heap_alloc_new _ _) | exact heap_drew' (heap_alloc' (heap_alloc_new _ _)) | exact heap_drew' (heap_drew' (heap_alloc' (heap_alloc_new _ _)))) (by simp); have bx := cell_of_heap hbx 0; simp at bx; obtain ⟨y0, y1, y2, y3, y4, y5, y6, y7⟩ := (HG.out.keep HU1.out (by simp)).cells; clear hu1 hz hbx))
    all_goals
      go_wp2
      rw [Exit.noGoto_ret]
      refine ret_act rfl (g := w.heap.size + 1) (t := 41) (fr := (0, 0)) (x := .int .i64 2) (y := .int .i64 1) (z := .int .u32 (IntKind.u32.wrap (s.a + 1))) rfl rfl rfl (hg := ?hg) ?_
      case hg =>
        repeat (first | (with_reducible exact HZ.out) | (with_reducible apply heap_set2) | (with_reducible apply heap_drew'))
        all_goals first | rfl | simp
      refine ⟨rfl, ?_⟩
      repeat (first | (with_reducible refine Upd.setCell ?_ (by simp) _) | (with_reducible refine Upd.drew ?_))
      exact HU1.out
set_option maxRecDepth 100000 in
set_option maxHeartbeats 2000000 in
theorem pop_last {cap wd : Int} {w : World} {b : Nat} {t : TypeId} {s : RgS} (h : RG cap wd w b t s) (hn : s.n = wd + 2) (hon : s.on = true) (hc : Cap5 cap) (h1 : 1 ≤ wd) (h4 : wd ≤ 4) :
    Calls Try.prog 114 #[.pointer (some ⟨b, 0, none⟩)] w fun e w' => e = .returned (.tuple #[.agg #[.int .i64 2, .int .i64 0, .int .u32 (IntKind.u32.wrap (s.a + 1))], .bool true]) ∧ Upd [] w w' := by
  obtain ⟨x0, x1, x2, x3, x4, x5, x6, x7⟩ := h.cells
  obtain ⟨-, -, -, -, -, -, -, -, -, -, x18⟩ := h.cells2
  rw [hn] at x5
  rw [hon] at x18
  have lb := heap_lt h.h
  have HG := Lib.hid h
  have hmf : ∀ (fn : Fn) (first cap : Array Value) (w : World), (Instr.makeFunc fn first cap).run Try.prog w = .ok (.func fn first cap) w := fun _ _ _ _ => rfl
  have hbx : ((w.alloc (.cells #[.pointer (some ⟨b, 0, none⟩)] 124)).alloc (.cells #[.int .i64 0, .int .i64 0, .int .u32 0] 41)).cell? ⟨w.heap.size, 0, none⟩ = some (.pointer (some ⟨b, 0, none⟩)) := by rw [cell_of_heap (heap_alloc' (heap_alloc_new _ _))]; rfl
  have HAT := Lib.hid fun W' (k : Upd [] ((w.alloc (.cells #[.pointer (some ⟨b, 0, none⟩)] 124)).alloc (.cells #[.int .i64 0, .int .i64 0, .int .u32 0] 41)) W') => pop_at_head ((k.cell (p := ⟨w.heap.size, 0, none⟩) (by simp; omega) (by simp)).trans hbx) (h.keep (((Upd.refl [] w).alloc _).alloc _ |>.trans k) (by simp)) hc h1 h4
  have hp : ∀ W', Upd [] ((w.alloc (.cells #[.pointer (some ⟨b, 0, none⟩)] 124)).alloc (.cells #[.int .i64 0, .int .i64 0, .int .u32 0] 41)) W' → Calls Try.prog 107 #[.pointer (some ⟨b, 0, none⟩)] W' fun e w' => e = .returned (.int .i64 wd) ∧ W' = w' := fun W' k => by
    have h0 := ring_past (n := wd + 2) (((((Upd.refl [] w).alloc _).alloc _ |>.trans k).cell (p := ⟨b, 5, none⟩) lb (by simp)).trans x5) (by omega) (by omega)
    rw [show wd + 2 - 2 = wd by omega] at h0
    exact h0
  have HP := Lib.hid hp
  have xb3 := (((Upd.refl [] w).alloc (.cells #[.pointer (some ⟨b, 0, none⟩)] 124)).alloc (.cells #[.int .i64 0, .int .i64 0, .int .u32 0] 41) |>.cell (p := ⟨b, 3, none⟩) lb (by simp)).trans x3
  have xb6 := (((Upd.refl [] w).alloc (.cells #[.pointer (some ⟨b, 0, none⟩)] 124)).alloc (.cells #[.int .i64 0, .int .i64 0, .int .u32 0] 41) |>.cell (p := ⟨b, 6, none⟩) lb (by simp)).trans x6
  have ne1 : w.heap.size ≠ w.heap.size + 1 := by omega
  have ne2 : b ≠ w.heap.size + 1 := by omega
  have ne3 : w.heap.size + 1 ≠ w.heap.size := by omega
  have ne4 : w.heap.size + 1 ≠ b := by omega
  have d0 : (wd + 2 == 0) = false := by simp; omega
  have d1 : (wd + 2 == 1) = false := by simp; omega
  have dw : decide (wd < wd) = false := by simp
  clear h hn hon hc h1 h4 hp
  go_enter Try.func114, Try.ntmps114
  go_wp2
  go_step3
  go_wp2
  go_region_held3 (fun w' => w'.cell? ⟨w.heap.size, 0, none⟩ = some (.pointer (some ⟨b, 0, none⟩)) ∧ w'.cell? ⟨b, 3, none⟩ = some (.int .i64 wd))
    (first | (with_reducible exact ⟨hbx, xb3⟩) | (go_keep; done))
    (first | (go_at_call 107; refine (HP.out _ (by first | exact Upd.refl _ _ | exact (Upd.refl _ _).drew | exact (Upd.refl _ _).drewN _ | exact (Upd.refl _ _).drew.drew)).mono ?_; rintro e w1 ⟨rfl, rfl⟩))
  all_goals
    go_wp2
    go_region_held3 (fun w' => w'.cell? ⟨w.heap.size, 0, none⟩ = some (.pointer (some ⟨b, 0, none⟩)) ∧ w'.cell? ⟨b, 6, none⟩ = some (.int .u32 s.a))
      (first | (with_reducible exact ⟨hbx, xb6⟩) | (with_reducible exact ⟨bx, y6⟩) | (go_keep; done))
      (first
        | (go_at_call 117; refine (HAT.out _ (by first | exact Upd.refl _ _ | exact (Upd.refl _ _).drew | exact (Upd.refl _ _).drewN _ | exact (Upd.refl _ _).drew.drew)).mono ?_; rintro e w1 ⟨rfl, hu1⟩; have HU1 := Lib.hid (show Upd [] w w1 from (((Upd.refl [] w).alloc _).alloc _).trans (show Upd [] ((w.alloc (.cells #[.pointer (some ⟨b, 0, none⟩)] 124)).alloc (.cells #[.int .i64 0, .int .i64 0, .int .u32 0] 41)) w1 from by first | exact hu1 | exact hu1.of_drew | exact hu1.of_drewN | exact hu1.of_drew.of_drew)); have hz := hu1.keepb (k := w.heap.size + 1) (by first | exact heap_alloc_at _ (by simp) | exact heap_drew' (heap_alloc_at _ (by simp)) | exact heap_drew' (heap_drew' (heap_alloc_at _ (by simp)))) (by simp); obtain ⟨z0, z1, z2⟩ := cells3 hz; have zf := fun j => frozen_of_heap hz j; have HZ := Lib.hid hz; have hbx := hu1.keepb (k := w.heap.size) (by first | exact heap_alloc' (heap_alloc_new _ _) | exact heap_drew' (heap_alloc' (heap_alloc_new _ _)) | exact heap_drew' (heap_drew' (heap_alloc' (heap_alloc_new _ _)))) (by simp); have bx := cell_of_heap hbx 0; simp at bx; obtain ⟨y0, y1, y2, y3, y4, y5, y6, y7⟩ := (HG.out.keep HU1.out (by simp)).cells; clear hu1 hz hbx))
    all_goals
      go_wp2
      rw [Exit.noGoto_ret]
      refine ret_act rfl (g := w.heap.size + 1) (t := 41) (fr := (0, 0)) (x := .int .i64 2) (y := .int .i64 0) (z := .int .u32 (IntKind.u32.wrap (s.a + 1))) rfl rfl rfl (hg := ?hg) ?_
      case hg =>
        repeat (first | (with_reducible exact HZ.out) | (with_reducible apply heap_set2) | (with_reducible apply heap_drew'))
        all_goals first | rfl | simp
      refine ⟨rfl, ?_⟩
      repeat (first | (with_reducible refine Upd.setCell ?_ (by simp) _) | (with_reducible refine Upd.drew ?_))
      exact HU1.out
end Go.Proofs.Ytnnakiojfpnphaa
