/- Package ring: answers; acts of Push and Pop. -/
import Derived.Test.YtbjeojcnofpgfaaRing4
set_option linter.unusedVariables false
set_option linter.unusedSimpArgs false
namespace Go.Proofs.Ytbjeojcnofpgfaa
open Go.RowKit

set_option maxRecDepth 100000 in
set_option maxHeartbeats 1000000 in
theorem ring_answer_zero {w : World} {b : Nat} {t : TypeId} (h : ZR w b t) :
    Calls Try.prog 178 #[.pointer (some ⟨b, 0, none⟩)] w fun e w' => e = .returned (.tuple #[.agg #[.int .i64 0, .int .u32 0, .int .u32 0, .int .u32 0, .int .u32 0], .bool false]) ∧ Upd [] w w' := by
  have x17 := h.c17
  have x18 := h.c18
  have lb := heap_lt h.h
  have nb : w.heap.size ≠ b := by omega
  have nb' : b ≠ w.heap.size := by omega
  clear h
  go_enter Try.func178, Try.ntmps178
  go_wp2
  refine bodyPost_ret (v := .tuple #[.agg #[.int .i64 0, .int .u32 0, .int .u32 0, .int .u32 0, .int .u32 0], .bool false]) (by simp [results, Try.results178, go_sem]) rfl ?_
  refine ⟨rfl, ?_⟩
  exact (Upd.refl _ _).alloc _
set_option maxRecDepth 100000 in
set_option maxHeartbeats 1000000 in
theorem push_result_zero {w : World} {b : Nat} {t : TypeId} (h : ZR w b t) :
    Calls Try.prog 180 #[.pointer (some ⟨b, 0, none⟩)] w fun e w' => e = .returned (.tuple #[.agg #[.int .i64 0, .int .u32 0, .int .u32 0, .int .u32 0, .int .u32 0], .bool false]) ∧ Upd [] w w' := by
  have lb := heap_lt h.h
  have nb : w.heap.size ≠ b := by omega
  have nb' : b ≠ w.heap.size := by omega
  have HA := Lib.hid (ring_answer_zero (ZR.mk (heap_alloc' (o' := .cells #[.int .i64 0, .int .u32 0, .int .u32 0, .int .u32 0, .int .u32 0] 39) h.h)))
  clear h
  go_enter Try.func180, Try.ntmps180
  go_wp2_with (go_at_call 178; refine (HA.out).mono ?_; rintro e w1 ⟨rfl, hu1⟩; have HU1 := Lib.hid hu1; have hz := hu1.keepb (heap_alloc_new _ _) (by simp); have HZ := Lib.hid hz; have zf := fun j => frozen_of_heap hz j; have z0 := cell_of_heap hz 0; have z1 := cell_of_heap hz 1; have z2 := cell_of_heap hz 2; have z3 := cell_of_heap hz 3; have z4 := cell_of_heap hz 4; simp at z0 z1 z2 z3 z4; clear hz hu1)
  refine ret_result rfl (g := w.heap.size) (t := 39) (fr := (0, 0)) (x0 := .int .i64 0) (x1 := .int .u32 0) (x2 := .int .u32 0) (x3 := .int .u32 0) (x4 := .int .u32 0) rfl rfl rfl (hg := ?hg) ?_
  case hg =>
    repeat (first | (with_reducible exact HZ.out) | (with_reducible apply heap_set2))
    all_goals rfl
  refine ⟨rfl, ?_⟩
  repeat (with_reducible refine Upd.setCell ?_ (by simp) _)
  exact ((Upd.refl _ _).alloc _).trans HU1.out
set_option maxRecDepth 100000 in
set_option maxHeartbeats 1000000 in
theorem push_result {cap wd : Int} {w : World} {b : Nat} {t : TypeId} {s : RgS} (h : RG cap wd w b t s) (hon : s.on = false) :
    Calls Try.prog 180 #[.pointer (some ⟨b, 0, none⟩)] w fun e w' => e = .returned (.tuple #[.agg #[.int .i64 s.f, .int .u32 s.r0, .int .u32 s.r1, .int .u32 s.r2, .int .u32 s.r3], .bool true]) ∧ Upd [] w w' := by
  have lb := heap_lt h.h
  have nb : w.heap.size ≠ b := by omega
  have nb' : b ≠ w.heap.size := by omega
  have HA := Lib.hid (ring_answer (h.keep ((Upd.refl [] w).alloc (.cells #[.int .i64 0, .int .u32 0, .int .u32 0, .int .u32 0, .int .u32 0] 39)) (by simp)) hon)
  clear h
  go_enter Try.func180, Try.ntmps180
  go_wp2_with (go_at_call 178; refine (HA.out).mono ?_; rintro e w1 ⟨rfl, hu1⟩; have HU1 := Lib.hid hu1; have hz := hu1.keepb (heap_alloc_new _ _) (by simp); have HZ := Lib.hid hz; have zf := fun j => frozen_of_heap hz j; have z0 := cell_of_heap hz 0; have z1 := cell_of_heap hz 1; have z2 := cell_of_heap hz 2; have z3 := cell_of_heap hz 3; have z4 := cell_of_heap hz 4; simp at z0 z1 z2 z3 z4; clear hz hu1)
  refine ret_result rfl (g := w.heap.size) (t := 39) (fr := (0, 0)) (x0 := .int .i64 s.f) (x1 := .int .u32 s.r0) (x2 := .int .u32 s.r1) (x3 := .int .u32 s.r2) (x4 := .int .u32 s.r3) rfl rfl rfl (hg := ?hg) ?_
  case hg =>
    repeat (first | (with_reducible exact HZ.out) | (with_reducible apply heap_set2))
    all_goals rfl
  refine ⟨rfl, ?_⟩
  repeat (with_reducible refine Upd.setCell ?_ (by simp) _)
  exact ((Upd.refl _ _).alloc _).trans HU1.out
set_option maxRecDepth 100000 in
set_option maxHeartbeats 1000000 in
theorem push_done {cap wd : Int} {w : World} {b : Nat} {t : TypeId} {s : RgS} (h : RG cap wd w b t s) (hon : s.on = false) : Calls Try.prog 179 #[.pointer (some ⟨b, 0, none⟩)] w fun e w' => e = .returned (.tuple #[.agg #[.int .i64 0, .int .i64 0, .int .u32 0], .bool false]) ∧ Upd [] w w' := by
  obtain ⟨-, -, -, -, -, -, -, -, -, -, x18⟩ := h.cells2
  rw [hon] at x18
  have lb := heap_lt h.h
  clear h hon
  go_enter Try.func179, Try.ntmps179
  go_wp2
  go_step3
  go_wp2
  rw [Exit.noGoto_ret]
  refine bodyPost_ret (v := .tuple #[.agg #[.int .i64 0, .int .i64 0, .int .u32 0], .bool false]) (by simp [results, Try.results179, go_sem]) rfl ?_
  refine ⟨rfl, ?_⟩
  exact ((Upd.refl _ _).alloc _).alloc _
set_option maxRecDepth 100000 in
set_option maxHeartbeats 1000000 in
theorem push_at_head {cap wd : Int} {w : World} {p b : Nat} {t : TypeId} {s : RgS} (hp : w.cell? ⟨p, 0, none⟩ = some (.pointer (some ⟨b, 0, none⟩))) (h : RG cap wd w b t s) (hc : Cap5 cap) (h1 : 1 ≤ wd) (h4 : wd ≤ 4) :
    Calls Try.prog 181 #[.int .i64 1, .pointer (some ⟨p, 0, none⟩)] w fun e w' => e = .returned (.int .i64 0) ∧ Upd [] w w' := by
  obtain ⟨x0, x1, x2, x3, x4, -, -, -⟩ := h.cells
  have HC := Lib.hid fun w => cell_ring_head cap wd hc h1 h4 w
  clear h hc h1 h4
  go_enter Try.func181, Try.ntmps181
  go_wp2_with (go_at_call 38; refine (HC.out _).mono ?_; rintro e w1 ⟨rfl, hu1⟩)
  go_ret
  exact ⟨rfl, hu1⟩
set_option maxRecDepth 100000 in
set_option maxHeartbeats 1000000 in
theorem push_at_tail {cap wd : Int} {w : World} {p b : Nat} {t : TypeId} {s : RgS} (hp : w.cell? ⟨p, 0, none⟩ = some (.pointer (some ⟨b, 0, none⟩))) (h : RG cap wd w b t s) (hc : Cap5 cap) (h1 : 1 ≤ wd) (h4 : wd ≤ 4) :
    Calls Try.prog 181 #[.int .i64 2, .pointer (some ⟨p, 0, none⟩)] w fun e w' => e = .returned (.int .i64 1) ∧ Upd [] w w' := by
  obtain ⟨x0, x1, x2, x3, x4, -, -, -⟩ := h.cells
  have HC := Lib.hid fun w => cell_ring_tail cap wd hc h1 h4 w
  clear h hc h1 h4
  go_enter Try.func181, Try.ntmps181
  go_wp2_with (go_at_call 38; refine (HC.out _).mono ?_; rintro e w1 ⟨rfl, hu1⟩)
  go_ret
  exact ⟨rfl, hu1⟩
set_option maxRecDepth 100000 in
set_option maxHeartbeats 1000000 in
theorem pop_result_zero {w : World} {b : Nat} {t : TypeId} (h : ZR w b t) :
    Calls Try.prog 175 #[.pointer (some ⟨b, 0, none⟩)] w fun e w' => e = .returned (.tuple #[.agg #[.int .i64 0, .int .u32 0, .int .u32 0, .int .u32 0, .int .u32 0], .bool false]) ∧ Upd [] w w' := by
  have lb := heap_lt h.h
  have nb : w.heap.size ≠ b := by omega
  have nb' : b ≠ w.heap.size := by omega
  have HA := Lib.hid (ring_answer_zero (ZR.mk (heap_alloc' (o' := .cells #[.int .i64 0, .int .u32 0, .int .u32 0, .int .u32 0, .int .u32 0] 39) h.h)))
  clear h
  go_enter Try.func175, Try.ntmps175
  go_wp2_with (go_at_call 178; refine (HA.out).mono ?_; rintro e w1 ⟨rfl, hu1⟩; have HU1 := Lib.hid hu1; have hz := hu1.keepb (heap_alloc_new _ _) (by simp); have HZ := Lib.hid hz; have zf := fun j => frozen_of_heap hz j; have z0 := cell_of_heap hz 0; have z1 := cell_of_heap hz 1; have z2 := cell_of_heap hz 2; have z3 := cell_of_heap hz 3; have z4 := cell_of_heap hz 4; simp at z0 z1 z2 z3 z4; clear hz hu1)
  refine ret_result rfl (g := w.heap.size) (t := 39) (fr := (0, 0)) (x0 := .int .i64 0) (x1 := .int .u32 0) (x2 := .int .u32 0) (x3 := .int .u32 0) (x4 := .int .u32 0) rfl rfl rfl (hg := ?hg) ?_
  case hg =>
    repeat (first | (with_reducible exact HZ.out) | (with_reducible apply heap_set2))
    all_goals rfl
  refine ⟨rfl, ?_⟩
  repeat (with_reducible refine Upd.setCell ?_ (by simp) _)
  exact ((Upd.refl _ _).alloc _).trans HU1.out
set_option maxRecDepth 100000 in
set_option maxHeartbeats 1000000 in
theorem pop_result {cap wd : Int} {w : World} {b : Nat} {t : TypeId} {s : RgS} (h : RG cap wd w b t s) (hon : s.on = false) :
    Calls Try.prog 175 #[.pointer (some ⟨b, 0, none⟩)] w fun e w' => e = .returned (.tuple #[.agg #[.int .i64 s.f, .int .u32 s.r0, .int .u32 s.r1, .int .u32 s.r2, .int .u32 s.r3], .bool true]) ∧ Upd [] w w' := by
  have lb := heap_lt h.h
  have nb : w.heap.size ≠ b := by omega
  have nb' : b ≠ w.heap.size := by omega
  have HA := Lib.hid (ring_answer (h.keep ((Upd.refl [] w).alloc (.cells #[.int .i64 0, .int .u32 0, .int .u32 0, .int .u32 0, .int .u32 0] 39)) (by simp)) hon)
  clear h
  go_enter Try.func175, Try.ntmps175
  go_wp2_with (go_at_call 178; refine (HA.out).mono ?_; rintro e w1 ⟨rfl, hu1⟩; have HU1 := Lib.hid hu1; have hz := hu1.keepb (heap_alloc_new _ _) (by simp); have HZ := Lib.hid hz; have zf := fun j => frozen_of_heap hz j; have z0 := cell_of_heap hz 0; have z1 := cell_of_heap hz 1; have z2 := cell_of_heap hz 2; have z3 := cell_of_heap hz 3; have z4 := cell_of_heap hz 4; simp at z0 z1 z2 z3 z4; clear hz hu1)
  refine ret_result rfl (g := w.heap.size) (t := 39) (fr := (0, 0)) (x0 := .int .i64 s.f) (x1 := .int .u32 s.r0) (x2 := .int .u32 s.r1) (x3 := .int .u32 s.r2) (x4 := .int .u32 s.r3) rfl rfl rfl (hg := ?hg) ?_
  case hg =>
    repeat (first | (with_reducible exact HZ.out) | (with_reducible apply heap_set2))
    all_goals rfl
  refine ⟨rfl, ?_⟩
  repeat (with_reducible refine Upd.setCell ?_ (by simp) _)
  exact ((Upd.refl _ _).alloc _).trans HU1.out
set_option maxRecDepth 100000 in
set_option maxHeartbeats 1000000 in
theorem pop_done {cap wd : Int} {w : World} {b : Nat} {t : TypeId} {s : RgS} (h : RG cap wd w b t s) (hon : s.on = false) : Calls Try.prog 174 #[.pointer (some ⟨b, 0, none⟩)] w fun e w' => e = .returned (.tuple #[.agg #[.int .i64 0, .int .i64 0, .int .u32 0], .bool false]) ∧ Upd [] w w' := by
  obtain ⟨-, -, -, -, -, -, -, -, -, -, x18⟩ := h.cells2
  rw [hon] at x18
  have lb := heap_lt h.h
  clear h hon
  go_enter Try.func174, Try.ntmps174
  go_wp2
  go_step3
  go_wp2
  rw [Exit.noGoto_ret]
  refine bodyPost_ret (v := .tuple #[.agg #[.int .i64 0, .int .i64 0, .int .u32 0], .bool false]) (by simp [results, Try.results174, go_sem]) rfl ?_
  refine ⟨rfl, ?_⟩
  exact ((Upd.refl _ _).alloc _).alloc _
set_option maxRecDepth 100000 in
set_option maxHeartbeats 1000000 in
theorem pop_at_head {cap wd : Int} {w : World} {p b : Nat} {t : TypeId} {s : RgS} (hp : w.cell? ⟨p, 0, none⟩ = some (.pointer (some ⟨b, 0, none⟩))) (h : RG cap wd w b t s) (hc : Cap5 cap) (h1 : 1 ≤ wd) (h4 : wd ≤ 4) :
    Calls Try.prog 176 #[.int .i64 1, .pointer (some ⟨p, 0, none⟩)] w fun e w' => e = .returned (.int .i64 0) ∧ Upd [] w w' := by
  obtain ⟨x0, x1, x2, x3, x4, -, -, -⟩ := h.cells
  have HC := Lib.hid fun w => cell_ring_head cap wd hc h1 h4 w
  clear h hc h1 h4
  go_enter Try.func176, Try.ntmps176
  go_wp2_with (go_at_call 38; refine (HC.out _).mono ?_; rintro e w1 ⟨rfl, hu1⟩)
  go_ret
  exact ⟨rfl, hu1⟩
set_option maxRecDepth 100000 in
set_option maxHeartbeats 1000000 in
theorem pop_at_tail {cap wd : Int} {w : World} {p b : Nat} {t : TypeId} {s : RgS} (hp : w.cell? ⟨p, 0, none⟩ = some (.pointer (some ⟨b, 0, none⟩))) (h : RG cap wd w b t s) (hc : Cap5 cap) (h1 : 1 ≤ wd) (h4 : wd ≤ 4) :
    Calls Try.prog 176 #[.int .i64 2, .pointer (some ⟨p, 0, none⟩)] w fun e w' => e = .returned (.int .i64 1) ∧ Upd [] w w' := by
  obtain ⟨x0, x1, x2, x3, x4, -, -, -⟩ := h.cells
  have HC := Lib.hid fun w => cell_ring_tail cap wd hc h1 h4 w
  clear h hc h1 h4
  go_enter Try.func176, Try.ntmps176
  go_wp2_with (go_at_call 38; refine (HC.out _).mono ?_; rintro e w1 ⟨rfl, hu1⟩)
  go_ret
  exact ⟨rfl, hu1⟩
end Go.Proofs.Ytbjeojcnofpgfaa

