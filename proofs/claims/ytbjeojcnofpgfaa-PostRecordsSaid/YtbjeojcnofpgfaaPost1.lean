/- Package post: a hand: its state; what is asked of it; none, and one that nobody made. -/
import Derived.Test.YtbjeojcnofpgfaaRing3
import Derived.Test.YtbjeojcnofpgfaaRing12
import Derived.Test.YtbjeojcnofpgfaaRing5
set_option linter.unusedVariables false
set_option linter.unusedSimpArgs false
namespace Go.Proofs.Ytbjeojcnofpgfaa
open Go.RowKit

structure HdS where
  v : Int
  n : Int
  a : Int
  b : Int
  f : Int
  r0 : Int
  on : Bool
def hdC (cap ov : Int) (s : HdS) : List Value := [.int .i64 1, .int .i64 0, .int .i64 cap, .int .i64 1, .int .i64 0, .int .i64 ov, .int .i64 1, .int .i64 0, .int .u32 s.v, .int .i64 s.n, .int .u32 s.a, .int .u32 s.b, .int .i64 s.f, .int .u32 s.r0, .int .u32 0, .int .u32 0, .int .u32 0, .bool s.on]
structure HD (cap ov : Int) (w : World) (b : Nat) (s : HdS) : Prop where
  h : w.heap[b]? = some (.cells (hdC cap ov s).toArray 77 (0, 0))
theorem HD.keep {cap ov : Int} {w w' : World} {b : Nat} {s : HdS} (h : HD cap ov w b s) {S : List Nat} (hu : Upd S w w') (hb : b ∉ S) : HD cap ov w' b s := ⟨hu.keepb h.h hb⟩
theorem HD.cell {cap ov : Int} {w : World} {b : Nat} {s : HdS} (h : HD cap ov w b s) (i : Nat) : w.cell? ⟨b, i, none⟩ = (hdC cap ov s)[i]? := by rw [cell_of_heap h.h]; simp
theorem HD.cells {cap ov : Int} {w : World} {b : Nat} {s : HdS} (h : HD cap ov w b s) :
    w.cell? ⟨b, 0, none⟩ = some (.int .i64 1) ∧ w.cell? ⟨b, 1, none⟩ = some (.int .i64 0) ∧ w.cell? ⟨b, 2, none⟩ = some (.int .i64 cap) ∧ w.cell? ⟨b, 3, none⟩ = some (.int .i64 1) ∧ w.cell? ⟨b, 4, none⟩ = some (.int .i64 0) ∧ w.cell? ⟨b, 5, none⟩ = some (.int .i64 ov) ∧ w.cell? ⟨b, 6, none⟩ = some (.int .i64 1) ∧ w.cell? ⟨b, 7, none⟩ = some (.int .i64 0) ∧ w.cell? ⟨b, 8, none⟩ = some (.int .u32 s.v) ∧ w.cell? ⟨b, 9, none⟩ = some (.int .i64 s.n) ∧ w.cell? ⟨b, 10, none⟩ = some (.int .u32 s.a) ∧ w.cell? ⟨b, 11, none⟩ = some (.int .u32 s.b) ∧ w.cell? ⟨b, 12, none⟩ = some (.int .i64 s.f) ∧ w.cell? ⟨b, 13, none⟩ = some (.int .u32 s.r0) ∧ w.cell? ⟨b, 14, none⟩ = some (.int .u32 0) ∧ w.cell? ⟨b, 15, none⟩ = some (.int .u32 0) ∧ w.cell? ⟨b, 16, none⟩ = some (.int .u32 0) ∧ w.cell? ⟨b, 17, none⟩ = some (.bool s.on) :=
  ⟨h.cell 0, h.cell 1, h.cell 2, h.cell 3, h.cell 4, h.cell 5, h.cell 6, h.cell 7, h.cell 8, h.cell 9, h.cell 10, h.cell 11, h.cell 12, h.cell 13, h.cell 14, h.cell 15, h.cell 16, h.cell 17⟩
theorem HD.fz {cap ov : Int} {w : World} {b : Nat} {s : HdS} (h : HD cap ov w b s) (i : Nat) : w.frozen? ⟨b, i, none⟩ = false := frozen_of_heap h.h i
theorem cell_drewN2 {w : World} {p : Addr} {v : Value} {n : Nat} (h : w.cell? p = some v) : (w.drewN n).cell? p = some v := h
def handFull (cap : Int) (s : HdS) : Bool := decide (cap ≤ IntKind.u32.wrap (s.a - s.b))
set_option maxRecDepth 100000 in
set_option maxHeartbeats 2000000 in
theorem hand_full {cap : Int} {w : World} {b : Nat} {s : HdS} (x2 : w.cell? ⟨b, 2, none⟩ = some (.int .i64 cap)) (x10 : w.cell? ⟨b, 10, none⟩ = some (.int .u32 s.a)) (x11 : w.cell? ⟨b, 11, none⟩ = some (.int .u32 s.b)) (hc : Cap5 cap) :
    Calls Try.prog 84 #[.pointer (some ⟨b, 0, none⟩)] w fun e w' => e = .returned (.bool (handFull cap s)) ∧ ∃ m, w' = w.drewN m := by
  have HY := Lib.hid (show ∀ (w : World), Calls Try.prog 100 #[.int .u32 s.b, .int .u32 s.a] w fun e w' => e = .returned (.int .u32 (IntKind.u32.wrap (s.a - s.b))) ∧ w' = w from fun w => (ring_many _ _ w).mono fun _ _ h => ⟨h.1, h.2.symm⟩)
  have e2 : IntKind.u32.wrap cap = cap := by have := hc.le; rw [IntKind.wrap_u32]; omega
  unfold handFull
  generalize IntKind.u32.wrap (s.a - s.b) = mm at HY
  clear hc
  go_enter Try.func84, Try.ntmps84
  go_wp2
  go_quiet ((go_at_call 100; exact Calls.quiet_of_same (HY.out _)))
  go_wp2
  go_ret
  exact ⟨rfl, _, rfl⟩
set_option maxRecDepth 100000 in
set_option maxHeartbeats 2000000 in
theorem hand_at_head {p : Nat} {cap ov : Int} {w : World} {b : Nat} {s : HdS} (hp : w.cell? ⟨p, 0, none⟩ = some (.pointer (some ⟨b, 0, none⟩))) (h : HD cap ov w b s) (hc : Cap5 cap) :
    Calls Try.prog 132 #[.int .i64 1, .pointer (some ⟨p, 0, none⟩)] w fun e w' => e = .returned (.int .i64 0) ∧ Upd [] w w' := by
  obtain ⟨x0, x1, x2, x3, x4, -⟩ := h.cells
  have HC := Lib.hid fun w => cell_ring_head cap 1 hc (by omega) (by omega) w
  clear h hc
  go_enter Try.func132, Try.ntmps132
  go_wp2_with (go_at_call 38; refine (HC.out _).mono ?_; rintro e w1 ⟨rfl, hu1⟩)
  go_ret
  exact ⟨rfl, hu1⟩
set_option maxRecDepth 100000 in
set_option maxHeartbeats 2000000 in
theorem hand_at_tail {p : Nat} {cap ov : Int} {w : World} {b : Nat} {s : HdS} (hp : w.cell? ⟨p, 0, none⟩ = some (.pointer (some ⟨b, 0, none⟩))) (h : HD cap ov w b s) (hc : Cap5 cap) :
    Calls Try.prog 132 #[.int .i64 2, .pointer (some ⟨p, 0, none⟩)] w fun e w' => e = .returned (.int .i64 1) ∧ Upd [] w w' := by
  obtain ⟨x0, x1, x2, x3, x4, -⟩ := h.cells
  have HC := Lib.hid fun w => cell_ring_tail cap 1 hc (by omega) (by omega) w
  clear h hc
  go_enter Try.func132, Try.ntmps132
  go_wp2_with (go_at_call 38; refine (HC.out _).mono ?_; rintro e w1 ⟨rfl, hu1⟩)
  go_ret
  exact ⟨rfl, hu1⟩
set_option maxRecDepth 100000 in
set_option maxHeartbeats 2000000 in
theorem hand_at32 {w : World} {b : Nat} {s : HdS} (x13 : w.cell? ⟨b, 13, none⟩ = some (.int .u32 s.r0)) :
    Calls Try.prog 135 #[.pointer (some ⟨b, 0, none⟩)] w fun e w' => e = .returned (.int .u32 s.r0) ∧ w' = w := by
  go_enter Try.func135, Try.ntmps135
  go_wp2
  go_ret
  exact ⟨rfl, rfl⟩
set_option maxRecDepth 100000 in
set_option maxHeartbeats 2000000 in
theorem hand_end {cap ov : Int} {w : World} {b : Nat} {s : HdS} (f : Int) (h : HD cap ov w b s) :
    Calls Try.prog 83 #[.pointer (some ⟨b, 0, none⟩), .int .i64 f] w fun e w' => e = .returned (.tuple #[]) ∧ HD cap ov w' b { s with f := f, r0 := 0, on := false } ∧ Upd [b] w w' := by
  obtain ⟨-, -, -, -, -, -, -, -, -, -, -, -, x12, x13, x14, x15, x16, x17⟩ := h.cells
  have lb := heap_lt h.h
  have xf := fun j => h.fz j
  have HX := Lib.hid h.h
  clear h
  go_enter Try.func83, Try.ntmps83
  go_wp2
  first | refine bodyPost_ret (results_none rfl _ _ _) rfl ?_ | go_end0
  refine ⟨rfl, ⟨?hg⟩, ?_⟩
  case hg =>
    unfold hdC at *
    repeat (first | (with_reducible exact HX.out) | (with_reducible apply heap_set2) | (with_reducible apply heap_drew'))
    all_goals rfl
  repeat (first | (with_reducible refine Upd.setCell ?_ (by simp) _) | (with_reducible refine Upd.drew ?_))
  exact Upd.refl _ _
/-- A hand that nobody made. -/
structure ZH (w : World) (b : Nat) : Prop where
  h : w.heap[b]? = some (.cells #[.int .i64 0, .int .i64 0, .int .i64 0, .int .i64 0, .int .i64 0, .int .i64 0, .int .i64 0, .int .i64 0, .int .u32 0, .int .i64 0, .int .u32 0, .int .u32 0, .int .i64 0, .int .u32 0, .int .u32 0, .int .u32 0, .int .u32 0, .bool false] 77 (0, 0))
theorem ZH.c {w : World} {b : Nat} (h : ZH w b) : w.cell? ⟨b, 6, none⟩ = some (.int .i64 0) ∧ w.cell? ⟨b, 17, none⟩ = some (.bool false) := ⟨by rw [cell_of_heap h.h]; rfl, by rw [cell_of_heap h.h]; rfl⟩
set_option maxRecDepth 100000 in
set_option maxHeartbeats 2000000 in
theorem hand_take_nil (g : Int) (w : World) : Calls Try.prog 29 #[.pointer none, .int .u32 g] w fun e w' => e = .returned (.tuple #[]) ∧ w = w' := by
  go_enter Try.func29, Try.ntmps29
  go_wp2
  first | refine bodyPost_ret (results_none rfl _ _ _) rfl ?_ | go_end0
  exact ⟨rfl, rfl⟩
set_option maxRecDepth 100000 in
set_option maxHeartbeats 2000000 in
theorem hand_take_zero {w : World} {b : Nat} (g : Int) (h : ZH w b) : Calls Try.prog 29 #[.pointer (some ⟨b, 0, none⟩), .int .u32 g] w fun e w' => e = .returned (.tuple #[]) ∧ w = w' := by
  obtain ⟨x6, x17⟩ := h.c
  clear h
  go_enter Try.func29, Try.ntmps29
  go_wp2
  first | refine bodyPost_ret (results_none rfl _ _ _) rfl ?_ | go_end0
  exact ⟨rfl, rfl⟩
set_option maxRecDepth 100000 in
set_option maxHeartbeats 2000000 in
theorem hand_act_nil (w : World) : Calls Try.prog 30 #[.pointer none] w fun e w' => e = .returned (.tuple #[.agg #[.int .i64 0, .int .i64 0, .int .u32 0], .bool false]) ∧ Upd [] w w' := by
  go_enter Try.func30, Try.ntmps30
  go_wp2
  refine bodyPost_ret (v := .tuple #[.agg #[.int .i64 0, .int .i64 0, .int .u32 0], .bool false]) (by simp [results, Try.results30, go_sem]) rfl ?_
  refine ⟨rfl, ?_⟩
  exact (Upd.refl _ _).alloc _
set_option maxRecDepth 100000 in
set_option maxHeartbeats 2000000 in
theorem hand_result_nil (w : World) : Calls Try.prog 31 #[.pointer none] w fun e w' => e = .returned (.tuple #[.agg #[.int .i64 0, .int .u32 0, .int .u32 0, .int .u32 0, .int .u32 0], .bool false]) ∧ Upd [] w w' := by
  go_enter Try.func31, Try.ntmps31
  go_wp2
  refine bodyPost_ret (v := .tuple #[.agg #[.int .i64 0, .int .u32 0, .int .u32 0, .int .u32 0, .int .u32 0], .bool false]) (by simp [results, Try.results31, go_sem]) rfl ?_
  refine ⟨rfl, ?_⟩
  exact (Upd.refl _ _).alloc _
set_option maxRecDepth 100000 in
set_option maxHeartbeats 2000000 in
theorem hand_act_zero {w : World} {b : Nat} (h : ZH w b) : Calls Try.prog 30 #[.pointer (some ⟨b, 0, none⟩)] w fun e w' => e = .returned (.tuple #[.agg #[.int .i64 0, .int .i64 0, .int .u32 0], .bool false]) ∧ Upd [] w w' := by
  obtain ⟨x6, x17⟩ := h.c
  have lb := heap_lt h.h
  clear h
  go_enter Try.func30, Try.ntmps30
  go_wp2
  refine bodyPost_ret (v := .tuple #[.agg #[.int .i64 0, .int .i64 0, .int .u32 0], .bool false]) (by simp [results, Try.results30, go_sem]) rfl ?_
  refine ⟨rfl, ?_⟩
  exact (Upd.refl _ _).alloc _
set_option maxRecDepth 100000 in
set_option maxHeartbeats 2000000 in
theorem hand_result_zero {w : World} {b : Nat} (h : ZH w b) : Calls Try.prog 31 #[.pointer (some ⟨b, 0, none⟩)] w fun e w' => e = .returned (.tuple #[.agg #[.int .i64 0, .int .u32 0, .int .u32 0, .int .u32 0, .int .u32 0], .bool false]) ∧ Upd [] w w' := by
  obtain ⟨x6, x17⟩ := h.c
  have lb := heap_lt h.h
  clear h
  go_enter Try.func31, Try.ntmps31
  go_wp2
  refine bodyPost_ret (v := .tuple #[.agg #[.int .i64 0, .int .u32 0, .int .u32 0, .int .u32 0, .int .u32 0], .bool false]) (by simp [results, Try.results31, go_sem]) rfl ?_
  refine ⟨rfl, ?_⟩
  exact (Upd.refl _ _).alloc _
set_option maxRecDepth 100000 in
set_option maxHeartbeats 2000000 in
theorem hand_act_done {cap ov : Int} {w : World} {b : Nat} {s : HdS} (h : HD cap ov w b s) (hon : s.on = false) : Calls Try.prog 30 #[.pointer (some ⟨b, 0, none⟩)] w fun e w' => e = .returned (.tuple #[.agg #[.int .i64 0, .int .i64 0, .int .u32 0], .bool false]) ∧ Upd [] w w' := by
  obtain ⟨-, -, -, -, -, -, x6, -, -, -, -, -, -, -, -, -, -, x17⟩ := h.cells
  rw [hon] at x17
  have lb := heap_lt h.h
  clear h hon
  go_enter Try.func30, Try.ntmps30
  go_wp2
  refine bodyPost_ret (v := .tuple #[.agg #[.int .i64 0, .int .i64 0, .int .u32 0], .bool false]) (by simp [results, Try.results30, go_sem]) rfl ?_
  refine ⟨rfl, ?_⟩
  exact (Upd.refl _ _).alloc _
set_option maxRecDepth 100000 in
set_option maxHeartbeats 2000000 in
theorem hand_result {cap ov : Int} {w : World} {b : Nat} {s : HdS} (h : HD cap ov w b s) (hon : s.on = false) : Calls Try.prog 31 #[.pointer (some ⟨b, 0, none⟩)] w fun e w' => e = .returned (.tuple #[.agg #[.int .i64 s.f, .int .u32 s.r0, .int .u32 0, .int .u32 0, .int .u32 0], .bool true]) ∧ Upd [] w w' := by
  obtain ⟨-, -, -, -, -, -, x6, -, -, -, -, -, x12, x13, x14, x15, x16, x17⟩ := h.cells
  rw [hon] at x17
  have lb := heap_lt h.h
  have nb : w.heap.size ≠ b := by omega
  have nb' : b ≠ w.heap.size := by omega
  clear h hon
  go_enter Try.func31, Try.ntmps31
  go_wp2
  refine ret_result rfl (g := w.heap.size) (t := 39) (fr := (0, 0)) (x0 := .int .i64 s.f) (x1 := .int .u32 s.r0) (x2 := .int .u32 0) (x3 := .int .u32 0) (x4 := .int .u32 0) rfl rfl rfl (hg := ?hg) ?_
  case hg =>
    first
      | exact heap_alloc_new _ _
      | (repeat (first | (with_reducible exact heap_alloc_new _ _) | (with_reducible apply heap_set2))
         all_goals rfl)
  refine ⟨rfl, ?_⟩
  repeat (with_reducible refine Upd.setCell ?_ (by simp) _)
  exact (Upd.refl _ _).alloc _
end Go.Proofs.Ytbjeojcnofpgfaa

