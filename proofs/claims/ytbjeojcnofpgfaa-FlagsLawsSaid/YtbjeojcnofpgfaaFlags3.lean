/- Package flags: Act, Take, Result. -/
import Derived.Test.YtbjeojcnofpgfaaFlags2
import Derived.Test.YtbjeojcnofpgfaaRet
set_option linter.unusedVariables false
set_option linter.unusedSimpArgs false
namespace Go.Proofs.Ytbjeojcnofpgfaa
open Go.RowKit

def notU (m : Int) : Int := bits .xor .u32 IntKind.u32.max m
theorem FlagAt.cells {w : World} {b : Nat} {at' kind mask f v0 : Int} {on : Bool} (h : FlagAt w b at' kind mask f v0 on) :
    w.cell? ⟨b, 0, none⟩ = some (.int .i64 4) ∧ w.cell? ⟨b, 1, none⟩ = some (.int .i64 at') ∧ w.cell? ⟨b, 2, none⟩ = some (.int .i64 0) ∧ w.cell? ⟨b, 3, none⟩ = some (.int .i64 0) ∧ w.cell? ⟨b, 4, none⟩ = some (.int .i64 0) ∧ w.cell? ⟨b, 5, none⟩ = some (.int .i64 kind) ∧ w.cell? ⟨b, 6, none⟩ = some (.int .u32 mask) :=
  ⟨by rw [cell_of_heap h.h]; rfl, by rw [cell_of_heap h.h]; rfl, by rw [cell_of_heap h.h]; rfl, by rw [cell_of_heap h.h]; rfl, by rw [cell_of_heap h.h]; rfl, by rw [cell_of_heap h.h]; rfl, by rw [cell_of_heap h.h]; rfl⟩
theorem FlagAt.cells2 {w : World} {b : Nat} {at' kind mask f v0 : Int} {on : Bool} (h : FlagAt w b at' kind mask f v0 on) :
    w.cell? ⟨b, 7, none⟩ = some (.int .i64 f) ∧ w.cell? ⟨b, 8, none⟩ = some (.int .u32 v0) ∧ w.cell? ⟨b, 9, none⟩ = some (.int .u32 0) ∧ w.cell? ⟨b, 10, none⟩ = some (.int .u32 0) ∧ w.cell? ⟨b, 11, none⟩ = some (.int .u32 0) ∧ w.cell? ⟨b, 12, none⟩ = some (.bool true) ∧ w.cell? ⟨b, 13, none⟩ = some (.bool on) :=
  ⟨by rw [cell_of_heap h.h]; rfl, by rw [cell_of_heap h.h]; rfl, by rw [cell_of_heap h.h]; rfl, by rw [cell_of_heap h.h]; rfl, by rw [cell_of_heap h.h]; rfl, by rw [cell_of_heap h.h]; rfl, by rw [cell_of_heap h.h]; rfl⟩

set_option maxRecDepth 100000 in
set_option maxHeartbeats 1000000 in
theorem flag_done {w : World} {b : Nat} {at' kind mask f v0 : Int} (h : FlagAt w b at' kind mask f v0 false) :
    Calls Try.prog 183 #[.pointer (some ⟨b, 0, none⟩)] w fun e w' => e = .returned (.tuple #[.agg #[.int .i64 0, .int .i64 0, .int .u32 0], .bool false]) ∧ Upd [] w w' := by
  obtain ⟨-, -, -, -, -, -, x13⟩ := h.cells2
  have lb := heap_lt h.h
  have nb : w.heap.size ≠ b := by omega
  have nb' : b ≠ w.heap.size := by omega
  clear h
  go_enter Try.func183, Try.ntmps183
  go_wp2
  refine bodyPost_ret (v := .tuple #[.agg #[.int .i64 0, .int .i64 0, .int .u32 0], .bool false]) (by simp [results, Try.results183, go_sem]) rfl ?_
  refine ⟨rfl, ?_⟩
  exact (Upd.refl _ _).alloc _

set_option maxRecDepth 100000 in
set_option maxHeartbeats 1000000 in
theorem flag_result {w : World} {b : Nat} {at' kind mask f v0 : Int} (h : FlagAt w b at' kind mask f v0 false) :
    Calls Try.prog 184 #[.pointer (some ⟨b, 0, none⟩)] w fun e w' => e = .returned (.tuple #[.agg #[.int .i64 f, .int .u32 v0, .int .u32 0, .int .u32 0, .int .u32 0], .bool true]) ∧ Upd [] w w' := by
  obtain ⟨x7, x8, x9, x10, x11, x12, x13⟩ := h.cells2
  have lb := heap_lt h.h
  have nb : w.heap.size ≠ b := by omega
  have nb' : b ≠ w.heap.size := by omega
  clear h
  go_enter Try.func184, Try.ntmps184
  go_wp2
  refine bodyPost_ret (v := .tuple #[.agg #[.int .i64 f, .int .u32 v0, .int .u32 0, .int .u32 0, .int .u32 0], .bool true]) (by simp [results, Try.results184, go_sem]) rfl ?_
  refine ⟨rfl, ?_⟩
  exact (Upd.refl _ _).alloc _

set_option maxRecDepth 100000 in
set_option maxHeartbeats 1000000 in
theorem flag_act_load {w : World} {b : Nat} {at' kind mask f v0 : Int} (h : FlagAt w b at' kind mask f v0 true) (hk : kind = 3 ∨ kind = 4 ∨ kind = 5) :
    Calls Try.prog 183 #[.pointer (some ⟨b, 0, none⟩)] w fun e w' => e = .returned (.tuple #[.agg #[.int .i64 1, .int .i64 at', .int .u32 0], .bool true]) ∧ Upd [] w w' := by
  obtain ⟨x0, x1, x2, x3, x4, x5, x6⟩ := h.cells
  obtain ⟨-, -, -, -, -, -, x13⟩ := h.cells2
  have lb := heap_lt h.h
  have nb : w.heap.size ≠ b := by omega
  have nb' : b ≠ w.heap.size := by omega
  have H := Lib.hid h
  have HC := Lib.hid fun w => cell_flags at' w
  clear h
  rcases hk with rfl | rfl | rfl
  all_goals
    go_enter Try.func183, Try.ntmps183
    go_wp2_with (go_at_call 38; refine (HC.out _).mono ?_; rintro e w1 ⟨rfl, hu1⟩; have HU1 := Lib.hid hu1; have hz := hu1.keepb (heap_alloc_new _ _) (by simp); obtain ⟨z0, z1, z2⟩ := cells3 hz; have zf := fun j => frozen_of_heap hz j; have HZ := Lib.hid hz; obtain ⟨y0, y1, y2, y3, y4, y5, y6⟩ := (H.out.keep (((Upd.refl [] w).alloc _).trans hu1) (by simp)).cells; clear hu1 hz)
    refine ret_act rfl (g := w.heap.size) (t := 80) (fr := (0, 0)) (x := .int .i64 1) (y := .int .i64 at') (z := .int .u32 0) rfl rfl rfl (hg := ?hg) ?_
    case hg =>
      repeat (first | (with_reducible exact HZ.out) | (with_reducible apply heap_set2) | (with_reducible apply heap_drew'))
      all_goals rfl
    refine ⟨rfl, ?_⟩
    repeat (with_reducible refine Upd.setCell ?_ (by simp) _)
    exact ((Upd.refl _ _).alloc _).trans HU1.out


set_option maxRecDepth 100000 in
set_option maxHeartbeats 1000000 in
theorem flag_act_set {w : World} {b : Nat} {at' mask f v0 : Int} (h : FlagAt w b at' 1 mask f v0 true) :
    Calls Try.prog 183 #[.pointer (some ⟨b, 0, none⟩)] w fun e w' => e = .returned (.tuple #[.agg #[.int .i64 4, .int .i64 at', .int .u32 mask], .bool true]) ∧ Upd [] w w' := by
  obtain ⟨x0, x1, x2, x3, x4, x5, x6⟩ := h.cells
  obtain ⟨-, -, -, -, -, -, x13⟩ := h.cells2
  have lb := heap_lt h.h
  have nb : w.heap.size ≠ b := by omega
  have nb' : b ≠ w.heap.size := by omega
  have H := Lib.hid h
  have HC := Lib.hid fun w => cell_flags at' w
  clear h
  go_enter Try.func183, Try.ntmps183
  go_wp2_with (go_at_call 38; refine (HC.out _).mono ?_; rintro e w1 ⟨rfl, hu1⟩; have HU1 := Lib.hid hu1; have hz := hu1.keepb (heap_alloc_new _ _) (by simp); obtain ⟨z0, z1, z2⟩ := cells3 hz; have zf := fun j => frozen_of_heap hz j; have HZ := Lib.hid hz; obtain ⟨y0, y1, y2, y3, y4, y5, y6⟩ := (H.out.keep (((Upd.refl [] w).alloc _).trans hu1) (by simp)).cells; clear hu1 hz)
  go_region
  all_goals
    go_wp2
    refine ret_act rfl (g := w.heap.size) (t := 80) (fr := (0, 0)) (x := .int .i64 4) (y := .int .i64 at') (z := .int .u32 mask) rfl rfl rfl (hg := ?hg) ?_
    case hg =>
      repeat (first | (with_reducible exact HZ.out) | (with_reducible apply heap_set2) | (with_reducible apply heap_drew'))
      all_goals rfl
    refine ⟨rfl, ?_⟩
    repeat (first | (with_reducible refine Upd.setCell ?_ (by simp) _) | (with_reducible refine Upd.drew ?_))
    exact ((Upd.refl _ _).alloc _).trans HU1.out

set_option maxRecDepth 100000 in
set_option maxHeartbeats 1000000 in
theorem flag_act_clear {w : World} {b : Nat} {at' mask f v0 : Int} (h : FlagAt w b at' 2 mask f v0 true) :
    Calls Try.prog 183 #[.pointer (some ⟨b, 0, none⟩)] w fun e w' => e = .returned (.tuple #[.agg #[.int .i64 5, .int .i64 at', .int .u32 (notU mask)], .bool true]) ∧ Upd [] w w' := by
  obtain ⟨x0, x1, x2, x3, x4, x5, x6⟩ := h.cells
  obtain ⟨-, -, -, -, -, -, x13⟩ := h.cells2
  have lb := heap_lt h.h
  have nb : w.heap.size ≠ b := by omega
  have nb' : b ≠ w.heap.size := by omega
  have H := Lib.hid h
  have HC := Lib.hid fun w => cell_flags at' w
  clear h
  go_enter Try.func183, Try.ntmps183
  go_wp2_with (go_at_call 38; refine (HC.out _).mono ?_; rintro e w1 ⟨rfl, hu1⟩; have HU1 := Lib.hid hu1; have hz := hu1.keepb (heap_alloc_new _ _) (by simp); obtain ⟨z0, z1, z2⟩ := cells3 hz; have zf := fun j => frozen_of_heap hz j; have HZ := Lib.hid hz; obtain ⟨y0, y1, y2, y3, y4, y5, y6⟩ := (H.out.keep (((Upd.refl [] w).alloc _).trans hu1) (by simp)).cells; clear hu1 hz)
  go_region
  all_goals
    go_wp2
    refine ret_act rfl (g := w.heap.size) (t := 80) (fr := (0, 0)) (x := .int .i64 5) (y := .int .i64 at') (z := .int .u32 (notU mask)) rfl rfl rfl (hg := ?hg) ?_
    case hg =>
      repeat (first | (with_reducible exact HZ.out) | (with_reducible apply heap_set2) | (with_reducible apply heap_drew'))
      all_goals rfl
    refine ⟨rfl, ?_⟩
    repeat (first | (with_reducible refine Upd.setCell ?_ (by simp) _) | (with_reducible refine Upd.drew ?_))
    exact ((Upd.refl _ _).alloc _).trans HU1.out

set_option maxRecDepth 100000 in
set_option maxHeartbeats 1000000 in
theorem flag_take {w : World} {b : Nat} {at' kind mask f v0 : Int} (got : Int) (h : FlagAt w b at' kind mask f v0 true) :
    Calls Try.prog 185 #[.pointer (some ⟨b, 0, none⟩), .int .u32 got] w fun e w' => e = .returned (.tuple #[]) ∧ FlagAt w' b at' kind mask (if holdsB kind got mask then f else 7) (if holdsB kind got mask then got else v0) false ∧ Upd [b] w w' := by
  obtain ⟨x0, x1, x2, x3, x4, x5, x6⟩ := h.cells
  obtain ⟨x7, x8, x9, x10, x11, x12, x13⟩ := h.cells2
  have lb := heap_lt h.h
  have xf := fun j => frozen_of_heap h.h j
  have hset := heap_set h.h 13 (.bool false)
  have H := Lib.hid hset
  have HS := Lib.hid (show Upd [b] w (w.setCell ⟨b, 13, none⟩ (.bool false)) from (Upd.refl _ _).setCell (by simp) _)
  obtain ⟨y0, y1, y2, y3, y4, y5, y6, y7, y8⟩ : (w.setCell ⟨b, 13, none⟩ (.bool false)).cell? ⟨b, 0, none⟩ = some (.int .i64 4) ∧ (w.setCell ⟨b, 13, none⟩ (.bool false)).cell? ⟨b, 1, none⟩ = some (.int .i64 at') ∧ (w.setCell ⟨b, 13, none⟩ (.bool false)).cell? ⟨b, 2, none⟩ = some (.int .i64 0) ∧ (w.setCell ⟨b, 13, none⟩ (.bool false)).cell? ⟨b, 3, none⟩ = some (.int .i64 0) ∧ (w.setCell ⟨b, 13, none⟩ (.bool false)).cell? ⟨b, 4, none⟩ = some (.int .i64 0) ∧ (w.setCell ⟨b, 13, none⟩ (.bool false)).cell? ⟨b, 5, none⟩ = some (.int .i64 kind) ∧ (w.setCell ⟨b, 13, none⟩ (.bool false)).cell? ⟨b, 6, none⟩ = some (.int .u32 mask) ∧ (w.setCell ⟨b, 13, none⟩ (.bool false)).cell? ⟨b, 7, none⟩ = some (.int .i64 f) ∧ (w.setCell ⟨b, 13, none⟩ (.bool false)).cell? ⟨b, 8, none⟩ = some (.int .u32 v0) := by
    refine ⟨?_, ?_, ?_, ?_, ?_, ?_, ?_, ?_, ?_⟩ <;> (rw [cell_of_heap hset]; rfl)
  have HH := Lib.hid fun w => holds_any kind got mask w
  clear h hset
  rcases hb : holdsB kind got mask with _ | _
  all_goals
    rw [hb] at HH
    clear hb
    go_enter Try.func185, Try.ntmps185
    go_wp2
    go_region_with (first | (go_at_call 69; refine (HH.out _).mono ?_; rintro e w2 ⟨rfl, hu2⟩; have HU2 := Lib.hid hu2; have hz := hu2.keepb H.out (by simp); have HZ := Lib.hid hz; have zf := fun j => frozen_of_heap hz j; have z7 := cell_of_heap hz 7; have z8 := cell_of_heap hz 8; simp [flagC] at z7 z8; clear hu2 hz))
    all_goals
      go_wp2
      first | refine bodyPost_ret (results_none rfl _ _ _) rfl ?_ | go_end0
      refine ⟨rfl, ⟨?hg⟩, ?_⟩
      case hg =>
        unfold flagC at *
        repeat (first | (with_reducible exact HZ.out) | (with_reducible apply heap_set2) | (with_reducible apply heap_drew'))
        all_goals rfl
      refine Upd.setCell ?_ (by simp) _
      first | exact HS.out.trans (HU2.out.mono (by simp)) | exact HS.out.trans (((Upd.refl _ _).drew.trans HU2.out).mono (by simp))
end Go.Proofs.Ytbjeojcnofpgfaa
