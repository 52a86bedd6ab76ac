/- Package lock: a register's write, of one word. -/
import Derived.Test.YtbjeojcnofpgfaaLockSite
import Derived.Test.YtbjeojcnofpgfaaRet
set_option linter.unusedVariables false
set_option linter.unusedSimpArgs false
namespace Go.Proofs.Ytbjeojcnofpgfaa
open Go.RowKit

/-- A routine's cells: its place, how many acts, Seq, its word, its answer. -/
def lockC (n seq v0 f r0 : Int) (is on : Bool) : List Value := [.int .i64 3, .int .i64 0, .int .i64 0, .int .i64 1, .int .i64 0, .int .i64 n, .int .u32 seq, .int .u32 v0, .int .u32 0, .int .u32 0, .int .u32 0, .int .i64 f, .int .u32 r0, .int .u32 0, .int .u32 0, .int .u32 0, .bool is, .bool on]
structure LW (w : World) (b : Nat) (t : TypeId) (more : List Value) (n seq v0 f r0 : Int) (is on : Bool) : Prop where
  h : w.heap[b]? = some (.cells (lockC n seq v0 f r0 is on ++ more).toArray t (0, 0))
theorem LW.keep {w w' : World} {b : Nat} {t : TypeId} {more : List Value} {n seq v0 f r0 : Int} {is on : Bool} (h : LW w b t more n seq v0 f r0 is on) {S : List Nat} (hu : Upd S w w') (hb : b ∉ S) : LW w' b t more n seq v0 f r0 is on := ⟨hu.keepb h.h hb⟩
theorem LW.cell {w : World} {b : Nat} {t : TypeId} {more : List Value} {n seq v0 f r0 : Int} {is on : Bool} (h : LW w b t more n seq v0 f r0 is on) (i : Nat) : w.cell? ⟨b, i, none⟩ = (lockC n seq v0 f r0 is on ++ more)[i]? := by rw [cell_of_heap h.h]; simp
theorem LW.cells {w : World} {b : Nat} {t : TypeId} {more : List Value} {n seq v0 f r0 : Int} {is on : Bool} (h : LW w b t more n seq v0 f r0 is on) :
    w.cell? ⟨b, 0, none⟩ = some (.int .i64 3) ∧ w.cell? ⟨b, 1, none⟩ = some (.int .i64 0) ∧ w.cell? ⟨b, 2, none⟩ = some (.int .i64 0) ∧ w.cell? ⟨b, 3, none⟩ = some (.int .i64 1) ∧ w.cell? ⟨b, 4, none⟩ = some (.int .i64 0) ∧ w.cell? ⟨b, 5, none⟩ = some (.int .i64 n) ∧ w.cell? ⟨b, 6, none⟩ = some (.int .u32 seq) ∧ w.cell? ⟨b, 7, none⟩ = some (.int .u32 v0) ∧ w.cell? ⟨b, 17, none⟩ = some (.bool on) :=
  ⟨h.cell 0, h.cell 1, h.cell 2, h.cell 3, h.cell 4, h.cell 5, h.cell 6, h.cell 7, h.cell 17⟩
theorem LW.cells2 {w : World} {b : Nat} {t : TypeId} {more : List Value} {n seq v0 f r0 : Int} {is on : Bool} (h : LW w b t more n seq v0 f r0 is on) :
    w.cell? ⟨b, 8, none⟩ = some (.int .u32 0) ∧ w.cell? ⟨b, 9, none⟩ = some (.int .u32 0) ∧ w.cell? ⟨b, 10, none⟩ = some (.int .u32 0) ∧ w.cell? ⟨b, 11, none⟩ = some (.int .i64 f) ∧ w.cell? ⟨b, 12, none⟩ = some (.int .u32 r0) ∧ w.cell? ⟨b, 13, none⟩ = some (.int .u32 0) ∧ w.cell? ⟨b, 14, none⟩ = some (.int .u32 0) ∧ w.cell? ⟨b, 15, none⟩ = some (.int .u32 0) ∧ w.cell? ⟨b, 16, none⟩ = some (.bool is) :=
  ⟨h.cell 8, h.cell 9, h.cell 10, h.cell 11, h.cell 12, h.cell 13, h.cell 14, h.cell 15, h.cell 16⟩
theorem LW.f {w : World} {b : Nat} {t : TypeId} {more : List Value} {n seq v0 f r0 : Int} {is on : Bool} (h : LW w b t more n seq v0 f r0 is on) (i : Nat) : w.frozen? ⟨b, i, none⟩ = false := frozen_of_heap h.h i

set_option maxRecDepth 100000 in
set_option maxHeartbeats 400000 in
theorem lock_count {w : World} {b : Nat} {t : TypeId} {more : List Value} {n seq v0 f r0 : Int} {is on : Bool} (h : LW w b t more n seq v0 f r0 is on) :
    Calls Try.prog 120 #[.pointer (some ⟨b, 0, none⟩)] w fun e w' => e = .returned (.int .i64 0) ∧ Upd [] w w' := by
  obtain ⟨x0, x1, x2, x3, x4, -, -, -, -⟩ := h.cells
  have HC := Lib.hid fun w => cell_lock_seq w
  unfold lockP at HC
  clear h
  go_enter Try.func120, Try.ntmps120
  go_wp2_with (go_at_call 38; refine (HC.out _).mono ?_; rintro e w1 ⟨rfl, hu1⟩)
  go_ret
  exact ⟨rfl, hu1⟩
set_option maxRecDepth 100000 in
set_option maxHeartbeats 400000 in
theorem lock_data {w : World} {b : Nat} {t : TypeId} {more : List Value} {n seq v0 f r0 : Int} {is on : Bool} (h : LW w b t more n seq v0 f r0 is on) :
    Calls Try.prog 121 #[.pointer (some ⟨b, 0, none⟩), .int .i64 0] w fun e w' => e = .returned (.int .i64 1) ∧ Upd [] w w' := by
  obtain ⟨x0, x1, x2, x3, x4, -, -, -, -⟩ := h.cells
  have HC := Lib.hid fun w => cell_lock_data w
  unfold lockP at HC
  clear h
  go_enter Try.func121, Try.ntmps121
  go_wp2_with (go_at_call 38; refine (HC.out _).mono ?_; rintro e w1 ⟨rfl, hu1⟩)
  go_ret
  exact ⟨rfl, hu1⟩
set_option maxRecDepth 100000 in
set_option maxHeartbeats 1000000 in
theorem lock_answer {w : World} {b : Nat} {t : TypeId} {more : List Value} {n seq v0 f r0 : Int} (h : LW w b t more n seq v0 f r0 true false) :
    Calls Try.prog 122 #[.pointer (some ⟨b, 0, none⟩)] w fun e w' => e = .returned (.tuple #[.agg #[.int .i64 f, .int .u32 r0, .int .u32 0, .int .u32 0, .int .u32 0], .bool true]) ∧ Upd [] w w' := by
  obtain ⟨-, -, -, -, -, -, -, -, x17⟩ := h.cells
  obtain ⟨-, -, -, x11, x12, x13, x14, x15, x16⟩ := h.cells2
  have lb := heap_lt h.h
  have nb : w.heap.size ≠ b := by omega
  have nb' : b ≠ w.heap.size := by omega
  clear h
  go_enter Try.func122, Try.ntmps122
  go_wp2
  refine bodyPost_ret (v := .tuple #[.agg #[.int .i64 f, .int .u32 r0, .int .u32 0, .int .u32 0, .int .u32 0], .bool true]) (by simp [results, Try.results122, go_sem]) rfl ?_
  refine ⟨rfl, ?_⟩
  exact (Upd.refl _ _).alloc _
end Go.Proofs.Ytbjeojcnofpgfaa
