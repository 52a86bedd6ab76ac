/- Package ring: none, and one that nobody made. -/
import Derived.Test.YtbjeojcnofpgfaaRing2
set_option linter.unusedVariables false
set_option linter.unusedSimpArgs false
namespace Go.Proofs.Ytbjeojcnofpgfaa
open Go.RowKit

set_option maxRecDepth 100000 in
set_option maxHeartbeats 400000 in
theorem push_take_nil (g : Int) (w : World) : Calls Try.prog 42 #[.pointer none, .int .u32 g] w fun e w' => e = .returned (.tuple #[]) ∧ w = w' := by
  go_enter Try.func42, Try.ntmps42
  go_wp2
  refine bodyPost_ret (results_none rfl _ _ _) rfl ?_
  exact ⟨rfl, rfl⟩
set_option maxRecDepth 100000 in
set_option maxHeartbeats 400000 in
theorem pop_take_nil (g : Int) (w : World) : Calls Try.prog 43 #[.pointer none, .int .u32 g] w fun e w' => e = .returned (.tuple #[]) ∧ w = w' := by
  go_enter Try.func43, Try.ntmps43
  go_wp2
  refine bodyPost_ret (results_none rfl _ _ _) rfl ?_
  exact ⟨rfl, rfl⟩
set_option maxRecDepth 100000 in
set_option maxHeartbeats 400000 in
theorem push_act_nil (w : World) : Calls Try.prog 179 #[.pointer none] w fun e w' => e = .returned (.tuple #[.agg #[.int .i64 0, .int .i64 0, .int .u32 0], .bool false]) ∧ Upd [] w w' := by
  go_enter Try.func179, Try.ntmps179
  go_wp2
  go_step3
  go_wp2
  rw [Exit.noGoto_ret]
  refine bodyPost_ret (v := .tuple #[.agg #[.int .i64 0, .int .i64 0, .int .u32 0], .bool false]) (by simp [results, Try.results179, go_sem]) rfl ?_
  refine ⟨rfl, ?_⟩
  exact ((Upd.refl _ _).alloc _).alloc _
set_option maxRecDepth 100000 in
set_option maxHeartbeats 400000 in
theorem pop_act_nil (w : World) : Calls Try.prog 174 #[.pointer none] w fun e w' => e = .returned (.tuple #[.agg #[.int .i64 0, .int .i64 0, .int .u32 0], .bool false]) ∧ Upd [] w w' := by
  go_enter Try.func174, Try.ntmps174
  go_wp2
  go_step3
  go_wp2
  rw [Exit.noGoto_ret]
  refine bodyPost_ret (v := .tuple #[.agg #[.int .i64 0, .int .i64 0, .int .u32 0], .bool false]) (by simp [results, Try.results174, go_sem]) rfl ?_
  refine ⟨rfl, ?_⟩
  exact ((Upd.refl _ _).alloc _).alloc _
set_option maxRecDepth 100000 in
set_option maxHeartbeats 400000 in
theorem push_result_nil (w : World) : Calls Try.prog 180 #[.pointer none] w fun e w' => e = .returned (.tuple #[.agg #[.int .i64 0, .int .u32 0, .int .u32 0, .int .u32 0, .int .u32 0], .bool false]) ∧ Upd [] w w' := by
  go_enter Try.func180, Try.ntmps180
  go_wp2
  refine bodyPost_ret (v := .tuple #[.agg #[.int .i64 0, .int .u32 0, .int .u32 0, .int .u32 0, .int .u32 0], .bool false]) (by simp [results, Try.results180, go_sem]) rfl ?_
  refine ⟨rfl, ?_⟩
  exact (Upd.refl _ _).alloc _
set_option maxRecDepth 100000 in
set_option maxHeartbeats 400000 in
theorem pop_result_nil (w : World) : Calls Try.prog 175 #[.pointer none] w fun e w' => e = .returned (.tuple #[.agg #[.int .i64 0, .int .u32 0, .int .u32 0, .int .u32 0, .int .u32 0], .bool false]) ∧ Upd [] w w' := by
  go_enter Try.func175, Try.ntmps175
  go_wp2
  refine bodyPost_ret (v := .tuple #[.agg #[.int .i64 0, .int .u32 0, .int .u32 0, .int .u32 0, .int .u32 0], .bool false]) (by simp [results, Try.results175, go_sem]) rfl ?_
  refine ⟨rfl, ?_⟩
  exact (Upd.refl _ _).alloc _
/-- A routine that nobody made: all of its cells are zero. -/
def zeroR : List Value := [.int .i64 0, .int .i64 0, .int .i64 0, .int .i64 0, .int .i64 0, .int .i64 0, .int .u32 0, .int .u32 0, .int .u32 0, .int .u32 0, .int .u32 0, .int .u32 0, .int .i64 0, .int .u32 0, .int .u32 0, .int .u32 0, .int .u32 0, .bool false, .bool false]
structure ZR (w : World) (b : Nat) (t : TypeId) : Prop where
  h : w.heap[b]? = some (.cells zeroR.toArray t (0, 0))
theorem ZR.c18 {w : World} {b : Nat} {t : TypeId} (h : ZR w b t) : w.cell? ⟨b, 18, none⟩ = some (.bool false) := by rw [cell_of_heap h.h]; rfl
theorem ZR.c17 {w : World} {b : Nat} {t : TypeId} (h : ZR w b t) : w.cell? ⟨b, 17, none⟩ = some (.bool false) := by rw [cell_of_heap h.h]; rfl
set_option maxRecDepth 100000 in
set_option maxHeartbeats 400000 in
theorem push_take_zero {w : World} {b : Nat} {t : TypeId} (g : Int) (h : ZR w b t) : Calls Try.prog 42 #[.pointer (some ⟨b, 0, none⟩), .int .u32 g] w fun e w' => e = .returned (.tuple #[]) ∧ w = w' := by
  have x18 := h.c18
  clear h
  go_enter Try.func42, Try.ntmps42
  go_wp2
  refine bodyPost_ret (results_none rfl _ _ _) rfl ?_
  exact ⟨rfl, rfl⟩
set_option maxRecDepth 100000 in
set_option maxHeartbeats 400000 in
theorem pop_take_zero {w : World} {b : Nat} {t : TypeId} (g : Int) (h : ZR w b t) : Calls Try.prog 43 #[.pointer (some ⟨b, 0, none⟩), .int .u32 g] w fun e w' => e = .returned (.tuple #[]) ∧ w = w' := by
  have x18 := h.c18
  clear h
  go_enter Try.func43, Try.ntmps43
  go_wp2
  refine bodyPost_ret (results_none rfl _ _ _) rfl ?_
  exact ⟨rfl, rfl⟩
set_option maxRecDepth 100000 in
set_option maxHeartbeats 400000 in
theorem push_act_zero {w : World} {b : Nat} {t : TypeId} (h : ZR w b t) : Calls Try.prog 179 #[.pointer (some ⟨b, 0, none⟩)] w fun e w' => e = .returned (.tuple #[.agg #[.int .i64 0, .int .i64 0, .int .u32 0], .bool false]) ∧ Upd [] w w' := by
  have x18 := h.c18
  have lb := heap_lt h.h
  clear h
  go_enter Try.func179, Try.ntmps179
  go_wp2
  go_step3
  go_wp2
  rw [Exit.noGoto_ret]
  refine bodyPost_ret (v := .tuple #[.agg #[.int .i64 0, .int .i64 0, .int .u32 0], .bool false]) (by simp [results, Try.results179, go_sem]) rfl ?_
  refine ⟨rfl, ?_⟩
  exact ((Upd.refl _ _).alloc _).alloc _
set_option maxRecDepth 100000 in
set_option maxHeartbeats 400000 in
theorem pop_act_zero {w : World} {b : Nat} {t : TypeId} (h : ZR w b t) : Calls Try.prog 174 #[.pointer (some ⟨b, 0, none⟩)] w fun e w' => e = .returned (.tuple #[.agg #[.int .i64 0, .int .i64 0, .int .u32 0], .bool false]) ∧ Upd [] w w' := by
  have x18 := h.c18
  have lb := heap_lt h.h
  clear h
  go_enter Try.func174, Try.ntmps174
  go_wp2
  go_step3
  go_wp2
  rw [Exit.noGoto_ret]
  refine bodyPost_ret (v := .tuple #[.agg #[.int .i64 0, .int .i64 0, .int .u32 0], .bool false]) (by simp [results, Try.results174, go_sem]) rfl ?_
  refine ⟨rfl, ?_⟩
  exact ((Upd.refl _ _).alloc _).alloc _
end Go.Proofs.Ytbjeojcnofpgfaa
