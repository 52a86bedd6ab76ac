/- Package spec: an item behind a call. -/
import Derived.Test.YtdbgnnkbcebpcaaSP2
import Derived.Test.YtdbgnnkbcebpcaaEqs
set_option linter.unusedVariables false
set_option linter.unusedSimpArgs false
namespace Go.Proofs.Ytdbgnnkbcebpcaa
open Go.RowKit

structure V4 where
  a : Int
  b : Int
  c : Int
  d : Int
deriving DecidableEq
def V4.A (v : V4) : Array Value := v4A v.a v.b v.c v.d
def V4.cells (v : V4) : List Value := v.A.toList
def V4.clip (wd : Int) (v : V4) : V4 := ⟨clip1 (decide (0 < wd)) v.a, clip1 (decide (1 < wd)) v.b, clip1 (decide (2 < wd)) v.c, clip1 (decide (3 < wd)) v.d⟩
def caV (k ob v0 v1 v2 v3 n : Int) : Array Value := #[.int .i64 k, .int .i64 ob, .int .u32 v0, .int .u32 v1, .int .u32 v2, .int .u32 v3, .int .u32 n]
def resA (f v0 v1 v2 v3 : Int) : Array Value := #[.int .i64 f, .int .u32 v0, .int .u32 v1, .int .u32 v2, .int .u32 v3]
theorem eq_intK (n : Nat) (w : World) (x y : Int) : (Op.equalIn (n + 1) 3 (.int .i64 x) (.int .i64 y)).run Try.prog w = .ok (x == y) w := run_equalIn_int w n _ .i64 .i64 x y Try.underlying3
theorem key_eq (a b c d : Int) (w : World) : (binOp .eql 157 (.agg #[.int .i64 a, .int .i64 b]) (.agg #[.int .i64 c, .int .i64 d])).run Try.prog w = .ok (.bool ((a == c) && ((b == d) && true))) w :=
  eql_struct (eqIn_struct (by kernel_rfl) (by kernel_rfl) (l := [("call", 3, 0), ("kind", 3, 1)]) (by kernel_rfl) (.cons rfl (by kernel_rfl) (by kernel_rfl) (eq_intK _ _ _ _) (.cons rfl (by kernel_rfl) (by kernel_rfl) (eq_intK _ _ _ _) .nil)))
theorem results_done {P : Program} {fn : Func} {p q r s : Tmp} {ty ty2 : TypeId} (h : fn.results = #[.cell p ty, .cell q ty2, .tmp r, .tmp s]) (tmps : Array Value) (w : World) (g g2 : Nat) (t t2 : TypeId) (cs cs2 : Array Value) (fr fr2 : Nat × Nat) (d d2 : TypeDesc) (v u : Value)
    (hp : tmps.getD p undef = .pointer (some ⟨g, 0, none⟩)) (hq : tmps.getD q undef = .pointer (some ⟨g2, 0, none⟩)) (hr : tmps.getD r undef = v) (hs : tmps.getD s undef = u) (hg : w.heap[g]? = some (.cells cs t fr)) (hg2 : w.heap[g2]? = some (.cells cs2 t2 fr2))
    (hu : P.underlying ty = some d) (hd : (match d with | .struct _ | .array _ _ => true | _ => false) = true) (hi : (P.info? ty).map (·.size) = some cs.size)
    (hu2 : P.underlying ty2 = some d2) (hd2 : (match d2 with | .struct _ | .array _ _ => true | _ => false) = true) (hi2 : (P.info? ty2).map (·.size) = some cs2.size) :
    (results fn tmps).run P w = .ok (.tuple #[.agg cs, .agg cs2, v, u]) w := by
  have hp' : tmps[p]?.getD undef = .pointer (some ⟨g, 0, none⟩) := by simpa using hp
  have hq' : tmps[q]?.getD undef = .pointer (some ⟨g2, 0, none⟩) := by simpa using hq
  have hr' : tmps[r]?.getD undef = v := by simpa using hr
  have hs' : tmps[s]?.getD undef = u := by simpa using hs
  simp [results, h, hp', hq', hr', hs', asAddr, run_loadVar_row w g t ty cs fr d hg hu hd hi, run_loadVar_row w g2 t2 ty2 cs2 fr2 d2 hg2 hu2 hd2 hi2]
theorem info_item (cs : Array Value) (h : cs.size = 15) : (Try.prog.info? 112).map (·.size) = some cs.size := by rw [h]; kernel_rfl

theorem cells15 {w : World} {q : Nat} {x0 x1 x2 x3 x4 x5 x6 x7 x8 x9 x10 x11 x12 x13 x14 : Value} {t : TypeId} {fr : Nat × Nat} (hh : w.heap[q]? = some (.cells #[x0, x1, x2, x3, x4, x5, x6, x7, x8, x9, x10, x11, x12, x13, x14] t fr)) :
    w.cell? ⟨q, 0, none⟩ = some x0 ∧ w.cell? ⟨q, 1, none⟩ = some x1 ∧ w.cell? ⟨q, 2, none⟩ = some x2 ∧ w.cell? ⟨q, 3, none⟩ = some x3 ∧ w.cell? ⟨q, 4, none⟩ = some x4 ∧ w.cell? ⟨q, 5, none⟩ = some x5 ∧ w.cell? ⟨q, 6, none⟩ = some x6 ∧ w.cell? ⟨q, 7, none⟩ = some x7 ∧ w.cell? ⟨q, 8, none⟩ = some x8 ∧ w.cell? ⟨q, 9, none⟩ = some x9 ∧ w.cell? ⟨q, 10, none⟩ = some x10 ∧ w.cell? ⟨q, 11, none⟩ = some x11 ∧ w.cell? ⟨q, 12, none⟩ = some x12 ∧ w.cell? ⟨q, 13, none⟩ = some x13 ∧ w.cell? ⟨q, 14, none⟩ = some x14 := by
  refine ⟨?_, ?_, ?_, ?_, ?_, ?_, ?_, ?_, ?_, ?_, ?_, ?_, ?_, ?_, ?_⟩ <;> (rw [cell_of_heap hh]; rfl)
theorem cells7s {w : World} {q : Nat} {x0 x1 x2 x3 x4 x5 x6 : Value} {t : TypeId} {fr : Nat × Nat} (hh : w.heap[q]? = some (.cells #[x0, x1, x2, x3, x4, x5, x6] t fr)) :
    w.cell? ⟨q, 0, none⟩ = some x0 ∧ w.cell? ⟨q, 1, none⟩ = some x1 ∧ w.cell? ⟨q, 2, none⟩ = some x2 ∧ w.cell? ⟨q, 3, none⟩ = some x3 ∧ w.cell? ⟨q, 4, none⟩ = some x4 ∧ w.cell? ⟨q, 5, none⟩ = some x5 ∧ w.cell? ⟨q, 6, none⟩ = some x6 := by
  refine ⟨?_, ?_, ?_, ?_, ?_, ?_, ?_⟩ <;> (rw [cell_of_heap hh]; rfl)
theorem cells5 {w : World} {q : Nat} {x0 x1 x2 x3 x4 : Value} {t : TypeId} {fr : Nat × Nat} (hh : w.heap[q]? = some (.cells #[x0, x1, x2, x3, x4] t fr)) :
    w.cell? ⟨q, 0, none⟩ = some x0 ∧ w.cell? ⟨q, 1, none⟩ = some x1 ∧ w.cell? ⟨q, 2, none⟩ = some x2 ∧ w.cell? ⟨q, 3, none⟩ = some x3 ∧ w.cell? ⟨q, 4, none⟩ = some x4 := by
  refine ⟨?_, ?_, ?_, ?_, ?_⟩ <;> (rw [cell_of_heap hh]; rfl)
theorem info_res (a b c d e : Value) : (Try.prog.info? 31).map (·.size) = some (#[a, b, c, d, e] : Array Value).size := by kernel_rfl
theorem info_it (a b c d e f g h i j k l m n o : Value) : (Try.prog.info? 112).map (·.size) = some (#[a, b, c, d, e, f, g, h, i, j, k, l, m, n, o] : Array Value).size := by kernel_rfl
theorem heap_drewS {w : World} {b : Nat} {o : Obj} (h : w.heap[b]? = some o) : w.drew.heap[b]? = some o := h
def spec13 : List (Int × Int) := [(1, 1), (2, 1), (3, 2), (3, 3), (4, 2), (5, 3), (6, 3), (7, 4), (8, 4), (16, 4), (17, 4), (9, 4)]
end Go.Proofs.Ytdbgnnkbcebpcaa
