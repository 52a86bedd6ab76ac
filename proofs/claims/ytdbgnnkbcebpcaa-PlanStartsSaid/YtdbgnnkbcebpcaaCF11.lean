/- The document's Check. -/
import Derived.Test.YtdbgnnkbcebpcaaCF10
import Derived.BigQuiet
import Derived.Deep.QuietTactic
set_option linter.unusedVariables false
set_option linter.unusedSimpArgs false
namespace Go.Proofs.Ytdbgnnkbcebpcaa
open Go.RowKit

theorem heap_drewNc {w : World} {g n : Nat} {o : Obj} (h : w.heap[g]? = some o) : (w.drewN n).heap[g]? = some o := h
theorem upd_set_new {w a b : World} {g : Nat} (h : Upd [] w a) (h2 : Upd [g] a b) (hg : w.heap.size ≤ g) : Upd [] w b := Upd.then (S := []) (S' := [g]) h h2 (fun i hi => .inr (by simp at hi; omega))
/-- What the document's Check has in memory. -/
structure RK (w : World) (A : Array Value) (w' : World) : Prop where
  h0 : w'.heap[w.heap.size]? = some (.cells A 91)
  h1 : w'.heap[w.heap.size + 1]? = some (.cells [.int .i64 0, .int .i64 0, .int .i64 0].toArray 138)
  u : Upd [] w w'
theorem RK.upd {w a b : World} {A : Array Value} (h : RK w A a) (hu : Upd [] a b) : RK w A b := ⟨hu.keepb h.h0 (by simp), hu.keepb h.h1 (by simp), h.u.trans hu⟩
theorem faults1_at (c : CF) {a : Nat} (ha : a < 4) : ∃ x lo hi : Int, (#[.int .i64 c.ts.length, .int .i64 c.ls.length, .int .i64 c.os.length, .int .i64 c.tk] : Array Value)[a]? = some (.int .i64 x) ∧ (#[.int .i64 1, .int .i64 0, .int .i64 0, .int .i64 0] : Array Value)[a]? = some (.int .i64 lo) ∧ (#[.int .i64 16, .int .i64 31, .int .i64 16, .int .i64 c.ls.length] : Array Value)[a]? = some (.int .i64 hi) ∧ (c.faults 1)[a]? = some (cntF x lo hi) := by
  have : a = 0 ∨ a = 1 ∨ a = 2 ∨ a = 3 := by omega
  rcases this with rfl | rfl | rfl | rfl
  · exact ⟨_, _, _, rfl, rfl, rfl, rfl⟩
  · exact ⟨_, _, _, rfl, rfl, rfl, rfl⟩
  · exact ⟨_, _, _, rfl, rfl, rfl, rfl⟩
  · exact ⟨_, _, _, rfl, rfl, rfl, rfl⟩
theorem cntF_low {x lo hi : Int} (h : x < lo) : cntF x lo hi = 2 := by unfold cntF; rw [decide_eq_false (by omega)]; rfl
theorem cntF_high {x lo hi : Int} (h : hi < x) : cntF x lo hi = 2 := by unfold cntF; rw [decide_eq_false (p := x ≤ hi) (by omega), Bool.and_false]; rfl
theorem cntF_ok {x lo hi : Int} (h1 : ¬ x < lo) (h2 : ¬ hi < x) : cntF x lo hi = 0 := by unfold cntF; rw [decide_eq_true (by omega), decide_eq_true (by omega)]; rfl
section
variable {ta la oa : Option Addr} (tc lc oc : Nat) {c : CF} {w : World}
end
end Go.Proofs.Ytdbgnnkbcebpcaa