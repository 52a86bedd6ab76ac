/- The law CellKeeps over whatever values come in. -/
import Derived.Test.YtfdidgobgeohcaaCell5
import Derived.Test.YtfdidgobgeohcaaShape
set_option linter.unusedVariables false
set_option linter.unusedSimpArgs false
namespace Go.Proofs.Ytfdidgobgeohcaa
open Go.RowKit

/-- A step that came in by value. -/
theorem step_okV {W : World} {v : Value} (h : Sh.okV W (.st (.cons (.int .i64) (.cons (.int .i64) (.cons (.int .u32) (.nil))))) v) : ∃ op ai x : Int, v = .agg #[.int .i64 op, .int .i64 ai, .int .u32 x] ∧ (Lit.int .i64 op).wf = true ∧ (Lit.int .i64 ai).wf = true ∧ (Lit.int .u32 x).wf = true := by
  obtain ⟨cs, rfl, h⟩ := h
  obtain ⟨_, _, e1, ⟨op, rfl, w1⟩, _, _, rfl, ⟨ai, rfl, w2⟩, _, _, rfl, ⟨x, rfl, w3⟩, rfl⟩ := h
  exact ⟨op, ai, x, by rw [← Array.toArray_toList (xs := cs), e1]; rfl, w1, w2, w3⟩
theorem int_okV {W : World} {k : IntKind} {v : Value} (h : Sh.okV W (.int k) v) : ∃ n, v = .int k n ∧ (Lit.int k n).wf = true := by
  obtain ⟨n, hn, hw⟩ := h
  exact ⟨n, by simpa using hn, hw⟩

theorem cellKeeps_walk (W : World) (v0 v1 v2 v3 : Value) (h0 : Sh.okV W (.slice (.int .u32)) v0) (h1 : Sh.okV W (.int .i64) v1) (h2 : Sh.okV W (.int .u32) v2) (h3 : Sh.okV W (.st (.cons (.int .i64) (.cons (.int .i64) (.cons (.int .u32) (.nil))))) v3) :
    Calls Try.prog 3 #[v0, v1, v2, v3] W fun e w' => e = .returned (.bool true) ∧ Upd [] W w' := by
  obtain ⟨a, cap, xs, rfl, hm, hr, _⟩ := reads_ints h0
  obtain ⟨at', rfl, _⟩ := int_okV h1
  obtain ⟨v, rfl, _⟩ := int_okV h2
  obtain ⟨op, ai, x, rfl, _, _, _⟩ := step_okV h3
  by_cases hin : xs.length ≤ 60 ∧ 0 ≤ at' ∧ at' < xs.length ∧ ai ≠ at'
  · obtain ⟨i, rfl⟩ := Int.eq_ofNat_of_zero_le hin.2.1
    exact keeps_in a cap xs i v op ai x W hin.1 (by omega) hin.2.2.2 hr
  · exact keeps_out a xs.length cap at' v op ai x W (by simp [maxLen] at hm; omega) (by omega)
end Go.Proofs.Ytfdidgobgeohcaa
