/- The law CellPlays over whatever values come in. -/
import Derived.Test.YtfdidgobgeohcaaPlay5
set_option linter.unusedVariables false
set_option linter.unusedSimpArgs false
namespace Go.Proofs.Ytfdidgobgeohcaa
open Go.RowKit

theorem wf_u32 {n : Int} (h : (Lit.int .u32 n).wf = true) : 0 ≤ n ∧ n ≤ 4294967295 := by
  simpa [Lit.wf, IntKind.min, IntKind.max, IntKind.bits, IntKind.signed] using h

theorem cellPlays_walk (W : World) (v0 v1 : Value) (h0 : Sh.okV W (.slice (.int .u32)) v0) (h1 : Sh.okV W (.slice (.st (.cons (.int .i64) (.cons (.int .i64) (.cons (.int .u32) (.nil)))))) v1) :
    Calls Try.prog 6 #[v0, v1] W fun e w' => e = .returned (.bool true) ∧ Upd [] W w' := by
  obtain ⟨a, cap, xs, rfl, hm, hr, hw, hc⟩ := reads_ints0 h0
  obtain ⟨a2, cap2, ss, rfl, hm2, hs, hsx⟩ := reads_steps h1
  by_cases hin : xs.length ≤ 60 ∧ ss.length ≤ 60
  · exact plays_in a cap xs a2 cap2 ss W hin.1 hin.2 hr hc (fun x hx => wf_u32 (hw x hx)) hs hsx
  · exact plays_out a xs.length cap a2 ss.length cap2 W (by simp [maxLen] at hm; omega) (by simp [maxLen] at hm2; omega) (by omega)
end Go.Proofs.Ytfdidgobgeohcaa
