/- The law ConfFirst over whatever configurations come in. -/
import Derived.Test.YtkjonflmokapcaaCF15
set_option linter.unusedVariables false
set_option linter.unusedSimpArgs false
namespace Go.Proofs.Ytkjonflmokapcaa
open Go.RowKit

section
variable {ta la oa : Option Addr} (tc lc oc : Nat) {c : CF} {w : World} (prio : Int)
theorem conf_any (h : CFR0 w ta la oa c) (hoc : c.os.length ≤ oc) (hocm : oc ≤ maxLen) : Calls Try.prog 5 #[.agg (cfA ta c.ts.length tc la c.ls.length lc oa c.os.length oc c.tk), .int .i64 prio] w fun e w' => e = .returned (.bool true) ∧ Upd [] w w' := by
  by_cases hf : c.few
  · have hr := h.of (by have := hf.1; omega) (by have := hf.2.1; omega) (by have := hf.2.2; omega)
    by_cases hl : c.light
    · exact conf_light tc lc oc prio hr hl hoc hocm
    · refine conf_not tc lc oc prio _ _ _ _ (fun w' hu => (light_few tc lc oc (hr.upd hu) hf).mono ?_)
      rintro e w' ⟨b, rfl, hb, hu⟩
      refine ⟨?_, hu⟩
      cases b with
      | false => rfl
      | true => exact absurd (hb.1 rfl) hl
  · have h1 := h.tn
    have h2 := h.ln
    have h3 := h.on
    unfold maxLen at h1 h2 h3
    exact conf_not tc lc oc prio _ _ _ _ (fun w' hu => light_many tc lc oc _ _ _ _ (by omega) (by omega) (by omega) hf)
end
theorem confFirst_walk (W : World) (v0 v1 : Value) (h0 : Sh.okV W (.st (.cons (.slice (.st (.cons (.int .i64) (.cons (.bool) (.cons (.slice (.st (.cons (.int .i64) (.cons (.int .i64) (.cons (.ar 4 (.int .u32)) (.cons (.int .u32) (.nil))))))) (.nil)))))) (.cons (.slice (.st (.cons (.int .i64) (.cons (.slice (.st (.cons (.int .i64) (.cons (.int .i64) (.cons (.ar 4 (.int .u32)) (.cons (.int .u32) (.nil))))))) (.nil))))) (.cons (.slice (.st (.cons (.int .i64) (.cons (.int .i64) (.cons (.int .i64) (.cons (.int .i64) (.cons (.int .i64) (.cons (.int .i64) (.cons (.ar 4 (.int .u32)) (.nil)))))))))) (.cons (.int .i64) (.nil)))))) v0) (h1 : Sh.okV W (.int .i64) v1) :
    Calls Try.prog 5 #[v0, v1] W fun e w' => e = .returned (.bool true) ∧ Upd [] W w' := by
  obtain ⟨ta, la, oa, tc, lc, oc, c, rfl, hc, hoc, hocm⟩ := cfg_okV h0
  obtain ⟨prio, rfl, _⟩ := int_okV1 h1
  exact conf_any tc lc oc prio hc hoc hocm
end Go.Proofs.Ytkjonflmokapcaa
