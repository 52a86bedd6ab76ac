/- The law ConfChecks. -/
import Derived.Test.YtdbgnnkbcebpcaaCF12
import Derived.Lib.QuietBelow
set_option linter.unusedVariables false
set_option linter.unusedSimpArgs false
namespace Go.Proofs.Ytdbgnnkbcebpcaa
open Go.RowKit

section
variable {ta la oa : Option Addr} (tc lc oc : Nat) {c : CF} {w : World}
end
theorem arr4 {w : World} {cs : List Value} (h : (Sh.ar 4 (.int .u32)).ok w cs) : ∃ a b c d : Int, cs = [.int .u32 a, .int .u32 b, .int .u32 c, .int .u32 d] := by
  obtain ⟨_, _, rfl, ⟨a, rfl, _⟩, _, _, rfl, ⟨b, rfl, _⟩, _, _, rfl, ⟨c, rfl, _⟩, _, _, rfl, ⟨d, rfl, _⟩, rfl⟩ := h
  exact ⟨a, b, c, d, rfl⟩
/-- A slice whose elements are read by f. -/
theorem els_of {w : World} {e : Sh} {v : Value} {α : Type} (f : α → List Value) (P : α → Prop) (hp : ∀ cs, e.ok w cs → ∃ x, cs = f x ∧ P x) (h : (Sh.slice e).ok w [v]) : ∃ (a : Option Addr) (cap : Nat) (xs : List α), v = .slice a xs.length cap ∧ xs.length ≤ maxLen ∧ Els w a e.size (xs.map f) ∧ (∀ x ∈ xs, P x) ∧ xs.length ≤ cap ∧ cap ≤ maxLen ∧ (a = none → cap = 0) := by
  obtain ⟨a, len, cap, hv, hlc, hcm, g, hg, hm, h0⟩ := h
  obtain rfl : v = .slice a len cap := by simpa using hv
  obtain ⟨xs, hl, hx⟩ := list_of len (fun i x => g i = f x ∧ P x) (fun i hi => hp _ (hg i hi).1)
  subst hl
  refine ⟨a, cap, xs, rfl, by omega, fun hpos => ?_, fun x hx' => ?_, hlc, hcm, h0⟩
  · obtain ⟨b, off, e1, hb, hc⟩ := hm (by simpa using hpos)
    refine ⟨b, off, e1, hb, fun i hi j v hj => ?_⟩
    have hi' : i < xs.length := by simpa using hi
    refine hc i hi' j v ?_
    rw [(hx i hi').1]
    simpa using hj
  · obtain ⟨i, hi, rfl⟩ := List.getElem_of_mem hx'
    exact (hx i hi).2
def Sh.call : Sh := .st (.cons (.int .i64) (.cons (.int .i64) (.cons (.ar 4 (.int .u32)) (.cons (.int .u32) (.nil)))))
def Sh.conf : Sh := .st (.cons (.slice (.st (.cons (.int .i64) (.cons (.bool) (.cons (.slice Sh.call) (.nil)))))) (.cons (.slice (.st (.cons (.int .i64) (.cons (.slice Sh.call) (.nil))))) (.cons (.slice (.st (.cons (.int .i64) (.cons (.int .i64) (.cons (.int .i64) (.cons (.int .i64) (.cons (.int .i64) (.cons (.int .i64) (.cons (.ar 4 (.int .u32)) (.nil)))))))))) (.cons (.int .i64) (.nil)))))
theorem slice_len {w : World} {e : Sh} {cs : List Value} (h : (Sh.slice e).ok w cs) : ∃ a n c, cs = [.slice a n c] ∧ n ≤ maxLen := by
  obtain ⟨a, len, cap, hv, hlc, hcm, _⟩ := h
  exact ⟨a, len, cap, hv, by omega⟩
theorem cfg_okV {W : World} {v : Value} (h : Sh.okV W Sh.conf v) : ∃ (ta la oa : Option Addr) (tc lc oc : Nat) (c : CF), v = .agg (cfA ta c.ts.length tc la c.ls.length lc oa c.os.length oc c.tk) ∧ CFR0 W ta la oa c ∧ c.os.length ≤ oc ∧ oc ≤ maxLen := by
  obtain ⟨cs, rfl, h⟩ := h
  obtain ⟨x1, _, e1, h1, x2, _, rfl, h2, x3, _, rfl, h3, x4, _, rfl, ⟨tk, rfl, _⟩, rfl⟩ := h
  obtain ⟨a1, n1, c1, rfl, _⟩ := slice_len h1
  obtain ⟨a2, n2, c2, rfl, _⟩ := slice_len h2
  obtain ⟨a3, n3, c3, rfl, _⟩ := slice_len h3
  obtain ⟨ta, tc, ts, ht, htm, hte, htc, _⟩ := els_of TK.cells (fun x => x.cn ≤ maxLen) (fun cs h => by
    obtain ⟨_, _, rfl, ⟨p, rfl, _⟩, _, _, rfl, ⟨l, rfl⟩, _, _, rfl, h4, rfl⟩ := h
    obtain ⟨a, n, c, rfl, hn⟩ := slice_len h4
    exact ⟨⟨p, l, a, n, c⟩, rfl, hn⟩) h1
  obtain ⟨la, lc, ls, hl, hlm, hle, hlc, _⟩ := els_of LV.cells (fun x => x.cn ≤ maxLen) (fun cs h => by
    obtain ⟨_, _, rfl, ⟨p, rfl, _⟩, _, _, rfl, h4, rfl⟩ := h
    obtain ⟨a, n, c, rfl, hn⟩ := slice_len h4
    exact ⟨⟨p, a, n, c⟩, rfl, hn⟩) h2
  obtain ⟨oa, oc, os, ho, hom, hoe, _, hoc, hocm, _⟩ := els_of OBJ.cells (fun _ => True) (fun cs h => by
    obtain ⟨_, _, rfl, ⟨k, rfl, _⟩, _, _, rfl, ⟨cap, rfl, _⟩, _, _, rfl, ⟨wd, rfl, _⟩, _, _, rfl, ⟨rt, rfl, _⟩, _, _, rfl, ⟨f, rfl, _⟩, _, _, rfl, ⟨t, rfl, _⟩, _, _, rfl, h4, rfl⟩ := h
    obtain ⟨i0, i1, i2, i3, rfl⟩ := arr4 h4
    exact ⟨⟨k, cap, wd, rt, f, t, i0, i1, i2, i3⟩, rfl, trivial⟩) h3
  refine ⟨ta, la, oa, tc, lc, oc, ⟨ts, ls, os, tk⟩, ?_, ⟨hte, hle, hoe, htm, hlm, hom, htc, hlc⟩, hoc, hocm⟩
  rw [← Array.toArray_toList (xs := cs), e1]
  unfold cfA
  simp only [List.cons_append, List.nil_append]
  rw [ht, hl, ho]
theorem int_okV1 {W : World} {k : IntKind} {v : Value} (h : Sh.okV W (.int k) v) : ∃ n, v = .int k n ∧ (Lit.int k n).wf = true := by
  obtain ⟨n, hn, hw⟩ := h
  exact ⟨n, by simpa using hn, hw⟩
end Go.Proofs.Ytdbgnnkbcebpcaa
