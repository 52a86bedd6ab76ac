/- Package conf: what is wrong with a task, a level, an object. -/
import Derived.Test.YtnnakiojfpnphaaCF6
set_option linter.unusedVariables false
set_option linter.unusedSimpArgs false
namespace Go.Proofs.Ytnnakiojfpnphaa
open Go.RowKit

theorem els_at {w : World} {a : Option Addr} {sz : Nat} {α : Type} {f : α → List Value} {xs : List α} (h : Els w a sz (xs.map f)) {i : Nat} (hi : i < xs.length) : ∃ b off, a = some ⟨b, off, none⟩ ∧ b < w.heap.size ∧ ∀ j v, (f xs[i])[j]? = some v → w.cell? ⟨b, off + i * sz + j, none⟩ = some v := by
  obtain ⟨b, off, e, hb, hc⟩ := h (by simp; omega)
  exact ⟨b, off, e, hb, fun j v hv => hc i (by simpa using hi) j v (by simpa using hv)⟩
section
variable {ta la oa : Option Addr} (tc lc oc : Nat) {c : CF} {w : World}
end
end Go.Proofs.Ytnnakiojfpnphaa
