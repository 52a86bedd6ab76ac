/- The law WalkJoins over whatever walks come in. -/
import Derived.Test.YtkjonflmokapcaaWK9
import Derived.Test.YtkjonflmokapcaaShape
set_option linter.unusedVariables false
set_option linter.unusedSimpArgs false
namespace Go.Proofs.Ytkjonflmokapcaa
open Go.RowKit

theorem walk_okV {W : World} {v : Value} (h : Sh.okV W (.st (.cons (.st (.cons (.int .i64) (.cons (.int .i64) (.nil)))) (.cons (.int .i64) (.nil)))) v) : ∃ x y t : Int, v = .agg #[.int .i64 x, .int .i64 y, .int .i64 t] := by
  obtain ⟨cs, rfl, h⟩ := h
  obtain ⟨_, _, e1, ⟨_, _, rfl, ⟨x, rfl, _⟩, _, _, rfl, ⟨y, rfl, _⟩, rfl⟩, _, _, rfl, ⟨t, rfl, _⟩, rfl⟩ := h
  exact ⟨x, y, t, by rw [← Array.toArray_toList (xs := cs), e1]; rfl⟩
theorem walkJoins_walk (W : World) (v0 v1 : Value) (h0 : Sh.okV W (.st (.cons (.st (.cons (.int .i64) (.cons (.int .i64) (.nil)))) (.cons (.int .i64) (.nil)))) v0) (h1 : Sh.okV W (.st (.cons (.st (.cons (.int .i64) (.cons (.int .i64) (.nil)))) (.cons (.int .i64) (.nil)))) v1) :
    Calls Try.prog 3 #[v0, v1] W fun e w' => e = .returned (.bool true) ∧ Upd [] W w' := by
  obtain ⟨x, y, t, rfl⟩ := walk_okV h0
  obtain ⟨u, v, s, rfl⟩ := walk_okV h1
  exact joins_any x y t u v s W
end Go.Proofs.Ytkjonflmokapcaa
