/- Results that lie in a block: a struct, and numbers beside it. -/
import Derived.Test.YtnnakiojfpnphaaLaws
import Derived.Laws.Rows
import Derived.Test.YtnnakiojfpnphaaProg
set_option linter.unusedVariables false
set_option linter.unusedSimpArgs false
namespace Go.Proofs.Ytnnakiojfpnphaa
open Go.RowKit

/-- A scope out of which one goto goes forward, and none behind it. -/
theorem wp_scope_jump1 {P : Program} {a : Act} {w : World} {Q : Exit → Act → World → Prop} {c rest : Code} (l : Nat) (hf : findLabel c l = some rest)
    (h : ∀ K : Act → World → Prop, RowKit.Hid (∀ a w, rest.wp P (Exit.noGoto Q) a w → K a w) → c.wp P (Exit.jump l K Q) a w) : (Code.scope c).wp P Q a w := by
  intro b k cs
  have hg : gotoIn l (.inScope c :: k) = some (.code rest :: .inScope c :: k) := by simp [gotoIn, hf]
  obtain ⟨e, a₁, w₁, hq, harr⟩ := h (fun a w => rest.wp P (Exit.noGoto Q) a w) (Lib.hid fun _ _ h => h) b (.inScope c :: k) cs
  cases e with
  | normal => exact ⟨.normal, a₁, w₁, hq, .head step_scope (Steps.trans harr (.one step_inScope))⟩
  | exit id => exact ⟨.exit id, a₁, w₁, hq, fun k' hk => .head step_scope (harr k' (by simp [exitTo, hk]))⟩
  | goto l' =>
    obtain ⟨rfl, hJ⟩ := hq
    obtain ⟨e₂, a₂, w₂, hq₂, harr₂⟩ := hJ b (.inScope c :: k) cs
    cases e₂ with
    | normal => exact ⟨.normal, a₂, w₂, hq₂, .of_steps (.head step_scope (harr _ hg)) (Steps.trans harr₂ (.one step_inScope))⟩
    | exit id => exact ⟨.exit id, a₂, w₂, hq₂, .of_steps (.head step_scope (harr _ hg)) fun k' hk => harr₂ k' (by simp [exitTo, hk])⟩
    | goto l'' => exact hq₂.elim
    | ret => exact ⟨_, a₂, w₂, hq₂, .of_steps (.head step_scope (harr _ hg)) harr₂⟩
    | panic ch => exact ⟨_, a₂, w₂, hq₂, .of_steps (.head step_scope (harr _ hg)) harr₂⟩
    | outgrown => exact ⟨_, a₂, w₂, hq₂, .of_steps (.head step_scope (harr _ hg)) harr₂⟩
  | ret => exact ⟨_, a₁, w₁, hq, .of_steps (.one step_scope) harr⟩
  | panic ch => exact ⟨_, a₁, w₁, hq, .of_steps (.one step_scope) harr⟩
  | outgrown => exact ⟨_, a₁, w₁, hq, .of_steps (.one step_scope) harr⟩

theorem results_cell_tmp {P : Program} {fn : Func} {p q : Tmp} {ty : TypeId} (h : fn.results = #[.cell p ty, .tmp q]) (tmps : Array Value) (w : World) (g : Nat) (t : TypeId) (cs : Array Value) (fr : Nat × Nat) (d : TypeDesc) (v : Value)
    (hp : tmps.getD p undef = .pointer (some ⟨g, 0, none⟩)) (hq : tmps.getD q undef = v) (hg : w.heap[g]? = some (.cells cs t fr))
    (hu : P.underlying ty = some d) (hd : (match d with | .struct _ | .array _ _ => true | _ => false) = true) (hi : (P.info? ty).map (·.size) = some cs.size) :
    (results fn tmps).run P w = .ok (.tuple #[.agg cs, v]) w := by
  have hp' : tmps[p]?.getD undef = .pointer (some ⟨g, 0, none⟩) := by simpa using hp
  have hq' : tmps[q]?.getD undef = v := by simpa using hq
  simp [results, h, hp', hq', asAddr, run_loadVar_row w g t ty cs fr d hg hu hd hi]
theorem results_cell_tmp2 {P : Program} {fn : Func} {p q r : Tmp} {ty : TypeId} (h : fn.results = #[.cell p ty, .tmp q, .tmp r]) (tmps : Array Value) (w : World) (g : Nat) (t : TypeId) (cs : Array Value) (fr : Nat × Nat) (d : TypeDesc) (v u : Value)
    (hp : tmps.getD p undef = .pointer (some ⟨g, 0, none⟩)) (hq : tmps.getD q undef = v) (hr : tmps.getD r undef = u) (hg : w.heap[g]? = some (.cells cs t fr))
    (hu : P.underlying ty = some d) (hd : (match d with | .struct _ | .array _ _ => true | _ => false) = true) (hi : (P.info? ty).map (·.size) = some cs.size) :
    (results fn tmps).run P w = .ok (.tuple #[.agg cs, v, u]) w := by
  have hp' : tmps[p]?.getD undef = .pointer (some ⟨g, 0, none⟩) := by simpa using hp
  have hq' : tmps[q]?.getD undef = v := by simpa using hq
  have hr' : tmps[r]?.getD undef = u := by simpa using hr
  simp [results, h, hp', hq', hr', asAddr, run_loadVar_row w g t ty cs fr d hg hu hd hi]
theorem heap_set2 {w : World} {b i : Nat} {v : Value} {c c' : List Value} {t : TypeId} {f : Nat × Nat} (h : w.heap[b]? = some (.cells c.toArray t f)) (e : c.set i v = c') : (w.setCell ⟨b, i, none⟩ v).heap[b]? = some (.cells c'.toArray t f) := by
  subst e; rw [heap_set h i v]; simp
theorem heap_drew' {w : World} {b : Nat} {o : Obj} (h : w.heap[b]? = some o) : w.drew.heap[b]? = some o := h
theorem info_act : (Try.prog.info? 41).map (·.size) = some 3 := by kernel_rfl
theorem info_result : (Try.prog.info? 46).map (·.size) = some 5 := by kernel_rfl
theorem info_act3 (a b c : Value) : (Try.prog.info? 41).map (·.size) = some (#[a, b, c] : Array Value).size := info_act
theorem info_result5 (a b c d e : Value) : (Try.prog.info? 46).map (·.size) = some (#[a, b, c, d, e] : Array Value).size := info_result
/-- The act that a routine hands out. -/
theorem ret_act {fn : Func} {p q : Tmp} (h : fn.results = #[.cell p 41, .tmp q]) {R : Ending → World → Prop} {a : Act} {w : World} {g : Nat} {t : TypeId} {fr : Nat × Nat} {x y z v : Value}
    (hp : a.tmps.getD p undef = .pointer (some ⟨g, 0, none⟩)) (hq : a.tmps.getD q undef = v) (hd : a.defers = []) (hg : w.heap[g]? = some (.cells [x, y, z].toArray t fr)) (hR : R (.returned (.tuple #[.agg #[x, y, z], v])) w) : bodyPost Try.prog fn R .ret a w :=
  bodyPost_ret (results_cell_tmp h _ _ g t _ fr _ v hp hq hg Try.underlying41 rfl (info_act3 x y z)) hd hR
/-- The answer that a routine hands out. -/
theorem ret_result {fn : Func} {p q : Tmp} (h : fn.results = #[.cell p 46, .tmp q]) {R : Ending → World → Prop} {a : Act} {w : World} {g : Nat} {t : TypeId} {fr : Nat × Nat} {x0 x1 x2 x3 x4 v : Value}
    (hp : a.tmps.getD p undef = .pointer (some ⟨g, 0, none⟩)) (hq : a.tmps.getD q undef = v) (hd : a.defers = []) (hg : w.heap[g]? = some (.cells [x0, x1, x2, x3, x4].toArray t fr)) (hR : R (.returned (.tuple #[.agg #[x0, x1, x2, x3, x4], v])) w) : bodyPost Try.prog fn R .ret a w :=
  bodyPost_ret (results_cell_tmp h _ _ g t _ fr _ v hp hq hg Try.underlying46 rfl (info_result5 x0 x1 x2 x3 x4)) hd hR
theorem ret_result2 {fn : Func} {p q r : Tmp} (h : fn.results = #[.cell p 46, .tmp q, .tmp r]) {R : Ending → World → Prop} {a : Act} {w : World} {g : Nat} {t : TypeId} {fr : Nat × Nat} {x0 x1 x2 x3 x4 v u : Value}
    (hp : a.tmps.getD p undef = .pointer (some ⟨g, 0, none⟩)) (hq : a.tmps.getD q undef = v) (hr : a.tmps.getD r undef = u) (hd : a.defers = []) (hg : w.heap[g]? = some (.cells [x0, x1, x2, x3, x4].toArray t fr)) (hR : R (.returned (.tuple #[.agg #[x0, x1, x2, x3, x4], v, u])) w) : bodyPost Try.prog fn R .ret a w :=
  bodyPost_ret (results_cell_tmp2 h _ _ g t _ fr _ v u hp hq hr hg Try.underlying46 rfl (info_result5 x0 x1 x2 x3 x4)) hd hR
end Go.Proofs.Ytnnakiojfpnphaa
