/- '==' of structs, field by field, whatever the fields. -/
import Derived.Test.YtnnakiojfpnphaaLib
import Derived.Laws.StructEq
set_option linter.unusedVariables false
set_option linter.unusedSimpArgs false
namespace Go.Proofs.Ytnnakiojfpnphaa
open Go.RowKit

/-- What '==' says of a list of fields. -/
inductive EqF (P : Program) (w : World) (n : Nat) (c d : Array Value) : List (String × TypeId × Nat) → Bool → Prop
  | nil : EqF P w n c d [] true
  | cons {a : String} {t : TypeId} {o : Nat} {l : List (String × TypeId × Nat)} {x y : Value} {e e' : Bool} (h : (a != "_") = true) (h1 : (part t c o).run P w = .ok x w) (h2 : (part t d o).run P w = .ok y w) (h3 : (Op.equalIn n t x y).run P w = .ok e w) (h4 : EqF P w n c d l e') : EqF P w n c d ((a, t, o) :: l) (e && e')
theorem eqF_run {P : Program} {w : World} {n : Nat} {c d : Array Value} {l : List (String × TypeId × Nat)} {e : Bool} (h : EqF P w n c d l e) : ∀ {fs : List Field}, fs.map (fun g => (g.name, g.type, g.offset)) = l → (Op.eqFields n c d fs).run P w = .ok e w := by
  induction h with
  | nil =>
    intro fs h
    obtain rfl : fs = [] := by simpa using h
    rfl
  | @cons a t o l x y e0 e1 h h1 h2 h3 h4 ih =>
    intro fs hm
    rcases fs with _ | ⟨f, fs⟩
    · simp at hm
    · simp only [List.map_cons, List.cons.injEq, Prod.mk.injEq] at hm
      obtain ⟨⟨n1, t1, o1⟩, hm⟩ := hm
      have hf := ih hm
      have hn : ¬ f.name = "_" := by rw [n1]; simpa using h
      simp only [Op.eqFields, n1, t1, o1]
      rw [n1] at hn
      simp only [ne_eq, hn, not_false_eq_true, if_true, Sem.run_bind, h1, h2, h3, Result.andThen_ok]
      cases e0
      · simp
      · simpa using hf
/-- '==' of a struct's values inside another one. -/
theorem eqIn_struct {P : Program} {w : World} {n : Nat} {t : TypeId} {c d : Array Value} {e : Bool} {l : List (String × TypeId × Nat)} (ht : P.underlying t = some (.struct (P.fieldsOf t))) (hp : P.stoodInHeld t = false) (hl : (P.fieldsOf t).toList.map (fun g => (g.name, g.type, g.offset)) = l) (h : EqF P w n c d l e) :
    (Op.equalIn (n + 1) t (.agg c) (.agg d)).run P w = .ok e w := by
  rw [run_equalIn_struct w n t c d ht hp]
  exact eqF_run h hl
theorem eql_struct {P : Program} {w : World} {t : TypeId} {c d : Array Value} {e : Bool} (h : (Op.equalIn 10000 t (.agg c) (.agg d)).run P w = .ok e w) : (binOp .eql t (.agg c) (.agg d)).run P w = .ok (.bool e) w := by
  refine (run_eql_struct w _ _ _).trans ?_
  refine (congrArg (fun r => Result.andThen r _) h).trans ?_
  rfl
end Go.Proofs.Ytnnakiojfpnphaa
