/- Two answers, compared. -/
import Derived.Test.YtnnakiojfpnphaaLib
import Derived.Test.YtnnakiojfpnphaaProg
import Derived.Laws.StructEq
set_option linter.unusedVariables false
set_option linter.unusedSimpArgs false
namespace Go.Proofs.Ytnnakiojfpnphaa
open Go.RowKit

theorem eq_value (n : Nat) (w : World) (a b c d a' b' c' d' : Int) :
    (Op.equalIn (n + 2) 34 (.agg #[.int .u32 a, .int .u32 b, .int .u32 c, .int .u32 d]) (.agg #[.int .u32 a', .int .u32 b', .int .u32 c', .int .u32 d'])).run Try.prog w = .ok (a == a' && (b == b' && (c == c' && d == d'))) w := by
  have hu := Try.underlying34
  have hs : (sizeOf 32).run Try.prog w = .ok 1 w := by kernel_rfl
  have hi : ∀ x y : Int, (Op.equalIn (n + 1) 32 (.int .u32 x) (.int .u32 y)).run Try.prog w = .ok (x == y) w := fun x y => run_equalIn_int w n _ .u32 .u32 x y Try.underlying32
  rw [Op.equalIn]
  simp only [Sem.run_bind, run_underlying hu, Result.andThen_ok]
  simp [hs, hi, List.range', part]
  by_cases h1 : a = a' <;> by_cases h2 : b = b' <;> by_cases h3 : c = c' <;> by_cases h4 : d = d' <;> simp [h1, h2, h3, h4]

theorem eq_result (w : World) (f a b c d f' a' b' c' d' : Int) :
    (binOp .eql 46 (.agg #[.int .i64 f, .int .u32 a, .int .u32 b, .int .u32 c, .int .u32 d]) (.agg #[.int .i64 f', .int .u32 a', .int .u32 b', .int .u32 c', .int .u32 d'])).run Try.prog w = .ok (.bool (f == f' && (a == a' && (b == b' && (c == c' && d == d'))))) w := by
  have hu : Try.prog.underlying 46 = some (.struct (Try.prog.fieldsOf 46)) := by kernel_rfl
  have hv := fun w => eq_value 9997 w a b c d a' b' c' d'
  have hi : ∀ w (x y : Int), (Op.equalIn 9999 44 (.int .i64 x) (.int .i64 y)).run Try.prog w = .ok (x == y) w := fun w x y => run_equalIn_int w 9998 _ .i64 .i64 x y Try.underlying44
  have hp1 : (part 34 #[.int .i64 f, .int .u32 a, .int .u32 b, .int .u32 c, .int .u32 d] 1).run Try.prog w = .ok (.agg #[.int .u32 a, .int .u32 b, .int .u32 c, .int .u32 d]) w := by kernel_rfl
  have hp2 : (part 34 #[.int .i64 f', .int .u32 a', .int .u32 b', .int .u32 c', .int .u32 d'] 1).run Try.prog w = .ok (.agg #[.int .u32 a', .int .u32 b', .int .u32 c', .int .u32 d']) w := by kernel_rfl
  have hp3 : (part 44 #[.int .i64 f, .int .u32 a, .int .u32 b, .int .u32 c, .int .u32 d] 0).run Try.prog w = .ok (.int .i64 f) w := by kernel_rfl
  have hp4 : (part 44 #[.int .i64 f', .int .u32 a', .int .u32 b', .int .u32 c', .int .u32 d'] 0).run Try.prog w = .ok (.int .i64 f') w := by kernel_rfl
  have hf : (Try.prog.fieldsOf 46).toList.map (fun g => (g.name, g.type, g.offset)) = [("F", 44, 0), ("V", 34, 1)] := by kernel_rfl
  have he := run_equalIn_struct (P := Try.prog) w 9999 46 #[.int .i64 f, .int .u32 a, .int .u32 b, .int .u32 c, .int .u32 d] #[.int .i64 f', .int .u32 a', .int .u32 b', .int .u32 c', .int .u32 d'] hu (by kernel_rfl)
  refine (run_eql_struct w _ _ _).trans ?_
  refine (congrArg (fun r => Result.andThen r _) he).trans ?_
  clear he hu
  generalize (Try.prog.fieldsOf 46).toList = fs at hf ⊢
  rcases fs with _ | ⟨x, _ | ⟨y, _ | ⟨z, l⟩⟩⟩
  · cases hf
  · simp at hf
  · simp only [List.map_cons, List.map_nil, List.cons.injEq, Prod.mk.injEq, and_true] at hf
    obtain ⟨⟨n1, t1, o1⟩, n2, t2, o2⟩ := hf
    simp only [Op.eqFields, n1, t1, o1, n2, t2, o2]
    simp [hp1, hp2, hp3, hp4, hi, hv]
    by_cases h0 : f = f' <;> by_cases h1 : a = a' <;> by_cases h2 : b = b' <;> by_cases h3 : c = c' <;> by_cases h4 : d = d' <;> simp [h0, h1, h2, h3, h4]
  · simp at hf
end Go.Proofs.Ytnnakiojfpnphaa
