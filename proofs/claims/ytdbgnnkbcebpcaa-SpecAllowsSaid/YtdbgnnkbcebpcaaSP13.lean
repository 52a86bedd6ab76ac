/- Package spec: Allows, as a plain function. -/
import Derived.Test.YtdbgnnkbcebpcaaSP12
set_option linter.unusedVariables false
set_option linter.unusedSimpArgs false
namespace Go.Proofs.Ytdbgnnkbcebpcaa
open Go.RowKit

def allowsR (s : List IT) (k o : Int) (c : V4) (r : Int × V4) : List IT × Bool :=
  if r = (doR s k o c).2 then ((doR s k o c).1, true)
  else if r = (8, v0) then (s, decide ((doR s k o c).2.1 = 0) && (k == 5 || k == 6))
  else if r = (9, v0) then (s, (decide ((doR s k o c).2.1 = 6) || decide ((doR s k o c).2.1 = 7)) && (decide (14 ≤ k) && decide (k ≤ 17)))
  else (s, false)
/-- What Allows hands out. -/
def AOut (s : List IT) (b : Bool) (e : Ending) (w' : World) : Prop := ∃ sa sc rs, e = .returned (.tuple #[.slice sa s.length sc, .bool b]) ∧ SRel w' sa rs ∧ rs.map (·.x) = s
theorem res_eq (f a b c d f' a' b' c' d' : Int) : (f == f' && (a == a' && (b == b' && (c == c' && d == d')))) = decide (((f, ⟨a, b, c, d⟩) : Int × V4) = (f', ⟨a', b', c', d'⟩)) := by
  by_cases h : ((f, ⟨a, b, c, d⟩) : Int × V4) = (f', ⟨a', b', c', d'⟩)
  · simp at h
    simp [h]
  · rw [decide_eq_false h]
    rw [Prod.mk.injEq, V4.mk.injEq] at h
    simp only [Bool.and_eq_false_iff, beq_eq_false_iff_ne, ne_eq]
    omega
section
variable {w : World} {sa : Option Addr} {rs : List IL}
theorem allows_c (sc : Nat) (k o cn : Int) (c : V4) (r : Int × V4) (h : SRel w sa rs) (hn : rs.length ≤ 1000) (hr : ∀ r ∈ rs, r.x.row.length ≤ 64) :
    Calls Try.prog 12 #[.slice sa rs.length sc, .agg (caV k o c.a c.b c.c c.d cn), .agg (resV r)] w fun e w' => Upd [] w w' ∧ AOut (allowsR (rs.map (·.x)) k o c r).1 (allowsR (rs.map (·.x)) k o c r).2 e w' := by
  have hd := fun (w1 : World) (hu : Upd [] w w1) => do_c (w := w1) (sa := sa) sc k o cn c (h.upd hu) hn hr
  unfold allowsR
  generalize doR (rs.map (·.x)) k o c = d at hd ⊢
  obtain ⟨s', ⟨rf, ⟨r0, r1, r2, r3⟩⟩⟩ := d
  obtain ⟨f, ⟨a, b, cc, dd⟩⟩ := r
  have hz : ∀ (sa : Option Addr) (n sc : Nat) (w w' : World), (n = s'.length ∧ ∃ rs, SRel w sa rs ∧ rs.map (·.x) = s') → Upd [] w w' → (n = s'.length ∧ ∃ rs, SRel w' sa rs ∧ rs.map (·.x) = s') :=
    fun _ _ _ _ _ ⟨h1, rs, h2, h3⟩ hu => ⟨h1, rs, h2.upd hu, h3⟩
  have hd' : ∀ w1, Upd [] w w1 → Calls Try.prog 10 #[.slice sa rs.length sc, .agg #[.int .i64 k, .int .i64 o, .int .u32 c.a, .int .u32 c.b, .int .u32 c.c, .int .u32 c.d, .int .u32 cn]] w1 fun e w' => Upd [] w1 w' ∧ ∃ sa sn sc, e = .returned (.tuple #[.slice sa sn sc, .agg #[.int .i64 rf, .int .u32 r0, .int .u32 r1, .int .u32 r2, .int .u32 r3]]) ∧ (sn = s'.length ∧ ∃ rs, SRel w' sa rs ∧ rs.map (·.x) = s') := fun w1 hu =>
    (hd w1 hu).mono fun e w' ⟨h1, sa', sc', rs', h2, h3, h4⟩ => ⟨h1, sa', s'.length, sc', h2, rfl, rs', h3, h4⟩
  have old : ∀ {e : Ending} {w' : World} {b : Bool}, Upd [] w w' ∧ e = .returned (.tuple #[.slice sa rs.length sc, .bool b]) → Upd [] w w' ∧ AOut (rs.map (·.x)) b e w' := fun ⟨h1, h2⟩ => ⟨h1, sa, sc, rs, by rw [h2]; simp, h.upd h1, rfl⟩
  have e1 := res_eq f a b cc dd rf r0 r1 r2 r3
  have e2 : _ = decide (((f, ⟨a, b, cc, dd⟩) : Int × V4) = (8, v0)) := res_eq f a b cc dd 8 0 0 0 0
  have e3 : _ = decide (((f, ⟨a, b, cc, dd⟩) : Int × V4) = (9, v0)) := res_eq f a b cc dd 9 0 0 0 0
  by_cases h1 : ((f, ⟨a, b, cc, dd⟩) : Int × V4) = (rf, ⟨r0, r1, r2, r3⟩)
  · rw [if_pos h1]
    rw [decide_eq_true h1] at e1
    have go : ∀ {e : Ending} {w' : World}, (Upd [] w w' ∧ ∃ za zn zc, e = .returned (.tuple #[.slice za zn zc, .bool true]) ∧ (zn = s'.length ∧ ∃ rs, SRel w' za rs ∧ rs.map (·.x) = s')) → Upd [] w w' ∧ AOut s' true e w' :=
      fun ⟨h1, za, zn, zc, h2, h3, rs', h4, h5⟩ => ⟨h1, za, zc, rs', by rw [h2, h3], h4, h5⟩
    cases h6 : rf == 6
    · exact (allows_A0 sa rs.length sc k o c.a c.b c.c c.d cn f a b cc dd rf r0 r1 r2 r3 w _ e1 rfl rfl h6 hz hd').mono fun e w' => go
    · exact (allows_A6 sa rs.length sc k o c.a c.b c.c c.d cn f a b cc dd rf r0 r1 r2 r3 w _ e1 rfl rfl h6 hz hd').mono fun e w' => go
  rw [if_neg h1]
  rw [decide_eq_false h1] at e1
  by_cases h2 : ((f, ⟨a, b, cc, dd⟩) : Int × V4) = (8, v0)
  · rw [if_pos h2]
    rw [decide_eq_true h2] at e2
    cases h6 : rf == 6
    · cases h0 : rf == 0
      · refine (allows_B0 sa rs.length sc k o c.a c.b c.c c.d cn f a b cc dd rf r0 r1 r2 r3 w _ e1 e2 rfl h6 h0 hz hd').mono fun e w' he => ?_
        have : decide (rf = 0) = false := by simpa using h0
        simp only [this, Bool.false_and]
        exact old he
      · have h0' : decide (rf = 0) = true := by simpa using h0
        simp only [h0', Bool.true_and]
        cases h5 : k == 5
        · refine (allows_Bf sa rs.length sc k o c.a c.b c.c c.d cn f a b cc dd rf r0 r1 r2 r3 w _ e1 e2 rfl h6 h0 h5 hz hd').mono fun e w' he => ?_
          rw [Bool.false_or]
          exact old he
        · refine (allows_Bt sa rs.length sc k o c.a c.b c.c c.d cn f a b cc dd rf r0 r1 r2 r3 w _ e1 e2 rfl h6 h0 h5 hz hd').mono fun e w' he => ?_
          rw [Bool.true_or]
          exact old he
    · have h0 : (rf == 0) = false := by simp at h6 ⊢; omega
      refine (allows_B6 sa rs.length sc k o c.a c.b c.c c.d cn f a b cc dd rf r0 r1 r2 r3 w _ e1 e2 rfl h6 h0 hz hd').mono fun e w' he => ?_
      have : decide (rf = 0) = false := by simpa using h0
      simp only [this, Bool.false_and]
      exact old he
  rw [if_neg h2]
  rw [decide_eq_false h2] at e2
  by_cases h3 : ((f, ⟨a, b, cc, dd⟩) : Int × V4) = (9, v0)
  · rw [if_pos h3]
    rw [decide_eq_true h3] at e3
    cases h6 : rf == 6
    · have d6 : decide (rf = 6) = false := by simpa using h6
      cases h7 : rf == 7
      · have d7 : decide (rf = 7) = false := by simpa using h7
        refine (allows_C0 sa rs.length sc k o c.a c.b c.c c.d cn f a b cc dd rf r0 r1 r2 r3 w _ e1 e2 e3 h6 h7 hz hd').mono fun e w' he => ?_
        simp only [d6, d7, Bool.false_or, Bool.false_and]
        exact old he
      · have d7 : decide (rf = 7) = true := by simpa using h7
        simp only [d6, d7, Bool.false_or, Bool.true_and]
        cases hl : decide (14 ≤ k)
        · refine (allows_C7f sa rs.length sc k o c.a c.b c.c c.d cn f a b cc dd rf r0 r1 r2 r3 w _ e1 e2 e3 h6 h7 hl hz hd').mono fun e w' he => ?_
          rw [Bool.false_and]
          exact old he
        · refine (allows_C7t sa rs.length sc k o c.a c.b c.c c.d cn f a b cc dd rf r0 r1 r2 r3 w _ e1 e2 e3 h6 h7 hl hz hd').mono fun e w' he => ?_
          rw [Bool.true_and]
          exact old he
    · have d6 : decide (rf = 6) = true := by simpa using h6
      simp only [d6, Bool.true_or, Bool.true_and]
      cases hl : decide (14 ≤ k)
      · refine (allows_C6f sa rs.length sc k o c.a c.b c.c c.d cn f a b cc dd rf r0 r1 r2 r3 w _ e1 e2 e3 h6 hl hz hd').mono fun e w' he => ?_
        rw [Bool.false_and]
        exact old he
      · refine (allows_C6t sa rs.length sc k o c.a c.b c.c c.d cn f a b cc dd rf r0 r1 r2 r3 w _ e1 e2 e3 h6 hl hz hd').mono fun e w' he => ?_
        rw [Bool.true_and]
        exact old he
  rw [if_neg h3]
  rw [decide_eq_false h3] at e3
  cases h6 : rf == 6
  · exact (allows_D0 sa rs.length sc k o c.a c.b c.c c.d cn f a b cc dd rf r0 r1 r2 r3 w _ e1 e2 e3 h6 hz hd').mono fun e w' he => old he
  · exact (allows_D6 sa rs.length sc k o c.a c.b c.c c.d cn f a b cc dd rf r0 r1 r2 r3 w _ e1 e2 e3 h6 hz hd').mono fun e w' he => old he
end
end Go.Proofs.Ytdbgnnkbcebpcaa
