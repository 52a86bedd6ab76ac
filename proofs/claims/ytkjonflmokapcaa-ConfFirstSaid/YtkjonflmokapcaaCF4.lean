/- Package conf: which contexts there are, and whose an object's ends are. -/
import Derived.Test.YtkjonflmokapcaaCF3
import Derived.Test.YtkjonflmokapcaaShape
set_option linter.unusedVariables false
set_option linter.unusedSimpArgs false
namespace Go.Proofs.Ytkjonflmokapcaa
open Go.RowKit

/-- A configuration's cells. -/
def cfA (ta : Option Addr) (tn tc : Nat) (la : Option Addr) (ln lc : Nat) (oa : Option Addr) (on oc : Nat) (tk : Int) : Array Value := #[.slice ta tn tc, .slice la ln lc, .slice oa on oc, .int .i64 tk]
def hasB (tn ln : Nat) (ctx : Int) : Bool := decide (-(ln : Int) ≤ ctx) && decide (ctx ≤ (tn : Int) - 1)
section
variable (ta la oa : Option Addr) (tn tc ln lc on oc : Nat) (tk : Int) (w : World)
set_option maxRecDepth 100000 in
theorem has_c (ctx : Int) (h1 : tn ≤ 1000) (h2 : ln ≤ 1000) : Calls Try.prog 37 #[.agg (cfA ta tn tc la ln lc oa on oc tk), .int .i64 ctx] w fun e w' => e = .returned (.bool (hasB tn ln ctx)) ∧ Upd [] w w' := by
  have HW := Lib.hid fun w => cwithin ctx (-(ln : Int)) ((tn : Int) - 1) w
  unfold cfA hasB
  go_enter Try.func37, Try.ntmps37
  go_wp2_with fail
  refine (HW.out _).mono ?_
  rintro e w1 ⟨rfl, rfl⟩
  go_wp2
  go_ret
  exact ⟨rfl, (Upd.refl _ _).alloc _⟩
set_option maxRecDepth 100000 in
theorem size_c (h1 : tn ≤ 1000) (h2 : ln ≤ 1000) : Calls Try.prog 39 #[.agg (cfA ta tn tc la ln lc oa on oc tk)] w fun e w' => e = .returned (.int .i64 ((tn : Int) + ln)) ∧ Upd [] w w' := by
  unfold cfA
  go_enter Try.func39, Try.ntmps39
  go_wp2
  go_ret
  exact ⟨rfl, (Upd.refl _ _).alloc _⟩
set_option maxRecDepth 100000 in
set_option maxHeartbeats 1000000 in
theorem has_r (ctx : Int) (h1 : tn ≤ 1000) (h2 : ln ≤ 1000) : Calls Try.prog 38 #[.agg (cfA ta tn tc la ln lc oa on oc tk), .int .i64 ctx] w fun e w' => e = .returned (.bool (hasB tn ln ctx)) ∧ Upd [] w w' := by
  have hb0 := heap_alloc_new w (.cells #[.slice ta tn tc, .slice la ln lc, .slice oa on oc, .int .i64 tk] 77)
  have c0 := cell_of_heap hb0 0
  have c1 := cell_of_heap hb0 1
  simp at c0 c1
  clear hb0
  unfold cfA
  go_enter Try.func38, Try.ntmps38
  go_wp2
  go_loopg [5] tn (fun m i wr => ∃ j : Nat, m + j = tn ∧ i = .int .i64 j ∧ (∀ k : Nat, k < j → ctx ≠ k) ∧ wr = w.alloc (.cells #[.slice ta tn tc, .slice la ln lc, .slice oa on oc, .int .i64 tk] 77))
  case atStart => exact ⟨0, by omega, rfl, by simp, rfl⟩
  case round =>
    obtain ⟨j, hj, rfl, hno, rfl⟩ := hrel
    have HNO := Lib.hid hno
    have HJ := Lib.hid hj
    by_cases hlt : j < tn
    · by_cases e : ctx = j
      · have e1 : (ctx == (j : Int)) = true := by simpa using e
        have hr : hasB tn ln ctx = true := by simp [hasB]; omega
        have HR := Lib.hid hr
        clear hr e hno hj
        go_wp2
        go_ret
        exact ⟨by rw [HR.out]; rfl, (Upd.refl _ _).alloc _⟩
      · have e1 : (ctx == (j : Int)) = false := by simpa using e
        have HE := Lib.hid e
        clear e hno hj
        go_wp2
        have hj := HJ.out
        go_roundg (gk - 1)
        case measure => omega
        case rel =>
          refine ⟨j + 1, by omega, by go_num, fun i hi => ?_, rfl⟩
          by_cases h : i = j
          · subst h; exact HE.out
          · exact HNO.out i (by omega)
    · have HLT := Lib.hid (show j = tn by omega)
      have hge : ¬ ((j : Int) < tn) := by omega
      clear hno hj
      go_wp2
      go_loopg [6] ln (fun m i wr => ∃ j : Nat, m + j = ln + 1 ∧ 1 ≤ j ∧ i = .int .i64 j ∧ (∀ k : Nat, 1 ≤ k → k < j → ctx ≠ -(k : Int)) ∧ wr = w.alloc (.cells #[.slice ta tn tc, .slice la ln lc, .slice oa on oc, .int .i64 tk] 77))
      case atStart => exact ⟨1, by omega, by omega, rfl, (fun k h1 h2 => by omega), rfl⟩
      case round =>
        obtain ⟨i, hi, hi1, rfl, hno, rfl⟩ := hrel
        have HNI := Lib.hid hno
        have HI := Lib.hid hi
        by_cases hli : i ≤ ln
        · have hw : wrap64 (-(i : Int)) = -(i : Int) := by unfold wrap64; omega
          by_cases e : ctx = -(i : Int)
          · have e1 : (ctx == -(i : Int)) = true := by simpa using e
            have hr : hasB tn ln ctx = true := by simp [hasB]; omega
            have HR := Lib.hid hr
            clear hr e hno hi
            go_wp2
            go_ret
            exact ⟨by rw [HR.out]; rfl, (Upd.refl _ _).alloc _⟩
          · have e1 : (ctx == -(i : Int)) = false := by simpa using e
            have HE := Lib.hid e
            clear e hno hi
            go_wp2
            have hi := HI.out
            go_roundg (gk - 1)
            case measure => omega
            case rel =>
              refine ⟨i + 1, by omega, by omega, by go_num, fun k hk1 hk => ?_, rfl⟩
              by_cases h : k = i
              · subst h; exact HE.out
              · exact HNI.out k hk1 (by omega)
        · have hr : hasB tn ln ctx = false := by
            unfold hasB
            rw [← Bool.decide_and]
            refine decide_eq_false ?_
            rintro ⟨g1, g2⟩
            have hjn := HLT.out
            by_cases hc : 0 ≤ ctx
            · exact HNO.out ctx.toNat (by omega) (by omega)
            · exact HNI.out (-ctx).toNat (by omega) (by omega) (by omega)
          have HR := Lib.hid hr
          have hgi : ¬ ((i : Int) ≤ ln) := by omega
          clear hno hi hr
          go_wp2
          go_ret
          exact ⟨by rw [HR.out]; rfl, (Upd.refl _ _).alloc _⟩
end
end Go.Proofs.Ytkjonflmokapcaa
