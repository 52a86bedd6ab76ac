/- The laws on configurations: which are looked at; the chapter's example. -/
import Derived.Test.YtdbgnnkbcebpcaaCF11
import Derived.Test.YtdbgnnkbcebpcaaEqs
set_option linter.unusedVariables false
set_option linter.unusedSimpArgs false
namespace Go.Proofs.Ytdbgnnkbcebpcaa
open Go.RowKit

/-- A configuration as it can be read, however large. -/
structure CFR0 (w : World) (ta : Option Addr) (la : Option Addr) (oa : Option Addr) (c : CF) : Prop where
  t : Els w ta 3 (c.ts.map TK.cells)
  l : Els w la 2 (c.ls.map LV.cells)
  o : Els w oa 10 (c.os.map OBJ.cells)
  tn : c.ts.length ≤ maxLen
  ln : c.ls.length ≤ maxLen
  on : c.os.length ≤ maxLen
  tcn : ∀ x ∈ c.ts, x.cn ≤ maxLen
  lcn : ∀ x ∈ c.ls, x.cn ≤ maxLen
theorem CFR0.of {w : World} {ta la oa : Option Addr} {c : CF} (h : CFR0 w ta la oa c) (h1 : c.ts.length ≤ 1000) (h2 : c.ls.length ≤ 1000) (h3 : c.os.length ≤ 1000) : CFR w ta la oa c := ⟨h.t, h.l, h.o, h1, h2, h3, h.tcn, h.lcn⟩
def CF.few (c : CF) : Prop := c.ts.length ≤ 20 ∧ c.ls.length ≤ 40 ∧ c.os.length ≤ 20
def CF.light (c : CF) : Prop := c.few ∧ (∀ x ∈ c.ts, x.cn ≤ 70) ∧ ∀ x ∈ c.ls, x.cn ≤ 70
section
variable {ta la oa : Option Addr} (tc lc oc : Nat) {c : CF} {w : World}
set_option maxRecDepth 100000 in
theorem light_many (tn ln on : Nat) (tk : Int) (h1 : tn ≤ 9223372036854775807) (h2 : ln ≤ 9223372036854775807) (h3 : on ≤ 9223372036854775807) (h : ¬ (tn ≤ 20 ∧ ln ≤ 40 ∧ on ≤ 20)) : Calls Try.prog 36 #[.agg (cfA ta tn tc la ln lc oa on oc tk)] w fun e w' => e = .returned (.bool false) ∧ Upd [] w w' := by
  unfold cfA
  by_cases g1 : 20 < tn
  · have q1 : decide ((20 : Int) < tn) = true := by simp; omega
    clear g1 h
    go_enter Try.func36, Try.ntmps36
    go_wp2
    go_ret
    exact ⟨rfl, (Upd.refl _ _).alloc _⟩
  · have q1 : decide ((20 : Int) < tn) = false := by simp; omega
    by_cases g2 : 40 < ln
    · have q2 : decide ((40 : Int) < ln) = true := by simp; omega
      clear g1 g2 h
      go_enter Try.func36, Try.ntmps36
      go_wp2
      go_ret
      exact ⟨rfl, (Upd.refl _ _).alloc _⟩
    · have q2 : decide ((40 : Int) < ln) = false := by simp; omega
      have q3 : decide ((20 : Int) < on) = true := by simp; omega
      clear g1 g2 h
      go_enter Try.func36, Try.ntmps36
      go_wp2
      go_ret
      exact ⟨rfl, (Upd.refl _ _).alloc _⟩
def LightPost (c : CF) (w : World) (e : Ending) (w' : World) : Prop := ∃ b, e = .returned (.bool b) ∧ (b = true ↔ c.light) ∧ Upd [] w w'
set_option maxRecDepth 100000 in
set_option maxHeartbeats 4000000 in
theorem light_few (h : CFR w ta la oa c) (hf : c.few) : Calls Try.prog 36 #[.agg (cfA ta c.ts.length tc la c.ls.length lc oa c.os.length oc c.tk)] w (LightPost c w) := by
  have HC := Lib.hid h
  have HFEW := Lib.hid hf
  have b1 := hf.1
  have b2 := hf.2.1
  have b3 := hf.2.2
  have hb0 := heap_alloc_new w (.cells #[.slice ta c.ts.length tc, .slice la c.ls.length lc, .slice oa c.os.length oc, .int .i64 c.tk] 91)
  obtain ⟨c0, c1, c2, c3⟩ := cells4 hb0
  clear hb0 h hf
  unfold cfA
  go_enter Try.func36, Try.ntmps36
  go_wp2
  go_loopg [3] c.ts.length (fun m i wr => ∃ a : Nat, m + a = c.ts.length ∧ i = .int .i64 a ∧ (∀ j (hj : j < c.ts.length), j < a → c.ts[j].cn ≤ 70) ∧ wr = w.alloc (.cells #[.slice ta c.ts.length tc, .slice la c.ls.length lc, .slice oa c.os.length oc, .int .i64 c.tk] 91))
  case atStart => exact ⟨0, by omega, rfl, (fun j _ h => by omega), rfl⟩
  case round =>
    obtain ⟨a, ha, rfl, hz, rfl⟩ := hrel
    have HA := Lib.hid ha
    have HZ := Lib.hid hz
    by_cases hlt : a < c.ts.length
    · obtain ⟨tb, to, rfl, htb, hc⟩ := els_at HC.out.t hlt
      have hm := HC.out.tcn c.ts[a] (List.getElem_mem hlt)
      obtain ⟨x, hx⟩ : ∃ x, x = c.ts[a] := ⟨_, rfl⟩
      rw [← hx] at hc hm
      have HX := Lib.hid hx
      obtain ⟨p, l, ca, cn, cc⟩ := x
      have k2 := hc 2 _ rfl
      unfold maxLen at hm
      simp only at hm
      clear hx hc hz ha
      by_cases h70 : 70 < cn
      · have q : decide ((70 : Int) < cn) = true := by simp; omega
        have HNO := Lib.hid (show ¬ c.light from fun hl => by
          have := hl.2.1 c.ts[a] (List.getElem_mem hlt)
          rw [← HX.out] at this
          simp only at this
          omega)
        clear h70
        go_wp2
        go_ret
        exact ⟨false, rfl, ⟨fun h => (by cases h), fun h => absurd h HNO.out⟩, (Upd.refl _ _).alloc _⟩
      · have q : decide ((70 : Int) < cn) = false := by simp; omega
        have H70 := Lib.hid h70
        clear h70
        go_wp2
        have ha := HA.out
        go_roundg (c.ts.length - (a + 1))
        case measure => omega
        case rel =>
          refine ⟨a + 1, by omega, by go_num, fun j hj h => ?_, rfl⟩
          by_cases e : j = a
          · subst e
            rw [← HX.out]
            have := H70.out
            simp only
            omega
          · exact HZ.out j hj (by omega)
    · have HT := Lib.hid (show ∀ x ∈ c.ts, x.cn ≤ 70 from fun x hx => by
        obtain ⟨j, hj, rfl⟩ := List.getElem_of_mem hx
        exact hz j hj (by omega))
      have hge : ¬ ((a : Int) < c.ts.length) := by omega
      clear ha hz HA HZ
      go_wp2
      go_loopg [4] c.ls.length (fun m i wr => ∃ a : Nat, m + a = c.ls.length ∧ i = .int .i64 a ∧ (∀ j (hj : j < c.ls.length), j < a → c.ls[j].cn ≤ 70) ∧ wr = w.alloc (.cells #[.slice ta c.ts.length tc, .slice la c.ls.length lc, .slice oa c.os.length oc, .int .i64 c.tk] 91))
      case atStart => exact ⟨0, by omega, rfl, (fun j _ h => by omega), rfl⟩
      case round =>
        obtain ⟨a, ha, rfl, hz, rfl⟩ := hrel
        have HA := Lib.hid ha
        have HZ := Lib.hid hz
        by_cases hlt : a < c.ls.length
        · obtain ⟨tb, to, rfl, htb, hc⟩ := els_at HC.out.l hlt
          have hm := HC.out.lcn c.ls[a] (List.getElem_mem hlt)
          obtain ⟨x, hx⟩ : ∃ x, x = c.ls[a] := ⟨_, rfl⟩
          rw [← hx] at hc hm
          have HX := Lib.hid hx
          obtain ⟨p, ca, cn, cc⟩ := x
          have k2 := hc 1 _ rfl
          unfold maxLen at hm
          simp only at hm
          clear hx hc hz ha
          by_cases h70 : 70 < cn
          · have q : decide ((70 : Int) < cn) = true := by simp; omega
            have HNO := Lib.hid (show ¬ c.light from fun hl => by
              have := hl.2.2 c.ls[a] (List.getElem_mem hlt)
              rw [← HX.out] at this
              simp only at this
              omega)
            clear h70
            go_wp2
            go_ret
            exact ⟨false, rfl, ⟨fun h => (by cases h), fun h => absurd h HNO.out⟩, (Upd.refl _ _).alloc _⟩
          · have q : decide ((70 : Int) < cn) = false := by simp; omega
            have H70 := Lib.hid h70
            clear h70
            go_wp2
            have ha := HA.out
            go_roundg (c.ls.length - (a + 1))
            case measure => omega
            case rel =>
              refine ⟨a + 1, by omega, by go_num, fun j hj h => ?_, rfl⟩
              by_cases e : j = a
              · subst e
                rw [← HX.out]
                have := H70.out
                simp only
                omega
              · exact HZ.out j hj (by omega)
        · have HTT := Lib.hid (show c.light from ⟨HFEW.out, HT.out, fun x hx => by
            obtain ⟨j, hj, rfl⟩ := List.getElem_of_mem hx
            exact hz j hj (by omega)⟩)
          have hge : ¬ ((a : Int) < c.ls.length) := by omega
          clear ha hz HA HZ
          go_wp2
          go_ret
          exact ⟨true, rfl, ⟨fun _ => HTT.out, fun _ => rfl⟩, (Upd.refl _ _).alloc _⟩
end
theorem eq_intF (n : Nat) (w : World) (x y : Int) : (Op.equalIn (n + 1) 3 (.int .i64 x) (.int .i64 y)).run Try.prog w = .ok (x == y) w := run_equalIn_int w n _ .i64 .i64 x y Try.underlying3
theorem eq_faultF (n : Nat) (w : World) (x y : Int) : (Op.equalIn (n + 1) 29 (.int .i64 x) (.int .i64 y)).run Try.prog w = .ok (x == y) w := run_equalIn_int w n _ .i64 .i64 x y Try.underlying29
theorem eqin_bad (w : World) (a b c a' b' c' : Int) : (Op.equalIn 10000 138 (.agg #[.int .i64 a, .int .i64 b, .int .i64 c]) (.agg #[.int .i64 a', .int .i64 b', .int .i64 c'])).run Try.prog w = .ok ((a == a') && ((b == b') && ((c == c') && true))) w :=
  eqIn_struct (by kernel_rfl) (by kernel_rfl) (l := [("F", 29, 0), ("Part", 3, 1), ("At", 3, 2)]) (by kernel_rfl) (.cons rfl (by kernel_rfl) (by kernel_rfl) (eq_faultF _ _ _ _) (.cons rfl (by kernel_rfl) (by kernel_rfl) (eq_intF _ _ _ _) (.cons rfl (by kernel_rfl) (by kernel_rfl) (eq_intF _ _ _ _) .nil)))
theorem eq_bad (w : World) (a b c a' b' c' : Int) : (binOp .eql 138 (.agg #[.int .i64 a, .int .i64 b, .int .i64 c]) (.agg #[.int .i64 a', .int .i64 b', .int .i64 c'])).run Try.prog w = .ok (.bool ((a == a') && ((b == b') && ((c == c') && true)))) w := eql_struct (eqin_bad ..)
theorem neq_bad (w : World) (a b c a' b' c' : Int) : (binOp .neq 138 (.agg #[.int .i64 a, .int .i64 b, .int .i64 c]) (.agg #[.int .i64 a', .int .i64 b', .int .i64 c'])).run Try.prog w = .ok (.bool (!((a == a') && ((b == b') && ((c == c') && true))))) w := by
  refine (run_neq_struct w _ _ _).trans ?_
  refine (congrArg (fun r => Result.andThen r _) (eqin_bad w a b c a' b' c')).trans ?_
  rfl
theorem eq_bad_same (w : World) (b : Int × Int × Int) : (binOp .eql 138 (badV b) (badV b)).run Try.prog w = .ok (.bool true) w := by
  unfold badV
  rw [eq_bad]
  simp
theorem cfr_empty (w : World) (tk : Int) : CFR w none none none ⟨[], [], [], tk⟩ :=
  ⟨fun h => by simp at h, fun h => by simp at h, fun h => by simp at h, by simp, by simp, by simp, by simp, by simp⟩
end Go.Proofs.Ytdbgnnkbcebpcaa
