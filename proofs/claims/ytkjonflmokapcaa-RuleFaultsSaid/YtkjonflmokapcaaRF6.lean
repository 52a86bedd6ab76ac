/- The law RuleFaults. -/
import Derived.Test.YtkjonflmokapcaaRF5
set_option linter.unusedVariables false
set_option linter.unusedSimpArgs false
namespace Go.Proofs.Ytkjonflmokapcaa
open Go.RowKit

/-- A configuration of one task and one level. -/
theorem cfr_one {w : World} {b1 b2 : Nat} (h1 : w.heap[b1]? = some (.cells #[.int .i64 0, .bool false, .slice none 0 0] 81)) (h2 : w.heap[b2]? = some (.cells #[.int .i64 1, .slice none 0 0] 139)) : CFR w (some ⟨b1, 0, none⟩) (some ⟨b2, 0, none⟩) none ⟨[⟨0, false, none, 0, 0⟩], [⟨1, none, 0, 0⟩], [], 0⟩ :=
  ⟨fun _ => ⟨b1, 0, rfl, heap_lt h1, fun i hi j v hv => by
    obtain rfl : i = 0 := by simpa using hi
    rw [cell_of_heap h1]
    simpa [TK.cells] using hv⟩, fun _ => ⟨b2, 0, rfl, heap_lt h2, fun i hi j v hv => by
    obtain rfl : i = 0 := by simpa using hi
    rw [cell_of_heap h2]
    simpa [LV.cells] using hv⟩, fun h => by simp at h, by simp, by simp, by simp, by simp, by simp⟩
set_option maxRecDepth 100000 in
set_option maxHeartbeats 2000000 in
theorem alive31 (w : World) : Calls Try.prog 49 #[] w fun e w' => e = .returned (.bool true) ∧ Upd [] w w' := by
  have e1 : firstP ⟨[⟨0, false, none, 0, 0⟩], [⟨1, none, 0, 0⟩], [], 0⟩ (-1) 13 0 0 = 11 := by decide
  have e2 : firstP ⟨[⟨0, false, none, 0, 0⟩], [⟨1, none, 0, 0⟩], [], 0⟩ 0 13 0 0 = 0 := by decide
  have HX := Lib.hid (show ∀ (O : Obj) wX, ((w.alloc (.cells #[.int .i64 0, .bool false, .slice none 0 0] 81)).alloc (.cells #[.int .i64 1, .slice none 0 0] 139)).alloc O = wX → CFR wX (some ⟨w.heap.size, 0, none⟩) (some ⟨w.heap.size + 1, 0, none⟩) none ⟨[⟨0, false, none, 0, 0⟩], [⟨1, none, 0, 0⟩], [], 0⟩ ∧ Upd [] w wX ∧ wX.heap[w.heap.size + 1 + 1]? = some O from fun O wX e => by
    subst e
    exact ⟨cfr_one (heap_alloc' (heap_alloc' (heap_alloc_new _ _))) (heap_alloc' (heap_alloc_at _ (by simp))), (((Upd.refl _ _).alloc _).alloc _).alloc _, heap_alloc_at _ (by simp)⟩)
  have H1 := Lib.hid fun (w' : World) (h : CFR w' (some ⟨w.heap.size, 0, none⟩) (some ⟨w.heap.size + 1, 0, none⟩) none ⟨[⟨0, false, none, 0, 0⟩], [⟨1, none, 0, 0⟩], [], 0⟩) => first_c (tc := 1) (lc := 1) (oc := 0) (ctx := -1) (k := 13) (ob := 0) (v0 := 0) (v1 := 0) (v2 := 0) (v3 := 0) (n := 0) h
  have H2 := Lib.hid fun (w' : World) (h : CFR w' (some ⟨w.heap.size, 0, none⟩) (some ⟨w.heap.size + 1, 0, none⟩) none ⟨[⟨0, false, none, 0, 0⟩], [⟨1, none, 0, 0⟩], [], 0⟩) => first_c (tc := 1) (lc := 1) (oc := 0) (ctx := 0) (k := 13) (ob := 0) (v0 := 0) (v1 := 0) (v2 := 0) (v3 := 0) (n := 0) h
  rw [e1] at H1
  rw [e2] at H2
  unfold cfA caA at H1 H2
  simp only [List.length_nil, List.length_cons] at H1 H2
  clear e1 e2
  go_enter Try.func49, Try.ntmps49
  go_wp2_with fail
  generalize hX : World.alloc _ _ = wX
  obtain ⟨hc, hu, hb⟩ := HX.out _ wX hX
  have HC := Lib.hid hc
  have HU := Lib.hid hu
  have HB := Lib.hid hb
  clear hX hc hu hb HX
  refine (H1.out _ HC.out).mono ?_
  rintro e w1 ⟨rfl, hu1⟩
  obtain ⟨c0, c1, c2, c3⟩ := cells4 (hu1.keepb HB.out (by simp))
  have HC1 := Lib.hid (HC.out.upd hu1)
  have HU1 := Lib.hid (HU.out.trans hu1)
  clear hu1
  go_wp2_with fail
  refine (H2.out _ HC1.out).mono ?_
  rintro e w2 ⟨rfl, hu2⟩
  go_wp2
  go_ret
  exact ⟨rfl, HU1.out.trans hu2⟩
section
variable {ta la oa : Option Addr} (tc lc oc : Nat) {c : CF} {w : World} (ctx k ob v0 v1 v2 v3 n : Int)
set_option maxRecDepth 100000 in
set_option maxHeartbeats 1000000 in
theorem rule_not (tn ln on : Nat) (tk : Int) (hL : ∀ w', Upd [] w w' → Calls Try.prog 33 #[.agg (cfA ta tn tc la ln lc oa on oc tk)] w' fun e w'' => e = .returned (.bool false) ∧ Upd [] w' w'') : Calls Try.prog 8 #[.agg (cfA ta tn tc la ln lc oa on oc tk), .int .i64 ctx, .agg (caA k ob v0 v1 v2 v3 n)] w fun e w' => e = .returned (.bool true) ∧ Upd [] w w' := by
  have HLT := Lib.hid (hL _ (((Upd.refl [] w).alloc (.cells (cfA ta tn tc la ln lc oa on oc tk) 77)).alloc (.cells (caA k ob v0 v1 v2 v3 n) 91)))
  clear hL
  unfold cfA caA at *
  go_enter Try.func8, Try.ntmps8
  go_wp2_with fail
  refine HLT.out.mono ?_
  rintro e w1 ⟨rfl, hu1⟩
  have HU1 := Lib.hid ((((Upd.refl [] w).alloc _).alloc _).trans hu1)
  clear hu1
  go_wp2_with fail
  refine (alive31 _).mono ?_
  rintro e w2 ⟨rfl, hu2⟩
  go_wp2
  go_ret
  exact ⟨rfl, HU1.out.trans hu2⟩
set_option maxRecDepth 100000 in
set_option maxHeartbeats 8000000 in
theorem rule_light (h : CFR w ta la oa c) (hl : c.light) : Calls Try.prog 8 #[.agg (cfA ta c.ts.length tc la c.ls.length lc oa c.os.length oc c.tk), .int .i64 ctx, .agg (caA k ob v0 v1 v2 v3 n)] w fun e w' => e = .returned (.bool true) ∧ Upd [] w w' := by
  have HLT := Lib.hid (light_few tc lc oc (h.upd (((Upd.refl [] w).alloc (.cells (cfA ta c.ts.length tc la c.ls.length lc oa c.os.length oc c.tk) 77)).alloc (.cells (caA k ob v0 v1 v2 v3 n) 91))) hl.1)
  have HLI := Lib.hid hl
  have HC := Lib.hid h
  have bo := h.on
  have HB0 := Lib.hid (show ((w.alloc (.cells (cfA ta c.ts.length tc la c.ls.length lc oa c.os.length oc c.tk) 77)).alloc (.cells (caA k ob v0 v1 v2 v3 n) 91)).heap[w.heap.size]? = some (.cells (cfA ta c.ts.length tc la c.ls.length lc oa c.os.length oc c.tk) 77) from heap_alloc' (heap_alloc_new _ _))
  have HB1 := Lib.hid (show ((w.alloc (.cells (cfA ta c.ts.length tc la c.ls.length lc oa c.os.length oc c.tk) 77)).alloc (.cells (caA k ob v0 v1 v2 v3 n) 91)).heap[w.heap.size + 1]? = some (.cells (caA k ob v0 v1 v2 v3 n) 91) from heap_alloc_at _ (by simp))
  clear h hl
  have HF := Lib.hid (fun (w' : World) (hu : Upd [] w w') (who : Int) => first_c (tc := tc) (lc := lc) (oc := oc) (ctx := who) (k := k) (ob := ob) (v0 := v0) (v1 := v1) (v2 := v2) (v3 := v3) (n := n) (HC.out.upd hu))
  have HLAW := Lib.hid fun h1 h2 h3 => owner_law (c := c) (ctx := ctx) (k := k) (ob := ob) (v0 := v0) h1 h2 h3
  unfold cfA caA at *
  go_enter Try.func8, Try.ntmps8
  go_wp2_with fail
  refine HLT.out.mono ?_
  rintro e w1 ⟨b, rfl, hbl, hu1⟩
  obtain rfl : b = true := hbl.2 HLI.out
  have HC1 := Lib.hid (hu1.keepb HB0.out (by simp))
  have HK1 := Lib.hid (hu1.keepb HB1.out (by simp))
  have HU1 := Lib.hid ((((Upd.refl [] w).alloc _).alloc _).trans hu1)
  obtain ⟨c0, c1, c2, c3⟩ := cells4 HC1.out
  obtain ⟨d0, d1, d2, d3, d4, d5, d6⟩ := cells7 HK1.out
  clear hu1 hbl
  go_wp2_with fail
  refine (HF.out _ HU1.out _).mono ?_
  rintro e w2 ⟨he, hu2⟩
  have HC2 := Lib.hid (hu2.keepb HC1.out (by simp))
  have HK2 := Lib.hid (hu2.keepb HK1.out (by simp))
  have HU2 := Lib.hid (HU1.out.trans hu2)
  obtain ⟨c0', c1', c2', c3'⟩ := cells4 HC2.out
  obtain ⟨d0', d1', d2', d3', d4', d5', d6'⟩ := cells7 HK2.out
  clear hu2 c0 c1 c2 c3 d0 d1 d2 d3 d4 d5 d6
  rcases firstP_cases c ctx k ob v0 with hf | hf | hf | hf | hf | hf | hf
  · rw [hf] at he
    subst he
    clear hf
    go_wp2_with fail
    refine (alive31 _).mono ?_
    rintro e w3 ⟨rfl, hu3⟩
    go_wp2
    go_ret
    exact ⟨rfl, HU2.out.trans hu3⟩
  · rw [hf] at he
    subst he
    clear hf
    go_wp2_with fail
    refine (alive31 _).mono ?_
    rintro e w3 ⟨rfl, hu3⟩
    go_wp2
    go_ret
    exact ⟨rfl, HU2.out.trans hu3⟩
  · rw [hf] at he
    subst he
    clear hf
    go_wp2_with fail
    refine (alive31 _).mono ?_
    rintro e w3 ⟨rfl, hu3⟩
    go_wp2
    go_ret
    exact ⟨rfl, HU2.out.trans hu3⟩
  · rw [hf] at he
    subst he
    clear hf
    go_wp2_with fail
    refine (alive31 _).mono ?_
    rintro e w3 ⟨rfl, hu3⟩
    go_wp2
    go_ret
    exact ⟨rfl, HU2.out.trans hu3⟩
  · rw [hf] at he
    subst he
    clear hf
    go_wp2_with fail
    refine (alive31 _).mono ?_
    rintro e w3 ⟨rfl, hu3⟩
    go_wp2
    go_ret
    exact ⟨rfl, HU2.out.trans hu3⟩
  · rw [hf] at he
    subst he
    clear hf
    go_wp2_with fail
    refine (alive31 _).mono ?_
    rintro e w3 ⟨rfl, hu3⟩
    go_wp2
    go_ret
    exact ⟨rfl, HU2.out.trans hu3⟩
  · rw [hf] at he
    subst he
    have HFF := Lib.hid hf
    clear hf
    rcases hk : (k == 11) with _ | _
    · rcases hbk : blocksB k with _ | _
      · obtain ⟨h0, h1, hlaw⟩ := HLAW.out HFF.out (by simpa using hk) hbk
        obtain ⟨i, rfl⟩ := Int.eq_ofNat_of_zero_le h0
        have hlt : i < c.os.length := by omega
        have hlaw := hlaw c.os[i] (by rw [Int.toNat_natCast, List.getElem?_eq_getElem hlt])
        obtain ⟨tb, to, rfl, htb, hc⟩ := els_at (HC.out.upd HU2.out).o hlt
        generalize c.os[i] = x at hc hlaw
        obtain ⟨k', cap, wd, rt, f, t, i0, i1, i2, i3⟩ := x
        have k0 := hc 0 _ rfl
        have k1 := hc 1 _ rfl
        have k2 := hc 2 _ rfl
        have k3 := hc 3 _ rfl
        have k4 := hc 4 _ rfl
        have k5 := hc 5 _ rfl
        have k6 := hc 6 _ rfl
        have k7 := hc 7 _ rfl
        have k8 := hc 8 _ rfl
        have k9 := hc 9 _ rfl
        rw [Nat.add_zero] at k0
        have HBL := Lib.hid (fun w => blocks_c k w)
        rw [hbk] at HBL
        have q1 : decide ((i : Int) < 0) = false := by simp
        have q2 : decide ((c.os.length : Int) ≤ (i : Int)) = false := by simp; omega
        have l1 := heap_lt HC2.out
        have l2 := heap_lt HK2.out
        simp only at hlaw
        clear hc hbk h0 HLAW
        by_cases hw : k = 1 ∨ k = 3
        · rw [if_pos hw] at hlaw
          have qn : (f != ctx) = true := by simpa using hlaw.1
          have HL2 := Lib.hid hlaw.2
          clear hlaw
          rcases hw with rfl | rfl
          · go_wp2_with (first | (go_at_call 51; refine (HBL.out _).mono ?_; rintro e w3 ⟨rfl, rfl⟩) | (go_at_call 50; refine Go.RowKit.Hid.out ?_))
            refine Lib.hid ?_
            refine (HF.out _ (HU2.out.alloc _) _).mono ?_
            rintro e w4 ⟨he, hu4⟩
            rw [HL2.out] at he
            subst he
            have HU4 := Lib.hid ((HU2.out.alloc _).trans hu4)
            clear hu4
            go_wp2_with fail
            refine (alive31 _).mono ?_
            rintro e w5 ⟨rfl, hu5⟩
            go_wp2
            go_ret
            exact ⟨rfl, HU4.out.trans hu5⟩
          · go_wp2_with (first | (go_at_call 51; refine (HBL.out _).mono ?_; rintro e w3 ⟨rfl, rfl⟩) | (go_at_call 50; refine Go.RowKit.Hid.out ?_))
            refine Lib.hid ?_
            refine (HF.out _ (HU2.out.alloc _) _).mono ?_
            rintro e w4 ⟨he, hu4⟩
            rw [HL2.out] at he
            subst he
            have HU4 := Lib.hid ((HU2.out.alloc _).trans hu4)
            clear hu4
            go_wp2_with fail
            refine (alive31 _).mono ?_
            rintro e w5 ⟨rfl, hu5⟩
            go_wp2
            go_ret
            exact ⟨rfl, HU4.out.trans hu5⟩
        · rw [if_neg hw] at hlaw
          have qn : (t != ctx) = true := by simpa using hlaw.1
          have HL2 := Lib.hid hlaw.2
          have p1 : (k == 1) = false := by simp; omega
          have p3 : (k == 3) = false := by simp; omega
          clear hlaw hw
          go_wp2_with (first | (go_at_call 51; refine (HBL.out _).mono ?_; rintro e w3 ⟨rfl, rfl⟩) | (go_at_call 50; refine Go.RowKit.Hid.out ?_))
          refine Lib.hid ?_
          refine (HF.out _ (HU2.out.alloc _) _).mono ?_
          rintro e w4 ⟨he, hu4⟩
          rw [HL2.out] at he
          subst he
          have HU4 := Lib.hid ((HU2.out.alloc _).trans hu4)
          clear hu4
          go_wp2_with fail
          refine (alive31 _).mono ?_
          rintro e w5 ⟨rfl, hu5⟩
          go_wp2
          go_ret
          exact ⟨rfl, HU4.out.trans hu5⟩
      · have HBL := Lib.hid (fun w => blocks_c k w)
        rw [hbk] at HBL
        clear hbk
        go_wp2_with fail
        refine (HBL.out _).mono ?_
        rintro e w3 ⟨rfl, rfl⟩
        go_wp2_with fail
        refine (alive31 _).mono ?_
        rintro e w3 ⟨rfl, hu3⟩
        go_wp2
        go_ret
        exact ⟨rfl, HU2.out.trans hu3⟩
    · go_wp2_with fail
      refine (alive31 _).mono ?_
      rintro e w3 ⟨rfl, hu3⟩
      go_wp2
      go_ret
      exact ⟨rfl, HU2.out.trans hu3⟩
theorem rule_any (h : CFR0 w ta la oa c) : Calls Try.prog 8 #[.agg (cfA ta c.ts.length tc la c.ls.length lc oa c.os.length oc c.tk), .int .i64 ctx, .agg (caA k ob v0 v1 v2 v3 n)] w fun e w' => e = .returned (.bool true) ∧ Upd [] w w' := by
  by_cases hf : c.few
  · have hr := h.of (by have := hf.1; omega) (by have := hf.2.1; omega) (by have := hf.2.2; omega)
    by_cases hl : c.light
    · exact rule_light tc lc oc ctx k ob v0 v1 v2 v3 n hr hl
    · refine rule_not tc lc oc ctx k ob v0 v1 v2 v3 n _ _ _ _ (fun w' hu => (light_few tc lc oc (hr.upd hu) hf).mono ?_)
      rintro e w' ⟨b, rfl, hb, hu⟩
      refine ⟨?_, hu⟩
      cases b with
      | false => rfl
      | true => exact absurd (hb.1 rfl) hl
  · have h1 := h.tn
    have h2 := h.ln
    have h3 := h.on
    unfold maxLen at h1 h2 h3
    exact rule_not tc lc oc ctx k ob v0 v1 v2 v3 n _ _ _ _ (fun w' hu => light_many tc lc oc _ _ _ _ (by omega) (by omega) (by omega) hf)
end
theorem call_okV {W : World} {v : Value} (h : Sh.okV W Sh.call v) : ∃ k ob v0 v1 v2 v3 n : Int, v = .agg (caA k ob v0 v1 v2 v3 n) := by
  obtain ⟨cs, rfl, h⟩ := h
  obtain ⟨_, _, e1, ⟨k, rfl, _⟩, _, _, rfl, ⟨ob, rfl, _⟩, _, _, rfl, h4, _, _, rfl, ⟨n, rfl, _⟩, rfl⟩ := h
  obtain ⟨v0, v1, v2, v3, rfl⟩ := arr4 h4
  exact ⟨k, ob, v0, v1, v2, v3, n, by rw [← Array.toArray_toList (xs := cs), e1]; rfl⟩
theorem ruleFaults_walk (W : World) (v0 v1 v2 : Value) (h0 : Sh.okV W (.st (.cons (.slice (.st (.cons (.int .i64) (.cons (.bool) (.cons (.slice (.st (.cons (.int .i64) (.cons (.int .i64) (.cons (.ar 4 (.int .u32)) (.cons (.int .u32) (.nil))))))) (.nil)))))) (.cons (.slice (.st (.cons (.int .i64) (.cons (.slice (.st (.cons (.int .i64) (.cons (.int .i64) (.cons (.ar 4 (.int .u32)) (.cons (.int .u32) (.nil))))))) (.nil))))) (.cons (.slice (.st (.cons (.int .i64) (.cons (.int .i64) (.cons (.int .i64) (.cons (.int .i64) (.cons (.int .i64) (.cons (.int .i64) (.cons (.ar 4 (.int .u32)) (.nil)))))))))) (.cons (.int .i64) (.nil)))))) v0) (h1 : Sh.okV W (.int .i64) v1) (h2 : Sh.okV W (.st (.cons (.int .i64) (.cons (.int .i64) (.cons (.ar 4 (.int .u32)) (.cons (.int .u32) (.nil)))))) v2) :
    Calls Try.prog 8 #[v0, v1, v2] W fun e w' => e = .returned (.bool true) ∧ Upd [] W w' := by
  obtain ⟨ta, la, oa, tc, lc, oc, c, rfl, hc, _⟩ := cfg_okV h0
  obtain ⟨ctx, rfl, _⟩ := int_okV1 h1
  obtain ⟨k, ob, x0, x1, x2, x3, n, rfl⟩ := call_okV h2
  exact rule_any tc lc oc ctx k ob x0 x1 x2 x3 n hc

end Go.Proofs.Ytkjonflmokapcaa
