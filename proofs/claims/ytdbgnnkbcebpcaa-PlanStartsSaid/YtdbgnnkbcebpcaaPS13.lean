/- The law PlanStarts. -/
import Derived.Test.YtdbgnnkbcebpcaaPS12
set_option linter.unusedVariables false
set_option linter.unusedSimpArgs false
namespace Go.Proofs.Ytdbgnnkbcebpcaa
open Go.RowKit
theorem lns_hi {n : Int} {l : List Int} : ∀ x ∈ lns n l, x.a ≤ n + sumL l := by
  induction l generalizing n with
  | nil => simp [lns]
  | cons r l ih =>
    intro x hx
    simp only [lns, List.mem_cons] at hx
    have h := lsize_bounds r
    have h2 := sumL_bounds l
    simp only [sumL]
    rcases hx with rfl | hx
    · simp only [lnOf]; omega
    · have := ih x hx; omega
theorem whose_c {w : World} {va na ka : Option Addr} {c : CF} (vc nc kc n : Nat) (hv : c.bad = (0, 0, 0)) (h1 : Els w va 5 ((pls 0 c.os).map PL.cells)) (h2 : Els w na 6 ((lns (sumS c.os) (c.ls.map (·.r))).map LN.cells)) (h3 : (n : Int) < sumS c.os + sumL (c.ls.map (·.r)) + 1 + c.ts.length) :
    Calls Try.prog 42 #[.agg #[.slice va c.os.length vc, .slice na c.ls.length nc, .int .i64 (sumS c.os + sumL (c.ls.map (·.r))), .slice ka c.ts.length kc, .int .i64 (sumS c.os + sumL (c.ls.map (·.r)) + 1 + c.ts.length)], .int .i64 n] w fun e w' => ∃ x y : Int, e = .returned (.tuple #[.int .i64 x, .int .i64 y]) ∧ Upd [] w w' ∧ (((n : Int) < sumS c.os ∧ x = 1 ∧ ∃ i : Nat, i < c.os.length ∧ y = i) ∨ (sumS c.os ≤ n ∧ x ≠ 1)) := by
  obtain ⟨v1, v2, v3, v4⟩ := bad_valid hv
  have hsb := sumS_bounds c.os
  have hlb := sumL_bounds (c.ls.map (·.r))
  have hll : (c.ls.map (·.r)).length = c.ls.length := by simp
  have hpn : (pls 0 c.os).length = c.os.length := pls_len 0 c.os
  have hqn : (lns (sumS c.os) (c.ls.map (·.r))).length = c.ls.length := by rw [lns_len, hll]
  have hpb : ∀ p ∈ pls 0 c.os, 0 ≤ p.a ∧ p.a < 1000000 := fun p hp => by
    have h := pls_bounds c.os v4 0 p hp
    have hz := sizeP_bounds p.k p.cap p.wd p.rt
    omega
  have hqb : ∀ x ∈ lns (sumS c.os) (c.ls.map (·.r)), sumS c.os ≤ x.a ∧ x.a < 1000000 ∧ sumS c.os ≤ x.o := fun x hx => by
    have h := lns_at x hx
    have h' := lns_hi x hx
    omega
  generalize hQ : lns (sumS c.os) (c.ls.map (·.r)) = Q at *
  generalize hP : pls 0 c.os = P at *
  rw [← hpn, ← hqn]
  by_cases ht : (n : Int) < sumS c.os + sumL (c.ls.map (·.r))
  · by_cases hn : (n : Int) < sumS c.os
    · obtain ⟨i, h5, h6⟩ := has_first c.os v4 n (by omega) hn
      rw [hP] at h5 h6
      refine (whose_in vc nc c.ts.length kc _ _ n i h1 h2 (by omega) (by omega) hpb (fun x hx => by have := hqb x hx; omega) (by omega) ht (by omega) h5 h6).mono ?_
      rintro e w' ⟨rfl, hu⟩
      obtain ⟨p, hp, -⟩ := h5
      exact ⟨_, _, rfl, hu, .inl ⟨hn, rfl, i, (List.getElem?_eq_some_iff.1 hp).1, rfl⟩⟩
    · refine (whose_lines vc nc c.ts.length kc _ _ n h1 h2 (by omega) (by omega) hpb (fun x hx => by have := hqb x hx; exact ⟨by omega, by omega, trivial⟩) (by omega) ht (by omega) (by rw [← hP]; exact has_out c.os v4 n (by omega))).mono ?_
      rintro e w' ⟨⟨x, y, rfl, hx⟩, hu⟩
      exact ⟨x, y, rfl, hu, .inr ⟨by omega, hx⟩⟩
  · by_cases hn : (n : Int) = sumS c.os + sumL (c.ls.map (·.r))
    · rw [← hn]
      refine (whose_tick (P := P) (Q := Q) vc nc c.ts.length kc (n : Int) _ (by omega) (by omega) (by omega)).mono ?_
      rintro e w' ⟨⟨x, y, rfl, hx⟩, hu⟩
      exact ⟨x, y, rfl, hu, .inr ⟨by omega, hx⟩⟩
    · refine (whose_asks (P := P) (Q := Q) vc nc c.ts.length kc _ _ n (by omega) (by omega) (by omega) (by omega)).mono ?_
      rintro e w' ⟨⟨x, y, rfl, hx⟩, hu⟩
      exact ⟨x, y, rfl, hu, .inr ⟨by omega, hx⟩⟩
section
variable {W : World} {ta la oa : Option Addr}
set_option maxRecDepth 100000 in
set_option maxHeartbeats 2000000 in
theorem ps_not (tc lc oc tn ln on : Nat) (tk : Int) (hL : ∀ w', Upd [] W w' → Calls Try.prog 36 #[.agg (cfA ta tn tc la ln lc oa on oc tk)] w' fun e w'' => e = .returned (.bool false) ∧ Upd [] w' w'') :
    Calls Try.prog 6 #[.agg (cfA ta tn tc la ln lc oa on oc tk)] W fun e w' => e = .returned (.bool true) ∧ Upd [] W w' := by
  have HL := Lib.hid hL
  clear hL
  unfold cfA at *
  go_enter Try.func6, Try.ntmps6
  go_wp2_with fail
  refine (HL.out _ ((Upd.refl _ _).alloc _)).mono ?_
  rintro e w1 ⟨rfl, hu1⟩
  have HU1 := Lib.hid (((Upd.refl [] W).alloc _).trans hu1)
  clear hu1
  go_wp2_with fail
  refine (alive30 _).mono ?_
  rintro e w2 ⟨rfl, hu2⟩
  go_wp2
  go_ret
  exact ⟨rfl, HU1.out.trans hu2⟩
variable {c : CF}
set_option maxRecDepth 100000 in
set_option maxHeartbeats 2000000 in
theorem ps_bad (tc lc oc : Nat) (h : CFR W ta la oa c) (hv : c.bad ≠ (0, 0, 0)) (hL : ∀ w', Upd [] W w' → Calls Try.prog 36 #[.agg (cfA ta c.ts.length tc la c.ls.length lc oa c.os.length oc c.tk)] w' fun e w'' => e = .returned (.bool true) ∧ Upd [] w' w'') :
    Calls Try.prog 6 #[.agg (cfA ta c.ts.length tc la c.ls.length lc oa c.os.length oc c.tk)] W fun e w' => e = .returned (.bool true) ∧ Upd [] W w' := by
  have HL := Lib.hid hL
  have HOF := Lib.hid fun (w' : World) (hu : Upd [] W w') => planOf_bad tc lc oc (h.upd hu) hv
  have HME := Lib.hid fun (w' : World) (hu : Upd [] W w') => planMem_bad tc lc oc (h.upd hu) hv
  clear hL h hv
  unfold cfA at *
  go_enter Try.func6, Try.ntmps6
  go_wp2_with (first
    | (go_at_call 36; (with_reducible refine (HL.out _ (by repeat (first | (with_reducible exact Upd.refl _ _) | (with_reducible apply Upd.drew) | (with_reducible refine Upd.grE ?_ _) | (with_reducible refine Upd.alloc ?_ _)))).mono ?_); rintro e w1 ⟨rfl, hu1⟩; obtain ⟨p1, rfl⟩ := hu1.grown; clear hu1)
    | (go_at_call 38; (with_reducible refine (HOF.out _ (by repeat (first | (with_reducible exact Upd.refl _ _) | (with_reducible apply Upd.drew) | (with_reducible refine Upd.grE ?_ _) | (with_reducible refine Upd.alloc ?_ _)))).mono ?_); rintro e w1 ⟨hu1, rfl⟩; obtain ⟨p1, rfl⟩ := hu1.grown; clear hu1)
    | (go_at_call 39; (with_reducible refine (HME.out _ (by repeat (first | (with_reducible exact Upd.refl _ _) | (with_reducible apply Upd.drew) | (with_reducible refine Upd.grE ?_ _) | (with_reducible refine Upd.alloc ?_ _)))).mono ?_); rintro e w1 ⟨hu1, rfl⟩; obtain ⟨p1, rfl⟩ := hu1.grown; clear hu1)
    | (go_at_call 37; (with_reducible refine (alive30 _).mono ?_); rintro e w1 ⟨rfl, hu1⟩; obtain ⟨p1, rfl⟩ := hu1.grown; clear hu1))
  go_ret
  exact ⟨rfl, by repeat (first | (with_reducible exact Upd.refl _ _) | (with_reducible apply Upd.drew) | (with_reducible refine Upd.grE ?_ _) | (with_reducible refine Upd.alloc ?_ _))⟩
set_option maxRecDepth 100000 in
set_option maxHeartbeats 8000000 in
theorem ps_ok (tc lc oc : Nat) (h : CFR W ta la oa c) (hv : c.bad = (0, 0, 0)) (hL : ∀ w', Upd [] W w' → Calls Try.prog 36 #[.agg (cfA ta c.ts.length tc la c.ls.length lc oa c.os.length oc c.tk)] w' fun e w'' => e = .returned (.bool true) ∧ Upd [] w' w'') :
    Calls Try.prog 6 #[.agg (cfA ta c.ts.length tc la c.ls.length lc oa c.os.length oc c.tk)] W fun e w' => e = .returned (.bool true) ∧ Upd [] W w' := by
  have HL := Lib.hid hL
  obtain ⟨v1, v2, v3, v4⟩ := bad_valid hv
  have HCF := Lib.hid h
  have HV := Lib.hid (And.intro v1 (And.intro v2 (And.intro v3 (show AllRight c.os from v4))))
  have HOF := Lib.hid fun (w' : World) (hu : Upd [] W w') => planOf_c tc lc oc (h.upd hu) hv
  have HME := Lib.hid fun (w' : World) (hu : Upd [] W w') => planMem_c tc lc oc (h.upd hu) hv
  have HST := Lib.hid fun (w' : World) (hu : Upd [] W w') => sstart_c (W := w') oc (h.o.upd hu (by simp)) v3 v4
  have hcb := cells_bounds hv
  have hml := memP_len c
  have hsl := startP_len c.os
  have hsb := sumS_bounds c.os
  have HKD := Lib.hid (pls_kind c.os v4 0)
  have hpn : (pls 0 c.os).length = c.os.length := pls_len 0 c.os
  have HWH := Lib.hid fun (w : World) (va na ka : Option Addr) (vc nc kc n : Nat) => whose_c (w := w) (va := va) (na := na) (ka := ka) vc nc kc n hv
  obtain ⟨cn, hcn⟩ : ∃ cn : Nat, c.cells = (cn : Int) := ⟨c.cells.toNat, by omega⟩
  obtain ⟨sn, hsn⟩ : ∃ sn : Nat, sumS c.os = (sn : Int) := ⟨(sumS c.os).toNat, by omega⟩
  have e1 : sumS c.os + sumL (c.ls.map (·.r)) + 1 + c.ts.length = (cn : Int) := hcn
  have hms : memP c = startP c.os ++ List.replicate (cn - sn) 0 := by
    have h2 := sumL_bounds (c.ls.map (·.r))
    unfold memP
    congr 2
    omega
  simp only [e1] at HOF HWH
  rw [hcn] at hml
  generalize sumS c.os + sumL (c.ls.map (·.r)) = TT at HOF HWH
  simp only [hsn] at hsl HOF HWH
  have HML := Lib.hid (show (memP c).length = cn by simpa using hml)
  have HSL := Lib.hid (show (startP c.os).length = sn by simpa using hsl)
  have HMS := Lib.hid hms
  have HB := Lib.hid (show cn ≤ 13000 ∧ sn ≤ cn by
    have h2 := sumL_bounds (c.ls.map (·.r))
    have : c.cells = sumS c.os + sumL (c.ls.map (·.r)) + 1 + c.ts.length := rfl
    omega)
  have HPN := Lib.hid hpn
  clear hL h hv v1 v2 v3 v4 hcb hml hsl hsb hcn hsn e1 hms hpn
  unfold cfA at *
  go_enter Try.func6, Try.ntmps6
  go_wp2_with (first
    | (go_at_call 36; (with_reducible refine (HL.out _ (by repeat (first | (with_reducible exact Upd.refl _ _) | (with_reducible apply Upd.drew) | (with_reducible refine Upd.grE ?_ _) | (with_reducible refine Upd.alloc ?_ _)))).mono ?_); rintro e w1 ⟨rfl, hu1⟩; obtain ⟨p1, rfl⟩ := hu1.grown; clear hu1)
    | (go_at_call 38; refine Go.RowKit.Hid.out ?_))
  refine Lib.hid ?_
  refine (HOF.out _ (by repeat (first | (with_reducible exact Upd.refl _ _) | (with_reducible apply Upd.drew) | (with_reducible refine Upd.grE ?_ _) | (with_reducible refine Upd.alloc ?_ _)))).mono ?_
  rintro e w1 ⟨hu1, va, vc, na, nc, ka, kc, rfl, hpl, hln, -⟩
  have hcb := hu1.keepb (k := W.heap.size) (o := .cells #[.slice ta c.ts.length tc, .slice la c.ls.length lc, .slice oa c.os.length oc, .int .i64 c.tk] 91 (0, 0)) (by repeat (first | ((with_reducible refine heap_alloc_at _ ?_); (first | rfl | (simp; done))) | (with_reducible apply heap_drewE) | (with_reducible apply heap_grE) | (with_reducible apply heap_alloc'))) (by simp)
  have HU1 := Lib.hid (Upd.trans (S := []) (a := W) (by repeat (first | (with_reducible exact Upd.refl _ _) | (with_reducible apply Upd.drew) | (with_reducible refine Upd.grE ?_ _) | (with_reducible refine Upd.alloc ?_ _))) hu1)
  have HCB := Lib.hid hcb
  have HPL := Lib.hid hpl
  have HLN := Lib.hid hln
  obtain ⟨k0, k1, k2, k3⟩ := cells4 hcb
  clear hu1 hcb hpl hln
  have kl := heap_lt HCB.out
  go_wp2_with (go_at_call 40; refine Go.RowKit.Hid.out ?_)
  refine Lib.hid ?_
  have HUP := Lib.hid (HU1.out.alloc (.cells #[.slice va c.os.length vc, .slice na c.ls.length nc, .int .i64 TT, .slice ka c.ts.length kc, .int .i64 cn] 96))
  have HPB := Lib.hid (heap_alloc_new w1 (.cells #[.slice va c.os.length vc, .slice na c.ls.length nc, .int .i64 TT, .slice ka c.ts.length kc, .int .i64 cn] 96))
  have HCB2 := Lib.hid (heap_alloc' (o := .cells #[.slice va c.os.length vc, .slice na c.ls.length nc, .int .i64 TT, .slice ka c.ts.length kc, .int .i64 cn] 96) HCB.out)
  have HUQ := Lib.hid ((Upd.refl [] w1).alloc (.cells #[.slice va c.os.length vc, .slice na c.ls.length nc, .int .i64 TT, .slice ka c.ts.length kc, .int .i64 cn] 96))
  refine (HST.out _ HUP.out).mono ?_
  rintro e w2 ⟨hu2, b2, g2, rfl, -, -, hm2⟩
  have HU2 := Lib.hid hu2
  have HM2 := Lib.hid hm2
  clear hu2 hm2
  go_wp2_with (go_at_call 41; refine Go.RowKit.Hid.out ?_)
  refine Lib.hid ?_
  refine (all_any HM2.out).mono ?_
  rintro e w3 ⟨g3, rfl, -, hh3, hu3⟩
  rw [HSL.out]
  have HU3 := Lib.hid (HU2.out.trans hu3)
  have HH3 := Lib.hid hh3
  have HCB3 := Lib.hid (HU3.out.keepb HCB2.out (by simp))
  obtain ⟨k0, k1, k2, k3⟩ := cells4 HCB3.out
  have kl := heap_lt HCB3.out
  clear hh3 hu3
  go_wp2_with (go_at_call 39; refine Go.RowKit.Hid.out ?_)
  refine Lib.hid ?_
  refine (HME.out _ (HUP.out.trans HU3.out)).mono ?_
  rintro e w4 ⟨hu4, b4, g4, rfl, -, -, hm4⟩
  have HU4 := Lib.hid hu4
  have HM4 := Lib.hid hm4
  clear hu4 hm4
  go_wp2_with (go_at_call 41; refine Go.RowKit.Hid.out ?_)
  refine Lib.hid ?_
  refine (all_any HM4.out).mono ?_
  rintro e w5 ⟨g5, rfl, -, hh5, hu5⟩
  rw [HML.out]
  have HU5 := Lib.hid (HU4.out.trans hu5)
  have HH5 := Lib.hid hh5
  have HH3' := Lib.hid (HU5.out.keepb HH3.out (by simp))
  have HCB5 := Lib.hid (HU5.out.keepb HCB3.out (by simp))
  have HPB5 := Lib.hid ((HU3.out.trans HU5.out).keepb HPB.out (by simp))
  have HUW := Lib.hid (HUQ.out.trans (HU3.out.trans HU5.out))
  have HPL5 := Lib.hid (HPL.out.upd HUW.out (by simp))
  have HLN5 := Lib.hid (HLN.out.upd HUW.out (by simp))
  have HO5 := Lib.hid (HCF.out.o.upd (HU1.out.trans HUW.out) (by simp))
  have HW5 := Lib.hid (HU1.out.trans HUW.out)
  clear hh5 hu5 k0 k1 k2 k3 kl
  go_wp2
  go_loopg [7] cn (fun l s7 wr => ∃ i : Nat, l + i = cn ∧ s7 = .int .i64 i ∧ Upd [] w5 wr)
  case atStart => exact ⟨0, by omega, rfl, Upd.refl _ _⟩
  case round =>
    obtain ⟨i, hi, rfl, hu⟩ := hrel
    have HI := Lib.hid hi
    have HU := Lib.hid hu
    clear hi hu
    obtain ⟨k0, k1, k2, k3⟩ := cells4 (HU.out.keepb HCB5.out (by simp))
    obtain ⟨b0, b1, b2, b3, b4⟩ := cells5p (HU.out.keepb HPB5.out (by simp))
    by_cases hlt : i < cn
    · have HLT := Lib.hid hlt
      have i1 : (0 : Int) ≤ (i : Int) := by omega
      have i2 : (i : Int) < (cn : Int) := by omega
      have HW := Lib.hid (show wrap64 ((i : Int) + 1) = ((i + 1 : Nat) : Int) from wrap_next (by have := HB.out; omega) hlt)
      have hmi : i < (memP c).length := by rw [HML.out]; exact hlt
      have m1 : wr.cell? ⟨g5, i, none⟩ = some (.int .u32 (memP c)[i]) := u32_cell (HU.out.keepb HH5.out (by simp)) hmi
      have HWC := Lib.hid fun (w : World) (hu : Upd [] w5 w) => HWH.out w va na ka vc nc kc i (HPL5.out.upd hu (by simp)) (HLN5.out.upd hu (by simp)) (by omega)
      clear hlt
      go_wp2_with (go_at_call 42; refine Go.RowKit.Hid.out ?_)
      refine Lib.hid ?_
      refine (HWC.out _ HU.out).mono ?_
      rintro e w6 ⟨x, y, rfl, hu6, hcase⟩
      have HU6 := Lib.hid (HU.out.trans hu6)
      clear k0 k1 k2 k3 b0 b1 b2 b3 b4
      obtain ⟨k0, k1, k2, k3⟩ := cells4 (HU6.out.keepb HCB5.out (by simp))
      obtain ⟨b0, b1, b2, b3, b4⟩ := cells5p (HU6.out.keepb HPB5.out (by simp))
      have m2 : w6.cell? ⟨g5, i, none⟩ = some (.int .u32 (memP c)[i]) := u32_cell (HU6.out.keepb HH5.out (by simp)) hmi
      clear m1 hu6
      rcases hcase with ⟨hin, rfl, idx, hidx, rfl⟩ | ⟨hout, hne⟩
      · have hsi : i < (startP c.os).length := by rw [HSL.out]; omega
        have e3 : (memP c)[i] = (startP c.os)[i] := by
          have h1 : (memP c)[i]? = (startP c.os)[i]? := by rw [HMS.out, List.getElem?_append_left hsi]
          rw [List.getElem?_eq_getElem hmi, List.getElem?_eq_getElem hsi] at h1
          exact Option.some.inj h1
        have m3 : w6.cell? ⟨g3, i, none⟩ = some (.int .u32 (startP c.os)[i]) := u32_cell (HU6.out.keepb HH3'.out (by simp)) hsi
        rw [e3] at m2
        generalize (startP c.os)[i] = v at *
        have hpi : idx < (pls 0 c.os).length := by rw [HPN.out]; exact hidx
        obtain ⟨pb, po, hva, hpb, hpc⟩ := els_at HPL5.out hpi
        obtain ⟨ob, oo, hoa, hob, hoc⟩ := els_at HO5.out hidx
        have hkk := HKD.out idx hidx _ (List.getElem?_eq_getElem hpi)
        subst hva hoa
        have g0 := (HU6.out.cell (p := ⟨pb, po + idx * 5 + 0, none⟩) hpb (by simp)).trans (hpc 0 _ rfl)
        have o0 := (HU6.out.cell (p := ⟨ob, oo + idx * 10 + 0, none⟩) hob (by simp)).trans (hoc 0 _ rfl)
        rw [Nat.add_zero] at g0 o0
        rw [hkk] at g0
        generalize c.os[idx].k = kk at *
        have j1 : (0 : Int) ≤ (idx : Int) := by omega
        have j2 : (idx : Int) < (c.os.length : Int) := by omega
        have j3 : decide ((sn : Int) ≤ (i : Int)) = false := decide_eq_false (by omega)
        have j4 : decide ((idx : Int) < 0) = false := decide_eq_false (by omega)
        have j5 : decide ((c.os.length : Int) ≤ (idx : Int)) = false := decide_eq_false (by omega)
        have j7 : decide (sn ≤ i) = false := decide_eq_false (by omega)
        have j8 : decide (c.os.length ≤ idx) = false := decide_eq_false (by omega)
        have j9 : ¬ sn ≤ i := by omega
        have j10 : ¬ c.os.length ≤ idx := by omega
        have j6 : (i : Int) < (sn : Int) := hin
        clear hpc hoc hkk e3 hmi hsi hpi hidx hin
        go_wp2
        go_region
        go_wp2
        go_roundg (cn - (i + 1))
        case rel => exact ⟨i + 1, by have := HLT.out; omega, by first | (rw [HW.out]; done) | (simp; done), by repeat (first | (with_reducible exact HU6.out) | (with_reducible apply Upd.drew))⟩
        case measure => have := HLT.out; have := HI.out; omega
      · have e3 : (memP c)[i] = 0 := by
          have h1 : (memP c)[i]? = some 0 := by
            rw [HMS.out, List.getElem?_append_right (by rw [HSL.out]; omega), List.getElem?_replicate, HSL.out]
            rw [if_pos (by have := HLT.out; omega)]
          rw [List.getElem?_eq_getElem hmi] at h1
          exact Option.some.inj h1
        rw [e3] at m2
        have qx : (x == 1) = false := by simpa using hne
        clear e3 hmi hout hne
        go_wp2
        go_roundg (cn - (i + 1))
        case rel => exact ⟨i + 1, by have := HLT.out; omega, by first | (rw [HW.out]; done) | (simp; done), by repeat (first | (with_reducible exact HU6.out) | (with_reducible apply Upd.drew))⟩
        case measure => have := HLT.out; have := HI.out; omega
    · obtain rfl : i = cn := by have := HI.out; omega
      clear hlt
      go_wp2_with (go_at_call 37; refine Go.RowKit.Hid.out ?_)
      refine Lib.hid ?_
      refine (alive30 _).mono ?_
      rintro e w7 ⟨rfl, hu7⟩
      have HU7 := Lib.hid (HU.out.trans hu7)
      clear hu7
      go_wp2
      go_ret
      exact ⟨rfl, HW5.out.trans HU7.out⟩
theorem ps_any (tc lc oc : Nat) (h : CFR0 W ta la oa c) : Calls Try.prog 6 #[.agg (cfA ta c.ts.length tc la c.ls.length lc oa c.os.length oc c.tk)] W fun e w' => e = .returned (.bool true) ∧ Upd [] W w' := by
  by_cases hf : c.few
  · have hr := h.of (by have := hf.1; omega) (by have := hf.2.1; omega) (by have := hf.2.2; omega)
    by_cases hl : c.light
    · have HL : ∀ w', Upd [] W w' → Calls Try.prog 36 #[.agg (cfA ta c.ts.length tc la c.ls.length lc oa c.os.length oc c.tk)] w' fun e w'' => e = .returned (.bool true) ∧ Upd [] w' w'' := fun w' hu => (light_few tc lc oc (hr.upd hu) hf).mono (by
        rintro e w' ⟨b, rfl, hb, hu⟩
        exact ⟨by rw [hb.2 hl], hu⟩)
      by_cases hv : c.bad = (0, 0, 0)
      · exact ps_ok tc lc oc hr hv HL
      · exact ps_bad tc lc oc hr hv HL
    · refine ps_not tc lc oc _ _ _ _ (fun w' hu => (light_few tc lc oc (hr.upd hu) hf).mono ?_)
      rintro e w' ⟨b, rfl, hb, hu⟩
      refine ⟨?_, hu⟩
      cases b with
      | false => rfl
      | true => exact absurd (hb.1 rfl) hl
  · have h1 := h.tn
    have h2 := h.ln
    have h3 := h.on
    unfold maxLen at h1 h2 h3
    exact ps_not tc lc oc _ _ _ _ (fun w' hu => light_many tc lc oc _ _ _ _ (by omega) (by omega) (by omega) hf)
end
theorem planStarts_walk (W : World) (v0 : Value) (h0 : Sh.okV W (.st (.cons (.slice (.st (.cons (.int .i64) (.cons (.bool) (.cons (.slice (.st (.cons (.int .i64) (.cons (.int .i64) (.cons (.ar 4 (.int .u32)) (.cons (.int .u32) (.nil))))))) (.nil)))))) (.cons (.slice (.st (.cons (.int .i64) (.cons (.slice (.st (.cons (.int .i64) (.cons (.int .i64) (.cons (.ar 4 (.int .u32)) (.cons (.int .u32) (.nil))))))) (.nil))))) (.cons (.slice (.st (.cons (.int .i64) (.cons (.int .i64) (.cons (.int .i64) (.cons (.int .i64) (.cons (.int .i64) (.cons (.int .i64) (.cons (.ar 4 (.int .u32)) (.nil)))))))))) (.cons (.int .i64) (.nil)))))) v0) :
    Calls Try.prog 6 #[v0] W fun e w' => e = .returned (.bool true) ∧ Upd [] W w' := by
  obtain ⟨ta, la, oa, tc, lc, oc, c, rfl, hc, _⟩ := cfg_okV h0
  exact ps_any tc lc oc hc
end Go.Proofs.Ytdbgnnkbcebpcaa
