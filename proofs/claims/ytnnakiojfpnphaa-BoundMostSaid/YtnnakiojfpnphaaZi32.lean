/- The walk, part 32: BD10. -/
import Derived.Test.YtnnakiojfpnphaaZi31
set_option linter.unusedVariables false
set_option linter.unusedSimpArgs false

namespace Go.Proofs.Ytnnakiojfpnphaa
open Go.RowKit
section
variable (k cap wd rt f t i0 i1 i2 i3 kind : Int) (W : World)
set_option maxRecDepth 100000 in
set_option maxHeartbeats 4000000 in
theorem bm_wrong (hr : rightB k cap wd rt = false ∨ kind = 16) : Calls Try.prog 4 #[.agg #[.int .i64 k, .int .i64 cap, .int .i64 wd, .int .i64 rt, .int .i64 f, .int .i64 t, .int .u32 i0, .int .u32 i1, .int .u32 i2, .int .u32 i3], .int .i64 kind] W fun e w' => e = .returned (.bool true) ∧ Upd [] W w' := by
  have HR := Lib.hid fun w => sright_any cap wd rt f t i0 i1 i2 i3 w k
  unfold obA at HR
  have HA := Lib.hid alive17
  obtain ⟨B, hB⟩ : ∃ B, rightB k cap wd rt = B := ⟨_, rfl⟩
  rw [hB] at HR hr
  clear hB
  rcases B with _ | _
  · clear hr
    go_enter Try.func4, Try.ntmps4
    go_wp2_with (first
      | (go_at_call 19; (with_reducible refine (HR.out _).mono ?_); rintro e w1 ⟨rfl, hu1⟩; obtain ⟨p1, rfl⟩ := hu1.grown; clear hu1)
      | (go_at_call 20; (with_reducible refine (HA.out _).mono ?_); rintro e w2 ⟨rfl, hu2⟩; obtain ⟨p2, rfl⟩ := hu2.grown; clear hu2))
    go_ret
    exact ⟨rfl, by repeat (first | (with_reducible exact Upd.refl _ _) | (with_reducible apply Upd.drew) | (with_reducible refine Upd.grE ?_ _) | (with_reducible refine Upd.alloc ?_ _))⟩
  · obtain rfl : kind = 16 := by simpa using hr
    clear hr
    go_enter Try.func4, Try.ntmps4
    go_wp2_with (first
      | (go_at_call 19; (with_reducible refine (HR.out _).mono ?_); rintro e w1 ⟨rfl, hu1⟩; obtain ⟨p1, rfl⟩ := hu1.grown; clear hu1)
      | (go_at_call 20; (with_reducible refine (HA.out _).mono ?_); rintro e w2 ⟨rfl, hu2⟩; obtain ⟨p2, rfl⟩ := hu2.grown; clear hu2))
    go_ret
    exact ⟨rfl, by repeat (first | (with_reducible exact Upd.refl _ _) | (with_reducible apply Upd.drew) | (with_reducible refine Upd.grE ?_ _) | (with_reducible refine Upd.alloc ?_ _))⟩
set_option maxRecDepth 100000 in
set_option maxHeartbeats 8000000 in
theorem bm_right (hr : rightB k cap wd rt = true) (h16 : kind ≠ 16) : Calls Try.prog 4 #[.agg #[.int .i64 k, .int .i64 cap, .int .i64 wd, .int .i64 rt, .int .i64 f, .int .i64 t, .int .u32 i0, .int .u32 i1, .int .u32 i2, .int .u32 i3], .int .i64 kind] W fun e w' => e = .returned (.bool true) ∧ Upd [] W w' := by
  have HR := Lib.hid fun w => sright_any cap wd rt f t i0 i1 i2 i3 w k
  rw [hr] at HR
  unfold obA at HR
  have HRB := Lib.hid hr
  have HA := Lib.hid alive17
  have HB := Lib.hid fun w => bacts_any kind hr w
  have HM := Lib.hid (acts_le kind hr)
  obtain ⟨A, hA⟩ : ∃ A, actsP kind k wd rt = A := ⟨_, rfl⟩
  rw [hA] at HB HM
  have HAE := Lib.hid hA
  have q16 : (kind == 16) = false := by simpa using h16
  clear hr hA h16
  go_enter Try.func4, Try.ntmps4
  go_wp2_with (first
    | (go_at_call 19; (with_reducible refine (HR.out _).mono ?_); rintro e w1 ⟨rfl, hu1⟩; obtain ⟨p1, rfl⟩ := hu1.grown; clear hu1)
    | (go_at_call 21; refine Go.RowKit.Hid.out ?_))
  refine Lib.hid ?_
  refine (sof_o (l := [⟨k, cap, wd, rt, f, t, i0, i1, i2, i3⟩]) 1 ?els (by simp)).mono ?_
  case els =>
    intro _
    refine ⟨_, 0, rfl, by simp, fun i hi j v hj => ?_⟩
    obtain rfl : i = 0 := by simp at hi; omega
    rw [cell_of_heap (heap_alloc_at _ (by simp))]
    simpa [OBJ.cells, obA] using hj
  rintro e w3 ⟨hu3, va, vc, rfl, hel, hown⟩
  have hpl : (pls 0 [⟨k, cap, wd, rt, f, t, i0, i1, i2, i3⟩]).map PL.cells = [[.int .i64 k, .int .i64 0, .int .i64 cap, .int .i64 wd, .int .i64 rt]] := by simp [pls, plOf, HRB.out, PL.cells]
  rw [hpl] at hel
  obtain ⟨pb, po, rfl, lpb, hcl⟩ := hel (by simp)
  have c0 := hcl 0 (by simp) 0 _ rfl
  have c1 := hcl 0 (by simp) 1 _ rfl
  have c2 := hcl 0 (by simp) 2 _ rfl
  have c3 := hcl 0 (by simp) 3 _ rfl
  have c4 := hcl 0 (by simp) 4 _ rfl
  simp only [Nat.zero_mul, Nat.add_zero] at c0 c1 c2 c3 c4
  have hC3 := hu3.keepb (heap_alloc' (heap_grE (heap_alloc_new W _))) (by simp)
  have HU3 := Lib.hid ((show Upd [] W _ by repeat (first | (with_reducible exact Upd.refl _ _) | (with_reducible apply Upd.drew) | (with_reducible refine Upd.grE ?_ _) | (with_reducible refine Upd.alloc ?_ _))).trans hu3)
  have HC3 := Lib.hid hC3
  have HP0 := Lib.hid c0
  have HP1 := Lib.hid c1
  have HP2 := Lib.hid c2
  have HP3 := Lib.hid c3
  have HP4 := Lib.hid c4
  have HLP := Lib.hid lpb
  clear hu3 hel hown hcl hpl hC3
  go_wp2_with (first
    | (go_at_call 22; (with_reducible refine (HB.out _).mono ?_); rintro e w4 ⟨rfl, hu4⟩; obtain ⟨p4, rfl⟩ := hu4.grown; clear hu4)
    | (go_at_call 23; refine Go.RowKit.Hid.out ?_))
  refine Lib.hid ?_
  have P0 := cell_grE (p := p4) HP0.out
  have P1 := cell_grE (p := p4) HP1.out
  have P2 := cell_grE (p := p4) HP2.out
  have P3 := cell_grE (p := p4) HP3.out
  have P4 := cell_grE (p := p4) HP4.out
  have L4 : pb < (gr w3 p4).heap.size := Nat.lt_of_lt_of_le HLP.out (upd_gr w3 p4).size
  refine (routine_any kind 0 0 0 0 0 HRB.out pb po vc _ L4 P0 P1 P2 P3 P4).mono ?_
  rintro e w5 ⟨hu5, T, v, rfl, hbr⟩
  rw [HAE.out] at hbr
  have hC5 := hu5.keepb (heap_grE (p := p4) HC3.out) (by simp)
  have HC5 := Lib.hid hC5
  have HU5 := Lib.hid ((HU3.out.grE p4).trans hu5)
  have HBR := Lib.hid (hbr.mono (base' := W.heap.size + 1) (Nat.succ_le_of_lt (heap_lt (heap_grE (p := p4) HC3.out))))
  clear P0 P1 P2 P3 P4 hu5 L4 hbr hC5 c0 c1 c2 c3 c4 lpb
  obtain ⟨σ, S, At, act, take, res, fA, fT, fR, s0, R, hat, hS, -, ⟨inv, hi0, hstep, hend⟩⟩ := HBR.out
  have qA := R.mA
  have qT := R.mT
  have qR := R.mR
  have cA := R.cA
  have cT := R.cT
  have cR := R.cR
  have HRO := Lib.hid R
  have HAT0 := Lib.hid hat
  have HSS := Lib.hid hS
  have HI0 := Lib.hid hi0
  have HSTEP := Lib.hid hstep
  have HEND := Lib.hid hend
  clear R hat hS hi0 hstep hend HBR
  by_cases hA0 : A = 0
  · have hno : act s0 = none := by
      rcases hac : act s0 with _ | x
      · rfl
      · have := (HSTEP.out s0 0 HI0.out (by rw [hac]; rfl)).1
        rw [hA0] at this
        exact absurd this (by decide)
    have HNO := Lib.hid hno
    subst hA0
    clear hno
    go_wp2_with (first
      | (refine (HRO.out.noAct s0 _ HAT0.out HNO.out).mono ?_; rintro e w7 ⟨rfl, hu7⟩; obtain ⟨p7, rfl⟩ := hu7.grown; clear hu7)
      | (go_at_call 20; (with_reducible refine (HA.out _).mono ?_); rintro e w9 ⟨rfl, hu9⟩; obtain ⟨p9, rfl⟩ := hu9.grown; clear hu9))
    go_ret
    refine ⟨rfl, HU5.out.trans ?_⟩
    repeat (first | (with_reducible exact Upd.refl _ _) | (with_reducible apply Upd.drew) | (with_reducible refine Upd.grE ?_ _) | (with_reducible refine Upd.alloc ?_ _))
  · have qA0 : (A == 0) = false := by simpa using hA0
    clear hA0
    go_wp2
    go_loopg [11] 100 (fun n i wr => ∃ j : Nat, n + j = 100 ∧ i = .int .i64 j ∧ (j : Int) ≤ A ∧ ∃ s, At s wr ∧ inv s j ∧ Upd [] W wr ∧ wr.heap[W.heap.size]? = some (.cells #[.int .i64 k, .int .i64 cap, .int .i64 wd, .int .i64 rt, .int .i64 f, .int .i64 t, .int .u32 i0, .int .u32 i1, .int .u32 i2, .int .u32 i3] 56 (0, 0)))
    case atStart => exact ⟨0, rfl, rfl, HM.out.1, s0, HAT0.out, HI0.out, HU5.out, HC5.out⟩
    case round =>
      obtain ⟨j, hj, rfl, hjA, s, hat, hiv, hu, hbx⟩ := hrel
      have q1 : decide ((j : Int) < 100) = true := by have := HM.out; simp; omega
      have HJ := Lib.hid hj
      have HJA := Lib.hid hjA
      have HAT := Lib.hid hat
      have HIV := Lib.hid hiv
      have HU := Lib.hid hu
      have HBX := Lib.hid hbx
      have lx := heap_lt hbx
      have y2 : wr.cell? ⟨W.heap.size, 2, none⟩ = some (.int .i64 wd) := by rw [cell_of_heap hbx]; rfl
      clear hj hjA hat hiv hu hbx
      rcases hac : act s with _ | ⟨o, a, x⟩
      · have HAC := Lib.hid hac
        have he := HEND.out s j HIV.out hac
        have q2 : ((j : Int) == A) = true := by simpa using he
        clear hac he
        go_wp2_with (first
          | (refine (HRO.out.noAct s _ HAT.out HAC.out).mono ?_; rintro e w7 ⟨rfl, hu7⟩; obtain ⟨p7, rfl⟩ := hu7.grown; clear hu7)
          | (go_at_call 20; (with_reducible refine (HA.out _).mono ?_); rintro e w9 ⟨rfl, hu9⟩; obtain ⟨p9, rfl⟩ := hu9.grown; clear hu9))
        go_ret
        refine ⟨rfl, HU.out.trans ?_⟩
        repeat (first | (with_reducible exact Upd.refl _ _) | (with_reducible apply Upd.drew) | (with_reducible refine Upd.grE ?_ _) | (with_reducible refine Upd.alloc ?_ _))
      · have HAC := Lib.hid hac
        have hst := HSTEP.out s j HIV.out (by rw [hac]; rfl)
        have HST := Lib.hid hst
        clear hac hst
        have y2' : ∀ w1 : World, Upd [] wr w1 → w1.cell? ⟨W.heap.size, 2, none⟩ = some (.int .i64 wd) := fun w1 h => (h.cell (p := ⟨W.heap.size, 2, none⟩) lx (by simp)).trans y2
        by_cases h2 : kind = 2
        · subst h2
          by_cases hj1 : j = 1
          · subst hj1
            have hfeed : feed 2 wd 1 = 1 := by unfold feed; rw [if_pos ⟨rfl, rfl⟩]
            have HFE := Lib.hid hfeed
            clear hfeed
            (
                go_wp2_with (refine (HRO.out.more s _ o a x HAT.out HAC.out).mono ?_; rintro e w7 ⟨rfl, hu7⟩; obtain ⟨p7, rfl⟩ := hu7.grown; clear hu7)
                go_region
                go_wp2_with (refine (HRO.out.took s _ o a x (1 : Int) (HRO.out.keep _ _ _ [] HAT.out (show Upd [] _ _ by repeat (first | (with_reducible exact Upd.refl _ _) | (with_reducible apply Upd.drew) | (with_reducible refine Upd.grE ?_ _) | (with_reducible refine Upd.alloc ?_ _))) (by simp)) HAC.out).mono ?_; rintro e w8 ⟨rfl, hat8, hu8⟩; have HAT8 := Lib.hid hat8; have HU8 := Lib.hid hu8; clear hat8 hu8)
                have hj1 : 1 + 1 ≤ 100 := by have := HM.out; have := HJA.out; omega
                have hw : wrap64 ((1 : Int) + 1) = ((1 + 1 : Nat) : Int) := by unfold wrap64; omega
                go_roundg (gk - 1)
                case rel =>
                  have hst := HST.out
                  rw [HFE.out] at hst
                  have hux : Upd S wr w8 := by
                    refine Upd.trans ?_ HU8.out
                    repeat (first | (with_reducible exact Upd.refl _ _) | (with_reducible apply Upd.drew) | (with_reducible refine Upd.grE ?_ _) | (with_reducible refine Upd.alloc ?_ _))
                  refine ⟨1 + 1, by have := HJ.out; have := HM.out; have := HJA.out; omega, by first | rw [hw] | rfl, by have := hst.1; push_cast at *; omega, _, HAT8.out, hst.2, HU.out.then hux (fun i hi => .inr (by have := HSS.out i hi; omega)), hux.keepb HBX.out (fun h => by have := HSS.out _ h; omega)⟩
                case measure => have := HJ.out; have := HM.out; have := HJA.out; omega)
          · have q2 : ((j : Int) == 1) = false := by simp; omega
            have hfeed : feed 2 wd j = 0 := by unfold feed; rw [if_neg (by omega), if_neg (by omega)]
            have HFE := Lib.hid hfeed
            clear hfeed hj1
            (
                go_wp2_with (refine (HRO.out.more s _ o a x HAT.out HAC.out).mono ?_; rintro e w7 ⟨rfl, hu7⟩; obtain ⟨p7, rfl⟩ := hu7.grown; clear hu7)
                go_region
                go_wp2_with (refine (HRO.out.took s _ o a x (0 : Int) (HRO.out.keep _ _ _ [] HAT.out (show Upd [] _ _ by repeat (first | (with_reducible exact Upd.refl _ _) | (with_reducible apply Upd.drew) | (with_reducible refine Upd.grE ?_ _) | (with_reducible refine Upd.alloc ?_ _))) (by simp)) HAC.out).mono ?_; rintro e w8 ⟨rfl, hat8, hu8⟩; have HAT8 := Lib.hid hat8; have HU8 := Lib.hid hu8; clear hat8 hu8)
                have hj1 : j + 1 ≤ 100 := by have := HM.out; have := HJA.out; omega
                have hw : wrap64 ((j : Int) + 1) = ((j + 1 : Nat) : Int) := by unfold wrap64; omega
                go_roundg (gk - 1)
                case rel =>
                  have hst := HST.out
                  rw [HFE.out] at hst
                  have hux : Upd S wr w8 := by
                    refine Upd.trans ?_ HU8.out
                    repeat (first | (with_reducible exact Upd.refl _ _) | (with_reducible apply Upd.drew) | (with_reducible refine Upd.grE ?_ _) | (with_reducible refine Upd.alloc ?_ _))
                  refine ⟨j + 1, by have := HJ.out; have := HM.out; have := HJA.out; omega, by first | rw [hw] | rfl, by have := hst.1; push_cast at *; omega, _, HAT8.out, hst.2, HU.out.then hux (fun i hi => .inr (by have := HSS.out i hi; omega)), hux.keepb HBX.out (fun h => by have := HSS.out _ h; omega)⟩
                case measure => have := HJ.out; have := HM.out; have := HJA.out; omega)
        · have q2 : (kind == 2) = false := by simpa using h2
          by_cases h6 : kind = 6
          · subst h6
            have hwd : 0 ≤ wd ∧ wd ≤ 4 := by
              rcases right_kind HRB.out with ⟨_, a1, a2, _, _, _⟩ | ⟨_, a1, a2, _, _⟩ | ⟨_, a1, a2, _, _, _⟩ | ⟨_, a1, _, _⟩ <;> omega
            have w1 : wrap64 (wd + 2) = wd + 2 := by unfold wrap64; omega
            have w2 : wrap64 (wd + 1) = wd + 1 := by unfold wrap64; omega
            have w3 : ¬ (wd + 2 = 0) := by omega
            have w4 : ¬ (wrap64 (wd + 2) = 0) := by rw [w1]; omega
            have w5 : (0 : Int) ≤ (j : Int) := by omega
            have w6 : ¬ (wd + 2 = -1) := by omega
            clear h2 hwd
            by_cases hm : (j : Int) % (wd + 2) = wd + 1
            · have m1 : ((j : Int) % (wd + 2) == wd + 1) = true := by simpa using hm
              have m2 : ((j : Int).tmod (wd + 2) == wd + 1) = true := by rw [Int.tmod_eq_emod_of_nonneg w5]; exact m1
              have m3 : ((j : Int) % wrap64 (wd + 2) == wrap64 (wd + 1)) = true := by rw [w1, w2]; exact m1
              have m4 : ((j : Int).tmod (wrap64 (wd + 2)) == wrap64 (wd + 1)) = true := by rw [w1, w2]; exact m2
              have hfeed : feed 6 wd j = 2 := by unfold feed; rw [if_neg (by omega), if_pos ⟨rfl, hm⟩]
              have HFE := Lib.hid hfeed
              clear hfeed hm
              (
                  go_wp2_with (refine (HRO.out.more s _ o a x HAT.out HAC.out).mono ?_; rintro e w7 ⟨rfl, hu7⟩; obtain ⟨p7, rfl⟩ := hu7.grown; clear hu7)
                  go_region
                  go_wp2_with (refine (HRO.out.took s _ o a x (2 : Int) (HRO.out.keep _ _ _ [] HAT.out (show Upd [] _ _ by repeat (first | (with_reducible exact Upd.refl _ _) | (with_reducible apply Upd.drew) | (with_reducible refine Upd.grE ?_ _) | (with_reducible refine Upd.alloc ?_ _))) (by simp)) HAC.out).mono ?_; rintro e w8 ⟨rfl, hat8, hu8⟩; have HAT8 := Lib.hid hat8; have HU8 := Lib.hid hu8; clear hat8 hu8)
                  have hj1 : j + 1 ≤ 100 := by have := HM.out; have := HJA.out; omega
                  have hw : wrap64 ((j : Int) + 1) = ((j + 1 : Nat) : Int) := by unfold wrap64; omega
                  go_roundg (gk - 1)
                  case rel =>
                    have hst := HST.out
                    rw [HFE.out] at hst
                    have hux : Upd S wr w8 := by
                      refine Upd.trans ?_ HU8.out
                      repeat (first | (with_reducible exact Upd.refl _ _) | (with_reducible apply Upd.drew) | (with_reducible refine Upd.grE ?_ _) | (with_reducible refine Upd.alloc ?_ _))
                    refine ⟨j + 1, by have := HJ.out; have := HM.out; have := HJA.out; omega, by first | rw [hw] | rfl, by have := hst.1; push_cast at *; omega, _, HAT8.out, hst.2, HU.out.then hux (fun i hi => .inr (by have := HSS.out i hi; omega)), hux.keepb HBX.out (fun h => by have := HSS.out _ h; omega)⟩
                  case measure => have := HJ.out; have := HM.out; have := HJA.out; omega)
            · have m1 : ((j : Int) % (wd + 2) == wd + 1) = false := by simpa using hm
              have m2 : ((j : Int).tmod (wd + 2) == wd + 1) = false := by rw [Int.tmod_eq_emod_of_nonneg w5]; exact m1
              have m3 : ((j : Int) % wrap64 (wd + 2) == wrap64 (wd + 1)) = false := by rw [w1, w2]; exact m1
              have m4 : ((j : Int).tmod (wrap64 (wd + 2)) == wrap64 (wd + 1)) = false := by rw [w1, w2]; exact m2
              have hfeed : feed 6 wd j = 0 := by unfold feed; rw [if_neg (by omega), if_neg (fun h => hm h.2)]
              have HFE := Lib.hid hfeed
              clear hfeed hm
              (
                  go_wp2_with (refine (HRO.out.more s _ o a x HAT.out HAC.out).mono ?_; rintro e w7 ⟨rfl, hu7⟩; obtain ⟨p7, rfl⟩ := hu7.grown; clear hu7)
                  go_region
                  go_wp2_with (refine (HRO.out.took s _ o a x (0 : Int) (HRO.out.keep _ _ _ [] HAT.out (show Upd [] _ _ by repeat (first | (with_reducible exact Upd.refl _ _) | (with_reducible apply Upd.drew) | (with_reducible refine Upd.grE ?_ _) | (with_reducible refine Upd.alloc ?_ _))) (by simp)) HAC.out).mono ?_; rintro e w8 ⟨rfl, hat8, hu8⟩; have HAT8 := Lib.hid hat8; have HU8 := Lib.hid hu8; clear hat8 hu8)
                  have hj1 : j + 1 ≤ 100 := by have := HM.out; have := HJA.out; omega
                  have hw : wrap64 ((j : Int) + 1) = ((j + 1 : Nat) : Int) := by unfold wrap64; omega
                  go_roundg (gk - 1)
                  case rel =>
                    have hst := HST.out
                    rw [HFE.out] at hst
                    have hux : Upd S wr w8 := by
                      refine Upd.trans ?_ HU8.out
                      repeat (first | (with_reducible exact Upd.refl _ _) | (with_reducible apply Upd.drew) | (with_reducible refine Upd.grE ?_ _) | (with_reducible refine Upd.alloc ?_ _))
                    refine ⟨j + 1, by have := HJ.out; have := HM.out; have := HJA.out; omega, by first | rw [hw] | rfl, by have := hst.1; push_cast at *; omega, _, HAT8.out, hst.2, HU.out.then hux (fun i hi => .inr (by have := HSS.out i hi; omega)), hux.keepb HBX.out (fun h => by have := HSS.out _ h; omega)⟩
                  case measure => have := HJ.out; have := HM.out; have := HJA.out; omega)
          · have q6 : (kind == 6) = false := by simpa using h6
            have hfeed : feed kind wd j = 0 := by unfold feed; rw [if_neg (by omega), if_neg (by omega)]
            have HFE := Lib.hid hfeed
            clear hfeed h2 h6
            (
                go_wp2_with (refine (HRO.out.more s _ o a x HAT.out HAC.out).mono ?_; rintro e w7 ⟨rfl, hu7⟩; obtain ⟨p7, rfl⟩ := hu7.grown; clear hu7)
                go_region
                go_wp2_with (refine (HRO.out.took s _ o a x (0 : Int) (HRO.out.keep _ _ _ [] HAT.out (show Upd [] _ _ by repeat (first | (with_reducible exact Upd.refl _ _) | (with_reducible apply Upd.drew) | (with_reducible refine Upd.grE ?_ _) | (with_reducible refine Upd.alloc ?_ _))) (by simp)) HAC.out).mono ?_; rintro e w8 ⟨rfl, hat8, hu8⟩; have HAT8 := Lib.hid hat8; have HU8 := Lib.hid hu8; clear hat8 hu8)
                have hj1 : j + 1 ≤ 100 := by have := HM.out; have := HJA.out; omega
                have hw : wrap64 ((j : Int) + 1) = ((j + 1 : Nat) : Int) := by unfold wrap64; omega
                go_roundg (gk - 1)
                case rel =>
                  have hst := HST.out
                  rw [HFE.out] at hst
                  have hux : Upd S wr w8 := by
                    refine Upd.trans ?_ HU8.out
                    repeat (first | (with_reducible exact Upd.refl _ _) | (with_reducible apply Upd.drew) | (with_reducible refine Upd.grE ?_ _) | (with_reducible refine Upd.alloc ?_ _))
                  refine ⟨j + 1, by have := HJ.out; have := HM.out; have := HJA.out; omega, by first | rw [hw] | rfl, by have := hst.1; push_cast at *; omega, _, HAT8.out, hst.2, HU.out.then hux (fun i hi => .inr (by have := HSS.out i hi; omega)), hux.keepb HBX.out (fun h => by have := HSS.out _ h; omega)⟩
                case measure => have := HJ.out; have := HM.out; have := HJA.out; omega)
end
theorem boundMost_walk (W : World) (v0 v1 : Value) (h0 : Sh.okV W (.st (.cons (.int .i64) (.cons (.int .i64) (.cons (.int .i64) (.cons (.int .i64) (.cons (.int .i64) (.cons (.int .i64) (.cons (.ar 4 (.int .u32)) (.nil))))))))) v0) (h1 : Sh.okV W (.int .i64) v1) :
    Calls Try.prog 4 #[v0, v1] W fun e w' => e = .returned (.bool true) ∧ Upd [] W w' := by
  obtain ⟨k, cap, wd, rt, f, t, i0, i1, i2, i3, rfl⟩ := obj_okV h0
  obtain ⟨kind, hv, -⟩ := h1
  obtain rfl : v1 = .int .i64 kind := by simpa using hv
  by_cases h16 : kind = 16
  · exact bm_wrong k cap wd rt f t i0 i1 i2 i3 kind W (.inr h16)
  · cases hb : rightB k cap wd rt with
    | true => exact bm_right k cap wd rt f t i0 i1 i2 i3 kind W hb h16
    | false => exact bm_wrong k cap wd rt f t i0 i1 i2 i3 kind W (.inl hb)
end Go.Proofs.Ytnnakiojfpnphaa
