/- The law CellKeeps: the way through the loop. -/
import Derived.Test.YtfdidgobgeohcaaCell4
set_option linter.unusedVariables false
set_option linter.unusedSimpArgs false
namespace Go.Proofs.Ytfdidgobgeohcaa
open Go.RowKit

set_option maxRecDepth 100000 in
set_option maxHeartbeats 2000000 in
theorem keeps_in (a : Option Addr) (cap : Nat) (xs : List Int) (i : Nat) (v op ai v2 : Int) (w : World) (hn : xs.length ≤ 60) (hi : i < xs.length) (hne : ai ≠ i) (hr : Reads w a xs.length (u32s xs)) :
    Calls Try.prog 3 #[.slice a xs.length cap, .int .i64 i, .int .u32 v, .agg #[.int .i64 op, .int .i64 ai, .int .u32 v2]] w fun e w' => e = .returned (.bool true) ∧ Upd [] w w' := by
  obtain ⟨lo, st, ys, hst, l0, l1, s0, s1, hyl, hyi, hyo⟩ := step_keeps op ai v2 v xs i hi hne
  have hu : Upd [] w (w.alloc (.cells #[.int .i64 op, .int .i64 ai, .int .u32 v2] 25)) := (Upd.refl _ _).alloc _
  have hne' : (ai == (i : Int)) = false := by simpa using hne
  have hx0 := heap_alloc_new w (.cells #[.int .i64 op, .int .i64 ai, .int .u32 v2] 25)
  have HX0 := Lib.hid hx0
  clear hx0
  have HR := Lib.hid hr
  have HY := Lib.hid hyo
  have HYI := Lib.hid hyi
  have HST := Lib.hid hst
  have HYL := Lib.hid hyl
  obtain ⟨ab, aoff, rfl, hab, hacell⟩ := hr.2 (by omega)
  have HAC := Lib.hid hacell
  clear hr hyo hyi hst hyl hne hacell
  go_enter Try.func3, Try.ntmps3
  go_wp2_with (first
    | (go_at_call 15; refine (of_any _ _ xs _ (by omega) (HR.out.upd hu (by simp))).mono ?_; rintro e w1 ⟨b, g, rfl, hb, hg, hm0, hu0⟩; have HM0 := Lib.hid hm0; clear hm0)
    | (go_at_call 16; refine (store_any i v HM0.out hi (by omega) (by omega)).mono ?_; rintro e w2 ⟨rfl, hm1, hu1⟩; have HM1 := Lib.hid hm1; clear hm1; have HX2 := Lib.hid (hu1.keepb (hu0.keepb HX0.out (by simp)) (by simp at hb hg; simp; omega)); obtain ⟨d20, d21, d22⟩ := cells3 HX2.out)
    | (go_at_call 17; refine (do_any op ai v2 (m := ⟨0, 1, xs.set i v⟩) HM1.out (by simp) (by simp) (by simp) (by simp)).mono ?_; rintro e w3 ⟨rfl, hm2, hu2⟩; rw [HST.out] at hm2; have HM2 := Lib.hid hm2; clear hm2)
    | (go_at_call 18; refine (all_any HM2.out).mono ?_; rintro e w4 ⟨g2, rfl, hg2, hh2, hu3⟩; have HM3 := Lib.hid hh2; clear hh2; have HX4 := Lib.hid (hu3.keepb (hu2.keepb HX2.out (by simp at hb hg; simp; omega)) (by simp)); obtain ⟨d40, d41, d42⟩ := cells3 HX4.out))
  have hw4 : Upd [] w w4 := ((((hu.trans hu0).then hu1 (by simp at hb hg; simp; omega)).then hu2 (by simp at hb hg; simp; omega)).trans hu3)
  have HYL' := HYL.out
  go_loopw [11] (fun j wr => ∃ k : Nat, k ≤ ys.length ∧ j = .int .i64 k ∧ Upd [] w4 wr) (fun j _ => ys.length - (intOf j).toNat)
  case atStart => exact ⟨0, by omega, rfl, Upd.refl _ _⟩
  case round =>
    obtain ⟨k, hk, rfl, hur⟩ := hrel
    rename_i wr
    have hx := hur.keepb HX4.out (by simp)
    obtain ⟨e0, e1, e2⟩ := cells3 hx
    clear hx e0 e2 d20 d21 d22 d40 d41 d42
    by_cases hlt : k < ys.length
    · have hkx : k < xs.length := by omega
      by_cases hki : k = i
      · subst hki
        have t1 : decide ((k : Int) ≠ (k : Int)) = false := by simp
        go_wp2
        go_quiet (fail)
        go_wp2
        go_roundw
        case rel => exact ⟨k + 1, by omega, by go_num, hur.drewN _⟩
        case measure => simp [intOf]; omega
      · have n1 : (k == i) = false := by simpa using hki
        have n2 : (k != i) = true := by simpa using hki
        have n3 : ((k : Int) == (i : Int)) = false := by simp; omega
        have n4 : ((k : Int) != (i : Int)) = true := by simp; omega
        by_cases hka : (k : Int) = ai
        · subst hka
          go_wp2
          go_quiet (fail)
          go_wp2
          go_roundw
          case rel => exact ⟨k + 1, by omega, by go_num, hur.drewN _⟩
          case measure => simp [intOf]; omega
        · have m1 : ((k : Int) == ai) = false := by simpa using hka
          have m2 : ((k : Int) != ai) = true := by simpa using hka
          have hy := HY.out k hki hka
          rw [List.getElem?_eq_getElem hlt, List.getElem?_eq_getElem hkx] at hy
          have hyx : ys[k] = xs[k] := by simpa using hy
          have r1 : wr.cell? ⟨g2, k, none⟩ = some (.int .u32 xs[k]) := by
            rw [cell_of_heap (hur.keepb HM3.out (by simp))]; simp [u32s, List.getElem?_eq_getElem hlt, hyx]
          have r2 : wr.cell? ⟨ab, aoff + k, none⟩ = some (.int .u32 xs[k]) := by
            rw [(hw4.trans hur).cell (p := ⟨ab, aoff + k, none⟩) hab (by simp)]
            exact HAC.out k _ (by simp [u32s, List.getElem?_eq_getElem hkx])
          clear hy hyx hka
          go_wp2
          go_quiet (fail)
          go_wp2
          go_roundw
          case rel => exact ⟨k + 1, by omega, by go_num, hur.drewN _⟩
          case measure => simp [intOf]; omega
    · have hyi := HYI.out
      have hil : i < ys.length := by omega
      rw [List.getElem?_eq_getElem hil] at hyi
      have hyi' : ys[i] = v := by simpa using hyi
      clear hyi
      have hmr := (HM2.out.upd hu3 (by simp)).upd hur (by simp)
      have hgl := heap_lt HM3.out
      have hg2r := hur.keepb HM3.out (by simp)
      have cg2 : wr.cell? ⟨g2, i, none⟩ = some (.int .u32 v) := by rw [cell_of_heap hg2r]; simp [u32s, List.getElem?_eq_getElem hil, hyi']
      have fg2 : wr.frozen? ⟨g2, i, none⟩ = false := frozen_of_heap hg2r i
      have HMR := Lib.hid hmr
      have HG2R := Lib.hid hg2r
      have HYI2 := Lib.hid hyi'
      clear hmr hg2r hyi'
      have hbl := heap_lt HM2.out.hb
      have hgl2 := heap_lt HM2.out.hg
      have tok1 : True := trivial
      go_wp2_with (first
        | (go_at_call 19; have _t := tok1; refine (load_any i HMR.out hil (by omega) (by omega)).mono ?_; rintro e w5 ⟨rfl, hm5, hu5⟩; clear tok1 _t; have HM5 := Lib.hid hm5; clear hm5; rw [HYI2.out]; have HG5 := Lib.hid (hu5.keepb HG2R.out (by simp; omega)); have cg5 := (u32_cell HG5.out hil); rw [HYI2.out] at cg5; have fg5 := frozen_of_heap HG5.out i)
        | (go_at_call 19; refine (load_any i (HM5.out.upd ((Upd.refl [g2] _).setCell (by simp) _) (by simp; omega)) hil (by omega) (by omega)).mono ?_; rintro e w6 ⟨rfl, hm6, hu6⟩; rw [HYI2.out])
        | (go_at_call 14; refine (alive06 _).mono ?_; rintro e w7 ⟨rfl, hu7⟩))
      go_ret
      have hwr := hw4.trans hur
      have s1 := hu0.size
      have s2 := hu1.size
      have s3 := hu2.size
      simp at s1 hb hg
      refine ⟨rfl, (((hwr.then hu5 ?_).then ((Upd.refl [g2] w5).setCell (p := ⟨g2, i, none⟩) (by simp) _) ?_).then hu6 ?_).trans hu7⟩ <;> simp <;> omega
end Go.Proofs.Ytfdidgobgeohcaa
