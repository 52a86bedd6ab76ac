/- The law DeltaPlays, walked. -/
import Derived.Test.YtgmdhjlbedgafaaDP2
import Derived.Deep.RegionHeld3
import Derived.Deep.CutRange
import Derived.Deep.CutBlock
set_option linter.unusedVariables false
set_option linter.unusedSimpArgs false
namespace Go.Proofs.Ytgmdhjlbedgafaa
open Go.RowKit

set_option maxRecDepth 100000 in
set_option maxHeartbeats 1000000 in
theorem dp_out (a : Option Addr) (len cap : Nat) (task : Int) (w : World) (hl : len ≤ 9223372036854775807) (h : 100 < len) :
    Calls Try.prog 3 #[.slice a len cap, .int .i64 task] w fun e w' => e = .returned (.bool true) ∧ Upd [] w w' := by
  go_enter Try.func3, Try.ntmps3
  go_wp2_with (go_at_call 5; refine (alive24 _).mono ?_; rintro e w1 ⟨rfl, hu1⟩)
  go_ret
  exact ⟨rfl, hu1⟩

theorem ps_new (w : World) : PS w [] [] (.slice none 0 0) ((w.alloc (.cells #[.pointer none, .int .i64 0] 27)).alloc (.cells #[.slice none 0 0] 30)) :=
  ⟨(DI.new w).keep ((Upd.refl [] _).alloc _) (by simp), DR.nil, own_nil2, heap_alloc_at _ (by simp)⟩

set_option maxRecDepth 100000 in
set_option maxHeartbeats 4000000 in
theorem dp_in (a : Option Addr) (cap : Nat) (ss : List (Int × Int × Int)) (task : Int) (w : World) (hl : ss.length ≤ 100) (hr : ReadsSt w a ss) (hx : ∀ s ∈ ss, 0 ≤ s.2.2 ∧ s.2.2 ≤ 4294967295) :
    Calls Try.prog 3 #[.slice a ss.length cap, .int .i64 task] w fun e w' => e = .returned (.bool true) ∧ Upd [] w w' := by
  have HR := Lib.hid hr
  have HX := Lib.hid hx
  have HL := Lib.hid hl
  have H0 := Lib.hid (ps_new w)
  clear hr hx
  go_enter Try.func3, Try.ntmps3
  go_wp2
  clear hl
  go_loopg [7] ss.length (fun n i wr => ∃ (j : Nat) (ds : List DN) (L : List (Int × Int)) (xv : Value), n + j = ss.length ∧ i = .int .i64 j ∧ PS w ds L xv wr)
  case atStart => exact ⟨0, _, _, _, by omega, rfl, H0.out⟩
  case round =>
    obtain ⟨j, ds, L, xv, hj, rfl, hps⟩ := hrel
    by_cases hlt : j < ss.length
    · obtain ⟨sb, so, rfl, hsb, e0, e1, e2⟩ := HR.out.at (S := []) hps.di.upd (by simp) hlt
      obtain ⟨hx0, hx1⟩ := HX.out ss[j] (List.getElem_mem hlt)
      obtain ⟨⟨op, t, tk⟩, hss⟩ : ∃ s, s = ss[j] := ⟨_, rfl⟩
      rw [← hss] at e0 e1 e2 hx0 hx1
      simp only at e0 e1 e2 hx0 hx1
      have b1 : (0 : Int) ≤ (j : Int) := by omega
      have b2 : (j : Int) < (ss.length : Int) := by omega
      have hl0 := HL.out
      have HPS := Lib.hid hps
      have HJ := Lib.hid hj
      have HLT := Lib.hid hlt
      have HW := Lib.hid (show wrap64 ((j : Int) + 1) = ((j + 1 : Nat) : Int) from wrap_succ (by omega) hlt)
      clear hps hj hl0
      have HAT := Lib.hid (show ∀ w', Upd [] w w' → w'.cell? ⟨sb, so + j * 3 + 1, none⟩ = some (.int .i64 t) ∧ w'.cell? ⟨sb, so + j * 3 + 2, none⟩ = some (.int .u32 tk) from fun w' hu => by
        obtain ⟨b2, o2, e, -, -, q1, q2⟩ := HR.out.at (S := []) hu (by simp) hlt
        simp only [Option.some.injEq, Addr.mk.injEq, and_true] at e
        obtain ⟨rfl, rfl⟩ := e
        rw [← hss] at q1 q2
        exact ⟨q1, q2⟩)
      clear hss
      go_upto_block 2 with fail
      go_cut [8, 9, 10, 11] from 25 to 146 (fun s8 s9 s10 s11 w' => ∃ (p : Bool) (m : Int) (ds : List DN) (L : List (Int × Int)) (xv : Value), s8 = .bool p ∧ s9 = .bool p ∧ s10 = .int .u32 m ∧ s11 = .int .u32 m ∧ PS w ds L xv w')
      case first =>
        by_cases o1 : op = 1
        · subst o1
          have HADD := Lib.hid (show ∀ w', Upd [] wr w' → Calls Try.prog 6 #[.pointer (some ⟨w.heap.size, 0, none⟩), .int .i64 t, .int .u32 tk] w' fun e w2 => ∃ ds', e = .returned (.bool (decide (dok ds t tk))) ∧ DI w w2 w.heap.size ds' ∧ DR ds' (if dok ds t tk then L ++ [(t, tk)] else L) ∧ RD w2 w.heap.size xv L ∧ w2.heap[w.heap.size + 1]? = some (.cells [xv].toArray 30 (0, 0)) from fun w' hu => by
            have hp := HPS.out.new hu
            refine (hp.di.add t tk hx0 hx1).mono ?_
            rintro e w2 ⟨ds', rfl, hd, hu2, -, h1, h2⟩
            obtain ⟨r1, r2⟩ := hp.prog hu2 hd
            refine ⟨ds', rfl, hd, ?_, r1, r2⟩
            by_cases hk : dok ds t tk
            · obtain ⟨B, rfl⟩ := h1 hk
              rw [if_pos hk]
              exact hp.dr.add B t tk
            · rw [if_neg hk, h2 hk]
              exact hp.dr)
          go_upto_region 11 with fail
          go_region_held3 (fun w' => w'.cell? ⟨sb, so + j * 3 + 1, none⟩ = some (.int .i64 t) ∧ w'.cell? ⟨sb, so + j * 3 + 2, none⟩ = some (.int .u32 tk))
            (((try dsimp only); (repeat' apply And.intro) <;> (repeat (first | (with_reducible assumption) | (with_reducible apply cell_allocE) | (with_reducible apply cell_drewE) | (with_reducible apply cell_drewNE) | (with_reducible refine cell_setE (by omega) ?_)))))
            (first | (go_at_call 6; refine (HADD.out _ (by first | exact Upd.refl _ _ | exact (Upd.refl _ _).drew | exact (Upd.refl _ _).drewN _)).mono ?_; rintro e w2 ⟨ds', rfl, hd2, hr2, hx2, hb2⟩; obtain ⟨f1, f2⟩ := HAT.out _ hd2.upd; have HD2 := Lib.hid hd2; have HR2 := Lib.hid hr2; have HX2 := Lib.hid hx2; have HB2 := Lib.hid hb2; clear hd2 hr2 hx2 hb2))
          all_goals
            have k0 := cell_of_heap HB2.out 0
            simp at k0
            clear e0 e1 e2
            have HDOC := Lib.hid (show ∀ w', Upd [] w2 w' → Calls Try.prog 7 #[.agg #[xv], .int .i64 t, .int .u32 tk] w' fun e w3 => ∃ pa pl pc, e = .returned (.tuple #[.agg #[.slice pa pl pc], .bool (decide (dok ds t tk))]) ∧ RD w3 w.heap.size (.slice pa pl pc) (if dok ds t tk then L ++ [(t, tk)] else L) ∧ Upd [] w2 w3 from fun w' hu => by
              refine (doc_add HPS.out.dr HPS.out.di (HX2.out.new hu) (Nat.le_trans (by have := heap_lt HB2.out; omega) hu.size) t tk hx0 hx1).mono ?_
              rintro e w3 ⟨v', rfl, hr, hu3⟩
              obtain ⟨pa, pc, rfl, -⟩ := hr.shape
              exact ⟨pa, _, pc, rfl, hr, hu.trans hu3⟩)
            go_upto_region 12 with fail
            go_region_with (first | (go_at_call 7; refine (HDOC.out _ (by first | exact Upd.refl _ _ | exact (Upd.refl _ _).drew | exact (Upd.refl _ _).drewN _)).mono ?_; rintro e w3 ⟨pa, pl, pc, rfl, hr3, hu3⟩; obtain ⟨g1, g2⟩ := HAT.out _ (HD2.out.upd.trans hu3); have hb3 := hu3.keepb HB2.out (by simp); have m0 := cell_of_heap hb3 0; have m1 := fun i => frozen_of_heap hb3 i; have m2 := heap_lt hb3; have HB3 := Lib.hid hb3; have HR3 := Lib.hid hr3; have HU3 := Lib.hid hu3; simp at m0; clear hb3 hr3 hu3))
            all_goals
              have HP3 := Lib.hid (PS.store (HD2.out.keep HU3.out (by simp)) HB3.out HR3.out HR2.out)
              go_wp2_with fail
              go_meet
              exact ⟨_, _, _, _, _, rfl, rfl, rfl, rfl, HP3.out⟩
        · by_cases o2 : op = 2
          · subst o2
            have HREM := Lib.hid (show ∀ w', Upd [] wr w' → Calls Try.prog 8 #[.pointer (some ⟨w.heap.size, 0, none⟩), .int .i64 t] w' fun e w2 => ∃ ds', e = .returned (.tuple #[.int .u32 (dleft t ds).1, .bool (dleft t ds).2]) ∧ DI w w2 w.heap.size ds' ∧ DR ds' (L.filter fun x => decide (x.1 ≠ t)) ∧ RD w2 w.heap.size xv L ∧ w2.heap[w.heap.size + 1]? = some (.cells [xv].toArray 30 (0, 0)) from fun w' hu => by
              have hp := HPS.out.new hu
              refine (hp.di.rem t).mono ?_
              rintro e w2 ⟨ds', rfl, hd, hu2, -, rfl⟩
              obtain ⟨r1, r2⟩ := hp.prog hu2 hd
              exact ⟨_, rfl, hd, hp.dr.rem t, r1, r2⟩)
            go_wp2_with (go_at_call 8; refine (HREM.out _ (Upd.refl _ _)).mono ?_; rintro e w2 ⟨ds', rfl, hd2, hr2, hx2, hb2⟩; obtain ⟨f1, f2⟩ := HAT.out _ hd2.upd; have HD2 := Lib.hid hd2; have HR2 := Lib.hid hr2; have HX2 := Lib.hid hx2; have HB2 := Lib.hid hb2; have k0 := cell_of_heap hb2 0; simp at k0; clear hd2 hr2 hx2 hb2)
            have HDOC := Lib.hid (show ∀ w', Upd [] w2 w' → Calls Try.prog 9 #[.agg #[xv], .int .i64 t] w' fun e w3 => ∃ pa pl pc, e = .returned (.tuple #[.agg #[.slice pa pl pc], .int .u32 (dleft t ds).1, .bool (dleft t ds).2]) ∧ RD w3 w.heap.size (.slice pa pl pc) (L.filter fun x => decide (x.1 ≠ t)) ∧ Upd [] w2 w3 from fun w' hu => by
              refine (doc_rem HPS.out.dr HPS.out.di (HX2.out.new hu) (Nat.le_trans (by have := heap_lt HB2.out; omega) hu.size) t).mono ?_
              rintro e w3 ⟨v', rfl, hr, hu3⟩
              obtain ⟨pa, pc, rfl, -⟩ := hr.shape
              exact ⟨pa, _, pc, rfl, hr, hu.trans hu3⟩)
            clear e0 e1 e2
            go_upto_region 15 with fail
            go_region_with (first | (go_at_call 9; refine (HDOC.out _ (by first | exact Upd.refl _ _ | exact (Upd.refl _ _).drew | exact (Upd.refl _ _).drewN _)).mono ?_; rintro e w3 ⟨pa, pl, pc, rfl, hr3, hu3⟩; obtain ⟨g1, g2⟩ := HAT.out _ (HD2.out.upd.trans hu3); have hb3 := hu3.keepb HB2.out (by simp); have m0 := cell_of_heap hb3 0; have m1 := fun i => frozen_of_heap hb3 i; have m2 := heap_lt hb3; have HB3 := Lib.hid hb3; have HR3 := Lib.hid hr3; have HU3 := Lib.hid hu3; simp at m0; clear hb3 hr3 hu3))
            all_goals
              have HP3 := Lib.hid (PS.store (HD2.out.keep HU3.out (by simp)) HB3.out HR3.out HR2.out)
              go_wp2_with fail
              go_meet
              exact ⟨_, _, _, _, _, rfl, rfl, rfl, rfl, HP3.out⟩
          · by_cases o3 : op = 3
            · subst o3
              obtain ⟨T, hT⟩ : ∃ T, T = (dtold ds).map DN.t := ⟨_, rfl⟩
              have HDOC := Lib.hid (show Calls Try.prog 10 #[.agg #[xv]] wr fun e w2 => ∃ pa pl pc ta tc, e = .returned (.tuple #[.agg #[.slice pa pl pc], .slice ta T.length tc]) ∧ RD w2 w.heap.size (.slice pa pl pc) (rRest L) ∧ w2.ownsRow w.heap.size 3 1 (.slice ta T.length tc) T.length (i64s T) ∧ Upd [] wr w2 from by
                refine (doc_tick HPS.out.dr HPS.out.di HPS.out.rd (by have := heap_lt HPS.out.box; omega)).mono ?_
                rintro e w3 ⟨v', tv, rfl, hr, ho, hu3⟩
                have hn : (dtold ds).length = T.length := by rw [hT, List.length_map]
                rw [← hT, hn] at ho
                obtain ⟨pa, pc, rfl, -⟩ := hr.shape
                obtain ⟨ta, tc, rfl, -⟩ := own_shape ho
                exact ⟨pa, _, pc, ta, tc, rfl, hr, ho, hu3⟩)
              have k0 := cell_of_heap HPS.out.box 0
              have k1 := fun i => frozen_of_heap HPS.out.box i
              have k2 := heap_lt HPS.out.box
              have HT := Lib.hid hT
              simp at k0
              clear hT
              have htl : T.length ≤ 9223372036854775807 := by
                have h1 := HPS.out.di.len
                have h2 := congrArg List.length (tick_spec HPS.out.di).1
                have h3 := congrArg List.length HT.out
                simp [ddec] at h2 h3
                omega
              have HTL := Lib.hid htl
              clear htl
              go_wp2_with (first
                | (go_at_call 10; refine (HDOC.out).mono ?_; rintro e w2 ⟨pa, pl, pc, ta, tc, rfl, hr2, ho2, hu2⟩; have hb2 := hu2.keepb HPS.out.box (by simp); have k0' := cell_of_heap hb2 0; have k1' := fun i => frozen_of_heap hb2 i; have k2' := heap_lt hb2; have HB2 := Lib.hid hb2; have HTK := Lib.hid (PS.tick HPS.out HT.out hu2 hr2 ho2 rfl); simp at k0'; clear hb2 hr2 ho2 hu2)
                | (go_at_call 12; refine (HTK.out).mono ?_; rintro e w4 ⟨a4, c4, rfl, hr4, hr5, hp4⟩; have HSM := Lib.hid (same_self a4 ta c4 tc T w4 hr4 hr5 HTL.out); have HP4 := Lib.hid hp4; clear hr4 hr5 hp4)
                | (go_at_call 11; refine (HSM.out).mono ?_; rintro e w5 ⟨rfl, hu5⟩; have HP5 := Lib.hid (HP4.out.new hu5); clear hu5))
              go_meet
              exact ⟨_, _, _, _, _, rfl, rfl, rfl, rfl, HP5.out⟩
            · go_wp2_with fail
              go_meet
              exact ⟨_, _, _, _, _, rfl, rfl, rfl, rfl, HPS.out⟩
      case rest =>
        obtain ⟨p, m, ds2, L2, xv2, rfl, rfl, rfl, rfl, hps2⟩ := hcut
        obtain ⟨pa, pc, rfl, -⟩ := hps2.rd.shape
        have k0 := cell_of_heap hps2.box 0
        simp at k0
        obtain ⟨T, hT⟩ : ∃ T, T = ds2.map DN.t := ⟨_, rfl⟩
        have HT := Lib.hid hT
        have HP2 := Lib.hid hps2
        have HTL := Lib.hid (show T.length ≤ 9223372036854775807 by have := hps2.di.len; rw [hT, List.length_map]; omega)
        have HB2 := Lib.hid (heap_lt hps2.box)
        clear hT hps2 HPS HAT e0 e1 e2 hx0 hx1
        go_wp2_with (first
          | (go_at_call 13; refine (HP2.out.di.left task).mono ?_; rintro e w2 ⟨rfl, rfl⟩)
          | (go_at_call 14; refine (doc_left HP2.out.dr HP2.out.di HP2.out.rd task).mono ?_; rintro e w3 ⟨rfl, hu3⟩; have hp3 := HP2.out.new hu3; have m0 := cell_of_heap hp3.box 0; simp at m0; have HP3 := Lib.hid hp3; clear hp3 hu3))
        clear k0 HP2
        go_region_held3 (fun w' => w'.cell? ⟨w.heap.size + 1, 0, none⟩ = some (.slice pa L2.length pc))
          (((try dsimp only); (repeat' apply And.intro) <;> (repeat (first | (with_reducible assumption) | (with_reducible apply cell_allocE) | (with_reducible apply cell_drewE) | (with_reducible apply cell_drewNE) | (with_reducible refine cell_setE (by omega) ?_)))))
          (first
            | (go_at_call 15; refine (PS.dlen (HP3.out.new (by first | exact Upd.refl _ _ | exact (Upd.refl _ _).drew | exact (Upd.refl _ _).drewN _ | exact (Upd.refl _ _).alloc _ | exact ((Upd.refl _ _).drewN _).alloc _ | exact ((Upd.refl _ _).alloc _).drewN _))).mono ?_; rintro e w4 ⟨rfl, rfl⟩)
            | (go_at_call 16; refine (PS.list (HP3.out.new (by first | exact Upd.refl _ _ | exact (Upd.refl _ _).drew | exact (Upd.refl _ _).drewN _ | exact (Upd.refl _ _).alloc _ | exact ((Upd.refl _ _).drewN _).alloc _ | exact ((Upd.refl _ _).alloc _).drewN _)) HT.out).mono ?_; rintro e w4 ⟨a4, c4, rfl, hr4, hu4⟩; have hp4 := HP3.out.new (Upd.trans (by first | exact Upd.refl _ _ | exact (Upd.refl _ _).drew | exact (Upd.refl _ _).drewN _ | exact (Upd.refl _ _).alloc _ | exact ((Upd.refl _ _).drewN _).alloc _ | exact ((Upd.refl _ _).alloc _).drewN _) hu4); have n0 := cell_of_heap hp4.box 0; simp at n0; have HP4 := Lib.hid hp4; have HR4 := Lib.hid hr4; clear hp4 hu4 hr4)
            | (go_at_call 17; refine (PS.dlist (HP4.out.new (by first | exact Upd.refl _ _ | exact (Upd.refl _ _).drew | exact (Upd.refl _ _).drewN _ | exact (Upd.refl _ _).alloc _ | exact ((Upd.refl _ _).drewN _).alloc _ | exact ((Upd.refl _ _).alloc _).drewN _)) HT.out).mono ?_; rintro e w5 ⟨a5, c5, rfl, hr5, hu5⟩; have hp5 := HP4.out.new (Upd.trans (by first | exact Upd.refl _ _ | exact (Upd.refl _ _).drew | exact (Upd.refl _ _).drewN _ | exact (Upd.refl _ _).alloc _ | exact ((Upd.refl _ _).drewN _).alloc _ | exact ((Upd.refl _ _).alloc _).drewN _) hu5); have n1 := cell_of_heap hp5.box 0; simp at n1; have HP5 := Lib.hid hp5; have HR5 := Lib.hid hr5; have HR6 := Lib.hid (HR4.out.upd (Upd.trans (by first | exact Upd.refl _ _ | exact (Upd.refl _ _).drew | exact (Upd.refl _ _).drewN _ | exact (Upd.refl _ _).alloc _ | exact ((Upd.refl _ _).drewN _).alloc _ | exact ((Upd.refl _ _).alloc _).drewN _) hu5) (by simp)); clear hp5 hu5 hr5)
            | (go_at_call 11; refine (same_self a4 a5 c4 c5 T _ (HR6.out.upd (S := []) (by first | exact Upd.refl _ _ | exact (Upd.refl _ _).drew | exact (Upd.refl _ _).drewN _ | exact (Upd.refl _ _).alloc _ | exact ((Upd.refl _ _).drewN _).alloc _ | exact ((Upd.refl _ _).alloc _).drewN _) (by simp)) (HR5.out.upd (S := []) (by first | exact Upd.refl _ _ | exact (Upd.refl _ _).drew | exact (Upd.refl _ _).drewN _ | exact (Upd.refl _ _).alloc _ | exact ((Upd.refl _ _).drewN _).alloc _ | exact ((Upd.refl _ _).alloc _).drewN _) (by simp)) HTL.out).mono ?_; rintro e w6 ⟨rfl, hu6⟩; have hp6 := HP5.out.new (Upd.trans (by first | exact Upd.refl _ _ | exact (Upd.refl _ _).drew | exact (Upd.refl _ _).drewN _ | exact (Upd.refl _ _).alloc _ | exact ((Upd.refl _ _).drewN _).alloc _ | exact ((Upd.refl _ _).alloc _).drewN _) hu6); have n2 := cell_of_heap hp6.box 0; simp at n2; have HP6 := Lib.hid hp6; clear hp6 hu6))
        all_goals
          go_wp2_with fail
          go_roundg (ss.length - (j + 1))
          case rel => exact ⟨j + 1, _, _, _, rd_measure2 HLT.out, by first | rw [HW.out] | rfl, HP6.out⟩
          case measure => exact rd_measure HJ.out HLT.out
    · obtain rfl : j = ss.length := by omega
      have HU := Lib.hid hps.di.upd
      clear hps
      go_wp2_with (go_at_call 5; refine (alive24 _).mono ?_; rintro e w1 ⟨rfl, hu1⟩)
      go_ret
      exact ⟨rfl, HU.out.trans hu1⟩

theorem deltaPlays_walk (W : World) (v0 v1 : Value) (h0 : Sh.okV W (.slice (.st (.cons (.int .i64) (.cons (.int .i64) (.cons (.int .u32) (.nil)))))) v0) (h1 : Sh.okV W (.int .i64) v1) :
    Calls Try.prog 3 #[v0, v1] W fun e w' => e = .returned (.bool true) ∧ Upd [] W w' := by
  obtain ⟨a, cap, ss, rfl, hm, hr, hx⟩ := reads_steps h0
  obtain ⟨task, rfl, _⟩ := int_okV h1
  by_cases hin : ss.length ≤ 100
  · exact dp_in a cap ss task W hin hr hx
  · exact dp_out a ss.length cap task W (by simp [maxLen] at hm; omega) (by omega)
end Go.Proofs.Ytgmdhjlbedgafaa
