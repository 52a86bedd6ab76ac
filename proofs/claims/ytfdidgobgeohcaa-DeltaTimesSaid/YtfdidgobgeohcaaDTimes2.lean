/- The law DeltaTimes: the walk. -/
import Derived.Test.YtfdidgobgeohcaaDTimes
set_option linter.unusedVariables false
set_option linter.unusedSimpArgs false
namespace Go.Proofs.Ytfdidgobgeohcaa
open Go.RowKit

set_option maxRecDepth 100000 in
set_option maxHeartbeats 1000000 in
theorem dt_out (a : Option Addr) (len cap : Nat) (gone : Int) (w : World) (hl : len ≤ 9223372036854775807) (h : 16 < len) :
    Calls Try.prog 9 #[.slice a len cap, .int .i64 gone] w fun e w' => e = .returned (.bool true) ∧ Upd [] w w' := by
  go_enter Try.func9, Try.ntmps9
  go_wp2_with (go_at_call 29; refine (alive24 _).mono ?_; rintro e w1 ⟨rfl, hu1⟩)
  go_ret
  exact ⟨rfl, hu1⟩

def AddK (w : World) (d : Nat) (xs : List Int) (k : Nat) (a : Int) (e : Ending) (w2 : World) : Prop :=
  ∃ ds', e = .returned (.bool (decide (0 < a))) ∧ DI w w2 d ds' ∧ DAdded xs (k + 1) ds' ∧ DOrd ds'

theorem add_k {w w1 : World} {d : Nat} {xs : List Int} {k : Nat} {ds : List DN} (h : DI w w1 d ds) (ha : DAdded xs k ds) (ho : DOrd ds) (hk : k < xs.length) (h16 : xs.length ≤ 16) (hb : 0 ≤ xs[k] ∧ xs[k] ≤ 4294967295) :
    Calls Try.prog 30 #[.pointer (some ⟨d, 0, none⟩), .int .i64 k, .int .u32 xs[k]] w1 (AddK w d xs k xs[k]) := by
  refine (h.add k xs[k] hb.1 hb.2).mono ?_
  rintro e w2 ⟨ds', rfl, hdi, -, hm, h1, h2⟩
  refine ⟨ds', ?_, hdi, ha.next hk h16 hm, ord_added ha ho h1 h2⟩
  have := dok_added ha hk h16
  congr 2
  exact decide_eq_decide.2 this

set_option maxRecDepth 100000 in
set_option maxHeartbeats 4000000 in
theorem dt_in (a : Option Addr) (cap : Nat) (xs : List Int) (gone : Int) (w : World) (hl : xs.length ≤ 16) (hr : Reads w a xs.length (u32v xs)) (hx : ∀ x ∈ xs, 0 ≤ x ∧ x ≤ 4294967295) :
    Calls Try.prog 9 #[.slice a xs.length cap, .int .i64 gone] w fun e w' => e = .returned (.bool true) ∧ Upd [] w w' := by
  have HR := Lib.hid hr
  have HX := Lib.hid hx
  have H0 := Lib.hid (DI.new w)
  clear hr hx
  go_enter Try.func9, Try.ntmps9
  go_wp2
  go_loopg [6] xs.length (fun m i wr => ∃ k ds, m = xs.length - k ∧ k ≤ xs.length ∧ i = .int .i64 k ∧ DI w wr w.heap.size ds ∧ DAdded xs k ds ∧ DOrd ds ∧ ∀ j (hj : j < xs.length), j < k → xs[j] ≤ 60)
  case atStart => exact ⟨0, [], rfl, by omega, rfl, H0.out, fun t a => by simp [dmem], List.Pairwise.nil, fun j hj h => by omega⟩
  case round =>
    obtain ⟨k, ds, rfl, hk, rfl, hdi, hadd, hord, hmax⟩ := hrel
    have HDI := Lib.hid hdi
    have HADD := Lib.hid hadd
    have HORD := Lib.hid hord
    have HMAX := Lib.hid hmax
    by_cases hlt : k < xs.length
    · obtain ⟨ab, ao, rfl, hc⟩ := reads_at (S := []) HR.out hdi.upd (k := k) (v := .int .u32 xs[k]) (by simp [u32v, List.getElem?_eq_getElem hlt])
      have hb := HX.out xs[k] (List.getElem_mem hlt)
      clear hdi hadd hord hmax
      by_cases h60 : 60 < xs[k]
      · go_wp2_with fail
        go_quiet (fail)
        go_wp2_with (go_at_call 29; refine (alive24 _).mono ?_; rintro e w1 ⟨rfl, hu1⟩)
        go_ret
        exact ⟨rfl, (HDI.out.upd.drewN _).trans hu1⟩
      · have hcw : ∀ w2, Upd [] w w2 → w2.cell? ⟨ab, ao + k, none⟩ = some (.int .u32 xs[k]) := fun w2 hu2 => by
          obtain ⟨b2, o2, e2, h2⟩ := reads_at (S := []) HR.out hu2 (k := k) (v := .int .u32 xs[k]) (by simp [u32v, List.getElem?_eq_getElem hlt])
          cases e2
          exact h2
        have HCW := Lib.hid hcw
        clear hcw
        go_upto_region 7 with fail
        go_cut [50] (fun s wc => s = .bool false ∧ ∃ ds', DI w wc w.heap.size ds' ∧ DAdded xs (k + 1) ds' ∧ DOrd ds')
        case first =>
          go_region_held3 (fun w' => w'.cell? ⟨ab, ao + k, none⟩ = some (.int .u32 xs[k])) (first | go_keep | exact HCW.out _ hdi2.upd) (first | (go_at_call 30; refine (add_k (HDI.out.keep (S := []) (by first | exact Upd.refl _ _ | exact (Upd.refl _ _).drew | exact (Upd.refl _ _).drewN _) (by simp)) HADD.out HORD.out hlt hl hb).mono ?_; rintro e w2 ⟨ds', rfl, hdi2, hadd2, hord2⟩; have HDI2 := Lib.hid hdi2; have HA2 := Lib.hid hadd2; have HO2 := Lib.hid hord2))
          all_goals (go_wp2_with fail; go_meet; exact ⟨rfl, _, hdi2, hadd2, hord2⟩)
        case rest =>
          obtain ⟨rfl, ds', hdi', hadd', hord'⟩ := hcut
          have HDI' := Lib.hid hdi'
          have HADD' := Lib.hid hadd'
          have HORD' := Lib.hid hord'
          clear hdi' hadd' hord'
          go_wp2
          go_roundg (xs.length - (k + 1))
          case measure => omega
          case rel =>
            refine ⟨k + 1, ds', rfl, by omega, by go_num, HDI'.out, HADD'.out, HORD'.out, fun j hj hjk => ?_⟩
            by_cases e : j = k
            · subst e; omega
            · exact HMAX.out j hj (by omega)
    · obtain rfl : k = xs.length := by omega
      have hmx : ∀ x ∈ xs, x ≤ 60 := fun x hx => by
        obtain ⟨j, hj, rfl⟩ := List.getElem_of_mem hx
        exact hmax j hj hj
      have HMX := Lib.hid hmx
      have HAL := Lib.hid (added_left hadd hdi.tnd gone)
      have hdw := hdi.upd
      clear hdi hadd hord hmax hmx HMAX
      go_wp2_with fail
      refine (HDI.out.rem gone).mono ?_
      rintro e w1 ⟨ds1, rfl, hdi1, -, hm1, hds1⟩
      have HDI1 := Lib.hid hdi1
      have HAF := Lib.hid (DAfter.start HADD.out hm1)
      have ho1 : DOrd ds1 := by rw [hds1]; exact List.Pairwise.filter _ HORD.out
      have HO1 := Lib.hid ho1
      have hw1 := hdi1.upd
      have HR1 := Lib.hid (HR.out.upd hw1 (by simp))
      clear hdi1 hm1 hds1 ho1 hdw
      go_upto_region 10 with fail
      go_cut [7, 8, 92] (fun _ _ s wc => s = .bool false ∧ wc = w1)
      case first =>
        rcases HAL.out with ⟨hg, hd⟩ | ⟨j, hgj, hj, hd⟩
        · by_cases hg0 : gone < 0
          · have hg1 : ¬ 0 ≤ gone := by omega
            clear hg
            go_wp2_with fail
            go_meet
            exact ⟨rfl, rfl⟩
          · have hg1 : ¬ gone < xs.length := by omega
            clear hg
            go_wp2_with fail
            go_meet
            exact ⟨rfl, rfl⟩
        · subst hgj
          obtain ⟨ab, ao, rfl, hc⟩ := reads_at (S := []) HR.out hw1 (k := j) (v := .int .u32 xs[j]) (by simp [u32v, List.getElem?_eq_getElem hj])
          rcases hd with ⟨hp, hd⟩ | ⟨hp, hd⟩
          · have hp1 : ¬ 0 < xs[j] := by omega
            go_wp2_with fail
            go_meet
            exact ⟨rfl, rfl⟩
          · go_wp2_with fail
            go_meet
            exact ⟨rfl, rfl⟩
      case rest =>
        obtain ⟨rfl, rfl⟩ := hcut
        clear HAL
        go_wp2_with fail
        refine (dcopy_any HDI1.out.dl).mono ?_
        rintro e w2 ⟨c, cs, rfl, hcl, hsm, hcge, huc⟩
        have hdi2 := HDI1.out.keep huc (by simp)
        obtain ⟨N, hN⟩ : ∃ N, N = wc.heap.size := ⟨_, rfl⟩
        rw [← hN] at hcge
        have hdlt := HDI1.out.dl.lt
        rw [← hN] at hdlt
        have hcs : cs.length ≤ 16 := by
          have h1 := congrArg List.length hsm
          have h2 := HDI1.out.len
          simp at h1
          omega
        have HCL := Lib.hid hcl
        have HCGE := Lib.hid hcge
        have HDI2 := Lib.hid hdi2
        have HDLT := Lib.hid hdlt
        clear hcl hsm hcge huc hdi2 hN hdlt
        go_wp2_with fail
        go_loopg [10] 60 (fun m v wr => ∃ n ds, m = 60 - n ∧ n ≤ 60 ∧ v = .int .i64 ((n : Int) + 1) ∧ DI w wr w.heap.size ds ∧ DAfter xs gone n ds ∧ DOrd ds ∧ DL wr c cs ∧ ∀ k ∈ w.heap.size :: ds.map DN.b, k < N)
        case atStart => exact ⟨0, ds1, rfl, by omega, rfl, HDI2.out, HAF.out, HO1.out, HCL.out, HDLT.out⟩
        case round =>
          obtain ⟨n, ds, rfl, hn, rfl, hdi, haf, hord, hcl, hlt⟩ := hrel
          clear HDI1 HAF HO1 HDI2 HCL HDLT HDI HADD HORD
          have HDI := Lib.hid hdi
          have HAF := Lib.hid haf
          have HORD := Lib.hid hord
          have HCL := Lib.hid hcl
          have HLT := Lib.hid hlt
          clear hdi haf hord hcl hlt
          by_cases hn60 : n < 60
          · go_wp2_with fail
            refine (HDI.out.tick).mono ?_
            rintro e w3 ⟨v, rfl, ho, hdi3, hu3, hm3⟩
            obtain ⟨a3, c3, rfl, hr3⟩ := own_reads ho
            obtain ⟨hT1, hT2, hO3⟩ := told_spec HDI.out HORD.out
            obtain ⟨T, hT⟩ : ∃ T, T = (dtold ds).map DN.t := ⟨_, rfl⟩
            rw [← hT] at hT1 hT2
            have hTl : (dtold ds).length = T.length := by rw [hT]; simp
            have hTd : dtasks (dtold ds) = i64s T := by rw [hT]; simp [dtasks, i64s]
            rw [hTl, hTd] at hr3
            rw [hTl]
            have hcl3 := HCL.out.keep hu3 (fun k hk hk2 => by have := HCGE.out k hk; have := HLT.out k hk2; omega)
            have hlt3 := drest_blocks HDI.out HLT.out
            have haf3 := HAF.out.tick hm3
            have htj := HAF.out.told
            have hTr : ∀ x ∈ T, 0 ≤ x ∧ x < xs.length := fun x hx => HAF.out.lt ((hT2 x).1 hx)
            have hT16 : T.length ≤ 16 := by
              rw [hT]
              have h1 := HDI.out.len
              have h2 := (tick_spec HDI.out).1
              have h3 := congrArg List.length h2
              simp [ddec] at h3 ⊢
              omega
            have HR3 := Lib.hid hr3
            have HT1 := Lib.hid hT1
            have HT2 := Lib.hid hT2
            have HTR := Lib.hid hTr
            have HDI3 := Lib.hid hdi3
            have HAF3 := Lib.hid haf3
            have HO3 := Lib.hid hO3
            have HCL3 := Lib.hid hcl3
            have HLT3 := Lib.hid hlt3
            have HTJ := Lib.hid htj
            have hw3 := hdi3.upd
            clear ho hdi3 hu3 hm3 hr3 hT1 hT2 hO3 hTl hTd hcl3 hlt3 haf3 htj hTr hT
            go_wp2_with fail
            go_loopg [12, 13] xs.length (fun m kk i wr => ∃ j : Nat, m = xs.length - j ∧ j ≤ xs.length ∧ i = .int .i64 j ∧ kk = .int .i64 ((T.filter fun x => decide (x < (j : Int))).length : Nat) ∧ wr = w3)
            case atStart => exact ⟨0, rfl, by omega, rfl, by rw [rise_zero (fun x hx => (HTR.out x hx).1)]; rfl, rfl⟩
            case round =>
              obtain ⟨j, rfl, hj, rfl, rfl, rfl⟩ := hrel
              by_cases hjl : j < xs.length
              · obtain ⟨ab, ao, rfl, hc⟩ := reads_at (S := []) HR.out hw3 (k := j) (v := .int .u32 xs[j]) (by simp [u32v, List.getElem?_eq_getElem hjl])
                have hstep := rise_step HT1.out (j : Int)
                have hin := HT2.out (j : Int)
                rw [HTJ.out j hjl] at hin
                have hfl : (T.filter fun x => decide (x < (j : Int))).length ≤ 16 := Nat.le_trans (List.length_filter_le _ _) hT16
                by_cases hm : xs[j] = (n : Int) + 1
                · have m1 : (xs[j] == (n : Int) + 1) = true := by simpa using hm
                  by_cases hg : (j : Int) = gone
                  · have g1 : ((j : Int) == gone) = true := by simpa using hg
                    have g2 : ((j : Int) != gone) = false := by simpa using hg
                    rw [if_neg (fun h => (hin.1 h).2 hg)] at hstep
                    have HST := Lib.hid hstep
                    clear hstep hin hm hg
                    go_wp2
                    go_roundg (xs.length - (j + 1))
                    case measure => omega
                    case rel => exact ⟨j + 1, rfl, by omega, by go_num, by rw [show ((j + 1 : Nat) : Int) = (j : Int) + 1 by omega, HST.out]; simp, rfl⟩
                  · have g1 : ((j : Int) == gone) = false := by simpa using hg
                    have g2 : ((j : Int) != gone) = true := by simpa using hg
                    have hjT : (j : Int) ∈ T := hin.2 ⟨hm, hg⟩
                    rw [if_pos hjT] at hstep
                    have hat := rise_at HT1.out hjT
                    obtain ⟨q, hq⟩ : ∃ q, q = (T.filter fun x => decide (x < (j : Int))).length := ⟨_, rfl⟩
                    rw [← hq] at hstep hat hfl ⊢
                    have hqT : q < T.length := (List.getElem?_eq_some_iff.1 hat).1
                    obtain ⟨tb, tt, rfl, htc⟩ := reads_at (S := []) HR3.out (Upd.refl [] _) (k := q) (v := .int .i64 j) (by simp [i64s, hat])
                    have HST := Lib.hid hstep
                    clear hstep hin hm hg hat hq hjT
                    go_wp2
                    go_roundg (xs.length - (j + 1))
                    case measure => omega
                    case rel => exact ⟨j + 1, rfl, by omega, by go_num, by rw [show ((j + 1 : Nat) : Int) = (j : Int) + 1 by omega, HST.out]; simp, rfl⟩
                · have m1 : (xs[j] == (n : Int) + 1) = false := by simpa using hm
                  rw [if_neg (fun h => hm (hin.1 h).1)] at hstep
                  have HST := Lib.hid hstep
                  clear hstep hin hm
                  go_wp2
                  go_roundg (xs.length - (j + 1))
                  case measure => omega
                  case rel => exact ⟨j + 1, rfl, by omega, by go_num, by rw [show ((j + 1 : Nat) : Int) = (j : Int) + 1 by omega, HST.out]; simp, rfl⟩
              · have hjn : j = xs.length := by omega
                have hcnt : (T.filter fun x => decide (x < (j : Int))).length = T.length := by rw [hjn, rise_all (fun x hx => (HTR.out x hx).2)]
                rw [hcnt]
                clear hcnt hjn
                go_wp2
                go_roundg (60 - (n + 1))
                case measure => omega
                case rel => exact ⟨n + 1, _, rfl, by omega, by go_num, HDI3.out, HAF3.out, HO3.out, HCL3.out, HLT3.out⟩
          · have hn6 : n = 60 := by omega
            subst hn6
            have hnil := HAF.out.nobody HMX.out
            have hdl0 := HDI.out.dl
            rw [hnil] at hdl0
            have HD0 := Lib.hid hdl0
            clear hnil hdl0
            go_wp2_with (first
              | (go_at_call 31; refine (drem_nil _ _).mono ?_; rintro e w3 ⟨rfl, rfl⟩)
              | (go_at_call 33; refine (dleft_nil _ _).mono ?_; rintro e w3 ⟨rfl, rfl⟩)
              | (go_at_call 30; refine (dadd_nil _ _ _).mono ?_; rintro e w3 ⟨rfl, rfl⟩)
              | (go_at_call 32; refine (dtick_nil _).mono ?_; rintro e w3 ⟨rfl, rfl⟩)
              | (go_at_call_of 34 (Value.pointer none); refine (dlen_nil _).mono ?_; rintro e w3 ⟨rfl, rfl⟩)
              | (go_at_call_of 34 (Value.pointer (some ⟨w.heap.size, 0, none⟩)); refine (dlen_any HD0.out).mono ?_; rintro e w3 ⟨rfl, rfl⟩)
              | (go_at_call_of 34 (Value.pointer (some ⟨c, 0, none⟩)); refine (dlen_any HCL.out).mono ?_; rintro e w3 ⟨rfl, rfl⟩)
              | (go_at_call_of 46 (Value.pointer none); refine (dlist_nil _).mono ?_; rintro e w3 ⟨rfl, rfl⟩)
              | (go_at_call_of 46 (Value.pointer (some ⟨c, 0, none⟩)); refine (dlist_any HCL.out (by omega)).mono ?_; rintro e w3 ⟨v3, rfl, ho3, hu3⟩; obtain ⟨a3, c3, rfl, hr3⟩ := own_reads ho3; clear ho3 hr3)
              | (go_at_call 63; refine (dcopy_nil _).mono ?_; rintro e w3 ⟨rfl, rfl⟩)
              | (go_at_call 29; refine (alive24 _).mono ?_; rintro e w4 ⟨rfl, hu4⟩))
            go_ret
            exact ⟨rfl, (HDI.out.upd.trans hu3).trans hu4⟩

theorem deltaTimes_walk (W : World) (v0 v1 : Value) (h0 : Sh.okV W (.slice (.int .u32)) v0) (h1 : Sh.okV W (.int .i64) v1) :
    Calls Try.prog 9 #[v0, v1] W fun e w' => e = .returned (.bool true) ∧ Upd [] W w' := by
  obtain ⟨a, cap, xs, rfl, hm, hr, hx⟩ := reads_ints h0
  obtain ⟨gone, rfl, _⟩ := int_okV h1
  by_cases hin : xs.length ≤ 16
  · exact dt_in a cap xs gone W hin hr (fun x h => u32_bounds (hx x h))
  · exact dt_out a xs.length cap gone W (by simp [maxLen] at hm; omega) (by omega)
end Go.Proofs.Ytfdidgobgeohcaa
