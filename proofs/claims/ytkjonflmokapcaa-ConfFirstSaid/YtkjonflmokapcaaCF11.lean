/- The document's Check. -/
import Derived.Test.YtkjonflmokapcaaCF10
import Derived.BigQuiet
import Derived.Deep.QuietTactic
set_option linter.unusedVariables false
set_option linter.unusedSimpArgs false
namespace Go.Proofs.Ytkjonflmokapcaa
open Go.RowKit

theorem heap_drewNc {w : World} {g n : Nat} {o : Obj} (h : w.heap[g]? = some o) : (w.drewN n).heap[g]? = some o := h
theorem upd_set_new {w a b : World} {g : Nat} (h : Upd [] w a) (h2 : Upd [g] a b) (hg : w.heap.size ≤ g) : Upd [] w b := Upd.then (S := []) (S' := [g]) h h2 (fun i hi => .inr (by simp at hi; omega))
/-- What the document's Check has in memory. -/
structure RK (w : World) (A : Array Value) (w' : World) : Prop where
  h0 : w'.heap[w.heap.size]? = some (.cells A 77)
  h1 : w'.heap[w.heap.size + 1]? = some (.cells [.int .i64 0, .int .i64 0, .int .i64 0].toArray 84)
  u : Upd [] w w'
theorem RK.upd {w a b : World} {A : Array Value} (h : RK w A a) (hu : Upd [] a b) : RK w A b := ⟨hu.keepb h.h0 (by simp), hu.keepb h.h1 (by simp), h.u.trans hu⟩
theorem faults1_at (c : CF) {a : Nat} (ha : a < 4) : ∃ x lo hi : Int, (#[.int .i64 c.ts.length, .int .i64 c.ls.length, .int .i64 c.os.length, .int .i64 c.tk] : Array Value)[a]? = some (.int .i64 x) ∧ (#[.int .i64 1, .int .i64 0, .int .i64 0, .int .i64 0] : Array Value)[a]? = some (.int .i64 lo) ∧ (#[.int .i64 16, .int .i64 31, .int .i64 16, .int .i64 c.ls.length] : Array Value)[a]? = some (.int .i64 hi) ∧ (c.faults 1)[a]? = some (cntF x lo hi) := by
  have : a = 0 ∨ a = 1 ∨ a = 2 ∨ a = 3 := by omega
  rcases this with rfl | rfl | rfl | rfl
  · exact ⟨_, _, _, rfl, rfl, rfl, rfl⟩
  · exact ⟨_, _, _, rfl, rfl, rfl, rfl⟩
  · exact ⟨_, _, _, rfl, rfl, rfl, rfl⟩
  · exact ⟨_, _, _, rfl, rfl, rfl, rfl⟩
theorem cntF_low {x lo hi : Int} (h : x < lo) : cntF x lo hi = 2 := by unfold cntF; rw [decide_eq_false (by omega)]; rfl
theorem cntF_high {x lo hi : Int} (h : hi < x) : cntF x lo hi = 2 := by unfold cntF; rw [decide_eq_false (p := x ≤ hi) (by omega), Bool.and_false]; rfl
theorem cntF_ok {x lo hi : Int} (h1 : ¬ x < lo) (h2 : ¬ hi < x) : cntF x lo hi = 0 := by unfold cntF; rw [decide_eq_true (by omega), decide_eq_true (by omega)]; rfl
section
variable {ta la oa : Option Addr} (tc lc oc : Nat) {c : CF} {w : World}
set_option maxRecDepth 100000 in
set_option maxHeartbeats 16000000 in
theorem check_r (h : CFR w ta la oa c) : Calls Try.prog 36 #[.agg (cfA ta c.ts.length tc la c.ls.length lc oa c.os.length oc c.tk)] w fun e w' => e = .returned (badV c.bad) ∧ Upd [] w w' := by
  have HC := Lib.hid h
  have HT := Lib.hid (And.intro h.tn (And.intro h.ln h.on))
  have HL := Lib.hid (show (c.faults 1).length = 4 ∧ (c.faults 2).length = c.ts.length ∧ (c.faults 3).length = c.ls.length ∧ (c.faults 4).length = c.os.length from ⟨rfl, by simp [CF.faults], by simp [CF.faults], by simp [CF.faults]⟩)
  have HOW := Lib.hid (fun (w' : World) (k cap wd rt f t i0 i1 i2 i3 : Int) => owned_r ta la oa c.ts.length tc c.ls.length lc c.os.length oc c.tk w' k cap wd rt f t i0 i1 i2 i3 h.tn h.ln)
  have HW := Lib.hid (show ∀ w0, w0 = ((((w.alloc (.cells #[.slice ta c.ts.length tc, .slice la c.ls.length lc, .slice oa c.os.length oc, .int .i64 c.tk] 77)).alloc (.cells #[.int .i64 0, .int .i64 0, .int .i64 0] 84)).alloc (.cells #[.int .i64 c.ts.length, .int .i64 c.ls.length, .int .i64 c.os.length, .int .i64 c.tk] 3)).alloc (.cells #[.int .i64 1, .int .i64 0, .int .i64 0, .int .i64 0] 3)).alloc (.cells #[.int .i64 16, .int .i64 31, .int .i64 16, .int .i64 c.ls.length] 3) →
      RK w #[.slice ta c.ts.length tc, .slice la c.ls.length lc, .slice oa c.os.length oc, .int .i64 c.tk] w0 ∧ w0.heap[w.heap.size + 1 + 1]? = some (.cells #[.int .i64 c.ts.length, .int .i64 c.ls.length, .int .i64 c.os.length, .int .i64 c.tk] 3) ∧ w0.heap[w.heap.size + 1 + 1 + 1]? = some (.cells #[.int .i64 1, .int .i64 0, .int .i64 0, .int .i64 0] 3) ∧ w0.heap[w.heap.size + 1 + 1 + 1 + 1]? = some (.cells #[.int .i64 16, .int .i64 31, .int .i64 16, .int .i64 c.ls.length] 3) from fun w0 e => by
    subst e
    exact ⟨⟨heap_alloc' (heap_alloc' (heap_alloc' (heap_alloc' (heap_alloc_new _ _)))), heap_alloc' (heap_alloc' (heap_alloc' (heap_alloc_at _ (by simp)))), ((((((Upd.refl _ _).alloc _).alloc _).alloc _).alloc _).alloc _)⟩, heap_alloc' (heap_alloc' (heap_alloc_at _ (by simp))), heap_alloc' (heap_alloc_at _ (by simp)), heap_alloc_at _ (by simp)⟩)
  clear h
  unfold cfA at *
  go_enter Try.func36, Try.ntmps36
  go_wp2
  generalize hw0 : World.alloc _ _ = w0
  obtain ⟨hrk, hn, hlo, hhi⟩ := HW.out w0 hw0.symm
  have HRK := Lib.hid hrk
  have HNN := Lib.hid (And.intro hn (And.intro hlo hhi))
  clear hw0 HW hrk hn hlo hhi
  go_loopg [6] 4 (fun m i wr => ∃ a : Nat, m + a = 4 ∧ i = .int .i64 a ∧ (∀ j, j < a → (c.faults 1)[j]? = some 0) ∧ Upd [] w0 wr)
  case atStart => exact ⟨0, rfl, rfl, fun j h => by omega, Upd.refl _ _⟩
  case round =>
    obtain ⟨a, ha, rfl, hz, hu⟩ := hrel
    have HA := Lib.hid ha
    have HZ := Lib.hid hz
    have HR := Lib.hid (HRK.out.upd hu)
    have HU0 := Lib.hid hu
    by_cases hlt : a < 4
    · obtain ⟨x, lo, hi, e1, e2, e3, e4⟩ := faults1_at c hlt
      have d1 := (cell_of_heap (hu.keepb HNN.out.1 (by simp)) a).trans e1
      have d2 := (cell_of_heap (hu.keepb HNN.out.2.1 (by simp)) a).trans e2
      have d3 := (cell_of_heap (hu.keepb HNN.out.2.2 (by simp)) a).trans e3
      have HF := Lib.hid e4
      obtain ⟨m0, m1, m2⟩ := cells3 HR.out.h1
      have zf := fun i => frozen_of_heap HR.out.h1 i
      have zl := heap_lt HR.out.h1
      clear ha hz hu e1 e2 e3 e4
      by_cases h1 : x < lo
      · have q1 : decide (x < lo) = true := by simpa using h1
        have HBAD := Lib.hid (bad_at (c := c) (p := 1) (f := 2) (by omega) (by omega) (fun q h1 h2 => by omega) (scan_at HZ.out (by rw [HF.out, cntF_low h1]) (by decide) 0))
        clear h1
        go_wp2
        go_quiet (fail)
        go_wp2
        refine bodyPost_ret (v := .agg #[.int .i64 2, .int .i64 1, .int .i64 a]) (results_cell_row rfl _ _ (w.heap.size + 1) 84 #[.int .i64 2, .int .i64 1, .int .i64 a] (0, 0) _ rfl ?hg1 Try.underlying84 rfl (info_bad _ _ _)) rfl ?_
        case hg1 =>
          repeat (first | (with_reducible exact HR.out.h1) | (with_reducible apply heap_set2c) | (with_reducible apply heap_drewNc) | (with_reducible apply heap_alloc'))
          all_goals rfl
        · rw [HBAD.out]
          refine ⟨by simp [badV], ?_⟩
          refine upd_set_new (g := w.heap.size + 1) HR.out.u ?_ (by omega)
          repeat (first | (with_reducible exact Upd.refl _ _) | (with_reducible refine Upd.setCell ?_ (by simp) _) | (with_reducible refine Upd.drewN ?_ _) | (with_reducible refine Upd.alloc ?_ _))
      · have q1 : decide (x < lo) = false := by simpa using h1
        by_cases h2 : hi < x
        · have q2 : decide (hi < x) = true := by simpa using h2
          have HBAD := Lib.hid (bad_at (c := c) (p := 1) (f := 2) (by omega) (by omega) (fun q h1 h2 => by omega) (scan_at HZ.out (by rw [HF.out, cntF_high h2]) (by decide) 0))
          clear h1 h2
          go_wp2
          go_quiet (fail)
          go_wp2
          refine bodyPost_ret (v := .agg #[.int .i64 2, .int .i64 1, .int .i64 a]) (results_cell_row rfl _ _ (w.heap.size + 1) 84 #[.int .i64 2, .int .i64 1, .int .i64 a] (0, 0) _ rfl ?hg2 Try.underlying84 rfl (info_bad _ _ _)) rfl ?_
          case hg2 =>
            repeat (first | (with_reducible exact HR.out.h1) | (with_reducible apply heap_set2c) | (with_reducible apply heap_drewNc) | (with_reducible apply heap_alloc'))
            all_goals rfl
          · rw [HBAD.out]
            refine ⟨by simp [badV], ?_⟩
            refine upd_set_new (g := w.heap.size + 1) HR.out.u ?_ (by omega)
            repeat (first | (with_reducible exact Upd.refl _ _) | (with_reducible refine Upd.setCell ?_ (by simp) _) | (with_reducible refine Upd.drewN ?_ _) | (with_reducible refine Upd.alloc ?_ _))
        · have q2 : decide (hi < x) = false := by simpa using h2
          have HOK := Lib.hid (HF.out.trans (congrArg some (cntF_ok h1 h2)))
          clear h1 h2
          go_wp2
          go_quiet (fail)
          go_wp2
          have ha := HA.out
          go_roundg (4 - (a + 1))
          case measure => omega
          case rel =>
            refine ⟨a + 1, by omega, by go_num, fun j hj => ?_, HU0.out.drewN _⟩
            by_cases e : j = a
            · subst e; exact HOK.out
            · exact HZ.out j (by omega)
    · have HS1 := Lib.hid (scan_none (l := c.faults 1) (fun j hj => hz j (by have := HL.out.1; omega)) 0)
      have HRA := Lib.hid (HRK.out.upd hu)
      have HCA := Lib.hid (HC.out.upd HRA.out.u)
      obtain ⟨wA, rfl⟩ : ∃ wA : World, wA = wr := ⟨_, rfl⟩
      have hge : ¬ ((a : Int) < 4) := by omega
      obtain ⟨b0, b1, b2, b3⟩ := cells4 HRA.out.h0
      have hb1 := HT.out.1
      have hb2 := HT.out.2.1
      have hb3 := HT.out.2.2
      clear ha hz hu HA HZ HU0 HR
      go_wp2
      go_loopg [7] c.ts.length (fun m i wr => ∃ a : Nat, m + a = c.ts.length ∧ i = .int .i64 a ∧ (∀ j, j < a → (c.faults 2)[j]? = some 0) ∧ Upd [] wA wr)
      case atStart => exact ⟨0, by omega, rfl, fun j h => by omega, Upd.refl _ _⟩
      case round =>
        obtain ⟨a, ha, rfl, hz, hu⟩ := hrel
        have HA := Lib.hid ha
        have HZ := Lib.hid hz
        have HR := Lib.hid (HRA.out.upd hu)
        have HCR := Lib.hid (HCA.out.upd hu)
        have HU0 := Lib.hid hu
        obtain ⟨b0, b1, b2, b3⟩ := cells4 HR.out.h0
        by_cases hlt : a < c.ts.length
        · obtain ⟨tb, to, rfl, htb, hc⟩ := els_at HCR.out.t hlt
          have hm := HCR.out.tcn c.ts[a] (List.getElem_mem hlt)
          have hf : (c.faults 2)[a]? = some (TK.fault c.ts[a]) := by simp [CF.faults, List.getElem?_eq_getElem hlt]
          have hn2 := HT.out.1
          generalize c.ts[a] = x at hc hm hf
          obtain ⟨p, l, ca, cn, cc⟩ := x
          have k0 := hc 0 _ rfl
          have k1 := hc 1 _ rfl
          have k2 := hc 2 _ rfl
          rw [Nat.add_zero] at k0
          have HF := Lib.hid hf
          unfold maxLen at hm
          simp only at hm
          obtain ⟨m0, m1, m2⟩ := cells3 HR.out.h1
          have zf := fun i => frozen_of_heap HR.out.h1 i
          have zl := heap_lt HR.out.h1
          clear ha hz hu hc hf
          by_cases h1 : p < 0
          · have q1 : decide (p < 0) = true := by simpa using h1
            have HBAD := Lib.hid (bad_at (c := c) (p := 2) (f := 2) (by omega) (by omega) (fun q h1 h2 => by
                obtain rfl : q = 1 := by omega
                exact HS1.out) (scan_at (f := 2) HZ.out (HF.out.trans (congrArg some (show _ = (2 : Int) from (by simp [TK.fault]; omega)))) (by decide) 0))
            clear h1
            go_wp2
            refine bodyPost_ret (v := .agg #[.int .i64 2, .int .i64 2, .int .i64 a]) (results_cell_row rfl _ _ (w.heap.size + 1) 84 #[.int .i64 2, .int .i64 2, .int .i64 a] (0, 0) _ rfl ?hg3 Try.underlying84 rfl (info_bad _ _ _)) rfl ?_
            case hg3 =>
              repeat (first | (with_reducible exact HR.out.h1) | (with_reducible apply heap_set2c) | (with_reducible apply heap_drewNc) | (with_reducible apply heap_alloc'))
              all_goals rfl
            · rw [HBAD.out]
              refine ⟨by simp [badV], ?_⟩
              refine upd_set_new (g := w.heap.size + 1) HR.out.u ?_ (by omega)
              repeat (first | (with_reducible exact Upd.refl _ _) | (with_reducible refine Upd.setCell ?_ (by simp) _) | (with_reducible refine Upd.drewN ?_ _) | (with_reducible refine Upd.alloc ?_ _))
          · have q1 : decide (p < 0) = false := by simpa using h1
            by_cases h2 : 31 < p
            · have q2 : decide (31 < p) = true := by simpa using h2
              have HBAD := Lib.hid (bad_at (c := c) (p := 2) (f := 2) (by omega) (by omega) (fun q h1 h2 => by
                  obtain rfl : q = 1 := by omega
                  exact HS1.out) (scan_at (f := 2) HZ.out (HF.out.trans (congrArg some (show _ = (2 : Int) from (by simp [TK.fault]; omega)))) (by decide) 0))
              clear h1 h2
              go_wp2
              refine bodyPost_ret (v := .agg #[.int .i64 2, .int .i64 2, .int .i64 a]) (results_cell_row rfl _ _ (w.heap.size + 1) 84 #[.int .i64 2, .int .i64 2, .int .i64 a] (0, 0) _ rfl ?hg4 Try.underlying84 rfl (info_bad _ _ _)) rfl ?_
              case hg4 =>
                repeat (first | (with_reducible exact HR.out.h1) | (with_reducible apply heap_set2c) | (with_reducible apply heap_drewNc) | (with_reducible apply heap_alloc'))
                all_goals rfl
              · rw [HBAD.out]
                refine ⟨by simp [badV], ?_⟩
                refine upd_set_new (g := w.heap.size + 1) HR.out.u ?_ (by omega)
                repeat (first | (with_reducible exact Upd.refl _ _) | (with_reducible refine Upd.setCell ?_ (by simp) _) | (with_reducible refine Upd.drewN ?_ _) | (with_reducible refine Upd.alloc ?_ _))
            · have q2 : decide (31 < p) = false := by simpa using h2
              by_cases h3 : 64 < cn
              · have q3 : decide ((64 : Int) < cn) = true := by simp; omega
                have HBAD := Lib.hid (bad_at (c := c) (p := 2) (f := 14) (by omega) (by omega) (fun q h1 h2 => by
                    obtain rfl : q = 1 := by omega
                    exact HS1.out) (scan_at (f := 14) HZ.out (HF.out.trans (congrArg some (show _ = (14 : Int) from (by simp [TK.fault, h3]; omega)))) (by decide) 0))
                clear h1 h2 h3
                go_wp2
                refine bodyPost_ret (v := .agg #[.int .i64 14, .int .i64 2, .int .i64 a]) (results_cell_row rfl _ _ (w.heap.size + 1) 84 #[.int .i64 14, .int .i64 2, .int .i64 a] (0, 0) _ rfl ?hg5 Try.underlying84 rfl (info_bad _ _ _)) rfl ?_
                case hg5 =>
                  repeat (first | (with_reducible exact HR.out.h1) | (with_reducible apply heap_set2c) | (with_reducible apply heap_drewNc) | (with_reducible apply heap_alloc'))
                  all_goals rfl
                · rw [HBAD.out]
                  refine ⟨by simp [badV], ?_⟩
                  refine upd_set_new (g := w.heap.size + 1) HR.out.u ?_ (by omega)
                  repeat (first | (with_reducible exact Upd.refl _ _) | (with_reducible refine Upd.setCell ?_ (by simp) _) | (with_reducible refine Upd.drewN ?_ _) | (with_reducible refine Upd.alloc ?_ _))
              · have q3 : decide ((64 : Int) < cn) = false := by simp; omega
                have HOK := Lib.hid (HF.out.trans (congrArg some (show TK.fault ⟨p, l, ca, cn, cc⟩ = 0 by simp [TK.fault, h3]; omega)))
                clear h1 h2 h3
                go_wp2
                have ha := HA.out
                go_roundg (c.ts.length - (a + 1))
                case measure => omega
                case rel =>
                  refine ⟨a + 1, by omega, by go_num, fun j hj => ?_, HU0.out⟩
                  by_cases e : j = a
                  · subst e; exact HOK.out
                  · exact HZ.out j (by omega)
        · have HS2 := Lib.hid (scan_none (l := c.faults 2) (fun j hj => hz j (by rw [HL.out.2.1] at hj; omega)) 0)
          have HRB := Lib.hid (HRA.out.upd hu)
          have HCB := Lib.hid (HCA.out.upd hu)
          obtain ⟨wB, rfl⟩ : ∃ wX : World, wX = wr := ⟨_, rfl⟩
          have hge : ¬ ((a : Int) < c.ts.length) := by omega
          obtain ⟨b0, b1, b2, b3⟩ := cells4 HRB.out.h0
          clear ha hz hu HA HZ HU0 HR HCR
          go_wp2
          go_loopg [8] c.ls.length (fun m i wr => ∃ a : Nat, m + a = c.ls.length ∧ i = .int .i64 a ∧ (∀ j, j < a → (c.faults 3)[j]? = some 0) ∧ Upd [] wB wr)
          case atStart => exact ⟨0, by omega, rfl, fun j h => by omega, Upd.refl _ _⟩
          case round =>
            obtain ⟨a, ha, rfl, hz, hu⟩ := hrel
            have HA := Lib.hid ha
            have HZ := Lib.hid hz
            have HR := Lib.hid (HRB.out.upd hu)
            have HCR := Lib.hid (HCB.out.upd hu)
            have HU0 := Lib.hid hu
            obtain ⟨b0, b1, b2, b3⟩ := cells4 HR.out.h0
            by_cases hlt : a < c.ls.length
            · obtain ⟨tb, to, rfl, htb, hc⟩ := els_at HCR.out.l hlt
              have hm := HCR.out.lcn c.ls[a] (List.getElem_mem hlt)
              have hf : (c.faults 3)[a]? = some (LV.fault c.ls[a]) := by simp [CF.faults, List.getElem?_eq_getElem hlt]
              have hn2 := HT.out.2.1
              generalize c.ls[a] = x at hc hm hf
              obtain ⟨r, ca, cn, cc⟩ := x
              have k0 := hc 0 _ rfl
              have k1 := hc 1 _ rfl
              rw [Nat.add_zero] at k0
              have HF := Lib.hid hf
              have HRM := Lib.hid fun w => room_r r w
              have HPW := Lib.hid (show ∀ b, pw7 r = b → LV.fault ⟨r, ca, cn, cc⟩ = if b then (if 64 < cn then 14 else 0) else 13 from fun b h => by rw [← h]; rfl)
              generalize pw7 r = q at HRM HPW
              unfold maxLen at hm
              simp only at hm
              obtain ⟨m0, m1, m2⟩ := cells3 HR.out.h1
              have zf := fun i => frozen_of_heap HR.out.h1 i
              have zl := heap_lt HR.out.h1
              clear ha hz hu hc hf
              cases q
              · have HBAD := Lib.hid (bad_at (c := c) (p := 3) (f := 13) (by omega) (by omega) (fun q h1 h2 => by
                    have : q = 1 ∨ q = 2 := by omega
                    rcases this with rfl | rfl
                    · exact HS1.out
                    · exact HS2.out) (scan_at (f := 13) HZ.out (HF.out.trans (congrArg some (show _ = (13 : Int) from (HPW.out _ rfl)))) (by decide) 0))
                go_wp2_with (go_at_call 67; refine (HRM.out _).mono ?_; rintro e w1 ⟨rfl, rfl⟩)
                refine bodyPost_ret (v := .agg #[.int .i64 13, .int .i64 3, .int .i64 a]) (results_cell_row rfl _ _ (w.heap.size + 1) 84 #[.int .i64 13, .int .i64 3, .int .i64 a] (0, 0) _ rfl ?hg6 Try.underlying84 rfl (info_bad _ _ _)) rfl ?_
                case hg6 =>
                  repeat (first | (with_reducible exact HR.out.h1) | (with_reducible apply heap_set2c) | (with_reducible apply heap_drewNc) | (with_reducible apply heap_alloc'))
                  all_goals rfl
                · rw [HBAD.out]
                  refine ⟨by simp [badV], ?_⟩
                  refine upd_set_new (g := w.heap.size + 1) HR.out.u ?_ (by omega)
                  repeat (first | (with_reducible exact Upd.refl _ _) | (with_reducible refine Upd.setCell ?_ (by simp) _) | (with_reducible refine Upd.drewN ?_ _) | (with_reducible refine Upd.alloc ?_ _))
              · by_cases h3 : 64 < cn
                · have q3 : decide ((64 : Int) < cn) = true := by simp; omega
                  have HBAD := Lib.hid (bad_at (c := c) (p := 3) (f := 14) (by omega) (by omega) (fun q h1 h2 => by
                      have : q = 1 ∨ q = 2 := by omega
                      rcases this with rfl | rfl
                      · exact HS1.out
                      · exact HS2.out) (scan_at (f := 14) HZ.out (HF.out.trans (congrArg some (show _ = (14 : Int) from ((HPW.out _ rfl).trans (by simp [h3]))))) (by decide) 0))
                  clear h3
                  go_wp2_with (go_at_call 67; refine (HRM.out _).mono ?_; rintro e w1 ⟨rfl, rfl⟩)
                  refine bodyPost_ret (v := .agg #[.int .i64 14, .int .i64 3, .int .i64 a]) (results_cell_row rfl _ _ (w.heap.size + 1) 84 #[.int .i64 14, .int .i64 3, .int .i64 a] (0, 0) _ rfl ?hg7 Try.underlying84 rfl (info_bad _ _ _)) rfl ?_
                  case hg7 =>
                    repeat (first | (with_reducible exact HR.out.h1) | (with_reducible apply heap_set2c) | (with_reducible apply heap_drewNc) | (with_reducible apply heap_alloc'))
                    all_goals rfl
                  · rw [HBAD.out]
                    refine ⟨by simp [badV], ?_⟩
                    refine upd_set_new (g := w.heap.size + 1) HR.out.u ?_ (by omega)
                    repeat (first | (with_reducible exact Upd.refl _ _) | (with_reducible refine Upd.setCell ?_ (by simp) _) | (with_reducible refine Upd.drewN ?_ _) | (with_reducible refine Upd.alloc ?_ _))
                · have q3 : decide ((64 : Int) < cn) = false := by simp; omega
                  have HOK := Lib.hid (HF.out.trans (congrArg some ((HPW.out _ rfl).trans (show (if true then (if 64 < cn then 14 else 0) else 13) = (0 : Int) by simp [h3]))))
                  clear h3
                  go_wp2_with (go_at_call 67; refine (HRM.out _).mono ?_; rintro e w1 ⟨rfl, rfl⟩)
                  have ha := HA.out
                  go_roundg (c.ls.length - (a + 1))
                  case measure => omega
                  case rel =>
                    refine ⟨a + 1, by omega, by go_num, fun j hj => ?_, HU0.out⟩
                    by_cases e : j = a
                    · subst e; exact HOK.out
                    · exact HZ.out j (by omega)
            · have HS3 := Lib.hid (scan_none (l := c.faults 3) (fun j hj => hz j (by rw [HL.out.2.2.1] at hj; omega)) 0)
              have HRC := Lib.hid (HRB.out.upd hu)
              have HCC := Lib.hid (HCB.out.upd hu)
              obtain ⟨wC, rfl⟩ : ∃ wX : World, wX = wr := ⟨_, rfl⟩
              have hge : ¬ ((a : Int) < c.ls.length) := by omega
              obtain ⟨b0, b1, b2, b3⟩ := cells4 HRC.out.h0
              clear ha hz hu HA HZ HU0 HR HCR
              go_wp2
              go_loopg [9] c.os.length (fun m i wr => ∃ a : Nat, m + a = c.os.length ∧ i = .int .i64 a ∧ (∀ j, j < a → (c.faults 4)[j]? = some 0) ∧ Upd [] wC wr)
              case atStart => exact ⟨0, by omega, rfl, fun j h => by omega, Upd.refl _ _⟩
              case round =>
                obtain ⟨a, ha, rfl, hz, hu⟩ := hrel
                have HA := Lib.hid ha
                have HZ := Lib.hid hz
                have HR := Lib.hid (HRC.out.upd hu)
                have HCR := Lib.hid (HCC.out.upd hu)
                have HU0 := Lib.hid hu
                obtain ⟨b0, b1, b2, b3⟩ := cells4 HR.out.h0
                by_cases hlt : a < c.os.length
                · have hf : (c.faults 4)[a]? = some (OBJ.fault c.ts.length c.ls.length c.os[a]) := by simp [CF.faults, List.getElem?_eq_getElem hlt]
                  obtain ⟨tb, to, rfl, htb, hc⟩ := els_at HCR.out.o hlt
                  have hn2 := HT.out.2.2
                  generalize c.os[a] = x at hc hf
                  obtain ⟨k, cap, wd, rt, f, t, i0, i1, i2, i3⟩ := x
                  have k0 := hc 0 _ rfl
                  have k1 := hc 1 _ rfl
                  have k2 := hc 2 _ rfl
                  have k3 := hc 3 _ rfl
                  have k4 := hc 4 _ rfl
                  have k5 := hc 5 _ rfl
                  have k6 := hc 6 _ rfl
                  have k7 := hc 7 _ rfl
                  have k8 := hc 8 _ rfl
                  have k9 := hc 9 _ rfl
                  rw [Nat.add_zero] at k0
                  have HF := Lib.hid hf
                  have HRM := Lib.hid fun w => room_r cap w
                  have HRT := Lib.hid fun w => rright_any cap wd rt f t i0 i1 i2 i3 w k
                  have HPW := Lib.hid (show ∀ q1 q2 q3 q4 q5 : Bool, (decide (1 ≤ k) && decide (k ≤ 4)) = q1 → (k == 1) = q2 → pw7 cap = q3 → rightB k cap wd rt = q4 → ownB c.ts.length c.ls.length k f t = q5 → OBJ.fault c.ts.length c.ls.length ⟨k, cap, wd, rt, f, t, i0, i1, i2, i3⟩ = if q1 then (if q2 && !q3 then 13 else if q4 then (if q5 then 0 else 10) else 2) else 12 from fun q1 q2 q3 q4 q5 h1 h2 h3 h4 h5 => by rw [← h1, ← h2, ← h3, ← h4, ← h5]; rfl)
                  have HKK := Lib.hid (show (decide (1 ≤ k) && decide (k ≤ 4)) = true → 1 ≤ k ∧ k ≤ 4 from fun h => by simpa using h)
                  obtain ⟨m0, m1, m2⟩ := cells3 HR.out.h1
                  have zf := fun i => frozen_of_heap HR.out.h1 i
                  have zl := heap_lt HR.out.h1
                  clear ha hz hu hc hf
                  by_cases hk1 : k < 1
                  · have q1 : decide (k < 1) = true := by simpa using hk1
                    have HBAD := Lib.hid (bad_at (c := c) (p := 4) (f := 12) (by omega) (by omega) (fun q h1 h2 => by
                        have : q = 1 ∨ q = 2 ∨ q = 3 := by omega
                        rcases this with rfl | rfl | rfl
                        · exact HS1.out
                        · exact HS2.out
                        · exact HS3.out) (scan_at (f := 12) HZ.out (HF.out.trans (congrArg some (show _ = (12 : Int) from (HPW.out false _ _ _ _ (by rw [decide_eq_false (by omega)]; rfl) rfl rfl rfl rfl)))) (by decide) 0))
                    clear hk1
                    go_wp2
                    refine bodyPost_ret (v := .agg #[.int .i64 12, .int .i64 4, .int .i64 a]) (results_cell_row rfl _ _ (w.heap.size + 1) 84 #[.int .i64 12, .int .i64 4, .int .i64 a] (0, 0) _ rfl ?hg8 Try.underlying84 rfl (info_bad _ _ _)) rfl ?_
                    case hg8 =>
                      repeat (first | (with_reducible exact HR.out.h1) | (with_reducible apply heap_set2c) | (with_reducible apply heap_drewNc) | (with_reducible apply heap_alloc'))
                      all_goals rfl
                    · rw [HBAD.out]
                      refine ⟨by simp [badV], ?_⟩
                      refine upd_set_new (g := w.heap.size + 1) HR.out.u ?_ (by omega)
                      repeat (first | (with_reducible exact Upd.refl _ _) | (with_reducible refine Upd.setCell ?_ (by simp) _) | (with_reducible refine Upd.drewN ?_ _) | (with_reducible refine Upd.alloc ?_ _))
                  · have q1 : decide (k < 1) = false := by simpa using hk1
                    by_cases hk4 : 4 < k
                    · have q2 : decide (4 < k) = true := by simpa using hk4
                      have HBAD := Lib.hid (bad_at (c := c) (p := 4) (f := 12) (by omega) (by omega) (fun q h1 h2 => by
                          have : q = 1 ∨ q = 2 ∨ q = 3 := by omega
                          rcases this with rfl | rfl | rfl
                          · exact HS1.out
                          · exact HS2.out
                          · exact HS3.out) (scan_at (f := 12) HZ.out (HF.out.trans (congrArg some (show _ = (12 : Int) from (HPW.out false _ _ _ _ (by rw [decide_eq_false (p := k ≤ 4) (by omega), Bool.and_false]) rfl rfl rfl rfl)))) (by decide) 0))
                      clear hk1 hk4
                      go_wp2
                      refine bodyPost_ret (v := .agg #[.int .i64 12, .int .i64 4, .int .i64 a]) (results_cell_row rfl _ _ (w.heap.size + 1) 84 #[.int .i64 12, .int .i64 4, .int .i64 a] (0, 0) _ rfl ?hg9 Try.underlying84 rfl (info_bad _ _ _)) rfl ?_
                      case hg9 =>
                        repeat (first | (with_reducible exact HR.out.h1) | (with_reducible apply heap_set2c) | (with_reducible apply heap_drewNc) | (with_reducible apply heap_alloc'))
                        all_goals rfl
                      · rw [HBAD.out]
                        refine ⟨by simp [badV], ?_⟩
                        refine upd_set_new (g := w.heap.size + 1) HR.out.u ?_ (by omega)
                        repeat (first | (with_reducible exact Upd.refl _ _) | (with_reducible refine Upd.setCell ?_ (by simp) _) | (with_reducible refine Upd.drewN ?_ _) | (with_reducible refine Upd.alloc ?_ _))
                    · have q2 : decide (4 < k) = false := by simpa using hk4
                      have hkk : 1 ≤ k ∧ k ≤ 4 := by omega
                      have hq1 : (decide (1 ≤ k) && decide (k ≤ 4)) = true := by simpa using hkk
                      rw [hq1] at HPW
                      clear hq1 hk1 hk4
                      generalize pw7 cap = q3 at HRM HPW
                      generalize rightB k cap wd rt = q4 at HRT HPW
                      obtain ⟨q5, hq5⟩ : ∃ q5, ownB c.ts.length c.ls.length k f t = q5 := ⟨_, rfl⟩
                      have HQ5 := Lib.hid hq5
                      rw [hq5] at HPW
                      clear hq5
                      rcases hk : (k == 1) with _ | _
                      · cases q4
                        · have HBAD := Lib.hid (bad_at (c := c) (p := 4) (f := 2) (by omega) (by omega) (fun q h1 h2 => by
                              have : q = 1 ∨ q = 2 ∨ q = 3 := by omega
                              rcases this with rfl | rfl | rfl
                              · exact HS1.out
                              · exact HS2.out
                              · exact HS3.out) (scan_at (f := 2) HZ.out (HF.out.trans (congrArg some (show _ = (2 : Int) from (HPW.out _ _ _ _ _ rfl hk rfl rfl rfl)))) (by decide) 0))
                          go_wp2_with (first | (go_at_call 67; refine (HRM.out _).mono ?_; rintro e w1 ⟨rfl, rfl⟩))
                          refine (HRT.out _).mono ?_
                          rintro e w1 ⟨rfl, hu1⟩
                          have HR1 := Lib.hid (HR.out.upd (((Upd.refl [] wr).alloc _).trans hu1))
                          obtain ⟨m0, m1, m2⟩ := cells3 HR1.out.h1
                          have zf := fun i => frozen_of_heap HR1.out.h1 i
                          have zl := heap_lt HR1.out.h1
                          clear hu1
                          go_wp2
                          refine bodyPost_ret (v := .agg #[.int .i64 2, .int .i64 4, .int .i64 a]) (results_cell_row rfl _ _ (w.heap.size + 1) 84 #[.int .i64 2, .int .i64 4, .int .i64 a] (0, 0) _ rfl ?hg10 Try.underlying84 rfl (info_bad _ _ _)) rfl ?_
                          case hg10 =>
                            repeat (first | (with_reducible exact HR1.out.h1) | (with_reducible apply heap_set2c) | (with_reducible apply heap_drewNc) | (with_reducible apply heap_alloc'))
                            all_goals rfl
                          · rw [HBAD.out]
                            refine ⟨by simp [badV], ?_⟩
                            refine upd_set_new (g := w.heap.size + 1) HR1.out.u ?_ (by omega)
                            repeat (first | (with_reducible exact Upd.refl _ _) | (with_reducible refine Upd.setCell ?_ (by simp) _) | (with_reducible refine Upd.drewN ?_ _) | (with_reducible refine Upd.alloc ?_ _))
                        · cases q5
                          · have HBAD := Lib.hid (bad_at (c := c) (p := 4) (f := 10) (by omega) (by omega) (fun q h1 h2 => by
                                have : q = 1 ∨ q = 2 ∨ q = 3 := by omega
                                rcases this with rfl | rfl | rfl
                                · exact HS1.out
                                · exact HS2.out
                                · exact HS3.out) (scan_at (f := 10) HZ.out (HF.out.trans (congrArg some (show _ = (10 : Int) from (HPW.out _ _ _ _ _ rfl hk rfl rfl rfl)))) (by decide) 0))
                            go_wp2_with (first | (go_at_call 67; refine (HRM.out _).mono ?_; rintro e w1 ⟨rfl, rfl⟩))
                            refine (HRT.out _).mono ?_
                            rintro e w1 ⟨rfl, hu1⟩
                            have HR1 := Lib.hid (HR.out.upd (((Upd.refl [] wr).alloc _).trans hu1))
                            have HRG := Lib.hid (range_of (hu1.keepb (heap_alloc_new _ _) (by simp)) (o := 0) (l := [.int .i64 k, .int .i64 cap, .int .i64 wd, .int .i64 rt, .int .i64 f, .int .i64 t, .int .u32 i0, .int .u32 i1, .int .u32 i2, .int .u32 i3]) rfl)
                            obtain ⟨n0, n1, n2, n3⟩ := cells4 HR1.out.h0
                            clear hu1
                            go_wp2_with (first | (refine wpList_load_mid rfl 112 _ rfl wr.heap.size 0 rfl _ _ HRG.out Try.underlying112 rfl (by kernel_rfl) ?_) | (refine Go.RowKit.Hid.out ?_; refine Lib.hid ?_; fail))
                            refine (HOW.out _ _ _ _ _ _ _ _ _ _ _ hkk.1 hkk.2).mono ?_
                            rw [HQ5.out]
                            rintro e w2 ⟨rfl, hu2⟩
                            have HR2 := Lib.hid (HR1.out.upd hu2)
                            obtain ⟨m0, m1, m2⟩ := cells3 HR2.out.h1
                            have zf := fun i => frozen_of_heap HR2.out.h1 i
                            have zl := heap_lt HR2.out.h1
                            clear hu2
                            go_wp2
                            refine bodyPost_ret (v := .agg #[.int .i64 10, .int .i64 4, .int .i64 a]) (results_cell_row rfl _ _ (w.heap.size + 1) 84 #[.int .i64 10, .int .i64 4, .int .i64 a] (0, 0) _ rfl ?hg11 Try.underlying84 rfl (info_bad _ _ _)) rfl ?_
                            case hg11 =>
                              repeat (first | (with_reducible exact HR2.out.h1) | (with_reducible apply heap_set2c) | (with_reducible apply heap_drewNc) | (with_reducible apply heap_alloc'))
                              all_goals rfl
                            · rw [HBAD.out]
                              refine ⟨by simp [badV], ?_⟩
                              refine upd_set_new (g := w.heap.size + 1) HR2.out.u ?_ (by omega)
                              repeat (first | (with_reducible exact Upd.refl _ _) | (with_reducible refine Upd.setCell ?_ (by simp) _) | (with_reducible refine Upd.drewN ?_ _) | (with_reducible refine Upd.alloc ?_ _))
                          · have HOK := Lib.hid (HF.out.trans (congrArg some (HPW.out _ _ _ _ _ rfl hk rfl rfl rfl)))
                            go_wp2_with (first | (go_at_call 67; refine (HRM.out _).mono ?_; rintro e w1 ⟨rfl, rfl⟩))
                            refine (HRT.out _).mono ?_
                            rintro e w1 ⟨rfl, hu1⟩
                            have HU1 := Lib.hid (((Upd.refl [] wr).alloc _).trans hu1)
                            have HR1 := Lib.hid (HR.out.upd HU1.out)
                            have HRG := Lib.hid (range_of (hu1.keepb (heap_alloc_new _ _) (by simp)) (o := 0) (l := [.int .i64 k, .int .i64 cap, .int .i64 wd, .int .i64 rt, .int .i64 f, .int .i64 t, .int .u32 i0, .int .u32 i1, .int .u32 i2, .int .u32 i3]) rfl)
                            obtain ⟨n0, n1, n2, n3⟩ := cells4 HR1.out.h0
                            clear hu1
                            go_wp2_with (first | (refine wpList_load_mid rfl 112 _ rfl wr.heap.size 0 rfl _ _ HRG.out Try.underlying112 rfl (by kernel_rfl) ?_) | (refine Go.RowKit.Hid.out ?_; refine Lib.hid ?_; fail))
                            refine (HOW.out _ _ _ _ _ _ _ _ _ _ _ hkk.1 hkk.2).mono ?_
                            rw [HQ5.out]
                            rintro e w2 ⟨rfl, hu2⟩
                            have HU2 := Lib.hid (HU0.out.trans (HU1.out.trans hu2))
                            clear hu2
                            go_wp2
                            have ha := HA.out
                            go_roundg (c.os.length - (a + 1))
                            case measure => omega
                            case rel =>
                              refine ⟨a + 1, by omega, by go_num, fun j hj => ?_, HU2.out⟩
                              by_cases e : j = a
                              · subst e; exact HOK.out
                              · exact HZ.out j (by omega)
                      · cases q3
                        · have HBAD := Lib.hid (bad_at (c := c) (p := 4) (f := 13) (by omega) (by omega) (fun q h1 h2 => by
                              have : q = 1 ∨ q = 2 ∨ q = 3 := by omega
                              rcases this with rfl | rfl | rfl
                              · exact HS1.out
                              · exact HS2.out
                              · exact HS3.out) (scan_at (f := 13) HZ.out (HF.out.trans (congrArg some (show _ = (13 : Int) from (HPW.out _ _ _ _ _ rfl hk rfl rfl rfl)))) (by decide) 0))
                          go_wp2_with (first | (go_at_call 67; refine (HRM.out _).mono ?_; rintro e w1 ⟨rfl, rfl⟩))
                          refine bodyPost_ret (v := .agg #[.int .i64 13, .int .i64 4, .int .i64 a]) (results_cell_row rfl _ _ (w.heap.size + 1) 84 #[.int .i64 13, .int .i64 4, .int .i64 a] (0, 0) _ rfl ?hg12 Try.underlying84 rfl (info_bad _ _ _)) rfl ?_
                          case hg12 =>
                            repeat (first | (with_reducible exact HR.out.h1) | (with_reducible apply heap_set2c) | (with_reducible apply heap_drewNc) | (with_reducible apply heap_alloc'))
                            all_goals rfl
                          · rw [HBAD.out]
                            refine ⟨by simp [badV], ?_⟩
                            refine upd_set_new (g := w.heap.size + 1) HR.out.u ?_ (by omega)
                            repeat (first | (with_reducible exact Upd.refl _ _) | (with_reducible refine Upd.setCell ?_ (by simp) _) | (with_reducible refine Upd.drewN ?_ _) | (with_reducible refine Upd.alloc ?_ _))
                        · cases q4
                          · have HBAD := Lib.hid (bad_at (c := c) (p := 4) (f := 2) (by omega) (by omega) (fun q h1 h2 => by
                                have : q = 1 ∨ q = 2 ∨ q = 3 := by omega
                                rcases this with rfl | rfl | rfl
                                · exact HS1.out
                                · exact HS2.out
                                · exact HS3.out) (scan_at (f := 2) HZ.out (HF.out.trans (congrArg some (show _ = (2 : Int) from (HPW.out _ _ _ _ _ rfl hk rfl rfl rfl)))) (by decide) 0))
                            go_wp2_with (first | (go_at_call 67; refine (HRM.out _).mono ?_; rintro e w1 ⟨rfl, rfl⟩))
                            refine (HRT.out _).mono ?_
                            rintro e w1 ⟨rfl, hu1⟩
                            have HR1 := Lib.hid (HR.out.upd (((Upd.refl [] wr).alloc _).trans hu1))
                            obtain ⟨m0, m1, m2⟩ := cells3 HR1.out.h1
                            have zf := fun i => frozen_of_heap HR1.out.h1 i
                            have zl := heap_lt HR1.out.h1
                            clear hu1
                            go_wp2
                            refine bodyPost_ret (v := .agg #[.int .i64 2, .int .i64 4, .int .i64 a]) (results_cell_row rfl _ _ (w.heap.size + 1) 84 #[.int .i64 2, .int .i64 4, .int .i64 a] (0, 0) _ rfl ?hg13 Try.underlying84 rfl (info_bad _ _ _)) rfl ?_
                            case hg13 =>
                              repeat (first | (with_reducible exact HR1.out.h1) | (with_reducible apply heap_set2c) | (with_reducible apply heap_drewNc) | (with_reducible apply heap_alloc'))
                              all_goals rfl
                            · rw [HBAD.out]
                              refine ⟨by simp [badV], ?_⟩
                              refine upd_set_new (g := w.heap.size + 1) HR1.out.u ?_ (by omega)
                              repeat (first | (with_reducible exact Upd.refl _ _) | (with_reducible refine Upd.setCell ?_ (by simp) _) | (with_reducible refine Upd.drewN ?_ _) | (with_reducible refine Upd.alloc ?_ _))
                          · cases q5
                            · have HBAD := Lib.hid (bad_at (c := c) (p := 4) (f := 10) (by omega) (by omega) (fun q h1 h2 => by
                                  have : q = 1 ∨ q = 2 ∨ q = 3 := by omega
                                  rcases this with rfl | rfl | rfl
                                  · exact HS1.out
                                  · exact HS2.out
                                  · exact HS3.out) (scan_at (f := 10) HZ.out (HF.out.trans (congrArg some (show _ = (10 : Int) from (HPW.out _ _ _ _ _ rfl hk rfl rfl rfl)))) (by decide) 0))
                              go_wp2_with (first | (go_at_call 67; refine (HRM.out _).mono ?_; rintro e w1 ⟨rfl, rfl⟩))
                              refine (HRT.out _).mono ?_
                              rintro e w1 ⟨rfl, hu1⟩
                              have HR1 := Lib.hid (HR.out.upd (((Upd.refl [] wr).alloc _).trans hu1))
                              have HRG := Lib.hid (range_of (hu1.keepb (heap_alloc_new _ _) (by simp)) (o := 0) (l := [.int .i64 k, .int .i64 cap, .int .i64 wd, .int .i64 rt, .int .i64 f, .int .i64 t, .int .u32 i0, .int .u32 i1, .int .u32 i2, .int .u32 i3]) rfl)
                              obtain ⟨n0, n1, n2, n3⟩ := cells4 HR1.out.h0
                              clear hu1
                              go_wp2_with (first | (refine wpList_load_mid rfl 112 _ rfl wr.heap.size 0 rfl _ _ HRG.out Try.underlying112 rfl (by kernel_rfl) ?_) | (refine Go.RowKit.Hid.out ?_; refine Lib.hid ?_; fail))
                              refine (HOW.out _ _ _ _ _ _ _ _ _ _ _ hkk.1 hkk.2).mono ?_
                              rw [HQ5.out]
                              rintro e w2 ⟨rfl, hu2⟩
                              have HR2 := Lib.hid (HR1.out.upd hu2)
                              obtain ⟨m0, m1, m2⟩ := cells3 HR2.out.h1
                              have zf := fun i => frozen_of_heap HR2.out.h1 i
                              have zl := heap_lt HR2.out.h1
                              clear hu2
                              go_wp2
                              refine bodyPost_ret (v := .agg #[.int .i64 10, .int .i64 4, .int .i64 a]) (results_cell_row rfl _ _ (w.heap.size + 1) 84 #[.int .i64 10, .int .i64 4, .int .i64 a] (0, 0) _ rfl ?hg14 Try.underlying84 rfl (info_bad _ _ _)) rfl ?_
                              case hg14 =>
                                repeat (first | (with_reducible exact HR2.out.h1) | (with_reducible apply heap_set2c) | (with_reducible apply heap_drewNc) | (with_reducible apply heap_alloc'))
                                all_goals rfl
                              · rw [HBAD.out]
                                refine ⟨by simp [badV], ?_⟩
                                refine upd_set_new (g := w.heap.size + 1) HR2.out.u ?_ (by omega)
                                repeat (first | (with_reducible exact Upd.refl _ _) | (with_reducible refine Upd.setCell ?_ (by simp) _) | (with_reducible refine Upd.drewN ?_ _) | (with_reducible refine Upd.alloc ?_ _))
                            · have HOK := Lib.hid (HF.out.trans (congrArg some (HPW.out _ _ _ _ _ rfl hk rfl rfl rfl)))
                              go_wp2_with (first | (go_at_call 67; refine (HRM.out _).mono ?_; rintro e w1 ⟨rfl, rfl⟩))
                              refine (HRT.out _).mono ?_
                              rintro e w1 ⟨rfl, hu1⟩
                              have HU1 := Lib.hid (((Upd.refl [] wr).alloc _).trans hu1)
                              have HR1 := Lib.hid (HR.out.upd HU1.out)
                              have HRG := Lib.hid (range_of (hu1.keepb (heap_alloc_new _ _) (by simp)) (o := 0) (l := [.int .i64 k, .int .i64 cap, .int .i64 wd, .int .i64 rt, .int .i64 f, .int .i64 t, .int .u32 i0, .int .u32 i1, .int .u32 i2, .int .u32 i3]) rfl)
                              obtain ⟨n0, n1, n2, n3⟩ := cells4 HR1.out.h0
                              clear hu1
                              go_wp2_with (first | (refine wpList_load_mid rfl 112 _ rfl wr.heap.size 0 rfl _ _ HRG.out Try.underlying112 rfl (by kernel_rfl) ?_) | (refine Go.RowKit.Hid.out ?_; refine Lib.hid ?_; fail))
                              refine (HOW.out _ _ _ _ _ _ _ _ _ _ _ hkk.1 hkk.2).mono ?_
                              rw [HQ5.out]
                              rintro e w2 ⟨rfl, hu2⟩
                              have HU2 := Lib.hid (HU0.out.trans (HU1.out.trans hu2))
                              clear hu2
                              go_wp2
                              have ha := HA.out
                              go_roundg (c.os.length - (a + 1))
                              case measure => omega
                              case rel =>
                                refine ⟨a + 1, by omega, by go_num, fun j hj => ?_, HU2.out⟩
                                by_cases e : j = a
                                · subst e; exact HOK.out
                                · exact HZ.out j (by omega)
                · have HS4 := Lib.hid (scan_none (l := c.faults 4) (fun j hj => hz j (by rw [HL.out.2.2.2] at hj; omega)) 0)
                  have HRD := Lib.hid (HRC.out.upd hu)
                  have HCD := Lib.hid (HCC.out.upd hu)
                  obtain ⟨wD, rfl⟩ : ∃ wX : World, wX = wr := ⟨_, rfl⟩
                  have hge : ¬ ((a : Int) < c.os.length) := by omega
                  obtain ⟨b0, b1, b2, b3⟩ := cells4 HRD.out.h0
                  clear ha hz hu HA HZ HU0 HR HCR
                  obtain ⟨m0, m1, m2⟩ := cells3 HRD.out.h1
                  have zf := fun i => frozen_of_heap HRD.out.h1 i
                  have zl := heap_lt HRD.out.h1
                  have HBAD := Lib.hid (bad_none (c := c) (fun q h1 h2 => by
                    have : q = 1 ∨ q = 2 ∨ q = 3 ∨ q = 4 := by omega
                    rcases this with rfl | rfl | rfl | rfl
                    · exact HS1.out
                    · exact HS2.out
                    · exact HS3.out
                    · exact HS4.out))
                  go_wp2
                  refine bodyPost_ret (v := .agg #[.int .i64 0, .int .i64 0, .int .i64 0]) (results_cell_row rfl _ _ (w.heap.size + 1) 84 #[.int .i64 0, .int .i64 0, .int .i64 0] (0, 0) _ rfl ?hg15 Try.underlying84 rfl (info_bad _ _ _)) rfl ?_
                  case hg15 =>
                    repeat (first | (with_reducible exact HRD.out.h1) | (with_reducible apply heap_set2c) | (with_reducible apply heap_drewNc) | (with_reducible apply heap_alloc'))
                    all_goals rfl
                  · rw [HBAD.out]
                    refine ⟨by simp [badV], ?_⟩
                    refine upd_set_new (g := w.heap.size + 1) HRD.out.u ?_ (by omega)
                    repeat (first | (with_reducible exact Upd.refl _ _) | (with_reducible refine Upd.setCell ?_ (by simp) _) | (with_reducible refine Upd.drewN ?_ _) | (with_reducible refine Upd.alloc ?_ _))
end
end Go.Proofs.Ytkjonflmokapcaa