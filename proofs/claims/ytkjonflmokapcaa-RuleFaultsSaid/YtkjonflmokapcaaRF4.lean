/- Package rule: First. -/
import Derived.Test.YtkjonflmokapcaaRF3
import Derived.Laws.EntriesVeiled
import Derived.Outline
set_option linter.unusedVariables false
set_option linter.unusedSimpArgs false
namespace Go.Proofs.Ytkjonflmokapcaa
open Go.RowKit

def firstP (c : CF) (ctx k ob v0 : Int) : Int :=
  if q1B c ctx then 1 else if q2B ctx k then 11 else if q3B k then 1 else if q4B c k ob then 4 else if q5B k v0 then 2 else if q6B c ctx k then 10 else if needsL k = [] then 0 else objP c ctx k ob (needsL k)
theorem tk_ok {c : CF} (h : c.bad.1 = 0) (hl : c.ls.length ≤ 1000) : -1000 ≤ c.tk ∧ c.tk ≤ 1000 := by
  have hz := bad_zero h 1 (by omega) (by omega) (cntF c.tk 0 c.ls.length) (by simp [CF.faults])
  by_cases h1 : c.tk < 0
  · rw [cntF_low h1] at hz; cases hz
  · by_cases h2 : (c.ls.length : Int) < c.tk
    · rw [cntF_high h2] at hz; cases hz
    · omega
theorem q1_false {c : CF} {ctx : Int} (h : q1B c ctx = false) : c.bad.1 = 0 := by
  unfold q1B at h
  simp at h
  exact h.1
theorem needs_len (k : Int) : (needsL k).length ≤ 4 := by
  unfold needsL
  split <;> (try split) <;> (try split) <;> (try split) <;> (try split) <;> decide

section
variable {ta la oa : Option Addr} {tc lc oc : Nat} {c : CF} {w : World} {ctx k ob v0 v1 v2 v3 n : Int}
set_option maxRecDepth 100000 in
set_option maxHeartbeats 8000000 in
theorem first_c (h : CFR w ta la oa c) : Calls Try.prog 50 #[.agg (cfA ta c.ts.length tc la c.ls.length lc oa c.os.length oc c.tk), .int .i64 ctx, .agg (caA k ob v0 v1 v2 v3 n)] w fun e w' => e = .returned (.int .i64 (firstP c ctx k ob v0)) ∧ Upd [] w w' := by
  have HC := Lib.hid h
  have hmf : ∀ (fn : Fn) (first cap : Array Value) (w : World), (Instr.makeFunc fn first cap).run Try.prog w = .ok (.func fn first cap) w := fun _ _ _ _ => rfl
  have HND := Lib.hid fun w => needs_c k w
  have HBB := Lib.hid (show ∀ w0, w0 = (((w.alloc (.cells (cfA ta c.ts.length tc la c.ls.length lc oa c.os.length oc c.tk) 77)).alloc (.cells #[.int .i64 ctx] 3)).alloc (.cells (caA k ob v0 v1 v2 v3 n) 91)) → (w0.heap[w.heap.size]? = some (.cells (cfA ta c.ts.length tc la c.ls.length lc oa c.os.length oc c.tk) 77) ∧ w0.heap[w.heap.size + 1]? = some (.cells #[.int .i64 ctx] 3) ∧ w0.heap[w.heap.size + 1 + 1]? = some (.cells (caA k ob v0 v1 v2 v3 n) 91)) ∧ Upd [] w w0 from fun w0 e => by
    subst e
    exact ⟨⟨heap_alloc' (heap_alloc' (heap_alloc_new _ _)), heap_alloc' (heap_alloc_at _ (by simp)), heap_alloc_at _ (by simp)⟩, (((Upd.refl _ _).alloc _).alloc _).alloc _⟩)

  have hx0 : ∀ (x0 x1 x2 x3 x4 x5 x6 x7 x8 x9 x10 x11 : Value) (w : World), (Instr.index 163 (.agg #[x0, x1, x2, x3, x4, x5, x6, x7, x8, x9, x10, x11]) (.int .i64 0)).run Try.prog w = .ok (.agg #[x0, x1]) w := fun x0 x1 x2 x3 x4 x5 x6 x7 x8 x9 x10 x11 w => by kernel_rfl
  have hx1 : ∀ (x0 x1 x2 x3 x4 x5 x6 x7 x8 x9 x10 x11 : Value) (w : World), (Instr.index 163 (.agg #[x0, x1, x2, x3, x4, x5, x6, x7, x8, x9, x10, x11]) (.int .i64 1)).run Try.prog w = .ok (.agg #[x2, x3]) w := fun x0 x1 x2 x3 x4 x5 x6 x7 x8 x9 x10 x11 w => by kernel_rfl
  have hx2 : ∀ (x0 x1 x2 x3 x4 x5 x6 x7 x8 x9 x10 x11 : Value) (w : World), (Instr.index 163 (.agg #[x0, x1, x2, x3, x4, x5, x6, x7, x8, x9, x10, x11]) (.int .i64 2)).run Try.prog w = .ok (.agg #[x4, x5]) w := fun x0 x1 x2 x3 x4 x5 x6 x7 x8 x9 x10 x11 w => by kernel_rfl
  have hx3 : ∀ (x0 x1 x2 x3 x4 x5 x6 x7 x8 x9 x10 x11 : Value) (w : World), (Instr.index 163 (.agg #[x0, x1, x2, x3, x4, x5, x6, x7, x8, x9, x10, x11]) (.int .i64 3)).run Try.prog w = .ok (.agg #[x6, x7]) w := fun x0 x1 x2 x3 x4 x5 x6 x7 x8 x9 x10 x11 w => by kernel_rfl
  have hx4 : ∀ (x0 x1 x2 x3 x4 x5 x6 x7 x8 x9 x10 x11 : Value) (w : World), (Instr.index 163 (.agg #[x0, x1, x2, x3, x4, x5, x6, x7, x8, x9, x10, x11]) (.int .i64 4)).run Try.prog w = .ok (.agg #[x8, x9]) w := fun x0 x1 x2 x3 x4 x5 x6 x7 x8 x9 x10 x11 w => by kernel_rfl
  have hx5 : ∀ (x0 x1 x2 x3 x4 x5 x6 x7 x8 x9 x10 x11 : Value) (w : World), (Instr.index 163 (.agg #[x0, x1, x2, x3, x4, x5, x6, x7, x8, x9, x10, x11]) (.int .i64 5)).run Try.prog w = .ok (.agg #[x10, x11]) w := fun x0 x1 x2 x3 x4 x5 x6 x7 x8 x9 x10 x11 w => by kernel_rfl
  clear h
  unfold cfA caA at *
  go_enter Try.func50, Try.ntmps50
  go_wp2_with fail
  go_step3
  go_wp2_with fail
  generalize hw0 : World.alloc _ _ = w0
  obtain ⟨⟨hb0, hb1, hb2⟩, hu0⟩ := HBB.out w0 hw0.symm
  have HB := Lib.hid (And.intro hb0 (And.intro hb1 hb2))
  have HU0 := Lib.hid hu0
  clear hw0 hb0 hb1 hb2 hu0 HBB
  refine (HND.out _).mono ?_
  rintro e w1 ⟨nv, rfl, hn, hu1⟩
  have HN1 := Lib.hid hn
  have HB1 := Lib.hid (And.intro (hu1.keepb HB.out.1 (by simp)) (And.intro (hu1.keepb HB.out.2.1 (by simp)) (hu1.keepb HB.out.2.2 (by simp))))
  have HU1 := Lib.hid (HU0.out.trans hu1)
  obtain ⟨d0, d1, d2, d3, d4, d5, d6⟩ := cells7 HB1.out.2.2
  have l0 := heap_lt HB1.out.1
  have l1 := heap_lt HB1.out.2.1
  have l2 := heap_lt HB1.out.2.2
  clear hn hu1
  have HB2 := Lib.hid (show ∀ (T : Obj) w2, (w1.alloc (.cells #[.bool (k == 10)] 4)).alloc T = w2 → RM w2 w.heap.size (w.heap.size + 1) (w.heap.size + 1 + 1) w1.heap.size (cfA ta c.ts.length tc la c.ls.length lc oa c.os.length oc c.tk) ctx k ob v0 v1 v2 v3 n (k == 10) ∧ NeedAt w2 nv (needsL k) ∧ Upd [] w w2 from fun T w2 e => by
    subst e
    have hu : Upd [] w1 ((w1.alloc (.cells #[.bool (k == 10)] 4)).alloc T) := ((Upd.refl _ _).alloc _).alloc _
    exact ⟨⟨hu.keepb HB1.out.1 (by simp), hu.keepb HB1.out.2.1 (by simp), hu.keepb HB1.out.2.2 (by simp), heap_alloc' (heap_alloc_new _ _)⟩, HN1.out.upd hu, HU1.out.trans hu⟩)
  go_wp2_with fail
  go_step3
  go_wp2_with fail
  generalize hw2 : World.alloc _ _ = w2
  obtain ⟨hrm, hna, hu2⟩ := HB2.out _ w2 hw2
  have HRM := Lib.hid hrm
  have HNA := Lib.hid hna
  have HU2 := Lib.hid hu2
  clear hw2 hrm hna hu2 HB2 HB1 HN1 HU1 HB HU0 d0 d1 d2 d3 d4 d5 d6 l0 l1 l2
  go_loopg [6, 32] 6 (fun m f i wr => ∃ a : Nat, m + a = 6 ∧ i = .int .i64 a ∧ f = .int .i64 0 ∧ (∀ j, j < a → [q1B c ctx, q2B ctx k, q3B k, q4B c k ob, q5B k v0, q6B c ctx k][j]? = some false) ∧ Upd [] w2 wr)
  case atStart => exact ⟨0, rfl, rfl, rfl, (fun j h => by omega), Upd.refl _ _⟩
  case round =>
    obtain ⟨a, ha, rfl, rfl, hz, hu⟩ := hrel
    have HA := Lib.hid ha
    have HZ := Lib.hid hz
    have HU := Lib.hid hu
    have HM := Lib.hid (HRM.out.upd hu)
    have HCW := Lib.hid (HC.out.upd (HU2.out.trans hu))
    have ha6 : a = 0 ∨ a = 1 ∨ a = 2 ∨ a = 3 ∨ a = 4 ∨ a = 5 ∨ a = 6 := by omega
    clear ha hz hu
    rcases ha6 with rfl | rfl | rfl | rfl | rfl | rfl | rfl

    · have HQ := Lib.hid (fun (w' : World) (hu : Upd [] wr w') => first1 (HCW.out.upd hu) (HM.out.upd hu))
      have hall : [q1B c ctx, q2B ctx k, q3B k, q4B c k ob, q5B k v0, q6B c ctx k][0]? = some (q1B c ctx) := rfl
      have HALL := Lib.hid hall
      clear hall
      rcases hq : q1B c ctx with _ | _
      · have HAL2 := Lib.hid (HALL.out.trans (congrArg some hq))
        rw [hq] at HQ
        clear hq HALL
        go_wp2_with fail
        refine (HQ.out _ ((Upd.refl _ _).alloc _)).mono ?_
        rintro e w3 ⟨rfl, hu3⟩
        have HU3 := Lib.hid (HU.out.trans (((Upd.refl [] wr).alloc _).trans hu3))
        clear hu3
        go_wp2
        have ha := HA.out
        go_roundg (6 - (0 + 1))
        case measure => omega
        case rel =>
          refine ⟨0 + 1, by omega, by go_num, rfl, fun j hj => ?_, HU3.out⟩
          by_cases e : j = 0
          · subst e; exact HAL2.out
          · exact HZ.out j (by omega)
      · have HF := Lib.hid (show firstP c ctx k ob v0 = 1 from by
          unfold firstP
          rw [if_pos hq])
        rw [hq] at HQ
        clear hq HALL
        go_wp2_with fail
        refine (HQ.out _ ((Upd.refl _ _).alloc _)).mono ?_
        rintro e w3 ⟨rfl, hu3⟩
        have kf := cell_of_heap (hu3.keepb (heap_alloc_new _ _) (by simp)) 0
        simp at kf
        have HU3 := Lib.hid (HU2.out.trans (HU.out.trans (((Upd.refl [] wr).alloc _).trans hu3)))
        clear hu3
        go_wp2
        rw [Exit.noGoto_ret]
        go_ret
        exact ⟨by rw [HF.out]; rfl, HU3.out⟩
    · have HQ := Lib.hid (fun (w' : World) (hu : Upd [] wr w') => first2 (HM.out.upd hu))
      have hall : [q1B c ctx, q2B ctx k, q3B k, q4B c k ob, q5B k v0, q6B c ctx k][1]? = some (q2B ctx k) := rfl
      have HALL := Lib.hid hall
      clear hall
      rcases hq : q2B ctx k with _ | _
      · have HAL2 := Lib.hid (HALL.out.trans (congrArg some hq))
        rw [hq] at HQ
        clear hq HALL
        go_wp2_with fail
        refine (HQ.out _ ((Upd.refl _ _).alloc _)).mono ?_
        rintro e w3 ⟨rfl, hu3⟩
        have HU3 := Lib.hid (HU.out.trans (((Upd.refl [] wr).alloc _).trans hu3))
        clear hu3
        go_wp2
        have ha := HA.out
        go_roundg (6 - (1 + 1))
        case measure => omega
        case rel =>
          refine ⟨1 + 1, by omega, by go_num, rfl, fun j hj => ?_, HU3.out⟩
          by_cases e : j = 1
          · subst e; exact HAL2.out
          · exact HZ.out j (by omega)
      · have HF := Lib.hid (show firstP c ctx k ob v0 = 11 from by
          unfold firstP
          rw [if_neg (by rw [show q1B c ctx = false by simpa using HZ.out 0 (by omega)]; exact Bool.false_ne_true)]
          rw [if_pos hq])
        rw [hq] at HQ
        clear hq HALL
        go_wp2_with fail
        refine (HQ.out _ ((Upd.refl _ _).alloc _)).mono ?_
        rintro e w3 ⟨rfl, hu3⟩
        have kf := cell_of_heap (hu3.keepb (heap_alloc_new _ _) (by simp)) 0
        simp at kf
        have HU3 := Lib.hid (HU2.out.trans (HU.out.trans (((Upd.refl [] wr).alloc _).trans hu3)))
        clear hu3
        go_wp2
        rw [Exit.noGoto_ret]
        go_ret
        exact ⟨by rw [HF.out]; rfl, HU3.out⟩
    · have HQ := Lib.hid (fun (w' : World) (hu : Upd [] wr w') => first3 (HM.out.upd hu))
      have hall : [q1B c ctx, q2B ctx k, q3B k, q4B c k ob, q5B k v0, q6B c ctx k][2]? = some (q3B k) := rfl
      have HALL := Lib.hid hall
      clear hall
      rcases hq : q3B k with _ | _
      · have HAL2 := Lib.hid (HALL.out.trans (congrArg some hq))
        rw [hq] at HQ
        clear hq HALL
        go_wp2_with fail
        refine (HQ.out _ ((Upd.refl _ _).alloc _)).mono ?_
        rintro e w3 ⟨rfl, hu3⟩
        have HU3 := Lib.hid (HU.out.trans (((Upd.refl [] wr).alloc _).trans hu3))
        clear hu3
        go_wp2
        have ha := HA.out
        go_roundg (6 - (2 + 1))
        case measure => omega
        case rel =>
          refine ⟨2 + 1, by omega, by go_num, rfl, fun j hj => ?_, HU3.out⟩
          by_cases e : j = 2
          · subst e; exact HAL2.out
          · exact HZ.out j (by omega)
      · have HF := Lib.hid (show firstP c ctx k ob v0 = 1 from by
          unfold firstP
          rw [if_neg (by rw [show q1B c ctx = false by simpa using HZ.out 0 (by omega)]; exact Bool.false_ne_true)]
          rw [if_neg (by rw [show q2B ctx k = false by simpa using HZ.out 1 (by omega)]; exact Bool.false_ne_true)]
          rw [if_pos hq])
        rw [hq] at HQ
        clear hq HALL
        go_wp2_with fail
        refine (HQ.out _ ((Upd.refl _ _).alloc _)).mono ?_
        rintro e w3 ⟨rfl, hu3⟩
        have kf := cell_of_heap (hu3.keepb (heap_alloc_new _ _) (by simp)) 0
        simp at kf
        have HU3 := Lib.hid (HU2.out.trans (HU.out.trans (((Upd.refl [] wr).alloc _).trans hu3)))
        clear hu3
        go_wp2
        rw [Exit.noGoto_ret]
        go_ret
        exact ⟨by rw [HF.out]; rfl, HU3.out⟩
    · have HQ := Lib.hid (fun (w' : World) (hu : Upd [] wr w') => first4 (HCW.out.upd hu) (HM.out.upd hu))
      have hall : [q1B c ctx, q2B ctx k, q3B k, q4B c k ob, q5B k v0, q6B c ctx k][3]? = some (q4B c k ob) := rfl
      have HALL := Lib.hid hall
      clear hall
      rcases hq : q4B c k ob with _ | _
      · have HAL2 := Lib.hid (HALL.out.trans (congrArg some hq))
        rw [hq] at HQ
        clear hq HALL
        go_wp2_with fail
        refine (HQ.out _ ((Upd.refl _ _).alloc _)).mono ?_
        rintro e w3 ⟨rfl, hu3⟩
        have HU3 := Lib.hid (HU.out.trans (((Upd.refl [] wr).alloc _).trans hu3))
        clear hu3
        go_wp2
        have ha := HA.out
        go_roundg (6 - (3 + 1))
        case measure => omega
        case rel =>
          refine ⟨3 + 1, by omega, by go_num, rfl, fun j hj => ?_, HU3.out⟩
          by_cases e : j = 3
          · subst e; exact HAL2.out
          · exact HZ.out j (by omega)
      · have HF := Lib.hid (show firstP c ctx k ob v0 = 4 from by
          unfold firstP
          rw [if_neg (by rw [show q1B c ctx = false by simpa using HZ.out 0 (by omega)]; exact Bool.false_ne_true)]
          rw [if_neg (by rw [show q2B ctx k = false by simpa using HZ.out 1 (by omega)]; exact Bool.false_ne_true)]
          rw [if_neg (by rw [show q3B k = false by simpa using HZ.out 2 (by omega)]; exact Bool.false_ne_true)]
          rw [if_pos hq])
        rw [hq] at HQ
        clear hq HALL
        go_wp2_with fail
        refine (HQ.out _ ((Upd.refl _ _).alloc _)).mono ?_
        rintro e w3 ⟨rfl, hu3⟩
        have kf := cell_of_heap (hu3.keepb (heap_alloc_new _ _) (by simp)) 0
        simp at kf
        have HU3 := Lib.hid (HU2.out.trans (HU.out.trans (((Upd.refl [] wr).alloc _).trans hu3)))
        clear hu3
        go_wp2
        rw [Exit.noGoto_ret]
        go_ret
        exact ⟨by rw [HF.out]; rfl, HU3.out⟩
    · have HQ := Lib.hid (fun (w' : World) (hu : Upd [] wr w') => first5 (HM.out.upd hu))
      have hall : [q1B c ctx, q2B ctx k, q3B k, q4B c k ob, q5B k v0, q6B c ctx k][4]? = some (q5B k v0) := rfl
      have HALL := Lib.hid hall
      clear hall
      rcases hq : q5B k v0 with _ | _
      · have HAL2 := Lib.hid (HALL.out.trans (congrArg some hq))
        rw [hq] at HQ
        clear hq HALL
        go_wp2_with fail
        refine (HQ.out _ ((Upd.refl _ _).alloc _)).mono ?_
        rintro e w3 ⟨rfl, hu3⟩
        have HU3 := Lib.hid (HU.out.trans (((Upd.refl [] wr).alloc _).trans hu3))
        clear hu3
        go_wp2
        have ha := HA.out
        go_roundg (6 - (4 + 1))
        case measure => omega
        case rel =>
          refine ⟨4 + 1, by omega, by go_num, rfl, fun j hj => ?_, HU3.out⟩
          by_cases e : j = 4
          · subst e; exact HAL2.out
          · exact HZ.out j (by omega)
      · have HF := Lib.hid (show firstP c ctx k ob v0 = 2 from by
          unfold firstP
          rw [if_neg (by rw [show q1B c ctx = false by simpa using HZ.out 0 (by omega)]; exact Bool.false_ne_true)]
          rw [if_neg (by rw [show q2B ctx k = false by simpa using HZ.out 1 (by omega)]; exact Bool.false_ne_true)]
          rw [if_neg (by rw [show q3B k = false by simpa using HZ.out 2 (by omega)]; exact Bool.false_ne_true)]
          rw [if_neg (by rw [show q4B c k ob = false by simpa using HZ.out 3 (by omega)]; exact Bool.false_ne_true)]
          rw [if_pos hq])
        rw [hq] at HQ
        clear hq HALL
        go_wp2_with fail
        refine (HQ.out _ ((Upd.refl _ _).alloc _)).mono ?_
        rintro e w3 ⟨rfl, hu3⟩
        have kf := cell_of_heap (hu3.keepb (heap_alloc_new _ _) (by simp)) 0
        simp at kf
        have HU3 := Lib.hid (HU2.out.trans (HU.out.trans (((Upd.refl [] wr).alloc _).trans hu3)))
        clear hu3
        go_wp2
        rw [Exit.noGoto_ret]
        go_ret
        exact ⟨by rw [HF.out]; rfl, HU3.out⟩
    · have HQ := Lib.hid (fun (w' : World) (hu : Upd [] wr w') => first6 (tk_ok (q1_false (by simpa using HZ.out 0 (by omega))) HC.out.ln) (HM.out.upd hu))
      have hall : [q1B c ctx, q2B ctx k, q3B k, q4B c k ob, q5B k v0, q6B c ctx k][5]? = some (q6B c ctx k) := rfl
      have HALL := Lib.hid hall
      clear hall
      rcases hq : q6B c ctx k with _ | _
      · have HAL2 := Lib.hid (HALL.out.trans (congrArg some hq))
        rw [hq] at HQ
        clear hq HALL
        go_wp2_with fail
        refine (HQ.out _ ((Upd.refl _ _).alloc _)).mono ?_
        rintro e w3 ⟨rfl, hu3⟩
        have HU3 := Lib.hid (HU.out.trans (((Upd.refl [] wr).alloc _).trans hu3))
        clear hu3
        go_wp2
        have ha := HA.out
        go_roundg (6 - (5 + 1))
        case measure => omega
        case rel =>
          refine ⟨5 + 1, by omega, by go_num, rfl, fun j hj => ?_, HU3.out⟩
          by_cases e : j = 5
          · subst e; exact HAL2.out
          · exact HZ.out j (by omega)
      · have HF := Lib.hid (show firstP c ctx k ob v0 = 10 from by
          unfold firstP
          rw [if_neg (by rw [show q1B c ctx = false by simpa using HZ.out 0 (by omega)]; exact Bool.false_ne_true)]
          rw [if_neg (by rw [show q2B ctx k = false by simpa using HZ.out 1 (by omega)]; exact Bool.false_ne_true)]
          rw [if_neg (by rw [show q3B k = false by simpa using HZ.out 2 (by omega)]; exact Bool.false_ne_true)]
          rw [if_neg (by rw [show q4B c k ob = false by simpa using HZ.out 3 (by omega)]; exact Bool.false_ne_true)]
          rw [if_neg (by rw [show q5B k v0 = false by simpa using HZ.out 4 (by omega)]; exact Bool.false_ne_true)]
          rw [if_pos hq])
        rw [hq] at HQ
        clear hq HALL
        go_wp2_with fail
        refine (HQ.out _ ((Upd.refl _ _).alloc _)).mono ?_
        rintro e w3 ⟨rfl, hu3⟩
        have kf := cell_of_heap (hu3.keepb (heap_alloc_new _ _) (by simp)) 0
        simp at kf
        have HU3 := Lib.hid (HU2.out.trans (HU.out.trans (((Upd.refl [] wr).alloc _).trans hu3)))
        clear hu3
        go_wp2
        rw [Exit.noGoto_ret]
        go_ret
        exact ⟨by rw [HF.out]; rfl, HU3.out⟩
    · have HF := Lib.hid (show firstP c ctx k ob v0 = if needsL k = [] then 0 else objP c ctx k ob (needsL k) from by
        unfold firstP
        rw [if_neg (by rw [show q1B c ctx = false by simpa using HZ.out 0 (by omega)]; exact Bool.false_ne_true)]
        rw [if_neg (by rw [show q2B ctx k = false by simpa using HZ.out 1 (by omega)]; exact Bool.false_ne_true)]
        rw [if_neg (by rw [show q3B k = false by simpa using HZ.out 2 (by omega)]; exact Bool.false_ne_true)]
        rw [if_neg (by rw [show q4B c k ob = false by simpa using HZ.out 3 (by omega)]; exact Bool.false_ne_true)]
        rw [if_neg (by rw [show q5B k v0 = false by simpa using HZ.out 4 (by omega)]; exact Bool.false_ne_true)]
        rw [if_neg (by rw [show q6B c ctx k = false by simpa using HZ.out 5 (by omega)]; exact Bool.false_ne_true)]
        first | done | rfl)
      rcases HNA.out.upd HU.out with ⟨hl, rfl⟩ | ⟨nb, rfl, hnb⟩
      · rw [if_pos hl] at HF
        go_wp2
        rw [Exit.noGoto_ret]
        go_ret
        exact ⟨by rw [HF.out]; rfl, HU2.out.trans HU.out⟩
      · by_cases hl : needsL k = []
        · rw [if_pos hl] at HF
          have hlen : (needsL k).length = 0 := by rw [hl]; rfl
          generalize (needsL k).length = nl at *
          subst hlen
          clear hl hnb
          go_wp2
          rw [Exit.noGoto_ret]
          go_ret
          exact ⟨by rw [HF.out]; rfl, HU2.out.trans HU.out⟩
        · rw [if_neg hl] at HF
          have hpos : 0 < (needsL k).length := List.length_pos_iff.2 hl
          have hle := needs_len k
          have q0 : (((needsL k).length : Int) == 0) = false := by simp; omega
          have HOB := Lib.hid (object_c (tc := tc) (lc := lc) (oc := oc) (ctx := ctx) (k := k) (ob := ob) (v0 := v0) (v1 := v1) (v2 := v2) (v3 := v3) (n := n) HCW.out (needsL k) nb hle hnb)
          obtain ⟨c0, c1, c2, c3⟩ := cells4 HM.out.hc
          have x0 := cell1 HM.out.hx
          obtain ⟨d0, d1, d2, d3, d4, d5, d6⟩ := cells7 HM.out.hk
          unfold cfA caA at HOB
          clear hl hnb hpos
          go_wp2_with fail
          refine HOB.out.mono ?_
          rintro e w3 ⟨rfl, hu3⟩
          go_wp2
          rw [Exit.noGoto_ret]
          go_ret
          exact ⟨by rw [HF.out]; rfl, HU2.out.trans (HU.out.trans hu3)⟩
end
end Go.Proofs.Ytkjonflmokapcaa
