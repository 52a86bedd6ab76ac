/- Package plan: Whose. -/
import Derived.Test.YtdbgnnkbcebpcaaPS10
set_option linter.unusedVariables false
set_option linter.unusedSimpArgs false
namespace Go.Proofs.Ytdbgnnkbcebpcaa
open Go.RowKit
section
variable {W : World} {va na ka : Option Addr} {P : List PL} {Q : List LN}
set_option maxRecDepth 100000 in
set_option maxHeartbeats 8000000 in
theorem whose_in (vc nc kn kc : Nat) (tick cells n : Int) (i : Nat) (hP : Els W va 5 (P.map PL.cells)) (hQ : Els W na 6 (Q.map LN.cells)) (hpl : P.length ≤ 1000) (hql : Q.length ≤ 1000) (hpb : ∀ p ∈ P, 0 ≤ p.a ∧ p.a < 1000000) (hqb : ∀ x ∈ Q, 0 ≤ x.a ∧ x.a < 1000000 ∧ n < x.a ∧ n < x.o)
    (h0 : 0 ≤ n) (h1 : n < tick) (h2 : tick < 1000000) (hat : ∃ p, P[i]? = some p ∧ p.has n = true) (hno : ∀ (j : Nat) (p : PL), P[j]? = some p → j < i → p.has n = false) :
    Calls Try.prog 42 #[.agg #[.slice va P.length vc, .slice na Q.length nc, .int .i64 tick, .slice ka kn kc, .int .i64 cells], .int .i64 n] W fun e w' => e = .returned (.tuple #[.int .i64 1, .int .i64 i]) ∧ Upd [] W w' := by
  have q1 : decide (0 ≤ wrap64 (wrap64 (n - tick) - 1)) = false := by simp; unfold wrap64; omega
  have q2 : (n == tick) = false := by simp; omega
  have HI := Lib.hid (show i < P.length by obtain ⟨p, hp, -⟩ := hat; exact (List.getElem?_eq_some_iff.1 hp).1)
  have HAT := Lib.hid hat
  have HNO := Lib.hid hno
  clear h0 h1 h2 hat hno
  (
      have HEP := Lib.hid hP
      have HEQ := Lib.hid hQ
      have HPB := Lib.hid hpb
      have HQB := Lib.hid hqb
      have HL := Lib.hid (And.intro hpl hql)
      have hmf : ∀ (fn : Fn) (first cap : Array Value) (w : World), (Instr.makeFunc fn first cap).run Try.prog w = .ok (.func fn first cap) w := fun _ _ _ _ => rfl
      have HB0 := Lib.hid (show ((W.alloc (.cells #[.slice va P.length vc, .slice na Q.length nc, .int .i64 tick, .slice ka kn kc, .int .i64 cells] 96)).alloc (.cells #[.int .i64 n] 3)).heap[W.heap.size]? = some _ from heap_alloc' (heap_alloc_new W _))
      have HB1 := Lib.hid (show ((W.alloc (.cells #[.slice va P.length vc, .slice na Q.length nc, .int .i64 tick, .slice ka kn kc, .int .i64 cells] 96)).alloc (.cells #[.int .i64 n] 3)).heap[W.heap.size + 1]? = some (.cells #[.int .i64 n] 3 (0, 0)) from heap_alloc_at _ (by simp))
      have HUX := Lib.hid (show Upd [] W ((W.alloc (.cells #[.slice va P.length vc, .slice na Q.length nc, .int .i64 tick, .slice ka kn kc, .int .i64 cells] 96)).alloc (.cells #[.int .i64 n] 3)) from ((Upd.refl _ _).alloc _).alloc _)
      clear hP hQ hpb hqb hpl hql
      go_enter Try.func42, Try.ntmps42
      go_wp2
      go_step3)
  go_wp2
  go_step3
  (
      generalize (W.alloc (.cells #[.slice va P.length vc, .slice na Q.length nc, .int .i64 tick, .slice ka kn kc, .int .i64 cells] 96)).alloc (.cells #[.int .i64 n] 3) = wx at *
      obtain ⟨b0, b1, b2, b3, b4⟩ := cells5p HB0.out
      have c0 : wx.cell? ⟨W.heap.size + 1, 0, none⟩ = some (.int .i64 n) := by rw [cell_of_heap HB1.out]; rfl)
  go_wp2
  go_loopg [4, 5, 40] P.length (fun l s4 s5 s40 wr => ∃ j : Nat, l + j = P.length ∧ s4 = .int .i64 0 ∧ s5 = .int .i64 0 ∧ s40 = .int .i64 j ∧ j ≤ i ∧ Upd [] wx wr)
  case atStart => exact ⟨0, by omega, rfl, rfl, rfl, by omega, Upd.refl _ _⟩
  case round =>
    obtain ⟨j, hj, rfl, rfl, rfl, hji, hu⟩ := hrel
    have HU := Lib.hid hu
    have HJ := Lib.hid hj
    have HJI := Lib.hid hji
    have hlt : j < P.length := by have := HI.out; omega
    have hjh : P[j].has n = decide (j = i) := by
      by_cases e : j = i
      · subst e
        obtain ⟨p, hp, hh⟩ := HAT.out
        rw [List.getElem?_eq_getElem hlt] at hp
        rw [Option.some.inj hp, hh]
        simp
      · rw [HNO.out j _ (List.getElem?_eq_getElem hlt) (by omega)]
        simp [e]
    have HJH := Lib.hid hjh
    clear hu hj hji hjh
    (
            obtain ⟨pb, po, rfl, hpb, hpc⟩ := els_at HEP.out hlt
            have hpr : pb < wr.heap.size := Nat.lt_of_lt_of_le (Nat.lt_of_lt_of_le hpb HUX.out.size) HU.out.size
            have hph : PL.has P[j] n = inB P[j].k P[j].a P[j].cap P[j].wd P[j].rt n := rfl
            have hab := HPB.out P[j] (List.getElem_mem hlt)
            generalize P[j] = z at *
            obtain ⟨k, a, cap, wd, rt⟩ := z
            simp only at hph hab
            have G := fun m v hm => (HU.out.cell (p := ⟨pb, po + j * 5 + m, none⟩) (Nat.lt_of_lt_of_le hpb HUX.out.size) (by simp)).trans ((HUX.out.cell (p := ⟨pb, po + j * 5 + m, none⟩) hpb (by simp)).trans (hpc m v hm))
            have g0 := G 0 _ rfl
            have g1 := G 1 _ rfl
            have g2 := G 2 _ rfl
            have g3 := G 3 _ rfl
            have g4 := G 4 _ rfl
            rw [Nat.add_zero] at g0
            have i1 : (0 : Int) ≤ (j : Int) := by omega
            have i2 : (j : Int) < (P.length : Int) := by omega
            have HLT := Lib.hid hlt
            have HW := Lib.hid (show wrap64 ((j : Int) + 1) = ((j + 1 : Nat) : Int) from wrap_next (by have := HL.out; omega) hlt)
            have HIN := Lib.hid (fun (w : World) (hc : w.cell? ⟨W.heap.size + 1, 0, none⟩ = some (.int .i64 n)) => in_c k a cap wd rt n (W.heap.size + 1) w hab hc)
            rw [← hph] at HIN
            have HPH := Lib.hid hph
            have d0 := (HU.out.cell (p := ⟨W.heap.size + 1, 0, none⟩) (heap_lt HB1.out) (by simp)).trans c0
            have ld : W.heap.size + 1 < wr.heap.size := World.block_lt_of_cell? wr _ d0
            clear hlt hpc G hph hab)
    by_cases e : j = i
    · have et : PL.has ⟨k, a, cap, wd, rt⟩ n = true := by rw [HJH.out]; simp [e]
      subst e
      rw [et] at HIN
      clear et
      go_wp2_with (go_at_call 68; (with_reducible refine (HIN.out _ (by first | (with_reducible exact cell_allocE d0) | (with_reducible exact d0))).mono ?_); rintro e w5 ⟨rfl, hu5⟩; have HU5 := Lib.hid ((HU.out.alloc _).trans hu5); clear hu5)
      go_step3
      have b1' : w5.cell? ⟨W.heap.size, 1, none⟩ = some (.slice na Q.length nc) := (HU5.out.cell (p := ⟨W.heap.size, 1, none⟩) (heap_lt HB0.out) (by simp)).trans b1
      clear i1 i2 d0 ld g0 g1 g2 g3 g4
      go_wp2
      go_loopg [4, 5, 53] Q.length (fun l s4 s5 s53 wr => ∃ m : Nat, l + m = Q.length ∧ s4 = .int .i64 1 ∧ s5 = .int .i64 j ∧ s53 = .int .i64 m ∧ Upd [] wx wr)
      case atStart => exact ⟨0, by omega, rfl, rfl, rfl, HU5.out⟩
      case round =>
        obtain ⟨m, hm, rfl, rfl, rfl, hu2⟩ := hrel
        have HM := Lib.hid hm
        have HU2 := Lib.hid hu2
        clear hm hu2
        by_cases hlq : m < Q.length
        · (
                    obtain ⟨qb, qo, rfl, hqb, hqc⟩ := els_at HEQ.out hlq
                    have hqr : qb < wr.heap.size := Nat.lt_of_lt_of_le (Nat.lt_of_lt_of_le hqb HUX.out.size) HU2.out.size
                    have hqd := HQB.out Q[m] (List.getElem_mem hlq)
                    generalize Q[m] = z at *
                    obtain ⟨a, r, o⟩ := z
                    simp only at hqd
                    have G := fun x v hm => (HU2.out.cell (p := ⟨qb, qo + m * 6 + x, none⟩) (Nat.lt_of_lt_of_le hqb HUX.out.size) (by simp)).trans ((HUX.out.cell (p := ⟨qb, qo + m * 6 + x, none⟩) hqb (by simp)).trans (hqc x v hm))
                    have g0 := G 0 _ rfl
                    have g1 := G 1 _ rfl
                    have g2 := G 2 _ rfl
                    have g3 := G 3 _ rfl
                    have g4 := G 4 _ rfl
                    have g5 := G 5 _ rfl
                    rw [Nat.add_zero] at g0
                    have i1 : (0 : Int) ≤ (m : Int) := by omega
                    have i2 : (m : Int) < (Q.length : Int) := by omega
                    have HLQ := Lib.hid hlq
                    have HW2 := Lib.hid (show wrap64 ((m : Int) + 1) = ((m + 1 : Nat) : Int) from wrap_next (by have := HL.out; omega) hlq)
                    have HIN := Lib.hid (fun (w : World) (hc : w.cell? ⟨W.heap.size + 1, 0, none⟩ = some (.int .i64 n)) => in_c 1 a r 1 0 n (W.heap.size + 1) w ⟨hqd.1, hqd.2.1⟩ hc)
                    have d0 := (HU2.out.cell (p := ⟨W.heap.size + 1, 0, none⟩) (heap_lt HB1.out) (by simp)).trans c0
                    have ld : W.heap.size + 1 < wr.heap.size := World.block_lt_of_cell? wr _ d0
                    have HQD := Lib.hid hqd
                    clear hlq hqc G hqd)
          have ef : inB 1 a r 1 0 n = false := by have := HQD.out; simp [inB]; omega
          have eo : (n == o) = false := by have := HQD.out; simp; omega
          rw [ef] at HIN
          clear ef
          go_wp2_with (go_at_call 68; (with_reducible refine (HIN.out _ (by first | (with_reducible exact cell_allocE d0) | (with_reducible exact d0))).mono ?_); rintro e w6 ⟨rfl, hu6⟩; obtain ⟨p6, rfl⟩ := hu6.grown; clear hu6)
          go_roundg (Q.length - (m + 1))
          case rel => exact ⟨m + 1, by have := HLQ.out; omega, rfl, rfl, by first | (rw [HW2.out]; done) | (simp; done), by repeat (first | (with_reducible exact HU2.out) | (with_reducible apply Upd.drew) | (with_reducible refine Upd.grE ?_ _) | (with_reducible refine Upd.alloc ?_ _))⟩
          case measure => have := HLQ.out; have := HM.out; omega
        · obtain rfl : m = Q.length := by have := HM.out; omega
          clear hlq
          go_wp2
          rw [Exit.noGoto_ret]
          go_ret2
          exact ⟨rfl, HUX.out.trans HU2.out⟩
    · have et : PL.has ⟨k, a, cap, wd, rt⟩ n = false := by rw [HJH.out]; simp [e]
      rw [et] at HIN
      have HE := Lib.hid e
      clear et e
      go_wp2_with (go_at_call 68; (with_reducible refine (HIN.out _ (by first | (with_reducible exact cell_allocE d0) | (with_reducible exact d0))).mono ?_); rintro e w5 ⟨rfl, hu5⟩; obtain ⟨p5, rfl⟩ := hu5.grown; clear hu5)
      go_roundg (P.length - (j + 1))
      case rel => exact ⟨j + 1, by have := HLT.out; omega, rfl, rfl, by first | (rw [HW.out]; done) | (simp; done), by have := HE.out; have := HJI.out; omega, by repeat (first | (with_reducible exact HU.out) | (with_reducible apply Upd.drew) | (with_reducible refine Upd.grE ?_ _) | (with_reducible refine Upd.alloc ?_ _))⟩
      case measure => have := HLT.out; have := HJ.out; omega
set_option maxRecDepth 100000 in
set_option maxHeartbeats 8000000 in
theorem whose_asks (vc nc kn kc : Nat) (tick cells n : Int) (h0 : 0 ≤ tick) (h1 : tick < n) (h2 : n < 1000000) (h3 : n < tick + 1 + kn) :
    Calls Try.prog 42 #[.agg #[.slice va P.length vc, .slice na Q.length nc, .int .i64 tick, .slice ka kn kc, .int .i64 cells], .int .i64 n] W fun e w' => (∃ x y : Int, e = .returned (.tuple #[.int .i64 x, .int .i64 y]) ∧ x ≠ 1) ∧ Upd [] W w' := by
  have q1 : decide (0 ≤ wrap64 (wrap64 (n - tick) - 1)) = true := by simp; unfold wrap64; omega
  have q2 : decide (wrap64 (wrap64 (n - tick) - 1) < (kn : Int)) = true := by simp; unfold wrap64; omega
  have hmf : ∀ (fn : Fn) (first cap : Array Value) (w : World), (Instr.makeFunc fn first cap).run Try.prog w = .ok (.func fn first cap) w := fun _ _ _ _ => rfl
  clear h0 h1 h2 h3
  go_enter Try.func42, Try.ntmps42
  go_wp2
  go_step3
  go_wp2
  rw [Exit.noGoto_ret]
  go_ret2
  exact ⟨⟨_, _, rfl, by decide⟩, by repeat (first | (with_reducible exact Upd.refl _ _) | (with_reducible apply Upd.drew) | (with_reducible refine Upd.alloc ?_ _))⟩
set_option maxRecDepth 100000 in
set_option maxHeartbeats 8000000 in
theorem whose_tick (vc nc kn kc : Nat) (n cells : Int) (h0 : 0 < cells) (h1 : 0 ≤ n) (h2 : n < 1000000) :
    Calls Try.prog 42 #[.agg #[.slice va P.length vc, .slice na Q.length nc, .int .i64 n, .slice ka kn kc, .int .i64 cells], .int .i64 n] W fun e w' => (∃ x y : Int, e = .returned (.tuple #[.int .i64 x, .int .i64 y]) ∧ x ≠ 1) ∧ Upd [] W w' := by
  have q1 : wrap64 (wrap64 (n - n) - 1) = -1 := by unfold wrap64; omega
  have q2 : decide (0 < cells) = true := by simpa using h0
  have hmf : ∀ (fn : Fn) (first cap : Array Value) (w : World), (Instr.makeFunc fn first cap).run Try.prog w = .ok (.func fn first cap) w := fun _ _ _ _ => rfl
  clear h0 h1 h2
  go_enter Try.func42, Try.ntmps42
  go_wp2
  go_step3
  go_wp2
  rw [Exit.noGoto_ret]
  go_ret2
  exact ⟨⟨_, _, rfl, by decide⟩, by repeat (first | (with_reducible exact Upd.refl _ _) | (with_reducible apply Upd.drew) | (with_reducible refine Upd.alloc ?_ _))⟩
set_option maxRecDepth 100000 in
set_option maxHeartbeats 8000000 in
theorem whose_lines (vc nc kn kc : Nat) (tick cells n : Int) (hP : Els W va 5 (P.map PL.cells)) (hQ : Els W na 6 (Q.map LN.cells)) (hpl : P.length ≤ 1000) (hql : Q.length ≤ 1000) (hpb : ∀ p ∈ P, 0 ≤ p.a ∧ p.a < 1000000) (hqb : ∀ x ∈ Q, 0 ≤ x.a ∧ x.a < 1000000 ∧ True)
    (h0 : 0 ≤ n) (h1 : n < tick) (h2 : tick < 1000000) (hno : ∀ (j : Nat) (p : PL), P[j]? = some p → p.has n = false) :
    Calls Try.prog 42 #[.agg #[.slice va P.length vc, .slice na Q.length nc, .int .i64 tick, .slice ka kn kc, .int .i64 cells], .int .i64 n] W fun e w' => (∃ x y : Int, e = .returned (.tuple #[.int .i64 x, .int .i64 y]) ∧ x ≠ 1) ∧ Upd [] W w' := by
  have q1 : decide (0 ≤ wrap64 (wrap64 (n - tick) - 1)) = false := by simp; unfold wrap64; omega
  have q2 : (n == tick) = false := by simp; omega
  have HNO := Lib.hid hno
  clear h0 h1 h2 hno
  (
      have HEP := Lib.hid hP
      have HEQ := Lib.hid hQ
      have HPB := Lib.hid hpb
      have HQB := Lib.hid hqb
      have HL := Lib.hid (And.intro hpl hql)
      have hmf : ∀ (fn : Fn) (first cap : Array Value) (w : World), (Instr.makeFunc fn first cap).run Try.prog w = .ok (.func fn first cap) w := fun _ _ _ _ => rfl
      have HB0 := Lib.hid (show ((W.alloc (.cells #[.slice va P.length vc, .slice na Q.length nc, .int .i64 tick, .slice ka kn kc, .int .i64 cells] 96)).alloc (.cells #[.int .i64 n] 3)).heap[W.heap.size]? = some _ from heap_alloc' (heap_alloc_new W _))
      have HB1 := Lib.hid (show ((W.alloc (.cells #[.slice va P.length vc, .slice na Q.length nc, .int .i64 tick, .slice ka kn kc, .int .i64 cells] 96)).alloc (.cells #[.int .i64 n] 3)).heap[W.heap.size + 1]? = some (.cells #[.int .i64 n] 3 (0, 0)) from heap_alloc_at _ (by simp))
      have HUX := Lib.hid (show Upd [] W ((W.alloc (.cells #[.slice va P.length vc, .slice na Q.length nc, .int .i64 tick, .slice ka kn kc, .int .i64 cells] 96)).alloc (.cells #[.int .i64 n] 3)) from ((Upd.refl _ _).alloc _).alloc _)
      clear hP hQ hpb hqb hpl hql
      go_enter Try.func42, Try.ntmps42
      go_wp2
      go_step3)
  go_wp2
  go_step3
  (
      generalize (W.alloc (.cells #[.slice va P.length vc, .slice na Q.length nc, .int .i64 tick, .slice ka kn kc, .int .i64 cells] 96)).alloc (.cells #[.int .i64 n] 3) = wx at *
      obtain ⟨b0, b1, b2, b3, b4⟩ := cells5p HB0.out
      have c0 : wx.cell? ⟨W.heap.size + 1, 0, none⟩ = some (.int .i64 n) := by rw [cell_of_heap HB1.out]; rfl)
  go_wp2
  go_loopg [4, 5, 40] P.length (fun l s4 s5 s40 wr => ∃ j : Nat, l + j = P.length ∧ s4 = .int .i64 0 ∧ s5 = .int .i64 0 ∧ s40 = .int .i64 j ∧ Upd [] wx wr)
  case atStart => exact ⟨0, by omega, rfl, rfl, rfl, Upd.refl _ _⟩
  case round =>
    obtain ⟨j, hj, rfl, rfl, rfl, hu⟩ := hrel
    have HU := Lib.hid hu
    have HJ := Lib.hid hj
    clear hu hj
    by_cases hlt : j < P.length
    · have HJH := Lib.hid (HNO.out j _ (List.getElem?_eq_getElem hlt))
      (
              obtain ⟨pb, po, rfl, hpb, hpc⟩ := els_at HEP.out hlt
              have hpr : pb < wr.heap.size := Nat.lt_of_lt_of_le (Nat.lt_of_lt_of_le hpb HUX.out.size) HU.out.size
              have hph : PL.has P[j] n = inB P[j].k P[j].a P[j].cap P[j].wd P[j].rt n := rfl
              have hab := HPB.out P[j] (List.getElem_mem hlt)
              generalize P[j] = z at *
              obtain ⟨k, a, cap, wd, rt⟩ := z
              simp only at hph hab
              have G := fun m v hm => (HU.out.cell (p := ⟨pb, po + j * 5 + m, none⟩) (Nat.lt_of_lt_of_le hpb HUX.out.size) (by simp)).trans ((HUX.out.cell (p := ⟨pb, po + j * 5 + m, none⟩) hpb (by simp)).trans (hpc m v hm))
              have g0 := G 0 _ rfl
              have g1 := G 1 _ rfl
              have g2 := G 2 _ rfl
              have g3 := G 3 _ rfl
              have g4 := G 4 _ rfl
              rw [Nat.add_zero] at g0
              have i1 : (0 : Int) ≤ (j : Int) := by omega
              have i2 : (j : Int) < (P.length : Int) := by omega
              have HLT := Lib.hid hlt
              have HW := Lib.hid (show wrap64 ((j : Int) + 1) = ((j + 1 : Nat) : Int) from wrap_next (by have := HL.out; omega) hlt)
              have HIN := Lib.hid (fun (w : World) (hc : w.cell? ⟨W.heap.size + 1, 0, none⟩ = some (.int .i64 n)) => in_c k a cap wd rt n (W.heap.size + 1) w hab hc)
              rw [← hph] at HIN
              have HPH := Lib.hid hph
              have d0 := (HU.out.cell (p := ⟨W.heap.size + 1, 0, none⟩) (heap_lt HB1.out) (by simp)).trans c0
              have ld : W.heap.size + 1 < wr.heap.size := World.block_lt_of_cell? wr _ d0
              clear hlt hpc G hph hab)
      rw [HJH.out] at HIN
      go_wp2_with (go_at_call 68; (with_reducible refine (HIN.out _ (by first | (with_reducible exact cell_allocE d0) | (with_reducible exact d0))).mono ?_); rintro e w5 ⟨rfl, hu5⟩; obtain ⟨p5, rfl⟩ := hu5.grown; clear hu5)
      go_roundg (P.length - (j + 1))
      case rel => exact ⟨j + 1, by have := HLT.out; omega, rfl, rfl, by first | (rw [HW.out]; done) | (simp; done), by repeat (first | (with_reducible exact HU.out) | (with_reducible apply Upd.drew) | (with_reducible refine Upd.grE ?_ _) | (with_reducible refine Upd.alloc ?_ _))⟩
      case measure => have := HLT.out; have := HJ.out; omega
    · have b1' : wr.cell? ⟨W.heap.size, 1, none⟩ = some (.slice na Q.length nc) := (HU.out.cell (p := ⟨W.heap.size, 1, none⟩) (heap_lt HB0.out) (by simp)).trans b1
      obtain rfl : j = P.length := by have := HJ.out; omega
      clear hlt
      go_wp2
      go_step3
      go_wp2
      go_loopg [4, 5, 53] Q.length (fun l s4 s5 s53 wr => ∃ m : Nat, l + m = Q.length ∧ s4 = .int .i64 0 ∧ s5 = .int .i64 0 ∧ s53 = .int .i64 m ∧ Upd [] wx wr)
      case atStart => exact ⟨0, by omega, rfl, rfl, rfl, HU.out⟩
      case round =>
        obtain ⟨m, hm, rfl, rfl, rfl, hu2⟩ := hrel
        have HM := Lib.hid hm
        have HU2 := Lib.hid hu2
        clear hm hu2
        by_cases hlq : m < Q.length
        · (
                    obtain ⟨qb, qo, rfl, hqb, hqc⟩ := els_at HEQ.out hlq
                    have hqr : qb < wr.heap.size := Nat.lt_of_lt_of_le (Nat.lt_of_lt_of_le hqb HUX.out.size) HU2.out.size
                    have hqd := HQB.out Q[m] (List.getElem_mem hlq)
                    generalize Q[m] = z at *
                    obtain ⟨a, r, o⟩ := z
                    simp only at hqd
                    have G := fun x v hm => (HU2.out.cell (p := ⟨qb, qo + m * 6 + x, none⟩) (Nat.lt_of_lt_of_le hqb HUX.out.size) (by simp)).trans ((HUX.out.cell (p := ⟨qb, qo + m * 6 + x, none⟩) hqb (by simp)).trans (hqc x v hm))
                    have g0 := G 0 _ rfl
                    have g1 := G 1 _ rfl
                    have g2 := G 2 _ rfl
                    have g3 := G 3 _ rfl
                    have g4 := G 4 _ rfl
                    have g5 := G 5 _ rfl
                    rw [Nat.add_zero] at g0
                    have i1 : (0 : Int) ≤ (m : Int) := by omega
                    have i2 : (m : Int) < (Q.length : Int) := by omega
                    have HLQ := Lib.hid hlq
                    have HW2 := Lib.hid (show wrap64 ((m : Int) + 1) = ((m + 1 : Nat) : Int) from wrap_next (by have := HL.out; omega) hlq)
                    have HIN := Lib.hid (fun (w : World) (hc : w.cell? ⟨W.heap.size + 1, 0, none⟩ = some (.int .i64 n)) => in_c 1 a r 1 0 n (W.heap.size + 1) w ⟨hqd.1, hqd.2.1⟩ hc)
                    have d0 := (HU2.out.cell (p := ⟨W.heap.size + 1, 0, none⟩) (heap_lt HB1.out) (by simp)).trans c0
                    have ld : W.heap.size + 1 < wr.heap.size := World.block_lt_of_cell? wr _ d0
                    have HQD := Lib.hid hqd
                    clear hlq hqc G hqd)
          by_cases ef : inB 1 a r 1 0 n = true
          · rw [ef] at HIN
            clear ef
            go_wp2_with (go_at_call 68; (with_reducible refine (HIN.out _ (by first | (with_reducible exact cell_allocE d0) | (with_reducible exact d0))).mono ?_); rintro e w6 ⟨rfl, hu6⟩; obtain ⟨p6, rfl⟩ := hu6.grown; clear hu6)
            rw [Exit.noGoto_ret]
            go_ret2
            exact ⟨⟨_, _, rfl, by decide⟩, HUX.out.trans (by repeat (first | (with_reducible exact HU2.out) | (with_reducible apply Upd.drew) | (with_reducible refine Upd.grE ?_ _) | (with_reducible refine Upd.alloc ?_ _)))⟩
          · simp only [Bool.not_eq_true] at ef
            rw [ef] at HIN
            clear ef
            by_cases eo : n = o
            · have eo2 : (n == o) = true := by simpa using eo
              clear eo
              go_wp2_with (go_at_call 68; (with_reducible refine (HIN.out _ (by first | (with_reducible exact cell_allocE d0) | (with_reducible exact d0))).mono ?_); rintro e w6 ⟨rfl, hu6⟩; obtain ⟨p6, rfl⟩ := hu6.grown; clear hu6)
              rw [Exit.noGoto_ret]
              go_ret2
              exact ⟨⟨_, _, rfl, by decide⟩, HUX.out.trans (by repeat (first | (with_reducible exact HU2.out) | (with_reducible apply Upd.drew) | (with_reducible refine Upd.grE ?_ _) | (with_reducible refine Upd.alloc ?_ _)))⟩
            · have eo2 : (n == o) = false := by simpa using eo
              clear eo
              go_wp2_with (go_at_call 68; (with_reducible refine (HIN.out _ (by first | (with_reducible exact cell_allocE d0) | (with_reducible exact d0))).mono ?_); rintro e w6 ⟨rfl, hu6⟩; obtain ⟨p6, rfl⟩ := hu6.grown; clear hu6)
              go_roundg (Q.length - (m + 1))
              case rel => exact ⟨m + 1, by have := HLQ.out; omega, rfl, rfl, by first | (rw [HW2.out]; done) | (simp; done), by repeat (first | (with_reducible exact HU2.out) | (with_reducible apply Upd.drew) | (with_reducible refine Upd.grE ?_ _) | (with_reducible refine Upd.alloc ?_ _))⟩
              case measure => have := HLQ.out; have := HM.out; omega
        · obtain rfl : m = Q.length := by have := HM.out; omega
          clear hlq
          go_wp2
          rw [Exit.noGoto_ret]
          go_ret2
          exact ⟨⟨_, _, rfl, by decide⟩, HUX.out.trans HU2.out⟩
end
end Go.Proofs.Ytdbgnnkbcebpcaa
