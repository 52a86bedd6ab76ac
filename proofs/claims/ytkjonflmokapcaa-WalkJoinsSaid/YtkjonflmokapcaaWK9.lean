/- The law WalkJoins. -/
import Derived.Test.YtkjonflmokapcaaWK8
import Derived.Test.YtkjonflmokapcaaEqs
import Derived.Deep.CutRange
import Derived.Deep.CutBlock
import Derived.Deep.DeepCutAuto
set_option linter.unusedVariables false
set_option linter.unusedSimpArgs false
namespace Go.Proofs.Ytkjonflmokapcaa
open Go.RowKit

theorem eq_intF (n : Nat) (w : World) (x y : Int) : (Op.equalIn (n + 1) 3 (.int .i64 x) (.int .i64 y)).run Try.prog w = .ok (x == y) w := run_equalIn_int w n _ .i64 .i64 x y Try.underlying3
theorem eq_num (n : Nat) (w : World) (a b a' b' : Int) : (Op.equalIn (n + 2) 23 (.agg #[.int .i64 a, .int .i64 b]) (.agg #[.int .i64 a', .int .i64 b'])).run Try.prog w = .ok ((a == a') && ((b == b') && true)) w :=
  eqIn_struct (by kernel_rfl) (by kernel_rfl) (l := [("Re", 3, 0), ("Im", 3, 1)]) (by kernel_rfl) (.cons rfl (by kernel_rfl) (by kernel_rfl) (eq_intF _ _ _ _) (.cons rfl (by kernel_rfl) (by kernel_rfl) (eq_intF _ _ _ _) .nil))
theorem eq_rwalk (w : World) (a b c a' b' c' : Int) : (binOp .eql 25 (.agg #[.int .i64 a, .int .i64 b, .int .i64 c]) (.agg #[.int .i64 a', .int .i64 b', .int .i64 c'])).run Try.prog w = .ok (.bool (((a == a') && ((b == b') && true)) && ((c == c') && true))) w :=
  eql_struct (eqIn_struct (by kernel_rfl) (by kernel_rfl) (l := [("At", 23, 0), ("Turn", 3, 2)]) (by kernel_rfl) (.cons rfl (by kernel_rfl) (by kernel_rfl) (eq_num _ _ _ _ _ _) (.cons rfl (by kernel_rfl) (by kernel_rfl) (eq_intF _ _ _ _) .nil)))
theorem eq_rwalk_same (w : World) (a b c : Int) : (binOp .eql 25 (.agg #[.int .i64 a, .int .i64 b, .int .i64 c]) (.agg #[.int .i64 a, .int .i64 b, .int .i64 c])).run Try.prog w = .ok (.bool true) w := by
  rw [eq_rwalk]
  simp
theorem eq_num' (n : Nat) (w : World) (a b a' b' : Int) : (Op.equalIn (n + 2) 26 (.agg #[.int .i64 a, .int .i64 b]) (.agg #[.int .i64 a', .int .i64 b'])).run Try.prog w = .ok ((a == a') && ((b == b') && true)) w :=
  eqIn_struct (by kernel_rfl) (by kernel_rfl) (l := [("Re", 3, 0), ("Im", 3, 1)]) (by kernel_rfl) (.cons rfl (by kernel_rfl) (by kernel_rfl) (eq_intF _ _ _ _) (.cons rfl (by kernel_rfl) (by kernel_rfl) (eq_intF _ _ _ _) .nil))
theorem eq_walk (w : World) (a b c a' b' c' : Int) : (binOp .eql 28 (.agg #[.int .i64 a, .int .i64 b, .int .i64 c]) (.agg #[.int .i64 a', .int .i64 b', .int .i64 c'])).run Try.prog w = .ok (.bool (((a == a') && ((b == b') && true)) && ((c == c') && true))) w :=
  eql_struct (eqIn_struct (by kernel_rfl) (by kernel_rfl) (l := [("At", 26, 0), ("Turn", 3, 2)]) (by kernel_rfl) (.cons rfl (by kernel_rfl) (by kernel_rfl) (eq_num' _ _ _ _ _ _) (.cons rfl (by kernel_rfl) (by kernel_rfl) (eq_intF _ _ _ _) .nil)))

set_option maxRecDepth 100000 in
set_option maxHeartbeats 1000000 in
theorem alive41 (w : World) : Calls Try.prog 17 #[] w fun e w' => e = .returned (.bool true) ∧ Upd [] w w' := by
  have qe := eq_walk
  go_enter Try.func17, Try.ntmps17
  go_wp2_with fail
  refine (w_Of3 _ (heap_alloc_new _ _)).mono ?_
  rintro e w1 ⟨rfl, hu1⟩
  go_wp2_with fail
  go_ret
  refine ⟨by simp, ?_⟩
  exact (((Upd.refl _ _).alloc _).trans hu1).alloc _

/-- The two walks that came in, boxed; what was there is as it was. -/
structure TJ (w : World) (x y t u v s : Int) (w' : World) : Prop where
  h0 : w'.heap[w.heap.size]? = some (.cells #[.int .i64 x, .int .i64 y, .int .i64 t] 25)
  h1 : w'.heap[w.heap.size + 1]? = some (.cells #[.int .i64 u, .int .i64 v, .int .i64 s] 25)
  u : Upd [] w w'
theorem TJ.start (w : World) (x y t u v s : Int) : TJ w x y t u v s ((w.alloc (.cells #[.int .i64 x, .int .i64 y, .int .i64 t] 25)).alloc (.cells #[.int .i64 u, .int .i64 v, .int .i64 s] 25)) :=
  ⟨heap_alloc' (heap_alloc_new _ _), heap_alloc_at _ (by simp), ((Upd.refl _ _).alloc _).alloc _⟩
theorem TJ.upd {w a b : World} {x y t u v s : Int} (h : TJ w x y t u v s a) (hu : Upd [] a b) : TJ w x y t u v s b :=
  ⟨hu.keepb h.h0 (by simp), hu.keepb h.h1 (by simp), h.u.trans hu⟩
theorem TJ.drew {w a : World} {x y t u v s : Int} (h : TJ w x y t u v s a) : TJ w x y t u v s a.drew := ⟨h.h0, h.h1, h.u.drew⟩
theorem TJ.drewN {w a : World} {x y t u v s : Int} (h : TJ w x y t u v s a) (n : Nat) : TJ w x y t u v s (a.drewN n) := ⟨h.h0, h.h1, h.u.drewN n⟩
theorem TJ.alloc {w a : World} {x y t u v s : Int} (h : TJ w x y t u v s a) (o : Obj) : TJ w x y t u v s (a.alloc o) := h.upd ((Upd.refl _ _).alloc o)
theorem TJ.set {w a : World} {x y t u v s : Int} (h : TJ w x y t u v s a) {g i : Nat} (hg : w.heap.size + 1 < g) (c : Value) : TJ w x y t u v s (a.setCell ⟨g, i, none⟩ c) :=
  ⟨by rw [heap_set_other _ _ _ (by omega)]; exact h.h0, by rw [heap_set_other _ _ _ (by omega)]; exact h.h1, Upd.then (S := []) h.u ((Upd.refl [g] a).setCell (by simp) _) (fun i hi => .inr (by simp at hi; omega))⟩
theorem TJ.cells {w a : World} {x y t u v s : Int} (h : TJ w x y t u v s a) : (a.cell? ⟨w.heap.size, 0, none⟩ = some (.int .i64 x) ∧ a.cell? ⟨w.heap.size, 1, none⟩ = some (.int .i64 y) ∧ a.cell? ⟨w.heap.size, 2, none⟩ = some (.int .i64 t)) ∧ a.cell? ⟨w.heap.size + 1, 0, none⟩ = some (.int .i64 u) ∧ a.cell? ⟨w.heap.size + 1, 1, none⟩ = some (.int .i64 v) ∧ a.cell? ⟨w.heap.size + 1, 2, none⟩ = some (.int .i64 s) := ⟨cells3 h.h0, cells3 h.h1⟩
/-- A new walk, not filled yet. -/
def NZ (w : World) (g : Nat) : Prop := w.heap[g]? = some (.cells #[.int .i64 0, .int .i64 0, .int .i64 0] 28)
theorem NZ.new (w : World) {g : Nat} (hg : g = w.heap.size) : NZ (w.alloc (.cells #[.int .i64 0, .int .i64 0, .int .i64 0] 28)) g := heap_alloc_at _ hg
theorem NZ.newD (w : World) : NZ (w.drew.alloc (.cells #[.int .i64 0, .int .i64 0, .int .i64 0] 28)) w.heap.size := heap_alloc_at _ rfl
theorem NZ.newN (w : World) (n : Nat) : NZ ((w.drewN n).alloc (.cells #[.int .i64 0, .int .i64 0, .int .i64 0] 28)) w.heap.size := heap_alloc_at _ rfl
theorem NZ.newA (w : World) : NZ ((w.alloc (.cells #[.int .i64 0, .int .i64 0, .int .i64 0] 28)).drew) w.heap.size := heap_alloc_at _ rfl
theorem NZ.cells {w : World} {g : Nat} (h : NZ w g) : (w.cell? ⟨g, 0, none⟩ = some (.int .i64 0) ∧ w.cell? ⟨g, 1, none⟩ = some (.int .i64 0) ∧ w.cell? ⟨g, 2, none⟩ = some (.int .i64 0)) ∧ (∀ i, w.frozen? ⟨g, i, none⟩ = false) ∧ g < w.heap.size := ⟨cells3 h, fun i => frozen_of_heap h i, heap_lt h⟩
theorem NZ.upd {a b : World} {g : Nat} (h : NZ a g) (hu : Upd [] a b) : NZ b g := hu.keepb h (by simp)
theorem NZ.fill {w : World} {g : Nat} (h : NZ w g) (a b c : Int) : (((w.setCell ⟨g, 0, none⟩ (.int .i64 a)).setCell ⟨g, 1, none⟩ (.int .i64 b)).setCell ⟨g, 2, none⟩ (.int .i64 c)).heap[g]? = some (.cells #[.int .i64 a, .int .i64 b, .int .i64 c] 28) := by
  rw [heap_set (heap_set (heap_set h _ _) _ _)]
  rfl
theorem thenAns_form (x y t u v s : Int) : ∃ a b c d, thenAns x y t u v s = .tuple #[.agg #[.int .i64 a, .int .i64 b, .int .i64 c], .bool d] := by
  unfold thenAns
  split
  · exact walkAns_form _ _ _
  · exact ⟨_, _, _, _, rfl⟩
theorem backAns_form (x y t : Int) : ∃ a b c d, backAns x y t = .tuple #[.agg #[.int .i64 a, .int .i64 b, .int .i64 c], .bool d] := by
  unfold backAns
  split
  · exact walkAns_form _ _ _
  · exact ⟨_, _, _, _, rfl⟩

set_option maxRecDepth 100000 in
set_option maxHeartbeats 4000000 in
theorem joins_any (x y t u v s : Int) (w : World) : Calls Try.prog 3 #[.agg #[.int .i64 x, .int .i64 y, .int .i64 t], .agg #[.int .i64 u, .int .i64 v, .int .i64 s]] w fun e w' => e = .returned (.bool true) ∧ Upd [] w w' := by
  obtain ⟨a1, b1, c1, d1, ht⟩ := thenAns_form x y t u v s
  obtain ⟨a2, b2, c2, d2, hb⟩ := backAns_form x y t
  have HW1 := Lib.hid fun w => w_Then x y t u v s w
  have HW2 := Lib.hid fun w => w_Back x y t w
  have HR1 := Lib.hid fun w => r_Then x y t u v s w
  have HR2 := Lib.hid fun w => r_Back x y t w
  rw [ht] at HW1 HR1
  rw [hb] at HW2 HR2
  clear ht hb
  have T0 := TJ.start w x y t u v s
  obtain ⟨⟨e0, e1, e2⟩, e3, e4, e5⟩ := T0.cells
  go_enter Try.func3, Try.ntmps3
  go_wp2_with fail
  generalize hW : World.alloc _ _ = w0 at T0 e0 e1 e2 e3 e4 e5 ⊢
  clear hW
  have l0 := heap_lt T0.h1
  go_cut [5, 6] (fun v5 v6 wc => ∃ g, v5 = .pointer (some ⟨g, 0, none⟩) ∧ v6 = .bool d1 ∧ w.heap.size + 1 < g ∧ wc.heap[g]? = some (.cells #[.int .i64 a1, .int .i64 b1, .int .i64 c1] 28) ∧ TJ w x y t u v s wc)
  case first =>
    go_region_held3 (fun w' => w'.cell? ⟨w.heap.size, 0, none⟩ = some (.int .i64 x) ∧ w'.cell? ⟨w.heap.size, 1, none⟩ = some (.int .i64 y) ∧ w'.cell? ⟨w.heap.size, 2, none⟩ = some (.int .i64 t) ∧ w'.cell? ⟨w.heap.size + 1, 0, none⟩ = some (.int .i64 u) ∧ w'.cell? ⟨w.heap.size + 1, 1, none⟩ = some (.int .i64 v) ∧ w'.cell? ⟨w.heap.size + 1, 2, none⟩ = some (.int .i64 s))
      (((try dsimp only); (repeat' apply And.intro) <;> (repeat (first | (with_reducible assumption) | (with_reducible apply cell_allocE) | (with_reducible apply cell_drewE) | (with_reducible apply cell_drewNE) | (with_reducible refine cell_setE (by omega) ?_)))))
      (first
        | (go_at_call 10; refine (l_own _ _ _ _).mono ?_; rintro e wn ⟨rfl, hun⟩; have hk := TJ.cells (TJ.upd (w := w) (x := x) (y := y) (t := t) (u := u) (v := v) (s := s) (by repeat (first | assumption | apply TJ.drew | apply TJ.drewN | apply TJ.alloc)) hun); obtain ⟨⟨f0, f1, f2⟩, f3, f4, f5⟩ := hk; have T1 : TJ w x y t u v s wn := TJ.upd (by repeat (first | assumption | apply TJ.drew | apply TJ.drewN | apply TJ.alloc)) hun; have l1 := heap_lt T1.h1; first | (have nz : NZ wn _ := NZ.upd (by first | assumption | exact NZ.newD _ | exact NZ.newN _ _ | exact NZ.newA _ | exact NZ.new _ rfl) hun; obtain ⟨⟨z0, z1, z2⟩, zf, zl⟩ := nz.cells; clear hun) | clear hun)
        | (go_at_call 9; refine (HW1.out _).mono ?_; rintro e wn ⟨rfl, hun⟩; have hk := TJ.cells (TJ.upd (w := w) (x := x) (y := y) (t := t) (u := u) (v := v) (s := s) (by repeat (first | assumption | apply TJ.drew | apply TJ.drewN | apply TJ.alloc)) hun); obtain ⟨⟨f0, f1, f2⟩, f3, f4, f5⟩ := hk; have T1 : TJ w x y t u v s wn := TJ.upd (by repeat (first | assumption | apply TJ.drew | apply TJ.drewN | apply TJ.alloc)) hun; have l1 := heap_lt T1.h1; first | (have nz : NZ wn _ := NZ.upd (by first | assumption | exact NZ.newD _ | exact NZ.newN _ _ | exact NZ.newA _ | exact NZ.new _ rfl) hun; obtain ⟨⟨z0, z1, z2⟩, zf, zl⟩ := nz.cells; clear hun) | clear hun))
    all_goals (go_wp2_with fail)
    all_goals
      go_meet
      case rel =>
        refine ⟨_, rfl, rfl, ?_, ?_, ?_⟩
        · omega
        · first
            | ((with_reducible refine heap_alloc_at _ ?_); rfl)
            | ((with_reducible refine NZ.fill ?_ _ _ _); assumption)
        · repeat (first | assumption | (with_reducible refine TJ.alloc ?_ _) | (with_reducible refine TJ.set ?_ (by omega) _))
  case rest =>
    obtain ⟨g, rfl, rfl, hg, hg1, T1⟩ := hcut
    have HG1 := Lib.hid hg1
    obtain ⟨⟨f0, f1, f2⟩, f3, f4, f5⟩ := T1.cells
    clear hg1 T0 e0 e1 e2 e3 e4 e5 l0
    go_wp2_with fail
    refine (HR1.out _).mono ?_
    rintro e w2 ⟨rfl, hu2⟩
    have T2 := T1.upd hu2
    have H2 : ∃ wa, wa = w2.alloc (.cells #[.int .i64 a1, .int .i64 b1, .int .i64 c1] 25) ∧ wa.heap[g]? = some (.cells #[.int .i64 a1, .int .i64 b1, .int .i64 c1] 28) ∧ wa.heap[w2.heap.size]? = some (.cells #[.int .i64 a1, .int .i64 b1, .int .i64 c1] 25) ∧ TJ w x y t u v s wa := ⟨_, rfl, heap_alloc' (hu2.keepb HG1.out (by simp)), heap_alloc_at _ rfl, T2.alloc _⟩
    obtain ⟨⟨f0, f1, f2⟩, f3, f4, f5⟩ := T2.cells
    have l2 := heap_lt T2.h0
    have HH2 := Lib.hid H2
    clear H2 T2 T1 hu2
    go_wp2_with fail
    obtain ⟨wa, hwa, hA1, hA2, TA⟩ := HH2.out
    rw [← hwa]
    have HA := Lib.hid (And.intro hA1 hA2)
    clear hwa hA1 hA2 HH2 HG1 f0 f1 f2 f3 f4 f5 l2
    refine (l_own _ _ _ _).mono ?_
    rintro e w3 ⟨rfl, hu3⟩
    have HB := Lib.hid (And.intro (hu3.keepb HA.out.1 (by simp)) (hu3.keepb HA.out.2 (by simp)))
    have T3 := TA.upd hu3
    clear TA HA hu3
    go_wp2_with fail
    refine (HW2.out _).mono ?_
    rintro e w4 ⟨rfl, hu4⟩
    have T4 := T3.upd hu4
    have H4 : ∃ wa, wa = w4.alloc (.cells #[.int .i64 a2, .int .i64 b2, .int .i64 c2] 28) ∧ wa.heap[g]? = some (.cells #[.int .i64 a1, .int .i64 b1, .int .i64 c1] 28) ∧ wa.heap[w2.heap.size]? = some (.cells #[.int .i64 a1, .int .i64 b1, .int .i64 c1] 25) ∧ wa.heap[w4.heap.size]? = some (.cells #[.int .i64 a2, .int .i64 b2, .int .i64 c2] 28) ∧ TJ w x y t u v s wa := ⟨_, rfl, heap_alloc' (hu4.keepb HB.out.1 (by simp)), heap_alloc' (hu4.keepb HB.out.2 (by simp)), heap_alloc_at _ rfl, T4.alloc _⟩
    obtain ⟨⟨f0, f1, f2⟩, f3, f4, f5⟩ := T4.cells
    have l2 := heap_lt T4.h0
    have HH4 := Lib.hid H4
    clear H4 T4 T3 hu4
    go_wp2_with fail
    obtain ⟨wb, hwb, hA1, hA2, hA3, TB1⟩ := HH4.out
    rw [← hwb]
    have HA := Lib.hid (And.intro hA1 (And.intro hA2 hA3))
    clear hwb hA1 hA2 hA3 HH4 HB f0 f1 f2 f3 f4 f5 l2
    refine (HR2.out _).mono ?_
    rintro e w5 ⟨rfl, hu5⟩
    have H5 : ∃ wa, wa = w5.alloc (.cells #[.int .i64 a2, .int .i64 b2, .int .i64 c2] 25) ∧ wa.heap[g]? = some (.cells #[.int .i64 a1, .int .i64 b1, .int .i64 c1] 28) ∧ wa.heap[w2.heap.size]? = some (.cells #[.int .i64 a1, .int .i64 b1, .int .i64 c1] 25) ∧ wa.heap[w4.heap.size]? = some (.cells #[.int .i64 a2, .int .i64 b2, .int .i64 c2] 28) ∧ wa.heap[w5.heap.size]? = some (.cells #[.int .i64 a2, .int .i64 b2, .int .i64 c2] 25) ∧ TJ w x y t u v s wa := ⟨_, rfl, heap_alloc' (hu5.keepb HA.out.1 (by simp)), heap_alloc' (hu5.keepb HA.out.2.1 (by simp)), heap_alloc' (hu5.keepb HA.out.2.2 (by simp)), heap_alloc_at _ rfl, (TB1.upd hu5).alloc _⟩
    have HH5 := Lib.hid H5
    clear H5 TB1 hu5 HA
    go_wp2_with fail
    obtain ⟨wc5, hwc, hA1, hA2, hA3, hA4, T5⟩ := HH5.out
    rw [← hwc]
    clear hwc HH5
    obtain ⟨k0, k1, k2⟩ := cells3 hA1
    obtain ⟨k3, k4, k5⟩ := cells3 hA2
    obtain ⟨k6, k7, k8⟩ := cells3 hA3
    obtain ⟨k9, k10, k11⟩ := cells3 hA4
    obtain ⟨⟨f0, f1, f2⟩, f3, f4, f5⟩ := T5.cells
    have HU5 := Lib.hid T5.u
    have r0 := cell_regrown k0
    have r1 := cell_regrown k1
    have r2 := cell_regrown k2
    have r3 := cell_regrown k3
    have r4 := cell_regrown k4
    have r5 := cell_regrown k5
    have r6 := cell_regrown k6
    have r7 := cell_regrown k7
    have r8 := cell_regrown k8
    have r9 := cell_regrown k9
    have r10 := cell_regrown k10
    have r11 := cell_regrown k11
    have q0 := cell_regrown f0
    have q1 := cell_regrown f1
    have q2 := cell_regrown f2
    have qe := eq_rwalk_same
    have qb1 : ∀ w, (binOp .eql 4 (.bool d1) (.bool d1)).run Try.prog w = .ok (.bool true) w := fun w => by cases d1 <;> kernel_rfl
    have qb2 : ∀ w, (binOp .eql 4 (.bool d2) (.bool d2)).run Try.prog w = .ok (.bool true) w := fun w => by cases d2 <;> kernel_rfl
    have qb3 : ∀ w, (binOp .eql 4 (.bool (decide (WR x y t))) (.bool (decide (WR x y t)))).run Try.prog w = .ok (.bool true) w := fun w => by cases decide (WR x y t) <;> kernel_rfl
    have HC1 := Lib.hid (fun d os => reads_call (w := wc5) (d := d) (os := os) (fun w1 _ => l_back a1 b1 c1 w1))
    have HC2 := Lib.hid (fun d os => reads_call (w := wc5) (d := d) (os := os) (fun w1 _ => l_back a2 b2 c2 w1))
    have HC3 := Lib.hid (fun d os => reads_call (w := wc5) (d := d) (os := os) (fun w1 _ => l_own x y t w1))
    have HC4 := Lib.hid (fun d os => reads_call (w := wc5) (d := d) (os := os) (fun w1 _ => w_right x y t w1))
    have HC5 := Lib.hid (fun d os => reads_call (w := wc5) (d := d) (os := os) (fun w1 _ => rw_right x y t w1))
    have HC6 := Lib.hid (fun d os => reads_call (w := wc5) (d := d) (os := os) (fun w1 _ => alive41 w1))
    clear k0 k1 k2 k3 k4 k5 k6 k7 k8 k9 k10 k11 f0 f1 f2 f3 f4 f5 hA1 hA2 hA3 hA4 T5
    refine wp_region_reads (by kernel_rfl) (by kernel_rfl) ?_
    repeat (quiet_step (first | (with_reducible exact HC1.out _ _) | (with_reducible exact HC2.out _ _) | (with_reducible exact HC3.out _ _) | (with_reducible exact HC4.out _ _) | (with_reducible exact HC5.out _ _) | (with_reducible exact HC6.out _ _)))
    refine wpQuiet_nil ?_
    intro w6 hu6
    go_wp2
    go_ret
    exact ⟨rfl, HU5.out.trans hu6⟩
end Go.Proofs.Ytkjonflmokapcaa
