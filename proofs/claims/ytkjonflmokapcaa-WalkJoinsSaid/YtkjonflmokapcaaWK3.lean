/- Package walk: a walker as a walk. -/
import Derived.Test.YtkjonflmokapcaaWK2
set_option linter.unusedVariables false
set_option linter.unusedSimpArgs false
namespace Go.Proofs.Ytkjonflmokapcaa
open Go.RowKit

set_option maxRecDepth 100000 in
theorem fv_convert {b : Nat} {x : Int} (h : FV b x) (hx : Sm x) (w : World) : (convert 165 3 (.float .f64 b)).run Try.prog w = .ok (.int .i64 x) w := by
  have hv : floatToIntVal .f64 b .i64 = some x := by
    unfold floatToIntVal
    rw [fv_toInt h]
    have : IntKind.i64.min ≤ x ∧ x ≤ IntKind.i64.max := by
      unfold Sm at hx
      have e : (2 : Nat) ^ 40 = 1099511627776 := by decide
      simp [IntKind.min, IntKind.max, IntKind.bits, IntKind.signed]
      omega
    simp only
    rw [if_pos this]
  exact run_convert_float_int w 165 3 .f64 .i64 b x (by rw [Try.underlying165]; rfl) Try.underlying3 hv
def walkAns (x y : Int) (r : Nat) : Value := if WR x y r then .tuple #[.agg #[.int .i64 x, .int .i64 y, .int .i64 r], .bool true] else .tuple #[.agg #[.int .i64 0, .int .i64 0, .int .i64 0], .bool false]

set_option maxRecDepth 100000 in
set_option maxHeartbeats 1000000 in
theorem w_walk {a b c d r : Nat} {x y : Int} (h1 : CV a b x y) (hr : r < 4) (h2 : CV c d (qre r) (qim r)) (hx : Sm x) (hy : Sm y) (w : World) :
    Calls Try.prog 55 #[.agg #[.complex .f64 a b, .complex .f64 c d]] w fun e w' => e = .returned (walkAns x y r) ∧ Upd [] w w' := by
  have v1 := fv_convert h1.1 hx
  have v2 := fv_convert h1.2 hy
  have H2 := Lib.hid h2
  have HB := Lib.hid (show ∀ w', w' = (w.alloc (.cells #[.complex .f64 a b, .complex .f64 c d] 118)).alloc (.cells #[.int .i64 x, .int .i64 y, .int .i64 0] 28) → w'.heap[w.heap.size]? = some (.cells #[.complex .f64 a b, .complex .f64 c d] 118) ∧ w'.heap[w.heap.size + 1]? = some (.cells [.int .i64 x, .int .i64 y, .int .i64 0].toArray 28) ∧ Upd [] w w' from fun w' e => by
    subst e
    exact ⟨heap_alloc' (heap_alloc_new _ _), heap_alloc_at _ (by simp), ((Upd.refl _ _).alloc _).alloc _⟩)
  clear h1 h2 hx hy
  go_enter Try.func55, Try.ntmps55
  go_wp2_with fail
  go_loopg [] r (fun n wr => ∃ k : Nat, n + k = r ∧ wr.heap[w.heap.size]? = some (.cells #[.complex .f64 a b, .complex .f64 c d] 118) ∧ wr.heap[w.heap.size + 1]? = some (.cells [.int .i64 x, .int .i64 y, .int .i64 k].toArray 28) ∧ Upd [] w wr)
  case atStart => exact ⟨0, by omega, HB.out _ rfl⟩
  case round =>
    obtain ⟨k, hk, hb0, hb1, hu⟩ := hrel
    have hk4 : k < 4 := by omega
    obtain ⟨ta, tb, et, ht⟩ := cv_turn hk4
    have HT := Lib.hid (fun w => w_turn2 (k : Int) (r := k) (by omega) w et)
    have o1 : (FloatKind.f64.format.order c ta == some .eq) = decide (qre r = qre k) := fv_eq H2.out.1 ht.1
    have o2 : (FloatKind.f64.format.order d tb == some .eq) = decide (qim r = qim k) := fv_eq H2.out.2 ht.2
    have a0 := cell_of_heap hb0 0
    have a1 := cell_of_heap hb0 1
    obtain ⟨c0, c1, c2⟩ := cells3 hb1
    have zf := fun i => frozen_of_heap hb1 i
    have l1 := heap_lt hb1
    simp at a0 a1
    have HB0 := Lib.hid hb0
    have HB1 := Lib.hid hb1
    have HU := Lib.hid hu
    have HK := Lib.hid hk
    by_cases hkr : k = r
    · subst hkr
      simp only [decide_true] at o1 o2
      clear hb0 hb1 hu hk ht et
      go_wp2_with fail
      go_region_held3 (fun w' => w'.cell? ⟨w.heap.size, 1, none⟩ = some (.complex .f64 c d) ∧ w'.cell? ⟨w.heap.size + 1, 2, none⟩ = some (.int .i64 k))
        (((try dsimp only); (repeat' apply And.intro) <;> (repeat (first | (with_reducible assumption) | (with_reducible apply cell_allocE) | (with_reducible apply cell_drewE) | (with_reducible apply cell_drewNE) | (with_reducible refine cell_setE (by omega) ?_)))))
        (first
          | (go_at_call 54; refine (HT.out _).mono ?_; rintro e w2 ⟨rfl, rfl⟩))
      by_cases hw : WR x y k
      · have dw : decide (WR x y k) = true := by simpa using hw
        have ha : walkAns x y k = .tuple #[.agg #[.int .i64 x, .int .i64 y, .int .i64 k], .bool true] := if_pos hw
        have HA := Lib.hid ha
        clear hw ha
        go_wp2_with (go_at_call 15; refine (w_right _ _ _ _).mono ?_; rintro e w3 ⟨rfl, hu3⟩; have hu3' := Upd.trans (S := []) (a := wr) (by first | exact Upd.refl _ _ | exact (Upd.refl _ _).drew | exact (Upd.refl _ _).drewN _) hu3; have hb3 := hu3'.keepb HB1.out (by simp); obtain ⟨d0, d1, d2⟩ := cells3 hb3; have zf3 := fun i => frozen_of_heap hb3 i; have l3 := heap_lt hb3; have HB3 := Lib.hid hb3; have HU3 := Lib.hid (HU.out.trans hu3'); clear hb3 hu3 hu3')
        refine ret_walk2 rfl (g := w.heap.size + 1) (x := .int .i64 x) (y := .int .i64 y) (z := .int .i64 k) (v := .bool true) (t := 28) (fr := (0, 0)) rfl rfl rfl (hg := ?hg) ?_
        case hg =>
          repeat (first | (with_reducible exact HB3.out) | (with_reducible apply heap_set2))
          all_goals rfl
        · rw [HA.out]
          exact ⟨rfl, Upd.then (S := []) HU3.out ((((Upd.refl [w.heap.size + 1] w3).setCell (by simp) _).setCell (by simp) _).setCell (by simp) _) (fun i hi => .inr (by simp at hi; omega))⟩
      · have dw : decide (WR x y k) = false := by simpa using hw
        have ha : walkAns x y k = .tuple #[.agg #[.int .i64 0, .int .i64 0, .int .i64 0], .bool false] := if_neg hw
        have HA := Lib.hid ha
        clear hw ha
        go_wp2_with (go_at_call 15; refine (w_right _ _ _ _).mono ?_; rintro e w3 ⟨rfl, hu3⟩; have hu3' := Upd.trans (S := []) (a := wr) (by first | exact Upd.refl _ _ | exact (Upd.refl _ _).drew | exact (Upd.refl _ _).drewN _) hu3; have hb3 := hu3'.keepb HB1.out (by simp); obtain ⟨d0, d1, d2⟩ := cells3 hb3; have zf3 := fun i => frozen_of_heap hb3 i; have l3 := heap_lt hb3; have HB3 := Lib.hid hb3; have HU3 := Lib.hid (HU.out.trans hu3'); clear hb3 hu3 hu3')
        refine ret_walk2 rfl (g := w.heap.size + 1) (x := .int .i64 0) (y := .int .i64 0) (z := .int .i64 0) (v := .bool false) (t := 28) (fr := (0, 0)) rfl rfl rfl (hg := ?hg) ?_
        case hg =>
          repeat (first | (with_reducible exact HB3.out) | (with_reducible apply heap_set2))
          all_goals rfl
        · rw [HA.out]
          exact ⟨rfl, Upd.then (S := []) HU3.out ((((Upd.refl [w.heap.size + 1] w3).setCell (by simp) _).setCell (by simp) _).setCell (by simp) _) (fun i hi => .inr (by simp at hi; omega))⟩
    · have hne : ¬ (qre r = qre k ∧ qim r = qim k) := by
        rintro ⟨q1, q2⟩
        have hr' : r = 0 ∨ r = 1 ∨ r = 2 ∨ r = 3 := by omega
        have hk' : k = 0 ∨ k = 1 ∨ k = 2 ∨ k = 3 := by omega
        apply hkr
        rcases hr' with rfl | rfl | rfl | rfl <;> rcases hk' with rfl | rfl | rfl | rfl <;> first | rfl | (exact absurd q1 (by decide)) | (exact absurd q2 (by decide))
      have o3 : (FloatKind.f64.format.order c ta == some .eq && FloatKind.f64.format.order d tb == some .eq) = false := by
        rw [o1, o2, ← Bool.decide_and]
        simpa using hne
      clear hb0 hb1 hu hk ht et hne o1 o2
      go_wp2_with fail
      go_region_held3 (fun w' => w'.cell? ⟨w.heap.size, 1, none⟩ = some (.complex .f64 c d) ∧ w'.cell? ⟨w.heap.size + 1, 2, none⟩ = some (.int .i64 k))
        (((try dsimp only); (repeat' apply And.intro) <;> (repeat (first | (with_reducible assumption) | (with_reducible apply cell_allocE) | (with_reducible apply cell_drewE) | (with_reducible apply cell_drewNE) | (with_reducible refine cell_setE (by omega) ?_)))))
        (first
          | (go_at_call 54; refine (HT.out _).mono ?_; rintro e w2 ⟨rfl, rfl⟩))
      go_wp2_with fail
      have hk' := HK.out
      go_roundg (gk - 1)
      case measure => omega
      case rel =>
        refine ⟨k + 1, by omega, ?_, ?_, ?_⟩
        · rw [heap_drew, heap_set_other _ _ _ (by omega)]; exact HB0.out
        · rw [heap_drew, heap_set HB1.out]
          simp
        · exact (Upd.then (S := []) HU.out ((Upd.refl [w.heap.size + 1] wr).setCell (by simp) _) (fun i hi => .inr (by simp at hi; omega))).drew
end Go.Proofs.Ytkjonflmokapcaa
