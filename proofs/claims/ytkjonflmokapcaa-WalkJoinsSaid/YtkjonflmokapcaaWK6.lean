/- The document's Then and Back. -/
import Derived.Test.YtkjonflmokapcaaWK5
set_option linter.unusedVariables false
set_option linter.unusedSimpArgs false
namespace Go.Proofs.Ytkjonflmokapcaa
open Go.RowKit

def toldAns (x y t : Int) : Value := if WR x y t then .tuple #[.agg #[.int .i64 x, .int .i64 y, .int .i64 t], .bool true] else walkNone
theorem told_walk (x y : Int) (r : Nat) : toldAns x y r = walkAns x y r := rfl
/-- What lies in memory while 'told' or 'Back' runs. -/
structure RB (w : World) (x y t : Int) (w' : World) : Prop where
  h0 : w'.heap[w.heap.size]? = some (.cells #[.int .i64 x, .int .i64 y, .int .i64 t] 25)
  h1 : w'.heap[w.heap.size + 1]? = some (.cells [.int .i64 0, .int .i64 0, .int .i64 0].toArray 25)
  u : Upd [] w w'
theorem RB.start (w : World) (x y t : Int) : RB w x y t ((w.alloc (.cells #[.int .i64 x, .int .i64 y, .int .i64 t] 25)).alloc (.cells #[.int .i64 0, .int .i64 0, .int .i64 0] 25)) :=
  ⟨heap_alloc' (heap_alloc_new _ _), heap_alloc_at _ (by simp), ((Upd.refl _ _).alloc _).alloc _⟩
theorem RB.upd {w a b : World} {x y t : Int} (h : RB w x y t a) (hu : Upd [] a b) : RB w x y t b :=
  ⟨hu.keepb h.h0 (by simp), hu.keepb h.h1 (by simp), h.u.trans hu⟩
theorem RB.end {w a : World} {x y t : Int} (h : RB w x y t a) (c0 c1 c2 : Value) : Upd [] w (((a.setCell ⟨w.heap.size + 1, 0, none⟩ c0).setCell ⟨w.heap.size + 1, 1, none⟩ c1).setCell ⟨w.heap.size + 1, 2, none⟩ c2) :=
  Upd.then (S := []) h.u ((((Upd.refl [w.heap.size + 1] a).setCell (by simp) _).setCell (by simp) _).setCell (by simp) _) (fun i hi => .inr (by simp at hi; omega))

set_option maxRecDepth 100000 in
set_option maxHeartbeats 1000000 in
theorem r_told (x y t : Int) (w : World) :
    Calls Try.prog 57 #[.agg #[.int .i64 x, .int .i64 y, .int .i64 t], .bool true] w fun e w' => e = .returned (toldAns x y t) ∧ Upd [] w w' := by
  have HT0 := Lib.hid (RB.start w x y t)
  obtain ⟨c0, c1, c2⟩ := cells3 HT0.out.h0
  by_cases h1 : WR x y t
  · have dr1 : decide (WR x y t) = true := by simpa using h1
    have HBA := Lib.hid (show toldAns x y t = _ from if_pos h1)
    clear h1
    go_enter Try.func57, Try.ntmps57
    go_wp2_with fail
    refine (rw_right _ _ _ _).mono ?_
    rintro e w5 ⟨rfl, hu5⟩
    have H5 := HT0.out.upd hu5
    obtain ⟨e0, e1, e2⟩ := cells3 H5.h0
    obtain ⟨k0, k1, k2⟩ := cells3 H5.h1
    have zf5 := fun i => frozen_of_heap H5.h1 i
    have l5 := heap_lt H5.h1
    have HT5 := Lib.hid H5
    clear H5 hu5
    go_wp2_with fail
    refine ret_rwalk2 rfl (g := w.heap.size + 1) (x := .int .i64 x) (y := .int .i64 y) (z := .int .i64 t) (v := .bool true) (t := 25) (fr := (0, 0)) rfl rfl rfl (hg := ?hg1) ?_
    case hg1 =>
      repeat (first | (with_reducible exact HT5.out.h1) | (with_reducible apply heap_set2))
      all_goals rfl
    · rw [HBA.out]
      exact ⟨rfl, HT5.out.end _ _ _⟩
  · have dr1 : decide (WR x y t) = false := by simpa using h1
    have HBA := Lib.hid (show toldAns x y t = _ from if_neg h1)
    clear h1
    go_enter Try.func57, Try.ntmps57
    go_wp2_with fail
    refine (rw_right _ _ _ _).mono ?_
    rintro e w5 ⟨rfl, hu5⟩
    have H5 := HT0.out.upd hu5
    obtain ⟨k0, k1, k2⟩ := cells3 H5.h1
    have zf5 := fun i => frozen_of_heap H5.h1 i
    have l5 := heap_lt H5.h1
    have HT5 := Lib.hid H5
    clear H5 hu5
    go_wp2_with fail
    refine ret_rwalk2 rfl (g := w.heap.size + 1) (x := .int .i64 0) (y := .int .i64 0) (z := .int .i64 0) (v := .bool false) (t := 25) (fr := (0, 0)) rfl rfl rfl (hg := ?hg2) ?_
    case hg2 =>
      repeat (first | (with_reducible exact HT5.out.h1) | (with_reducible apply heap_set2))
      all_goals rfl
    · rw [HBA.out]
      exact ⟨rfl, HT5.out.end _ _ _⟩

theorem back_right {x y : Int} (h : GR x y) {r : Nat} (hr : r < 4) : WR (tre (-x) (-y) r) (tim (-x) (-y) r) r := by
  unfold GR at h
  refine ⟨?_, by omega, by omega⟩
  unfold GR tre tim
  split <;> (try split) <;> (try split) <;> omega
theorem tre_neg (x y : Int) (r : Nat) : tre (-x) (-y) r = -tre x y r ∧ tim (-x) (-y) r = -tim x y r := by
  unfold tre tim
  constructor <;> (split <;> (try split) <;> (try split) <;> rfl)

set_option maxRecDepth 100000 in
set_option maxHeartbeats 1000000 in
theorem r_Back (x y t : Int) (w : World) :
    Calls Try.prog 13 #[.agg #[.int .i64 x, .int .i64 y, .int .i64 t]] w fun e w' => e = .returned (backAns x y t) ∧ Upd [] w w' := by
  have HT0 := Lib.hid (RB.start w x y t)
  obtain ⟨c0, c1, c2⟩ := cells3 HT0.out.h0
  by_cases h1 : WR x y t
  · have ht : 0 ≤ t ∧ t < 4 := h1.2
    have hr4 : (-t % 4).toNat < 4 := by omega
    have dr1 : decide (WR x y t) = true := by simpa using h1
    have hxs := (gr_sm h1.1).1
    have hys := (gr_sm h1.1).2
    have HR := Lib.hid (fun w => r_turned (k := -t) hxs hys w)
    obtain ⟨t1, t2⟩ := tre_sm hxs hys (-t % 4).toNat
    have hb : backAns x y t = .tuple #[.agg #[.int .i64 (-tre x y (-t % 4).toNat), .int .i64 (-tim x y (-t % 4).toNat), .int .i64 (-t % 4).toNat], .bool true] := by
      rw [← (tre_neg x y _).1, ← (tre_neg x y _).2]
      exact (if_pos h1).trans (if_pos (back_right h1.1 hr4))
    have HBA := Lib.hid hb
    have n1 := neg64 t1
    have n2 := neg64 t2
    have n3 : (4 - t).tmod 4 = ((-t % 4).toNat : Int) := by rw [Int.tmod_eq_emod_of_nonneg (by omega)]; omega
    generalize tre x y (-t % 4).toNat = p at HR HBA n1
    generalize tim x y (-t % 4).toNat = q at HR HBA n2
    generalize (-t % 4).toNat = r at HR HBA n3
    clear hxs hys t1 t2 hb h1 hr4
    go_enter Try.func13, Try.ntmps13
    go_wp2_with fail
    refine (rw_right _ _ _ _).mono ?_
    rintro e w1 ⟨rfl, hu1⟩
    have H1 := HT0.out.upd hu1
    obtain ⟨e0, e1, e2⟩ := cells3 H1.h0
    have HT1 := Lib.hid H1
    clear H1 hu1
    go_wp2_with fail
    refine (HR.out _).mono ?_
    rintro e w2 ⟨rfl, hu2⟩
    have H2 := HT1.out.upd hu2
    obtain ⟨f0, f1, f2⟩ := cells3 H2.h0
    obtain ⟨k0, k1, k2⟩ := cells3 H2.h1
    have zf5 := fun i => frozen_of_heap H2.h1 i
    have l5 := heap_lt H2.h1
    have l4 := heap_lt H2.h0
    have HT2 := Lib.hid H2
    clear H2 hu2
    go_wp2_with fail
    refine ret_rwalk2 rfl (g := w.heap.size + 1) (x := .int .i64 (-p)) (y := .int .i64 (-q)) (z := .int .i64 r) (v := .bool true) (t := 25) (fr := (0, 0)) rfl rfl rfl (hg := ?hg1) ?_
    case hg1 =>
      apply heap_alloc'
      repeat (first | (with_reducible exact HT2.out.h1) | (with_reducible apply heap_set2))
      all_goals rfl
    · rw [HBA.out]
      exact ⟨rfl, (HT2.out.end _ _ _).alloc _⟩
  · have dr1 : decide (WR x y t) = false := by simpa using h1
    have hb : backAns x y t = walkNone := if_neg h1
    have HB := Lib.hid hb
    clear hb h1
    go_enter Try.func13, Try.ntmps13
    go_wp2_with fail
    refine (rw_right _ _ _ _).mono ?_
    rintro e w5 ⟨rfl, hu5⟩
    have H5 := HT0.out.upd hu5
    obtain ⟨k0, k1, k2⟩ := cells3 H5.h1
    have zf5 := fun i => frozen_of_heap H5.h1 i
    have l5 := heap_lt H5.h1
    have HT5 := Lib.hid H5
    clear H5 hu5
    go_wp2_with fail
    refine ret_rwalk2 rfl (g := w.heap.size + 1) (x := .int .i64 0) (y := .int .i64 0) (z := .int .i64 0) (v := .bool false) (t := 25) (fr := (0, 0)) rfl rfl rfl (hg := ?hg2) ?_
    case hg2 =>
      repeat (first | (with_reducible exact HT5.out.h1) | (with_reducible apply heap_set2))
      all_goals rfl
    · rw [HB.out]
      exact ⟨rfl, HT5.out.end _ _ _⟩
/-- What lies in memory while the document's 'Then' runs. -/
structure TR (w : World) (x y t u v s : Int) (w' : World) : Prop where
  h0 : w'.heap[w.heap.size]? = some (.cells #[.int .i64 x, .int .i64 y, .int .i64 t] 25)
  h1 : w'.heap[w.heap.size + 1]? = some (.cells #[.int .i64 u, .int .i64 v, .int .i64 s] 25)
  h2 : w'.heap[w.heap.size + 1 + 1]? = some (.cells [.int .i64 0, .int .i64 0, .int .i64 0].toArray 25)
  u : Upd [] w w'
theorem TR.start (w : World) (x y t u v s : Int) : TR w x y t u v s (((w.alloc (.cells #[.int .i64 x, .int .i64 y, .int .i64 t] 25)).alloc (.cells #[.int .i64 u, .int .i64 v, .int .i64 s] 25)).alloc (.cells #[.int .i64 0, .int .i64 0, .int .i64 0] 25)) :=
  ⟨heap_alloc' (heap_alloc' (heap_alloc_new _ _)), heap_alloc' (heap_alloc_at _ (by simp)), heap_alloc_at _ (by simp), (((Upd.refl _ _).alloc _).alloc _).alloc _⟩
theorem TR.upd {w a b : World} {x y t u v s : Int} (h : TR w x y t u v s a) (hu : Upd [] a b) : TR w x y t u v s b :=
  ⟨hu.keepb h.h0 (by simp), hu.keepb h.h1 (by simp), hu.keepb h.h2 (by simp), h.u.trans hu⟩
theorem TR.drew {w a : World} {x y t u v s : Int} (h : TR w x y t u v s a) : TR w x y t u v s a.drew := ⟨h.h0, h.h1, h.h2, h.u.drew⟩
theorem TR.drewN {w a : World} {x y t u v s : Int} (h : TR w x y t u v s a) (n : Nat) : TR w x y t u v s (a.drewN n) := ⟨h.h0, h.h1, h.h2, h.u.drewN n⟩
theorem TR.end {w a : World} {x y t u v s : Int} (h : TR w x y t u v s a) (c0 c1 c2 : Value) : Upd [] w (((a.setCell ⟨w.heap.size + 1 + 1, 0, none⟩ c0).setCell ⟨w.heap.size + 1 + 1, 1, none⟩ c1).setCell ⟨w.heap.size + 1 + 1, 2, none⟩ c2) :=
  Upd.then (S := []) h.u ((((Upd.refl [w.heap.size + 1 + 1] a).setCell (by simp) _).setCell (by simp) _).setCell (by simp) _) (fun i hi => .inr (by simp at hi; omega))

set_option maxRecDepth 100000 in
set_option maxHeartbeats 1000000 in
theorem r_Then_no {x y t u v s : Int} (h : ¬ (WR x y t ∧ WR u v s)) (w : World) :
    Calls Try.prog 11 #[.agg #[.int .i64 x, .int .i64 y, .int .i64 t], .agg #[.int .i64 u, .int .i64 v, .int .i64 s]] w fun e w' => e = .returned walkNone ∧ Upd [] w w' := by
  have H0 := TR.start w x y t u v s
  obtain ⟨c0, c1, c2⟩ := cells3 H0.h0
  obtain ⟨d0, d1, d2⟩ := cells3 H0.h1
  have zf := fun i => frozen_of_heap H0.h2 i
  have l0 := heap_lt H0.h2
  have HT0 := Lib.hid H0
  clear H0
  by_cases h1 : WR x y t
  · have dr1 : decide (WR x y t) = true := by simpa using h1
    have dr2 : decide (WR u v s) = false := by simpa using fun h2 => h ⟨h1, h2⟩
    clear h h1
    go_enter Try.func11, Try.ntmps11
    go_wp2_with fail
    refine (rw_right _ _ _ _).mono ?_
    rintro e w1 ⟨rfl, hu1⟩
    have H1 := HT0.out.upd hu1
    obtain ⟨e0, e1, e2⟩ := cells3 H1.h1
    have HT1 := Lib.hid H1
    clear H1 hu1
    go_wp2_with fail
    refine (rw_right _ _ _ _).mono ?_
    rintro e w2 ⟨rfl, hu2⟩
    have H2 := HT1.out.upd hu2
    obtain ⟨k0, k1, k2⟩ := cells3 H2.h2
    have zf2 := fun i => frozen_of_heap H2.h2 i
    have l2 := heap_lt H2.h2
    have HT2 := Lib.hid H2
    clear H2 hu2
    go_wp2_with fail
    refine ret_rwalk2 rfl (g := w.heap.size + 1 + 1) (x := .int .i64 0) (y := .int .i64 0) (z := .int .i64 0) (v := .bool false) (t := 25) (fr := (0, 0)) rfl rfl rfl (hg := ?hg1) ?_
    case hg1 =>
      repeat (first | (with_reducible exact HT2.out.h2) | (with_reducible apply heap_set2))
      all_goals rfl
    · exact ⟨rfl, HT2.out.end _ _ _⟩
  · have dr1 : decide (WR x y t) = false := by simpa using h1
    clear h h1
    go_enter Try.func11, Try.ntmps11
    go_wp2_with fail
    refine (rw_right _ _ _ _).mono ?_
    rintro e w2 ⟨rfl, hu2⟩
    have H2 := HT0.out.upd hu2
    obtain ⟨k0, k1, k2⟩ := cells3 H2.h2
    have zf2 := fun i => frozen_of_heap H2.h2 i
    have l2 := heap_lt H2.h2
    have HT2 := Lib.hid H2
    clear H2 hu2
    go_wp2_with fail
    refine ret_rwalk2 rfl (g := w.heap.size + 1 + 1) (x := .int .i64 0) (y := .int .i64 0) (z := .int .i64 0) (v := .bool false) (t := 25) (fr := (0, 0)) rfl rfl rfl (hg := ?hg2) ?_
    case hg2 =>
      repeat (first | (with_reducible exact HT2.out.h2) | (with_reducible apply heap_set2))
      all_goals rfl
    · exact ⟨rfl, HT2.out.end _ _ _⟩

set_option maxRecDepth 100000 in
set_option maxHeartbeats 1000000 in
theorem r_Then_yes {x y u v : Int} {r s : Nat} (h1 : WR x y r) (h2 : WR u v s) (w : World) :
    Calls Try.prog 11 #[.agg #[.int .i64 x, .int .i64 y, .int .i64 r], .agg #[.int .i64 u, .int .i64 v, .int .i64 s]] w fun e w' => e = .returned (walkAns (x + tre u v r) (y + tim u v r) ((r + s) % 4)) ∧ Upd [] w w' := by
  have hr : r < 4 := by have := h1.2; omega
  have hs : s < 4 := by have := h2.2; omega
  have dr1 : decide (WR x y r) = true := by simpa using h1
  have dr2 : decide (WR u v s) = true := by simpa using h2
  have HR := Lib.hid (fun w => r_turned (k := (r : Int)) (gr_sm h2.1).1 (gr_sm h2.1).2 w)
  have hrr : ((r : Int) % 4).toNat = r := by omega
  rw [hrr] at HR
  have hle := tre_le (x := u) (y := v) (by have := h2.1; unfold GR at this; omega) (by have := h2.1; unfold GR at this; omega) r
  have hx := h1.1
  unfold GR at hx
  have b0 : -1048576 ≤ x ∧ x ≤ 1048576 := hx.1
  have b1 : -1048576 ≤ y ∧ y ≤ 1048576 := hx.2
  have b2 : -1048576 ≤ tre u v r ∧ tre u v r ≤ 1048576 := by omega
  have b3 : -1048576 ≤ tim u v r ∧ tim u v r ≤ 1048576 := by omega
  obtain ⟨ax, ay, az, ad, ha⟩ := walkAns_form (x + tre u v r) (y + tim u v r) ((r + s) % 4)
  rw [← told_walk] at ha ⊢
  generalize tre u v r = p at HR ha b2 ⊢
  generalize tim u v r = q at HR ha b3 ⊢
  have n3 : ((r : Int) + s).tmod 4 = (((r + s) % 4 : Nat) : Int) := by rw [Int.tmod_eq_emod_of_nonneg (by omega)]; omega
  generalize (r + s) % 4 = m at ha n3 ⊢
  have HA := Lib.hid ha
  have HN := Lib.hid n3
  clear hle h1 h2 ha hrr hx n3
  have H0 := TR.start w x y r u v s
  obtain ⟨c0, c1, c2⟩ := cells3 H0.h0
  have HT0 := Lib.hid H0
  clear H0
  go_enter Try.func11, Try.ntmps11
  go_wp2_with fail
  refine (rw_right _ _ _ _).mono ?_
  rintro e w1 ⟨rfl, hu1⟩
  have H1 := HT0.out.upd hu1
  obtain ⟨e0, e1, e2⟩ := cells3 H1.h1
  have HT1 := Lib.hid H1
  clear H1 hu1
  go_wp2_with fail
  refine (rw_right _ _ _ _).mono ?_
  rintro e w2 ⟨rfl, hu2⟩
  have H2 := HT1.out.upd hu2
  obtain ⟨f0, f1, f2⟩ := cells3 H2.h0
  obtain ⟨g0, g1, g2⟩ := cells3 H2.h1
  have HT2 := Lib.hid H2
  clear H2 hu2
  go_wp2_with fail
  refine (HR.out _).mono ?_
  rintro e w3 ⟨rfl, hu3⟩
  have H3 := HT2.out.upd hu3
  obtain ⟨i0, i1, i2⟩ := cells3 H3.h0
  obtain ⟨j0, j1, j2⟩ := cells3 H3.h1
  have l3 := heap_lt H3.h0
  have l4 := heap_lt H3.h1
  have l5 := heap_lt H3.h2
  have HT3 := Lib.hid H3
  clear H3 hu3
  have n3 := HN.out
  go_wp2_with fail
  refine (r_told _ _ _ _).mono ?_
  rintro e w4 ⟨he4, hu4⟩
  rw [HA.out] at he4
  subst he4
  have H4 := HT3.out.upd (((Upd.refl _ _).alloc _).trans hu4)
  obtain ⟨k0, k1, k2⟩ := cells3 H4.h2
  have zf5 := fun i => frozen_of_heap H4.h2 i
  have l6 := heap_lt H4.h2
  have HT4 := Lib.hid H4
  clear H4 hu4
  go_wp2_with fail
  refine ret_rwalk2 rfl (g := w.heap.size + 1 + 1) (x := .int .i64 ax) (y := .int .i64 ay) (z := .int .i64 az) (v := .bool ad) (t := 25) (fr := (0, 0)) rfl rfl rfl (hg := ?hg1) ?_
  case hg1 =>
    repeat (first | (with_reducible exact HT4.out.h2) | (with_reducible apply heap_set2))
    all_goals rfl
  · rw [HA.out]
    exact ⟨rfl, HT4.out.end _ _ _⟩
theorem r_Then (x y t u v s : Int) (w : World) :
    Calls Try.prog 11 #[.agg #[.int .i64 x, .int .i64 y, .int .i64 t], .agg #[.int .i64 u, .int .i64 v, .int .i64 s]] w fun e w' => e = .returned (thenAns x y t u v s) ∧ Upd [] w w' := by
  unfold thenAns
  by_cases h : WR x y t ∧ WR u v s
  · rw [if_pos h]
    obtain ⟨r, rfl⟩ : ∃ r : Nat, t = r := ⟨t.toNat, by have := h.1.2; omega⟩
    obtain ⟨q, rfl⟩ : ∃ q : Nat, s = q := ⟨s.toNat, by have := h.2.2; omega⟩
    simpa using r_Then_yes h.1 h.2 w
  · rw [if_neg h]
    exact r_Then_no h w
end Go.Proofs.Ytkjonflmokapcaa
