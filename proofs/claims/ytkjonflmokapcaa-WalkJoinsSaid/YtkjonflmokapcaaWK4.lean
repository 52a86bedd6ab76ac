/- Package walk: Then and Back. -/
import Derived.Test.YtkjonflmokapcaaWK3
set_option linter.unusedVariables false
set_option linter.unusedSimpArgs false
namespace Go.Proofs.Ytkjonflmokapcaa
open Go.RowKit

def walkNone : Value := .tuple #[.agg #[.int .i64 0, .int .i64 0, .int .i64 0], .bool false]
def thenAns (x y t u v s : Int) : Value := if WR x y t ∧ WR u v s then walkAns (x + tre u v t.toNat) (y + tim u v t.toNat) ((t.toNat + s.toNat) % 4) else walkNone
def backAns (x y t : Int) : Value := if WR x y t then walkAns (tre (-x) (-y) (-t % 4).toNat) (tim (-x) (-y) (-t % 4).toNat) (-t % 4).toNat else walkNone
theorem gr_sm {x y : Int} (h : GR x y) : Sm x ∧ Sm y := by
  have e : (2 : Nat) ^ 40 = 1099511627776 := by decide
  unfold GR at h
  unfold Sm
  constructor <;> omega
theorem sm_add {x y : Int} (hx : x.natAbs ≤ 1048576) (hy : y.natAbs ≤ 1048576) : Sm (x + y) := by
  have e : (2 : Nat) ^ 40 = 1099511627776 := by decide
  unfold Sm
  omega
theorem tre_le {x y : Int} (hx : x.natAbs ≤ 1048576) (hy : y.natAbs ≤ 1048576) (r : Nat) : (tre x y r).natAbs ≤ 1048576 ∧ (tim x y r).natAbs ≤ 1048576 := by
  unfold tre tim
  constructor <;> (split <;> (try split) <;> (try split) <;> omega)

/-- What lies in memory while 'Then' runs. -/
structure TB (w : World) (x y t u v s : Int) (w' : World) : Prop where
  h0 : w'.heap[w.heap.size]? = some (.cells #[.int .i64 x, .int .i64 y, .int .i64 t] 28)
  h1 : w'.heap[w.heap.size + 1]? = some (.cells #[.int .i64 u, .int .i64 v, .int .i64 s] 28)
  h2 : w'.heap[w.heap.size + 1 + 1]? = some (.cells [.int .i64 0, .int .i64 0, .int .i64 0].toArray 28)
  u : Upd [] w w'
theorem TB.start (w : World) (x y t u v s : Int) : TB w x y t u v s (((w.alloc (.cells #[.int .i64 x, .int .i64 y, .int .i64 t] 28)).alloc (.cells #[.int .i64 u, .int .i64 v, .int .i64 s] 28)).alloc (.cells #[.int .i64 0, .int .i64 0, .int .i64 0] 28)) :=
  ⟨heap_alloc' (heap_alloc' (heap_alloc_new _ _)), heap_alloc' (heap_alloc_at _ (by simp)), heap_alloc_at _ (by simp), (((Upd.refl _ _).alloc _).alloc _).alloc _⟩
theorem TB.upd {w a b : World} {x y t u v s : Int} (h : TB w x y t u v s a) (hu : Upd [] a b) : TB w x y t u v s b :=
  ⟨hu.keepb h.h0 (by simp), hu.keepb h.h1 (by simp), hu.keepb h.h2 (by simp), h.u.trans hu⟩
theorem TB.drew {w a : World} {x y t u v s : Int} (h : TB w x y t u v s a) : TB w x y t u v s a.drew := ⟨h.h0, h.h1, h.h2, h.u.drew⟩
theorem TB.drewN {w a : World} {x y t u v s : Int} (h : TB w x y t u v s a) (n : Nat) : TB w x y t u v s (a.drewN n) := ⟨h.h0, h.h1, h.h2, h.u.drewN n⟩
theorem TB.end {w a : World} {x y t u v s : Int} (h : TB w x y t u v s a) (c0 c1 c2 : Value) : Upd [] w (((a.setCell ⟨w.heap.size + 1 + 1, 0, none⟩ c0).setCell ⟨w.heap.size + 1 + 1, 1, none⟩ c1).setCell ⟨w.heap.size + 1 + 1, 2, none⟩ c2) :=
  Upd.then (S := []) h.u ((((Upd.refl [w.heap.size + 1 + 1] a).setCell (by simp) _).setCell (by simp) _).setCell (by simp) _) (fun i hi => .inr (by simp at hi; omega))

set_option maxRecDepth 100000 in
set_option maxHeartbeats 1000000 in
theorem w_Then_no {x y t u v s : Int} (h : ¬ (WR x y t ∧ WR u v s)) (w : World) :
    Calls Try.prog 9 #[.agg #[.int .i64 x, .int .i64 y, .int .i64 t], .agg #[.int .i64 u, .int .i64 v, .int .i64 s]] w fun e w' => e = .returned walkNone ∧ Upd [] w w' := by
  have H0 := TB.start w x y t u v s
  obtain ⟨c0, c1, c2⟩ := cells3 H0.h0
  obtain ⟨d0, d1, d2⟩ := cells3 H0.h1
  have zf := fun i => frozen_of_heap H0.h2 i
  have l0 := heap_lt H0.h2
  have HT0 := Lib.hid H0
  clear H0
  by_cases h1 : WR x y t
  · have dr1 : decide (WR x y t) = true := by simpa using h1
    have dr2 : decide (WR u v s) = false := by simpa using fun h2 => h ⟨h1, h2⟩
    clear h h1
    go_enter Try.func9, Try.ntmps9
    go_wp2_with fail
    refine (w_right _ _ _ _).mono ?_
    rintro e w1 ⟨rfl, hu1⟩
    have H1 := HT0.out.upd hu1
    obtain ⟨e0, e1, e2⟩ := cells3 H1.h1
    have HT1 := Lib.hid H1
    clear H1 hu1
    go_wp2_with fail
    refine (w_right _ _ _ _).mono ?_
    rintro e w2 ⟨rfl, hu2⟩
    have H2 := HT1.out.upd hu2
    obtain ⟨k0, k1, k2⟩ := cells3 H2.h2
    have zf2 := fun i => frozen_of_heap H2.h2 i
    have l2 := heap_lt H2.h2
    have HT2 := Lib.hid H2
    clear H2 hu2
    go_wp2_with fail
    refine ret_walk2 rfl (g := w.heap.size + 1 + 1) (x := .int .i64 0) (y := .int .i64 0) (z := .int .i64 0) (v := .bool false) (t := 28) (fr := (0, 0)) rfl rfl rfl (hg := ?hg1) ?_
    case hg1 =>
      repeat (first | (with_reducible exact HT2.out.h2) | (with_reducible apply heap_set2))
      all_goals rfl
    · exact ⟨rfl, HT2.out.end _ _ _⟩
  · have dr1 : decide (WR x y t) = false := by simpa using h1
    clear h h1
    go_enter Try.func9, Try.ntmps9
    go_wp2_with fail
    refine (w_right _ _ _ _).mono ?_
    rintro e w2 ⟨rfl, hu2⟩
    have H2 := HT0.out.upd hu2
    obtain ⟨k0, k1, k2⟩ := cells3 H2.h2
    have zf2 := fun i => frozen_of_heap H2.h2 i
    have l2 := heap_lt H2.h2
    have HT2 := Lib.hid H2
    clear H2 hu2
    go_wp2_with fail
    refine ret_walk2 rfl (g := w.heap.size + 1 + 1) (x := .int .i64 0) (y := .int .i64 0) (z := .int .i64 0) (v := .bool false) (t := 28) (fr := (0, 0)) rfl rfl rfl (hg := ?hg2) ?_
    case hg2 =>
      repeat (first | (with_reducible exact HT2.out.h2) | (with_reducible apply heap_set2))
      all_goals rfl
    · exact ⟨rfl, HT2.out.end _ _ _⟩

theorem walkAns_form (x y : Int) (r : Nat) : ∃ a b c d, walkAns x y r = .tuple #[.agg #[.int .i64 a, .int .i64 b, .int .i64 c], .bool d] := by
  unfold walkAns
  split
  · exact ⟨_, _, _, _, rfl⟩
  · exact ⟨_, _, _, _, rfl⟩
set_option maxRecDepth 100000 in
set_option maxHeartbeats 1000000 in
theorem w_Then_yes {x y u v : Int} {r s : Nat} (h1 : WR x y r) (h2 : WR u v s) (w : World) :
    Calls Try.prog 9 #[.agg #[.int .i64 x, .int .i64 y, .int .i64 r], .agg #[.int .i64 u, .int .i64 v, .int .i64 s]] w fun e w' => e = .returned (walkAns (x + tre u v r) (y + tim u v r) ((r + s) % 4)) ∧ Upd [] w w' := by
  have hr : r < 4 := by have := h1.2; omega
  have hs : s < 4 := by have := h2.2; omega
  have dr1 : decide (WR x y r) = true := by simpa using h1
  have dr2 : decide (WR u v s) = true := by simpa using h2
  obtain ⟨ta, tb, et, ht⟩ := cv_turn hr
  have HT := Lib.hid (fun w => w_turn2 (r : Int) (r := r) (by omega) w et)
  have hxs := (gr_sm h1.1).1
  have hys := (gr_sm h1.1).2
  have hi : CV (FloatKind.f64.nearest x) (FloatKind.f64.nearest y) x y := cv_int (by have := sm_lt hxs (Nat.zero_le _); omega) (by have := sm_lt hys (Nat.zero_le _); omega)
  have HTH := Lib.hid (fun w => w_then hi hr ht hxs hys (gr_sm h2.1).1 (gr_sm h2.1).2 (show ((s : Int) % 4).toNat = s by omega) w)
  have hle := tre_le (x := u) (y := v) (by have := h2.1; unfold GR at this; omega) (by have := h2.1; unfold GR at this; omega) r
  have HX := Lib.hid (sm_add (x := x) (by have := h1.1; unfold GR at this; omega) hle.1)
  have HY := Lib.hid (sm_add (x := y) (by have := h1.1; unfold GR at this; omega) hle.2)
  have HRS := Lib.hid (Nat.mod_lt (r + s) (show 4 > 0 by omega))
  obtain ⟨ax, ay, az, ad, ha⟩ := walkAns_form (x + tre u v r) (y + tim u v r) ((r + s) % 4)
  have HA := Lib.hid ha
  clear hle hi ht hxs hys h1 h2 et ha
  have H0 := TB.start w x y r u v s
  obtain ⟨c0, c1, c2⟩ := cells3 H0.h0
  have HT0 := Lib.hid H0
  clear H0
  go_enter Try.func9, Try.ntmps9
  go_wp2_with fail
  refine (w_right _ _ _ _).mono ?_
  rintro e w1 ⟨rfl, hu1⟩
  have H1 := HT0.out.upd hu1
  obtain ⟨e0, e1, e2⟩ := cells3 H1.h1
  have HT1 := Lib.hid H1
  clear H1 hu1
  go_wp2_with fail
  refine (w_right _ _ _ _).mono ?_
  rintro e w2 ⟨rfl, hu2⟩
  have H2 := HT1.out.upd hu2
  obtain ⟨f0, f1, f2⟩ := cells3 H2.h0
  obtain ⟨g0, g1, g2⟩ := cells3 H2.h1
  have HT2 := Lib.hid H2
  clear H2 hu2
  go_wp2_with fail
  go_region_held3 (fun w' => w'.cell? ⟨w.heap.size, 0, none⟩ = some (.int .i64 x) ∧ w'.cell? ⟨w.heap.size, 1, none⟩ = some (.int .i64 y) ∧ w'.cell? ⟨w.heap.size, 2, none⟩ = some (.int .i64 r) ∧ w'.cell? ⟨w.heap.size + 1, 0, none⟩ = some (.int .i64 u) ∧ w'.cell? ⟨w.heap.size + 1, 1, none⟩ = some (.int .i64 v) ∧ w'.cell? ⟨w.heap.size + 1, 2, none⟩ = some (.int .i64 s))
    (((try dsimp only); (repeat' apply And.intro) <;> (repeat (first | (with_reducible assumption) | (with_reducible apply cell_drewE) | (with_reducible apply cell_drewNE) | (with_reducible refine cell_setE (by omega) ?_)))))
    (first
      | (go_at_call 53; refine (w_of x y _).mono ?_; rintro e w3 ⟨rfl, hu3⟩; have H3 : TB w x y r u v s w3 := TB.upd (by first | exact HT2.out | exact HT2.out.drew | exact HT2.out.drewN _) hu3; obtain ⟨f0', f1', f2'⟩ := cells3 H3.h0; obtain ⟨g0', g1', g2'⟩ := cells3 H3.h1; have HT3 := Lib.hid H3; clear H3 hu3)
      | (go_at_call 54; refine (HT.out _).mono ?_; rintro e w2 ⟨rfl, rfl⟩)
      | (go_at_call 52; refine (HTH.out _).mono ?_; rintro e w4 ⟨p, q, p2, q2, rfl, hg1, hg2, hu4⟩; have H4 : TB w x y r u v s w4 := TB.upd (by first | exact HT3.out | exact HT3.out.drew | exact HT3.out.drewN _) hu4; obtain ⟨f0', f1', f2'⟩ := cells3 H4.h0; obtain ⟨g0', g1', g2'⟩ := cells3 H4.h1; have HG1 := Lib.hid hg1; have HG2 := Lib.hid hg2; have HT4 := Lib.hid H4; clear H4 hu4 hg1 hg2)
      | (go_at_call 55; refine (w_walk HG1.out HRS.out HG2.out HX.out HY.out _).mono ?_; rintro e w5 ⟨he5, hu5⟩; rw [HA.out] at he5; subst he5; have H5 : TB w x y r u v s w5 := TB.upd (by first | exact HT4.out | exact HT4.out.drew | exact HT4.out.drewN _) hu5; obtain ⟨f0', f1', f2'⟩ := cells3 H5.h0; obtain ⟨g0', g1', g2'⟩ := cells3 H5.h1; obtain ⟨k0, k1, k2⟩ := cells3 H5.h2; have zf5 := fun i => frozen_of_heap H5.h2 i; have l5 := heap_lt H5.h2; have HT5 := Lib.hid H5; clear H5 hu5))
  go_wp2_with fail
  refine ret_walk2 rfl (g := w.heap.size + 1 + 1) (x := .int .i64 ax) (y := .int .i64 ay) (z := .int .i64 az) (v := .bool ad) (t := 28) (fr := (0, 0)) rfl rfl rfl (hg := ?hg1) ?_
  case hg1 =>
    repeat (first | (with_reducible exact HT5.out.h2) | (with_reducible apply heap_set2))
    all_goals rfl
  · rw [HA.out]
    exact ⟨rfl, HT5.out.end _ _ _⟩
theorem w_Then (x y t u v s : Int) (w : World) :
    Calls Try.prog 9 #[.agg #[.int .i64 x, .int .i64 y, .int .i64 t], .agg #[.int .i64 u, .int .i64 v, .int .i64 s]] w fun e w' => e = .returned (thenAns x y t u v s) ∧ Upd [] w w' := by
  unfold thenAns
  by_cases h : WR x y t ∧ WR u v s
  · rw [if_pos h]
    obtain ⟨r, rfl⟩ : ∃ r : Nat, t = r := ⟨t.toNat, by have := h.1.2; omega⟩
    obtain ⟨q, rfl⟩ : ∃ q : Nat, s = q := ⟨s.toNat, by have := h.2.2; omega⟩
    simpa using w_Then_yes h.1 h.2 w
  · rw [if_neg h]
    exact w_Then_no h w

theorem run_neg_complex (a b : Nat) (w : World) : (Op.unary .neg (.complex .f64 a b)).run Try.prog w = .ok (.complex .f64 (Op.negFloat .f64 a) (Op.negFloat .f64 b)) w := rfl
/-- What lies in memory while 'Back' runs. -/
structure BB (w : World) (x y t : Int) (w' : World) : Prop where
  h0 : w'.heap[w.heap.size]? = some (.cells #[.int .i64 x, .int .i64 y, .int .i64 t] 28)
  h1 : w'.heap[w.heap.size + 1]? = some (.cells [.int .i64 0, .int .i64 0, .int .i64 0].toArray 28)
  u : Upd [] w w'
theorem BB.start (w : World) (x y t : Int) : BB w x y t ((w.alloc (.cells #[.int .i64 x, .int .i64 y, .int .i64 t] 28)).alloc (.cells #[.int .i64 0, .int .i64 0, .int .i64 0] 28)) :=
  ⟨heap_alloc' (heap_alloc_new _ _), heap_alloc_at _ (by simp), ((Upd.refl _ _).alloc _).alloc _⟩
theorem BB.upd {w a b : World} {x y t : Int} (h : BB w x y t a) (hu : Upd [] a b) : BB w x y t b :=
  ⟨hu.keepb h.h0 (by simp), hu.keepb h.h1 (by simp), h.u.trans hu⟩
theorem BB.end {w a : World} {x y t : Int} (h : BB w x y t a) (c0 c1 c2 : Value) : Upd [] w (((a.setCell ⟨w.heap.size + 1, 0, none⟩ c0).setCell ⟨w.heap.size + 1, 1, none⟩ c1).setCell ⟨w.heap.size + 1, 2, none⟩ c2) :=
  Upd.then (S := []) h.u ((((Upd.refl [w.heap.size + 1] a).setCell (by simp) _).setCell (by simp) _).setCell (by simp) _) (fun i hi => .inr (by simp at hi; omega))

set_option maxRecDepth 100000 in
set_option maxHeartbeats 1000000 in
theorem w_Back (x y t : Int) (w : World) :
    Calls Try.prog 12 #[.agg #[.int .i64 x, .int .i64 y, .int .i64 t]] w fun e w' => e = .returned (backAns x y t) ∧ Upd [] w w' := by
  have H0 := BB.start w x y t
  obtain ⟨c0, c1, c2⟩ := cells3 H0.h0
  have HT0 := Lib.hid H0
  clear H0
  by_cases h1 : WR x y t
  · have ht : 0 ≤ t ∧ t < 4 := h1.2
    have hr4 : (-t % 4).toNat < 4 := by omega
    have dr1 : decide (WR x y t) = true := by simpa using h1
    obtain ⟨ta, tb, et, ht'⟩ := cv_turn hr4
    have HT := Lib.hid (fun w => w_turn2 (-t) rfl w et)
    have hxs := (gr_sm h1.1).1
    have hys := (gr_sm h1.1).2
    have hxs' : Sm (-x) := by unfold Sm at *; omega
    have hys' : Sm (-y) := by unfold Sm at *; omega
    have hi := cv_neg (cv_int (x := x) (y := y) (by have := sm_lt hxs (Nat.zero_le _); omega) (by have := sm_lt hys (Nat.zero_le _); omega))
    obtain ⟨p1, q1, e1, g1⟩ := cv_turned hi hr4 ht' hxs' hys'
    obtain ⟨t1, t2⟩ := tre_sm hxs' hys' (-t % 4).toNat
    have m1 := fun w => run_complex_mul (P := Try.prog) w 116 _ _ _ _ _ _ e1
    have HWK := Lib.hid (fun w => w_walk g1 hr4 ht' t1 t2 w)
    have mneg := fun w => run_neg_complex (FloatKind.f64.nearest x) (FloatKind.f64.nearest y) w
    obtain ⟨ax, ay, az, ad, ha⟩ := walkAns_form (tre (-x) (-y) (-t % 4).toNat) (tim (-x) (-y) (-t % 4).toNat) (-t % 4).toNat
    have hb : backAns x y t = walkAns (tre (-x) (-y) (-t % 4).toNat) (tim (-x) (-y) (-t % 4).toNat) (-t % 4).toNat := if_pos h1
    have HA := Lib.hid ha
    have HBA := Lib.hid (hb.trans ha)
    clear hi hxs hys hxs' hys' t1 t2 g1 et e1 ha hb h1 hr4 ht'
    go_enter Try.func12, Try.ntmps12
    go_wp2_with fail
    refine (w_right _ _ _ _).mono ?_
    rintro e w1 ⟨rfl, hu1⟩
    have H1 := HT0.out.upd hu1
    obtain ⟨e0, e1, e2⟩ := cells3 H1.h0
    have HT1 := Lib.hid H1
    clear H1 hu1
    go_wp2_with fail
    refine (HT.out _).mono ?_
    rintro e w2 ⟨rfl, rfl⟩
    go_wp2_with fail
    refine (w_of x y _).mono ?_
    rintro e w2 ⟨rfl, hu2⟩
    have H2 := HT1.out.upd hu2
    have HT2 := Lib.hid H2
    clear H2 hu2
    go_wp2_with fail
    refine (HWK.out _).mono ?_
    rintro e w5 ⟨he5, hu5⟩
    rw [HA.out] at he5
    subst he5
    have H5 := HT2.out.upd hu5
    obtain ⟨k0, k1, k2⟩ := cells3 H5.h1
    have zf5 := fun i => frozen_of_heap H5.h1 i
    have l5 := heap_lt H5.h1
    have HT5 := Lib.hid H5
    clear H5 hu5
    go_wp2_with fail
    refine ret_walk2 rfl (g := w.heap.size + 1) (x := .int .i64 ax) (y := .int .i64 ay) (z := .int .i64 az) (v := .bool ad) (t := 28) (fr := (0, 0)) rfl rfl rfl (hg := ?hg1) ?_
    case hg1 =>
      repeat (first | (with_reducible exact HT5.out.h1) | (with_reducible apply heap_set2))
      all_goals rfl
    · rw [HBA.out]
      exact ⟨rfl, HT5.out.end _ _ _⟩
  · have dr1 : decide (WR x y t) = false := by simpa using h1
    have hb : backAns x y t = walkNone := if_neg h1
    have HB := Lib.hid hb
    clear hb h1
    go_enter Try.func12, Try.ntmps12
    go_wp2_with fail
    refine (w_right _ _ _ _).mono ?_
    rintro e w5 ⟨rfl, hu5⟩
    have H5 := HT0.out.upd hu5
    obtain ⟨k0, k1, k2⟩ := cells3 H5.h1
    have zf5 := fun i => frozen_of_heap H5.h1 i
    have l5 := heap_lt H5.h1
    have HT5 := Lib.hid H5
    clear H5 hu5
    go_wp2_with fail
    refine ret_walk2 rfl (g := w.heap.size + 1) (x := .int .i64 0) (y := .int .i64 0) (z := .int .i64 0) (v := .bool false) (t := 28) (fr := (0, 0)) rfl rfl rfl (hg := ?hg2) ?_
    case hg2 =>
      repeat (first | (with_reducible exact HT5.out.h1) | (with_reducible apply heap_set2))
      all_goals rfl
    · rw [HB.out]
      exact ⟨rfl, HT5.out.end _ _ _⟩
end Go.Proofs.Ytkjonflmokapcaa
