/- The document's Do, op by op. -/
import Derived.Test.YtfdidgobgeohcaaPlay
set_option linter.unusedVariables false
set_option linter.unusedSimpArgs false
namespace Go.Proofs.Ytfdidgobgeohcaa
open Go.RowKit

set_option maxRecDepth 100000 in
set_option maxHeartbeats 1000000 in
theorem ref_do1 (i : Nat) (x : Int) (B : Nat) {W : World} {v : Value} {m : MS} (hown : W.ownsRow B 23 1 v m.xs.length (u32s m.xs)) (hB : B ≤ W.heap.size) (hi : i < m.xs.length) (hn : m.xs.length ≤ 1000000)
    (hst0 : 0 ≤ m.st) (hst : m.st < 1000000) (hlo0 : 0 ≤ m.lo) (hlo : m.lo < 1000000) :
    Calls Try.prog 36 #[.agg #[v, .int .i64 m.lo, .int .i64 m.st], .agg #[.int .i64 1, .int .i64 i, .int .u32 x]] W (DoRPost B W (⟨m.lo + 1, m.st, m.xs⟩, m.xs[i], true)) := by
  obtain ⟨ix, hix, hz0, hz1, hz2⟩ := info_parts info_u32
  obtain ⟨va, vc, rfl, hvn, hvs⟩ := own_shape hown
  obtain ⟨lo, st, xs⟩ := m
  simp only at hown hi hn hst0 hst hlo0 hlo hvs ⊢
  obtain ⟨vb, vo, rfl, hvb, hvc⟩ := hvs (by omega)
  have HOWN := Lib.hid hown
  have HVC := Lib.hid hvc
  have HU := Lib.hid ((doW_upd W (.slice (some ⟨vb, vo, none⟩) xs.length vc) lo st 1 i x).alloc (.cells #[] 23))
  have hs := doW_size W (.slice (some ⟨vb, vo, none⟩) xs.length vc) lo st 1 i x
  have H0 := Lib.hid ((heap_alloc_other _ (.cells #[] 23) (k := W.heap.size) (by rw [hs]; omega)).trans (doW_0 W (.slice (some ⟨vb, vo, none⟩) xs.length vc) lo st 1 i x))
  have H1 := Lib.hid ((heap_alloc_other _ (.cells #[] 23) (k := W.heap.size + 1) (by rw [hs]; omega)).trans (doW_1 W (.slice (some ⟨vb, vo, none⟩) xs.length vc) lo st 1 i x))
  have H2 := Lib.hid ((heap_alloc_other _ (.cells #[] 23) (k := W.heap.size + 2) (by rw [hs]; omega)).trans (doW_2 W (.slice (some ⟨vb, vo, none⟩) xs.length vc) lo st 1 i x))
  have HN := Lib.hid (show ((doW W (.slice (some ⟨vb, vo, none⟩) xs.length vc) lo st 1 i x).alloc (.cells #[] 23)).ownsRow (W.heap.size + 3) 23 1 (.slice (some ⟨W.heap.size + 1 + 1 + 1, 0, none⟩) 0 0) 0 [] from own_empty' (by omega) (by rw [hs]))
  have hb0 : W.heap.size + 3 ≤ ((doW W (.slice (some ⟨vb, vo, none⟩) xs.length vc) lo st 1 i x).alloc (.cells #[] 23)).heap.size := by simp [hs]
  have HB0 := Lib.hid hb0
  have cvi : (doW W (.slice (some ⟨vb, vo, none⟩) xs.length vc) lo st 1 i x).cell? ⟨vb, vo + i, none⟩ = some (.int .u32 xs[i]) := by
    rw [(doW_upd W (.slice (some ⟨vb, vo, none⟩) xs.length vc) lo st 1 i x).cell (p := ⟨vb, vo + i, none⟩) hvb (by simp)]
    exact hvc i _ (by simp [u32s, List.getElem?_eq_getElem hi])
  unfold doW at cvi
  have hi2 : decide (xs.length ≤ i) = false := by simp; omega
  have HX := Lib.hid (Reads.upd (a := some ⟨vb, vo, none⟩) (n := xs.length) (vs := u32s xs) (w := W) ⟨by simp [u32s], fun _ => ⟨vb, vo, rfl, hvb, hvc⟩⟩ HU.out (by simp)).src
  clear hown hvc hvn hvs hs hb0
  go_enter Try.func36, Try.ntmps36
  go_wp2_with (at_builtin; refine Go.RowKit.Hid.out ?_)
  refine Lib.hid ?_
  refine wpList_append_reads rfl _ _ 22 rfl (W.heap.size + 3) 23 ix (.int .u32 0) 1 4 Try.underlying22 hix hz0 hz1 hz2 rfl (by decide) _ 0 [] rfl HN.out (some ⟨vb, vo, none⟩) xs.length vc (u32s xs) rfl (by simp [u32s]) HX.out (fun h => by cases h) (u32s_one _) (by simp [maxLen]; omega) (by omega) HB0.out ?_
  intro v' w1 hown' hgrow
  simp only [Nat.zero_add, List.nil_append] at hown'
  have HU1 := Lib.hid (own_start HU.out HN.out hgrow (by omega))
  have HM0 := Lib.hid (grown_keep HN.out hgrow H0.out (by omega))
  have HM1 := Lib.hid (grown_keep HN.out hgrow H1.out (by omega))
  have HM2 := Lib.hid (grown_keep HN.out hgrow H2.out (by omega))
  obtain ⟨k0, k1, k2⟩ := cells3 HM0.out
  obtain ⟨s0, s1, s2⟩ := cells3 HM1.out
  obtain ⟨z0, z1, z2⟩ := cells3 HM2.out
  have zf := fun j => frozen_of_heap HM2.out j
  have hpos : 0 < xs.length := by omega
  obtain ⟨g, gc, rfl, hgb, hgl⟩ := own_some hown' hpos
  have gx := hown'.cellAt i (by omega)
  rw [show (u32s xs)[i]? = some (.int .u32 xs[i]) by simp [u32s, List.getElem?_eq_getElem hi]] at gx
  have gf := hown'.frozenAt i
  have HG := Lib.hid hown'
  have hl := Nat.le_trans HB0.out hgrow.size
  have l0 : W.heap.size < w1.heap.size := by omega
  have l1 : W.heap.size + 1 < w1.heap.size := by omega
  have l2 : W.heap.size + 1 + 1 < w1.heap.size := by omega
  have n0 : W.heap.size + 1 + 1 ≠ w1.heap.size := by omega
  have n1 : w1.heap.size ≠ W.heap.size + 1 + 1 := by omega
  have m0 : W.heap.size ≠ g := by omega
  have m1 : W.heap.size + 1 ≠ g := by omega
  have m2 : W.heap.size + 1 + 1 ≠ g := by omega
  have m0' : g ≠ W.heap.size := by omega
  have m1' : g ≠ W.heap.size + 1 := by omega
  have m2' : g ≠ W.heap.size + 1 + 1 := by omega
  clear hl
  clear hgrow hown' cvi
  go_wp2
  refine bodyPost_ret (v := .tuple #[.agg #[.slice (some ⟨g, 0, none⟩) xs.length gc, .int .i64 (lo + 1), .int .i64 (st)], .int .u32 xs[i], .bool true]) (by simp [results, Try.results36, go_sem, l2, n0, n1, m2, m2', z0, z1, z2, gx]) rfl ?_
  refine with_fact (p := Upd [W.heap.size + 1 + 1] w1 _) (fun hS => ⟨_, rfl, (own_upd HG.out hS (fun k hk => by have := own_base HG.out k hk; simp; omega)).mono (by omega), HU1.out.then hS (by simp; omega)⟩) ?_
  exact ((((Upd.refl _ _).setCell (by simp) _).setCell (by simp) _).setCell (by simp) _).alloc _

set_option maxRecDepth 100000 in
set_option maxHeartbeats 1000000 in
theorem ref_do2 (i : Nat) (x : Int) (B : Nat) {W : World} {v : Value} {m : MS} (hown : W.ownsRow B 23 1 v m.xs.length (u32s m.xs)) (hB : B ≤ W.heap.size) (hi : i < m.xs.length) (hn : m.xs.length ≤ 1000000)
    (hst0 : 0 ≤ m.st) (hst : m.st < 1000000) (hlo0 : 0 ≤ m.lo) (hlo : m.lo < 1000000) :
    Calls Try.prog 36 #[.agg #[v, .int .i64 m.lo, .int .i64 m.st], .agg #[.int .i64 2, .int .i64 i, .int .u32 x]] W (DoRPost B W (⟨m.lo, m.st + 1, m.xs.set i x⟩, 0, true)) := by
  obtain ⟨ix, hix, hz0, hz1, hz2⟩ := info_parts info_u32
  obtain ⟨va, vc, rfl, hvn, hvs⟩ := own_shape hown
  obtain ⟨lo, st, xs⟩ := m
  simp only at hown hi hn hst0 hst hlo0 hlo hvs ⊢
  obtain ⟨vb, vo, rfl, hvb, hvc⟩ := hvs (by omega)
  have HOWN := Lib.hid hown
  have HVC := Lib.hid hvc
  have HU := Lib.hid ((doW_upd W (.slice (some ⟨vb, vo, none⟩) xs.length vc) lo st 2 i x).alloc (.cells #[] 23))
  have hs := doW_size W (.slice (some ⟨vb, vo, none⟩) xs.length vc) lo st 2 i x
  have H0 := Lib.hid ((heap_alloc_other _ (.cells #[] 23) (k := W.heap.size) (by rw [hs]; omega)).trans (doW_0 W (.slice (some ⟨vb, vo, none⟩) xs.length vc) lo st 2 i x))
  have H1 := Lib.hid ((heap_alloc_other _ (.cells #[] 23) (k := W.heap.size + 1) (by rw [hs]; omega)).trans (doW_1 W (.slice (some ⟨vb, vo, none⟩) xs.length vc) lo st 2 i x))
  have H2 := Lib.hid ((heap_alloc_other _ (.cells #[] 23) (k := W.heap.size + 2) (by rw [hs]; omega)).trans (doW_2 W (.slice (some ⟨vb, vo, none⟩) xs.length vc) lo st 2 i x))
  have HN := Lib.hid (show ((doW W (.slice (some ⟨vb, vo, none⟩) xs.length vc) lo st 2 i x).alloc (.cells #[] 23)).ownsRow (W.heap.size + 3) 23 1 (.slice (some ⟨W.heap.size + 1 + 1 + 1, 0, none⟩) 0 0) 0 [] from own_empty' (by omega) (by rw [hs]))
  have hb0 : W.heap.size + 3 ≤ ((doW W (.slice (some ⟨vb, vo, none⟩) xs.length vc) lo st 2 i x).alloc (.cells #[] 23)).heap.size := by simp [hs]
  have HB0 := Lib.hid hb0
  have cvi : (doW W (.slice (some ⟨vb, vo, none⟩) xs.length vc) lo st 2 i x).cell? ⟨vb, vo + i, none⟩ = some (.int .u32 xs[i]) := by
    rw [(doW_upd W (.slice (some ⟨vb, vo, none⟩) xs.length vc) lo st 2 i x).cell (p := ⟨vb, vo + i, none⟩) hvb (by simp)]
    exact hvc i _ (by simp [u32s, List.getElem?_eq_getElem hi])
  unfold doW at cvi
  have hi2 : decide (xs.length ≤ i) = false := by simp; omega
  have HX := Lib.hid (Reads.upd (a := some ⟨vb, vo, none⟩) (n := xs.length) (vs := u32s xs) (w := W) ⟨by simp [u32s], fun _ => ⟨vb, vo, rfl, hvb, hvc⟩⟩ HU.out (by simp)).src
  clear hown hvc hvn hvs hs hb0
  go_enter Try.func36, Try.ntmps36
  go_wp2_with (at_builtin; refine Go.RowKit.Hid.out ?_)
  refine Lib.hid ?_
  refine wpList_append_reads rfl _ _ 22 rfl (W.heap.size + 3) 23 ix (.int .u32 0) 1 4 Try.underlying22 hix hz0 hz1 hz2 rfl (by decide) _ 0 [] rfl HN.out (some ⟨vb, vo, none⟩) xs.length vc (u32s xs) rfl (by simp [u32s]) HX.out (fun h => by cases h) (u32s_one _) (by simp [maxLen]; omega) (by omega) HB0.out ?_
  intro v' w1 hown' hgrow
  simp only [Nat.zero_add, List.nil_append] at hown'
  have HU1 := Lib.hid (own_start HU.out HN.out hgrow (by omega))
  have HM0 := Lib.hid (grown_keep HN.out hgrow H0.out (by omega))
  have HM1 := Lib.hid (grown_keep HN.out hgrow H1.out (by omega))
  have HM2 := Lib.hid (grown_keep HN.out hgrow H2.out (by omega))
  obtain ⟨k0, k1, k2⟩ := cells3 HM0.out
  obtain ⟨s0, s1, s2⟩ := cells3 HM1.out
  obtain ⟨z0, z1, z2⟩ := cells3 HM2.out
  have zf := fun j => frozen_of_heap HM2.out j
  have hpos : 0 < xs.length := by omega
  obtain ⟨g, gc, rfl, hgb, hgl⟩ := own_some hown' hpos
  have gx := hown'.cellAt i (by omega)
  rw [show (u32s xs)[i]? = some (.int .u32 xs[i]) by simp [u32s, List.getElem?_eq_getElem hi]] at gx
  have gf := hown'.frozenAt i
  have HG := Lib.hid hown'
  have hl := Nat.le_trans HB0.out hgrow.size
  have l0 : W.heap.size < w1.heap.size := by omega
  have l1 : W.heap.size + 1 < w1.heap.size := by omega
  have l2 : W.heap.size + 1 + 1 < w1.heap.size := by omega
  have n0 : W.heap.size + 1 + 1 ≠ w1.heap.size := by omega
  have n1 : w1.heap.size ≠ W.heap.size + 1 + 1 := by omega
  have m0 : W.heap.size ≠ g := by omega
  have m1 : W.heap.size + 1 ≠ g := by omega
  have m2 : W.heap.size + 1 + 1 ≠ g := by omega
  have m0' : g ≠ W.heap.size := by omega
  have m1' : g ≠ W.heap.size + 1 := by omega
  have m2' : g ≠ W.heap.size + 1 + 1 := by omega
  clear hl
  clear hgrow hown' cvi
  go_wp2
  refine bodyPost_ret (v := .tuple #[.agg #[.slice (some ⟨g, 0, none⟩) xs.length gc, .int .i64 (lo), .int .i64 (st + 1)], .int .u32 0, .bool true]) (by simp [results, Try.results36, go_sem, l2, n0, n1, m2, m2', z0, z1, z2, gx]) rfl ?_
  have hst := (HG.out.stored i (.int .u32 x)).1
  refine with_fact (p := Upd [W.heap.size + 1 + 1] (w1.setCell ⟨g, i, none⟩ (.int .u32 x)) _) (fun hS => ⟨_, rfl, ?_, (HU1.out.then ((Upd.refl [g] w1).setCell (by simp) _) (by simp; omega)).then hS (by simp; omega)⟩) ?_
  · have := (own_upd hst hS (fun k hk => by have := own_base hst k hk; simp; omega)).mono (base' := B) (by omega)
    simpa [u32s, List.map_set] using this
  exact ((((Upd.refl _ _).setCell (by simp) _).setCell (by simp) _).setCell (by simp) _).alloc _

set_option maxRecDepth 100000 in
set_option maxHeartbeats 1000000 in
theorem ref_do3 (i : Nat) (x : Int) (B : Nat) {W : World} {v : Value} {m : MS} (hown : W.ownsRow B 23 1 v m.xs.length (u32s m.xs)) (hB : B ≤ W.heap.size) (hi : i < m.xs.length) (hn : m.xs.length ≤ 1000000)
    (hst0 : 0 ≤ m.st) (hst : m.st < 1000000) (hlo0 : 0 ≤ m.lo) (hlo : m.lo < 1000000) :
    Calls Try.prog 36 #[.agg #[v, .int .i64 m.lo, .int .i64 m.st], .agg #[.int .i64 3, .int .i64 i, .int .u32 x]] W (DoRPost B W (⟨m.lo + 1, m.st + 1, m.xs.set i x⟩, m.xs[i], true)) := by
  obtain ⟨ix, hix, hz0, hz1, hz2⟩ := info_parts info_u32
  obtain ⟨va, vc, rfl, hvn, hvs⟩ := own_shape hown
  obtain ⟨lo, st, xs⟩ := m
  simp only at hown hi hn hst0 hst hlo0 hlo hvs ⊢
  obtain ⟨vb, vo, rfl, hvb, hvc⟩ := hvs (by omega)
  have HOWN := Lib.hid hown
  have HVC := Lib.hid hvc
  have HU := Lib.hid ((doW_upd W (.slice (some ⟨vb, vo, none⟩) xs.length vc) lo st 3 i x).alloc (.cells #[] 23))
  have hs := doW_size W (.slice (some ⟨vb, vo, none⟩) xs.length vc) lo st 3 i x
  have H0 := Lib.hid ((heap_alloc_other _ (.cells #[] 23) (k := W.heap.size) (by rw [hs]; omega)).trans (doW_0 W (.slice (some ⟨vb, vo, none⟩) xs.length vc) lo st 3 i x))
  have H1 := Lib.hid ((heap_alloc_other _ (.cells #[] 23) (k := W.heap.size + 1) (by rw [hs]; omega)).trans (doW_1 W (.slice (some ⟨vb, vo, none⟩) xs.length vc) lo st 3 i x))
  have H2 := Lib.hid ((heap_alloc_other _ (.cells #[] 23) (k := W.heap.size + 2) (by rw [hs]; omega)).trans (doW_2 W (.slice (some ⟨vb, vo, none⟩) xs.length vc) lo st 3 i x))
  have HN := Lib.hid (show ((doW W (.slice (some ⟨vb, vo, none⟩) xs.length vc) lo st 3 i x).alloc (.cells #[] 23)).ownsRow (W.heap.size + 3) 23 1 (.slice (some ⟨W.heap.size + 1 + 1 + 1, 0, none⟩) 0 0) 0 [] from own_empty' (by omega) (by rw [hs]))
  have hb0 : W.heap.size + 3 ≤ ((doW W (.slice (some ⟨vb, vo, none⟩) xs.length vc) lo st 3 i x).alloc (.cells #[] 23)).heap.size := by simp [hs]
  have HB0 := Lib.hid hb0
  have cvi : (doW W (.slice (some ⟨vb, vo, none⟩) xs.length vc) lo st 3 i x).cell? ⟨vb, vo + i, none⟩ = some (.int .u32 xs[i]) := by
    rw [(doW_upd W (.slice (some ⟨vb, vo, none⟩) xs.length vc) lo st 3 i x).cell (p := ⟨vb, vo + i, none⟩) hvb (by simp)]
    exact hvc i _ (by simp [u32s, List.getElem?_eq_getElem hi])
  unfold doW at cvi
  have hi2 : decide (xs.length ≤ i) = false := by simp; omega
  have HX := Lib.hid (Reads.upd (a := some ⟨vb, vo, none⟩) (n := xs.length) (vs := u32s xs) (w := W) ⟨by simp [u32s], fun _ => ⟨vb, vo, rfl, hvb, hvc⟩⟩ HU.out (by simp)).src
  clear hown hvc hvn hvs hs hb0
  go_enter Try.func36, Try.ntmps36
  go_wp2_with (at_builtin; refine Go.RowKit.Hid.out ?_)
  refine Lib.hid ?_
  refine wpList_append_reads rfl _ _ 22 rfl (W.heap.size + 3) 23 ix (.int .u32 0) 1 4 Try.underlying22 hix hz0 hz1 hz2 rfl (by decide) _ 0 [] rfl HN.out (some ⟨vb, vo, none⟩) xs.length vc (u32s xs) rfl (by simp [u32s]) HX.out (fun h => by cases h) (u32s_one _) (by simp [maxLen]; omega) (by omega) HB0.out ?_
  intro v' w1 hown' hgrow
  simp only [Nat.zero_add, List.nil_append] at hown'
  have HU1 := Lib.hid (own_start HU.out HN.out hgrow (by omega))
  have HM0 := Lib.hid (grown_keep HN.out hgrow H0.out (by omega))
  have HM1 := Lib.hid (grown_keep HN.out hgrow H1.out (by omega))
  have HM2 := Lib.hid (grown_keep HN.out hgrow H2.out (by omega))
  obtain ⟨k0, k1, k2⟩ := cells3 HM0.out
  obtain ⟨s0, s1, s2⟩ := cells3 HM1.out
  obtain ⟨z0, z1, z2⟩ := cells3 HM2.out
  have zf := fun j => frozen_of_heap HM2.out j
  have hpos : 0 < xs.length := by omega
  obtain ⟨g, gc, rfl, hgb, hgl⟩ := own_some hown' hpos
  have gx := hown'.cellAt i (by omega)
  rw [show (u32s xs)[i]? = some (.int .u32 xs[i]) by simp [u32s, List.getElem?_eq_getElem hi]] at gx
  have gf := hown'.frozenAt i
  have HG := Lib.hid hown'
  have hl := Nat.le_trans HB0.out hgrow.size
  have l0 : W.heap.size < w1.heap.size := by omega
  have l1 : W.heap.size + 1 < w1.heap.size := by omega
  have l2 : W.heap.size + 1 + 1 < w1.heap.size := by omega
  have n0 : W.heap.size + 1 + 1 ≠ w1.heap.size := by omega
  have n1 : w1.heap.size ≠ W.heap.size + 1 + 1 := by omega
  have m0 : W.heap.size ≠ g := by omega
  have m1 : W.heap.size + 1 ≠ g := by omega
  have m2 : W.heap.size + 1 + 1 ≠ g := by omega
  have m0' : g ≠ W.heap.size := by omega
  have m1' : g ≠ W.heap.size + 1 := by omega
  have m2' : g ≠ W.heap.size + 1 + 1 := by omega
  clear hl
  clear hgrow hown' cvi
  go_wp2
  refine bodyPost_ret (v := .tuple #[.agg #[.slice (some ⟨g, 0, none⟩) xs.length gc, .int .i64 (lo + 1), .int .i64 (st + 1)], .int .u32 xs[i], .bool true]) (by simp [results, Try.results36, go_sem, l2, n0, n1, m2, m2', z0, z1, z2, gx]) rfl ?_
  have hst := (HG.out.stored i (.int .u32 x)).1
  refine with_fact (p := Upd [W.heap.size + 1 + 1] (w1.setCell ⟨g, i, none⟩ (.int .u32 x)) _) (fun hS => ⟨_, rfl, ?_, (HU1.out.then ((Upd.refl [g] w1).setCell (by simp) _) (by simp; omega)).then hS (by simp; omega)⟩) ?_
  · have := (own_upd hst hS (fun k hk => by have := own_base hst k hk; simp; omega)).mono (base' := B) (by omega)
    simpa [u32s, List.map_set] using this
  exact ((((Upd.refl _ _).setCell (by simp) _).setCell (by simp) _).setCell (by simp) _).alloc _
end Go.Proofs.Ytfdidgobgeohcaa
