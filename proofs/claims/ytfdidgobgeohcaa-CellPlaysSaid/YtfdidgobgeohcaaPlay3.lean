/- The document's Do, op by op: Or, And. -/
import Derived.Test.YtfdidgobgeohcaaPlay2
import Derived.Deep.RegionHeld3
set_option linter.unusedVariables false
set_option linter.unusedSimpArgs false
namespace Go.Proofs.Ytfdidgobgeohcaa
open Go.RowKit

def celAt (w : World) (g i : Nat) : Value := (w.cell? ⟨g, i, none⟩).getD undef
theorem celAt_of {w : World} {g i : Nat} {v : Value} (h : w.cell? ⟨g, i, none⟩ = some v) : w.cell? ⟨g, i, none⟩ = some (celAt w g i) := by simp [celAt, h]
theorem celAt_set {w : World} {g i : Nat} {v : Value} (h : w.cell? ⟨g, i, none⟩ = some v) (u : Value) : (w.setCell ⟨g, i, none⟩ u).cell? ⟨g, i, none⟩ = some (celAt (w.setCell ⟨g, i, none⟩ u) g i) := by
  exact celAt_of (World.cell?_setCell_same' w _ u (by rw [h]; rfl))
theorem Upd.of_drew {S : List Nat} {w w' : World} (h : Upd S w.drew w') : Upd S w w' := ⟨h.os, h.tape, h.output, h.size, h.block⟩
theorem Upd.of_drewN {S : List Nat} {w w' : World} {n : Nat} (h : Upd S (w.drewN n) w') : Upd S w w' := ⟨h.os, h.tape, h.output, h.size, h.block⟩

set_option maxRecDepth 100000 in
set_option maxHeartbeats 1000000 in
theorem ref_do4 (i : Nat) (x : Int) (B : Nat) {W : World} {v : Value} {m : MS} (hown : W.ownsRow B 23 1 v m.xs.length (u32s m.xs)) (hB : B ≤ W.heap.size) (hi : i < m.xs.length) (hn : m.xs.length ≤ 1000000)
    (hst0 : 0 ≤ m.st) (hst : m.st < 1000000) (hlo0 : 0 ≤ m.lo) (hlo : m.lo < 1000000) (x0 : 0 ≤ x) (x1 : x ≤ 4294967295) (y0 : 0 ≤ m.xs[i]) (y1 : m.xs[i] ≤ 4294967295) :
    Calls Try.prog 36 #[.agg #[v, .int .i64 m.lo, .int .i64 m.st], .agg #[.int .i64 4, .int .i64 i, .int .u32 x]] W (DoRPost B W (⟨m.lo + 1, m.st + 1, m.xs.set i (wordop true m.xs[i] x)⟩, m.xs[i], true)) := by
  obtain ⟨ix, hix, hz0, hz1, hz2⟩ := info_parts info_u32
  obtain ⟨va, vc, rfl, hvn, hvs⟩ := own_shape hown
  have HO := Lib.hid fun W => ref_or m.xs[i] x y0 y1 x0 x1 W
  obtain ⟨y, hy⟩ : ∃ y, y = wordop true m.xs[i] x := ⟨_, rfl⟩
  rw [← hy] at HO ⊢
  clear hy
  obtain ⟨lo, st, xs⟩ := m
  simp only at HO y0 y1 hown hi hn hst0 hst hlo0 hlo hvs ⊢
  obtain ⟨vb, vo, rfl, hvb, hvc⟩ := hvs (by omega)
  have HOWN := Lib.hid hown
  have HVC := Lib.hid hvc
  have HU := Lib.hid ((doW_upd W (.slice (some ⟨vb, vo, none⟩) xs.length vc) lo st 4 i x).alloc (.cells #[] 23))
  have hs := doW_size W (.slice (some ⟨vb, vo, none⟩) xs.length vc) lo st 4 i x
  have H0 := Lib.hid ((heap_alloc_other _ (.cells #[] 23) (k := W.heap.size) (by rw [hs]; omega)).trans (doW_0 W (.slice (some ⟨vb, vo, none⟩) xs.length vc) lo st 4 i x))
  have H1 := Lib.hid ((heap_alloc_other _ (.cells #[] 23) (k := W.heap.size + 1) (by rw [hs]; omega)).trans (doW_1 W (.slice (some ⟨vb, vo, none⟩) xs.length vc) lo st 4 i x))
  have H2 := Lib.hid ((heap_alloc_other _ (.cells #[] 23) (k := W.heap.size + 2) (by rw [hs]; omega)).trans (doW_2 W (.slice (some ⟨vb, vo, none⟩) xs.length vc) lo st 4 i x))
  have HN := Lib.hid (show ((doW W (.slice (some ⟨vb, vo, none⟩) xs.length vc) lo st 4 i x).alloc (.cells #[] 23)).ownsRow (W.heap.size + 3) 23 1 (.slice (some ⟨W.heap.size + 1 + 1 + 1, 0, none⟩) 0 0) 0 [] from own_empty' (by omega) (by rw [hs]))
  have hb0 : W.heap.size + 3 ≤ ((doW W (.slice (some ⟨vb, vo, none⟩) xs.length vc) lo st 4 i x).alloc (.cells #[] 23)).heap.size := by simp [hs]
  have HB0 := Lib.hid hb0
  have cvi : (doW W (.slice (some ⟨vb, vo, none⟩) xs.length vc) lo st 4 i x).cell? ⟨vb, vo + i, none⟩ = some (.int .u32 xs[i]) := by
    rw [(doW_upd W (.slice (some ⟨vb, vo, none⟩) xs.length vc) lo st 4 i x).cell (p := ⟨vb, vo + i, none⟩) hvb (by simp)]
    exact hvc i _ (by simp [u32s, List.getElem?_eq_getElem hi])
  unfold doW at cvi
  have hi2 : decide (xs.length ≤ i) = false := by simp; omega
  have HX := Lib.hid (Reads.upd (a := some ⟨vb, vo, none⟩) (n := xs.length) (vs := u32s xs) (w := W) ⟨by simp [u32s], fun _ => ⟨vb, vo, rfl, hvb, hvc⟩⟩ HU.out (by simp)).src
  clear hown hvc hvn hvs hs hb0
  go_enter Try.func36, Try.ntmps36
  go_wp2_with (at_builtin; refine Go.RowKit.Hid.out ?_)
  refine Lib.hid ?_
  refine wpList_append_reads rfl _ _ 22 rfl (W.heap.size + 3) 23 ix (.int .u32 0) 1 4 Try.underlying22 hix hz0 hz1 hz2 rfl (by decide) _ 0 [] rfl HN.out (some ⟨vb, vo, none⟩) xs.length vc (u32s xs) rfl (by simp [u32s]) HX.out (fun h => by cases h) (u32s_one _) (by simp [maxLen]; omega) (by omega) HB0.out ?_
  intro v' w1 hown' hgrow
  simp only [Nat.zero_add, List.nil_append] at hown'
  have HU1 := Lib.hid (own_start HU.out HN.out hgrow (by omega))
  have HM0 := Lib.hid (grown_keep HN.out hgrow H0.out (by omega))
  have HM1 := Lib.hid (grown_keep HN.out hgrow H1.out (by omega))
  have HM2 := Lib.hid (grown_keep HN.out hgrow H2.out (by omega))
  obtain ⟨k0, k1, k2⟩ := cells3 HM0.out
  obtain ⟨s0, s1, s2⟩ := cells3 HM1.out
  obtain ⟨z0, z1, z2⟩ := cells3 HM2.out
  have zf := fun j => frozen_of_heap HM2.out j
  have hpos : 0 < xs.length := by omega
  obtain ⟨g, gc, rfl, hgb, hgl⟩ := own_some hown' hpos
  have gx := hown'.cellAt i (by omega)
  rw [show (u32s xs)[i]? = some (.int .u32 xs[i]) by simp [u32s, List.getElem?_eq_getElem hi]] at gx
  have gf := hown'.frozenAt i
  have HG := Lib.hid hown'
  have hl := Nat.le_trans HB0.out hgrow.size
  have l0 : W.heap.size < w1.heap.size := by omega
  have l1 : W.heap.size + 1 < w1.heap.size := by omega
  have l2 : W.heap.size + 1 + 1 < w1.heap.size := by omega
  have n0 : W.heap.size + 1 + 1 ≠ w1.heap.size := by omega
  have n1 : w1.heap.size ≠ W.heap.size + 1 + 1 := by omega
  have m0 : W.heap.size ≠ g := by omega
  have m1 : W.heap.size + 1 ≠ g := by omega
  have m2 : W.heap.size + 1 + 1 ≠ g := by omega
  have m0' : g ≠ W.heap.size := by omega
  have m1' : g ≠ W.heap.size + 1 := by omega
  have m2' : g ≠ W.heap.size + 1 + 1 := by omega
  clear hl
  clear hgrow hown' cvi
  go_wp2
  go_region_held3 (fun w' => w'.cell? ⟨W.heap.size + 1, 1, none⟩ = some (.int .i64 i) ∧ w'.cell? ⟨W.heap.size + 1, 2, none⟩ = some (.int .u32 x) ∧ w'.cell? ⟨g, i, none⟩ = some (celAt w' g i) ∧ w'.frozen? ⟨g, i, none⟩ = false)
    (first | exact ⟨s1, s2, celAt_of gx, gf⟩ | exact ⟨s1', s2', celAt_of gx', gf'⟩ | (go_keep; done) | exact celAt_set gx' _ | ((try dsimp only); (repeat' apply And.intro) <;> first | (go_keep; done) | exact celAt_set gx' _))
    (first | (go_at_call 98; refine (HO.out _).mono ?_; rintro e w2 ⟨rfl, hu2⟩; have HU2 := Lib.hid (show Upd [] w1 w2 from by first | exact hu2 | exact hu2.of_drew | exact hu2.of_drewN); clear hu2; have s1' := (HU2.out.cell (p := ⟨W.heap.size + 1, 1, none⟩) l1 (by simp)).trans s1; have s2' := (HU2.out.cell (p := ⟨W.heap.size + 1, 2, none⟩) l1 (by simp)).trans s2; have gx' := (HU2.out.cell (p := ⟨g, i, none⟩) hgl (by simp)).trans gx; have gf' := (HU2.out.frozen (p := ⟨g, i, none⟩) hgl (by simp)).trans gf))
  have HM0' := Lib.hid (HU2.out.keepb HM0.out (by simp))
  have HM1' := Lib.hid (HU2.out.keepb HM1.out (by simp))
  have HM2' := Lib.hid (HU2.out.keepb HM2.out (by simp))
  clear k0 k1 k2 s0 s1 s2 s1' s2' z0 z1 z2 zf
  obtain ⟨k0, k1, k2⟩ := cells3 HM0'.out
  obtain ⟨s0, s1, s2⟩ := cells3 HM1'.out
  obtain ⟨z0, z1, z2⟩ := cells3 HM2'.out
  have zf := fun j => frozen_of_heap HM2'.out j
  have HG2 := Lib.hid (own_upd HG.out HU2.out (by simp))
  have hl2 := HU2.out.size
  clear gx gf
  have l0' : W.heap.size < w2.heap.size := by omega
  have l1' : W.heap.size + 1 < w2.heap.size := by omega
  have l2' : W.heap.size + 1 + 1 < w2.heap.size := by omega
  have n0' : W.heap.size + 1 + 1 ≠ w2.heap.size := by omega
  have n1' : w2.heap.size ≠ W.heap.size + 1 + 1 := by omega
  have hgl2 : g < w2.heap.size := by omega
  clear hl2
  go_wp2
  refine bodyPost_ret (v := .tuple #[.agg #[.slice (some ⟨g, 0, none⟩) xs.length gc, .int .i64 (lo + 1), .int .i64 (st + 1)], .int .u32 xs[i], .bool true]) (by simp [results, Try.results36, go_sem, l2', n0', n1', m2, m2', z0, z1, z2, gx']) rfl ?_
  have hst := (HG2.out.stored i (.int .u32 y)).1
  refine with_fact (p := Upd [W.heap.size + 1 + 1] (w2.setCell ⟨g, i, none⟩ (.int .u32 y)) _) (fun hS => ⟨_, rfl, ?_, ((HU1.out.trans HU2.out).then ((Upd.refl [g] w2).setCell (by simp) _) (by simp; omega)).then hS (by simp; omega)⟩) ?_
  · have := (own_upd hst hS (fun k hk => by have := own_base hst k hk; simp; omega)).mono (base' := B) (by omega)
    simpa [u32s, List.map_set] using this
  exact ((((Upd.refl _ _).setCell (by simp) _).setCell (by simp) _).setCell (by simp) _).alloc _

set_option maxRecDepth 100000 in
set_option maxHeartbeats 1000000 in
theorem ref_do5 (i : Nat) (x : Int) (B : Nat) {W : World} {v : Value} {m : MS} (hown : W.ownsRow B 23 1 v m.xs.length (u32s m.xs)) (hB : B ≤ W.heap.size) (hi : i < m.xs.length) (hn : m.xs.length ≤ 1000000)
    (hst0 : 0 ≤ m.st) (hst : m.st < 1000000) (hlo0 : 0 ≤ m.lo) (hlo : m.lo < 1000000) (x0 : 0 ≤ x) (x1 : x ≤ 4294967295) (y0 : 0 ≤ m.xs[i]) (y1 : m.xs[i] ≤ 4294967295) :
    Calls Try.prog 36 #[.agg #[v, .int .i64 m.lo, .int .i64 m.st], .agg #[.int .i64 5, .int .i64 i, .int .u32 x]] W (DoRPost B W (⟨m.lo + 1, m.st + 1, m.xs.set i (wordop false m.xs[i] x)⟩, m.xs[i], true)) := by
  obtain ⟨ix, hix, hz0, hz1, hz2⟩ := info_parts info_u32
  obtain ⟨va, vc, rfl, hvn, hvs⟩ := own_shape hown
  have HO := Lib.hid fun W => ref_and m.xs[i] x y0 y1 x0 x1 W
  obtain ⟨y, hy⟩ : ∃ y, y = wordop false m.xs[i] x := ⟨_, rfl⟩
  rw [← hy] at HO ⊢
  clear hy
  obtain ⟨lo, st, xs⟩ := m
  simp only at HO y0 y1 hown hi hn hst0 hst hlo0 hlo hvs ⊢
  obtain ⟨vb, vo, rfl, hvb, hvc⟩ := hvs (by omega)
  have HOWN := Lib.hid hown
  have HVC := Lib.hid hvc
  have HU := Lib.hid ((doW_upd W (.slice (some ⟨vb, vo, none⟩) xs.length vc) lo st 5 i x).alloc (.cells #[] 23))
  have hs := doW_size W (.slice (some ⟨vb, vo, none⟩) xs.length vc) lo st 5 i x
  have H0 := Lib.hid ((heap_alloc_other _ (.cells #[] 23) (k := W.heap.size) (by rw [hs]; omega)).trans (doW_0 W (.slice (some ⟨vb, vo, none⟩) xs.length vc) lo st 5 i x))
  have H1 := Lib.hid ((heap_alloc_other _ (.cells #[] 23) (k := W.heap.size + 1) (by rw [hs]; omega)).trans (doW_1 W (.slice (some ⟨vb, vo, none⟩) xs.length vc) lo st 5 i x))
  have H2 := Lib.hid ((heap_alloc_other _ (.cells #[] 23) (k := W.heap.size + 2) (by rw [hs]; omega)).trans (doW_2 W (.slice (some ⟨vb, vo, none⟩) xs.length vc) lo st 5 i x))
  have HN := Lib.hid (show ((doW W (.slice (some ⟨vb, vo, none⟩) xs.length vc) lo st 5 i x).alloc (.cells #[] 23)).ownsRow (W.heap.size + 3) 23 1 (.slice (some ⟨W.heap.size + 1 + 1 + 1, 0, none⟩) 0 0) 0 [] from own_empty' (by omega) (by rw [hs]))
  have hb0 : W.heap.size + 3 ≤ ((doW W (.slice (some ⟨vb, vo, none⟩) xs.length vc) lo st 5 i x).alloc (.cells #[] 23)).heap.size := by simp [hs]
  have HB0 := Lib.hid hb0
  have cvi : (doW W (.slice (some ⟨vb, vo, none⟩) xs.length vc) lo st 5 i x).cell? ⟨vb, vo + i, none⟩ = some (.int .u32 xs[i]) := by
    rw [(doW_upd W (.slice (some ⟨vb, vo, none⟩) xs.length vc) lo st 5 i x).cell (p := ⟨vb, vo + i, none⟩) hvb (by simp)]
    exact hvc i _ (by simp [u32s, List.getElem?_eq_getElem hi])
  unfold doW at cvi
  have hi2 : decide (xs.length ≤ i) = false := by simp; omega
  have HX := Lib.hid (Reads.upd (a := some ⟨vb, vo, none⟩) (n := xs.length) (vs := u32s xs) (w := W) ⟨by simp [u32s], fun _ => ⟨vb, vo, rfl, hvb, hvc⟩⟩ HU.out (by simp)).src
  clear hown hvc hvn hvs hs hb0
  go_enter Try.func36, Try.ntmps36
  go_wp2_with (at_builtin; refine Go.RowKit.Hid.out ?_)
  refine Lib.hid ?_
  refine wpList_append_reads rfl _ _ 22 rfl (W.heap.size + 3) 23 ix (.int .u32 0) 1 4 Try.underlying22 hix hz0 hz1 hz2 rfl (by decide) _ 0 [] rfl HN.out (some ⟨vb, vo, none⟩) xs.length vc (u32s xs) rfl (by simp [u32s]) HX.out (fun h => by cases h) (u32s_one _) (by simp [maxLen]; omega) (by omega) HB0.out ?_
  intro v' w1 hown' hgrow
  simp only [Nat.zero_add, List.nil_append] at hown'
  have HU1 := Lib.hid (own_start HU.out HN.out hgrow (by omega))
  have HM0 := Lib.hid (grown_keep HN.out hgrow H0.out (by omega))
  have HM1 := Lib.hid (grown_keep HN.out hgrow H1.out (by omega))
  have HM2 := Lib.hid (grown_keep HN.out hgrow H2.out (by omega))
  obtain ⟨k0, k1, k2⟩ := cells3 HM0.out
  obtain ⟨s0, s1, s2⟩ := cells3 HM1.out
  obtain ⟨z0, z1, z2⟩ := cells3 HM2.out
  have zf := fun j => frozen_of_heap HM2.out j
  have hpos : 0 < xs.length := by omega
  obtain ⟨g, gc, rfl, hgb, hgl⟩ := own_some hown' hpos
  have gx := hown'.cellAt i (by omega)
  rw [show (u32s xs)[i]? = some (.int .u32 xs[i]) by simp [u32s, List.getElem?_eq_getElem hi]] at gx
  have gf := hown'.frozenAt i
  have HG := Lib.hid hown'
  have hl := Nat.le_trans HB0.out hgrow.size
  have l0 : W.heap.size < w1.heap.size := by omega
  have l1 : W.heap.size + 1 < w1.heap.size := by omega
  have l2 : W.heap.size + 1 + 1 < w1.heap.size := by omega
  have n0 : W.heap.size + 1 + 1 ≠ w1.heap.size := by omega
  have n1 : w1.heap.size ≠ W.heap.size + 1 + 1 := by omega
  have m0 : W.heap.size ≠ g := by omega
  have m1 : W.heap.size + 1 ≠ g := by omega
  have m2 : W.heap.size + 1 + 1 ≠ g := by omega
  have m0' : g ≠ W.heap.size := by omega
  have m1' : g ≠ W.heap.size + 1 := by omega
  have m2' : g ≠ W.heap.size + 1 + 1 := by omega
  clear hl
  clear hgrow hown' cvi
  go_wp2
  go_region_held3 (fun w' => w'.cell? ⟨W.heap.size + 1, 1, none⟩ = some (.int .i64 i) ∧ w'.cell? ⟨W.heap.size + 1, 2, none⟩ = some (.int .u32 x) ∧ w'.cell? ⟨g, i, none⟩ = some (celAt w' g i) ∧ w'.frozen? ⟨g, i, none⟩ = false)
    (first | exact ⟨s1, s2, celAt_of gx, gf⟩ | exact ⟨s1', s2', celAt_of gx', gf'⟩ | (go_keep; done) | exact celAt_set gx' _ | ((try dsimp only); (repeat' apply And.intro) <;> first | (go_keep; done) | exact celAt_set gx' _))
    (first | (go_at_call 99; refine (HO.out _).mono ?_; rintro e w2 ⟨rfl, hu2⟩; have HU2 := Lib.hid (show Upd [] w1 w2 from by first | exact hu2 | exact hu2.of_drew | exact hu2.of_drewN); clear hu2; have s1' := (HU2.out.cell (p := ⟨W.heap.size + 1, 1, none⟩) l1 (by simp)).trans s1; have s2' := (HU2.out.cell (p := ⟨W.heap.size + 1, 2, none⟩) l1 (by simp)).trans s2; have gx' := (HU2.out.cell (p := ⟨g, i, none⟩) hgl (by simp)).trans gx; have gf' := (HU2.out.frozen (p := ⟨g, i, none⟩) hgl (by simp)).trans gf))
  have HM0' := Lib.hid (HU2.out.keepb HM0.out (by simp))
  have HM1' := Lib.hid (HU2.out.keepb HM1.out (by simp))
  have HM2' := Lib.hid (HU2.out.keepb HM2.out (by simp))
  clear k0 k1 k2 s0 s1 s2 s1' s2' z0 z1 z2 zf
  obtain ⟨k0, k1, k2⟩ := cells3 HM0'.out
  obtain ⟨s0, s1, s2⟩ := cells3 HM1'.out
  obtain ⟨z0, z1, z2⟩ := cells3 HM2'.out
  have zf := fun j => frozen_of_heap HM2'.out j
  have HG2 := Lib.hid (own_upd HG.out HU2.out (by simp))
  have hl2 := HU2.out.size
  clear gx gf
  have l0' : W.heap.size < w2.heap.size := by omega
  have l1' : W.heap.size + 1 < w2.heap.size := by omega
  have l2' : W.heap.size + 1 + 1 < w2.heap.size := by omega
  have n0' : W.heap.size + 1 + 1 ≠ w2.heap.size := by omega
  have n1' : w2.heap.size ≠ W.heap.size + 1 + 1 := by omega
  have hgl2 : g < w2.heap.size := by omega
  clear hl2
  go_wp2
  refine bodyPost_ret (v := .tuple #[.agg #[.slice (some ⟨g, 0, none⟩) xs.length gc, .int .i64 (lo + 1), .int .i64 (st + 1)], .int .u32 xs[i], .bool true]) (by simp [results, Try.results36, go_sem, l2', n0', n1', m2, m2', z0, z1, z2, gx']) rfl ?_
  have hst := (HG2.out.stored i (.int .u32 y)).1
  refine with_fact (p := Upd [W.heap.size + 1 + 1] (w2.setCell ⟨g, i, none⟩ (.int .u32 y)) _) (fun hS => ⟨_, rfl, ?_, ((HU1.out.trans HU2.out).then ((Upd.refl [g] w2).setCell (by simp) _) (by simp; omega)).then hS (by simp; omega)⟩) ?_
  · have := (own_upd hst hS (fun k hk => by have := own_base hst k hk; simp; omega)).mono (base' := B) (by omega)
    simpa [u32s, List.map_set] using this
  exact ((((Upd.refl _ _).setCell (by simp) _).setCell (by simp) _).setCell (by simp) _).alloc _
end Go.Proofs.Ytfdidgobgeohcaa
