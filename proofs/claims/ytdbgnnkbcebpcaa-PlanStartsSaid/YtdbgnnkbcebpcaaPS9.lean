/- Package plan: Of of a configuration that is not valid; Memory. -/
import Derived.Test.YtdbgnnkbcebpcaaPS8
set_option linter.unusedVariables false
set_option linter.unusedSimpArgs false
namespace Go.Proofs.Ytdbgnnkbcebpcaa
open Go.RowKit
theorem bad_cases {c : CF} (h : c.bad ≠ (0, 0, 0)) : (!((c.bad.1 == 0) && ((c.bad.2.1 == 0) && ((c.bad.2.2 == 0) && true)))) = true := by
  generalize c.bad = x at *
  obtain ⟨a, b, d⟩ := x
  simp only [ne_eq, Prod.mk.injEq] at h
  by_cases h1 : a = 0 <;> by_cases h2 : b = 0 <;> by_cases h3 : d = 0 <;> simp_all
section
variable {W : World} {ta la oa : Option Addr} {c : CF}
set_option maxRecDepth 100000 in
set_option maxHeartbeats 4000000 in
theorem planOf_bad (tc lc oc : Nat) (h : CFR W ta la oa c) (hv : c.bad ≠ (0, 0, 0)) :
    Calls Try.prog 38 #[.agg (cfA ta c.ts.length tc la c.ls.length lc oa c.os.length oc c.tk)] W fun e w' => Upd [] W w' ∧ e = .returned (.tuple #[.agg #[.slice none 0 0, .slice none 0 0, .int .i64 0, .slice none 0 0, .int .i64 0], .bool false]) := by
  have HCH := Lib.hid fun (w' : World) (hu : Upd [] W w') => check_c tc lc oc (h.upd hu)
  have hb := bad_cases hv
  unfold badV at HCH
  generalize c.bad.1 = x1 at *
  generalize c.bad.2.1 = x2 at *
  generalize c.bad.2.2 = x3 at *
  have qe := fun w => neq_bad w x1 x2 x3 0 0 0
  simp only [hb] at qe
  clear h hv hb
  unfold cfA at *
  go_enter Try.func38, Try.ntmps38
  go_wp2_with (go_at_call 59; (with_reducible refine (HCH.out _ (by repeat (first | (with_reducible exact Upd.refl _ _) | (with_reducible apply Upd.drew) | (with_reducible refine Upd.alloc ?_ _)))).mono ?_); rintro e w1 ⟨rfl, hu1⟩; obtain ⟨p1, rfl⟩ := hu1.grown; clear hu1)
  refine bodyPost_ret (results_cell_tmp rfl _ _ (W.heap.size + 1) 96 #[.slice none 0 0, .slice none 0 0, .int .i64 0, .slice none 0 0, .int .i64 0] (0, 0) _ (.bool false) rfl rfl ?hg Try.underlying96 rfl (info_plan5 _ _ _ _ _)) rfl ?_
  case hg => repeat (first | ((with_reducible refine heap_alloc_at _ ?_); (first | rfl | (simp; done))) | (with_reducible apply heap_drewE) | (with_reducible apply heap_grE) | (with_reducible apply heap_alloc'))
  exact ⟨by repeat (first | (with_reducible exact Upd.refl _ _) | (with_reducible apply Upd.drew) | (with_reducible refine Upd.grE ?_ _) | (with_reducible refine Upd.alloc ?_ _)), rfl⟩
set_option maxRecDepth 100000 in
set_option maxHeartbeats 4000000 in
theorem planMem_bad (tc lc oc : Nat) (h : CFR W ta la oa c) (hv : c.bad ≠ (0, 0, 0)) :
    Calls Try.prog 39 #[.agg (cfA ta c.ts.length tc la c.ls.length lc oa c.os.length oc c.tk)] W fun e w' => Upd [] W w' ∧ e = .returned (.pointer none) := by
  have HOF := Lib.hid fun (w' : World) (hu : Upd [] W w') => planOf_bad tc lc oc (h.upd hu) hv
  clear h hv
  unfold cfA at *
  go_enter Try.func39, Try.ntmps39
  go_wp2_with (go_at_call 38; (with_reducible refine (HOF.out _ (by repeat (first | (with_reducible exact Upd.refl _ _) | (with_reducible apply Upd.drew) | (with_reducible refine Upd.alloc ?_ _)))).mono ?_); rintro e w1 ⟨hu1, rfl⟩; obtain ⟨p1, rfl⟩ := hu1.grown; clear hu1)
  go_ret
  exact ⟨by repeat (first | (with_reducible exact Upd.refl _ _) | (with_reducible apply Upd.drew) | (with_reducible refine Upd.grE ?_ _) | (with_reducible refine Upd.alloc ?_ _)), rfl⟩
/-- All words of a configuration, at first. -/
def memP (c : CF) : List Int := startP c.os ++ List.replicate (sumL (c.ls.map (·.r)) + 1 + c.ts.length).toNat 0
def CF.cells (c : CF) : Int := sumS c.os + sumL (c.ls.map (·.r)) + 1 + c.ts.length
theorem cells_bounds {c : CF} (hv : c.bad = (0, 0, 0)) : 1 ≤ c.cells ∧ c.cells ≤ 13000 := by
  obtain ⟨v1, v2, v3, -⟩ := bad_valid hv
  have h1 := sumS_bounds c.os
  have h2 := sumL_bounds (c.ls.map (·.r))
  have h3 : (c.ls.map (·.r)).length = c.ls.length := by simp
  unfold CF.cells
  omega
theorem memP_len (c : CF) : (memP c).length = c.cells.toNat := by
  have h1 := sumS_bounds c.os
  have h2 := sumL_bounds (c.ls.map (·.r))
  simp only [memP, List.length_append, startP_len, List.length_replicate, CF.cells]
  omega
set_option maxRecDepth 100000 in
set_option maxHeartbeats 4000000 in
theorem planMem_c (tc lc oc : Nat) (h : CFR W ta la oa c) (hv : c.bad = (0, 0, 0)) :
    Calls Try.prog 39 #[.agg (cfA ta c.ts.length tc la c.ls.length lc oa c.os.length oc c.tk)] W fun e w' => Upd [] W w' ∧ ∃ b g, e = .returned (.pointer (some ⟨b, 0, none⟩)) ∧ W.heap.size ≤ b ∧ W.heap.size ≤ g ∧ Mem w' b g 0 0 (memP c) := by
  have hcb := cells_bounds hv
  have hml := memP_len c
  have hsl := startP_len c.os
  have hms : memP c = startP c.os ++ List.replicate (c.cells.toNat - (sumS c.os).toNat) 0 := by
    have h1 := sumS_bounds c.os
    have h2 := sumL_bounds (c.ls.map (·.r))
    unfold memP CF.cells
    congr 2
    omega
  have hsc : (sumS c.os).toNat ≤ c.cells.toNat := by
    have h1 := sumS_bounds c.os
    have h2 := sumL_bounds (c.ls.map (·.r))
    unfold CF.cells
    omega
  have hval := bad_valid hv
  obtain ⟨cn, hcn⟩ : ∃ cn : Nat, c.cells = (cn : Int) := ⟨c.cells.toNat, by omega⟩
  have HOF := Lib.hid fun (w' : World) (hu : Upd [] W w') => planOf_c tc lc oc (h.upd hu) hv
  have e1 : sumS c.os + sumL (c.ls.map (·.r)) + 1 + c.ts.length = (cn : Int) := hcn
  simp only [e1] at HOF
  have HST := Lib.hid fun (w' : World) (hu : Upd [] W w') => sstart_c (W := w') oc (h.o.upd hu (by simp)) hval.2.2.1 hval.2.2.2
  rw [hcn] at hml hms hsc hcb
  have HML := Lib.hid (show (memP c).length = cn by simpa using hml)
  have HMS := Lib.hid (show memP c = startP c.os ++ List.replicate (cn - (sumS c.os).toNat) 0 by simpa using hms)
  have HSL := Lib.hid hsl
  have HSC := Lib.hid (show (sumS c.os).toNat ≤ cn by simpa using hsc)
  have HCN := Lib.hid (show cn ≤ 13000 by omega)
  generalize sumS c.os + sumL (c.ls.map (·.r)) = TT at *
  obtain ⟨i0, hi, hz0, hz1, hz2⟩ := info_parts info_u32
  have hmk := fun W : World => run_make (P := Try.prog) W 101 24 i0 _ Try.underlying101 hi hz0 .i64 .i64 cn cn (by omega) (by omega) (by rw [hz2]; omega) (by omega)
  simp only [hz1, Nat.mul_one] at hmk
  clear h hv hcb hml hsl hms hsc hval hcn e1 hi hz0 hz1 hz2
  unfold cfA at *
  go_enter Try.func39, Try.ntmps39
  go_wp2_with (go_at_call 38; refine Go.RowKit.Hid.out ?_)
  refine Lib.hid ?_
  refine (HOF.out _ ((Upd.refl _ _).alloc _)).mono ?_
  rintro e w1 ⟨hu1, va, vc, na, nc, ka, kc, rfl, -, -, -⟩
  have hcb := hu1.keepb (heap_alloc_new _ _) (by simp)
  have HCB := Lib.hid hcb
  have HU1 := Lib.hid ((Upd.refl [] W).alloc _ |>.trans hu1)
  have k2 : w1.cell? ⟨W.heap.size, 2, none⟩ = some (.slice oa c.os.length oc) := by rw [cell_of_heap hcb]; rfl
  have kl := heap_lt hcb
  clear hu1 hcb
  go_wp2_with (go_at_call 40; refine Go.RowKit.Hid.out ?_)
  refine Lib.hid ?_
  have HG := Lib.hid (show ((w1.alloc (.cells #[.slice va c.os.length vc, .slice na c.ls.length nc, .int .i64 TT, .slice ka c.ts.length kc, .int .i64 cn] 96)).alloc (.cells (madeCells #[.int .u32 0] cn) 24)).heap[w1.heap.size + 1]? = some (.cells (u32s (List.replicate cn 0)).toArray 24 (0, 0)) by rw [heap_alloc_at _ (by simp), madeCells_u32])
  have HUA := Lib.hid (show Upd [] W ((w1.alloc (.cells #[.slice va c.os.length vc, .slice na c.ls.length nc, .int .i64 TT, .slice ka c.ts.length kc, .int .i64 cn] 96)).alloc (.cells (madeCells #[.int .u32 0] cn) 24)) from ((HU1.out.alloc _).alloc _))
  refine (HST.out _ HUA.out).mono ?_
  rintro e w2 ⟨hu2, b, g, rfl, hb, hg, hm⟩
  have HU2 := Lib.hid (HUA.out.trans hu2)
  have HM := Lib.hid hm
  have HG2 := Lib.hid (hu2.keepb HG.out (by simp))
  clear hu2 hb hg hm
  go_wp2_with (go_at_call 41; refine Go.RowKit.Hid.out ?_)
  refine Lib.hid ?_
  refine (all_any HM.out).mono ?_
  rintro e w5 ⟨g5, rfl, hg5, hh5, hu5⟩
  have HU5 := Lib.hid (HU2.out.trans hu5)
  have HG5 := Lib.hid (hu5.keepb HG2.out (by simp))
  have HH5 := Lib.hid hh5
  clear hg5 hh5 hu5
  go_wp2_with (first
    | (refine wpList_copy_upd rfl _ _ _ _ rfl 24 Try.underlying101 (by kernel_rfl) _ _ _ _ _ _ rfl rfl _ _ HG5.out (u32s (startP c.os)) ?c1 ?c2 ?c3 ?c4 ?_; rotate_left 4; intro w6 hg6 hu6 hs6; have HG6 := Lib.hid hg6; have HU6 := Lib.hid hu6; clear hg6 hu6 hs6)
    | (go_at_call 63; refine Go.RowKit.Hid.out ?_))
  case c1 =>
    have h1 := HSL.out
    have h2 := HSC.out
    have h3 : (startP c.os).length ≤ cn := by omega
    simp only [u32s, List.length_map]
    exact (Nat.min_eq_left h3).symm
  case c2 => exact fun _ => ⟨g5, 0, rfl, fun i v hv => by rw [Nat.zero_add]; exact cell_of_list HH5.out _ _ hv⟩
  case c3 => have h1 := HSL.out; have h2 := HSC.out; simp [u32s]; omega
  case c4 => exact u32s_one _
  refine Lib.hid ?_
  have hfin : u32s (startP c.os) ++ (u32s (List.replicate cn 0)).drop (u32s (startP c.os)).length = u32s (memP c) := by
    rw [HMS.out]
    simp [u32s, HSL.out]
  have HG7 := Lib.hid HG6.out
  rw [hfin] at HG7
  have hof := of_any (some ⟨w1.heap.size + 1, 0, none⟩) cn (memP c) w6 (by rw [HML.out]; have := HCN.out; omega) ⟨by simp [u32s], fun _ => ⟨_, 0, rfl, heap_lt HG7.out, fun i v hv => by rw [Nat.zero_add]; exact cell_of_list HG7.out _ _ hv⟩⟩
  rw [HML.out] at hof
  refine hof.mono ?_
  rintro e w7 ⟨b7, g7, rfl, hb7, hg7, hm7, hu7⟩
  have HU7 := Lib.hid hu7
  have HM7 := Lib.hid hm7
  have HW6 := Lib.hid (HU5.out.then HU6.out (fun i hi => .inr (by simp at hi; subst hi; have := HU1.out.size; omega)))
  have HB7 := Lib.hid (And.intro hb7 hg7)
  clear hof hfin hb7 hg7 hm7 hu7
  go_wp2
  go_ret
  exact ⟨HW6.out.trans HU7.out, b7, g7, rfl, Nat.le_trans HW6.out.size HB7.out.1, Nat.le_trans HW6.out.size HB7.out.2, HM7.out⟩
end
end Go.Proofs.Ytdbgnnkbcebpcaa
