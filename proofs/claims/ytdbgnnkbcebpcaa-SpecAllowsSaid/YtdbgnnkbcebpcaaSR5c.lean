/- The document's spec: Do, case by case (printed by gensr5.py). -/
import Derived.Test.YtdbgnnkbcebpcaaSR4
import Derived.Deep.RegionHeld3
set_option linter.unusedVariables false
set_option linter.unusedSimpArgs false
namespace Go.Proofs.Ytdbgnnkbcebpcaa
open Go.RowKit
section
variable {w : World} {sa : Option Addr} {rs : List IL}
set_option maxRecDepth 100000 in
set_option maxHeartbeats 8000000 in
theorem rdo_no1 (sc i : Nat) (k c0 c1 c2 c3 cn k1 cap wd rt f t i0 i1 i2 i3 z0 z1 z2 z3 : Int) (row : List V4) (h : SRel w sa rs) (hn : rs.length ≤ 1000) (hrw : ∀ r ∈ rs, r.x.row.length ≤ 64) (hi : i < rs.length) (hk : plainP k = 1)
    (hx : rs[i].x = ⟨⟨k1, cap, wd, rt, f, t, i0, i1, i2, i3⟩, row, ⟨z0, z1, z2, z3⟩⟩) (hr : rightB k1 cap wd rt = true) (hn1 : k1 ≠ 1) : Calls Try.prog 11 #[.slice sa rs.length sc, .agg (caV k i c0 c1 c2 c3 cn)] w fun e w' => Upd [] w w' ∧ SOut (rs.map (·.x)) (12, v0) e w' := by
  have HCP := Lib.hid (fun (w1 : World) (hu : Upd [] w w1) => by have h1 := rcopy_at sc i (h.upd hu) hn hrw hi; rw [hx] at h1; exact h1)
  have HS := Lib.hid h
  have HPL := Lib.hid (fun (w : World) => by have h1 := rplain_c w k; rw [hk] at h1; exact h1)
  have HRT := Lib.hid fun (w : World) => rright_any cap wd rt f t i0 i1 i2 i3 w k1
  have HRL := Lib.hid (show row.length ≤ 64 by have h1 := hrw rs[i] (List.getElem_mem hi); rw [hx] at h1; exact h1)
  have HI := Lib.hid hi
  have HX := Lib.hid hx
  have HCB := Lib.hid (show ((w.alloc (.cells #[.int .i64 k, .int .i64 i, .int .u32 c0, .int .u32 c1, .int .u32 c2, .int .u32 c3, .int .u32 cn] 28)).alloc (.cells #[.int .i64 0, .int .u32 0, .int .u32 0, .int .u32 0, .int .u32 0] 31)).heap[w.heap.size]? = some (.cells #[.int .i64 k, .int .i64 i, .int .u32 c0, .int .u32 c1, .int .u32 c2, .int .u32 c3, .int .u32 cn] 28) from heap_alloc' (heap_alloc_new w _))
  have HRB := Lib.hid (show ((w.alloc (.cells #[.int .i64 k, .int .i64 i, .int .u32 c0, .int .u32 c1, .int .u32 c2, .int .u32 c3, .int .u32 cn] 28)).alloc (.cells #[.int .i64 0, .int .u32 0, .int .u32 0, .int .u32 0, .int .u32 0] 31)).heap[w.heap.size + 1]? = some (.cells #[.int .i64 0, .int .u32 0, .int .u32 0, .int .u32 0, .int .u32 0] 31) from heap_alloc_at _ (by simp))
  have bi0 : ¬ ((i : Int) < 0) := by omega
  have bi1 : (i : Int) < (rs.length : Int) := by omega
  have bi2 : (0 : Int) ≤ (i : Int) := by omega
  have bi3 : ¬ ((rs.length : Int) ≤ (i : Int)) := by omega
  rw [hr] at HRT
  have q1 : (k1 == 1) = false := by simp [hn1]
  clear hr hn1
  clear h hn hrw hk hx
  unfold caV
  unfold obA at HRT
  go_enter Try.func11, Try.ntmps11
  (
      go_wp2_with (first
        | (go_at_call 49; (with_reducible refine (HPL.out _).mono ?_); rintro e w9 ⟨rfl, rfl⟩)
        | (go_at_call 50; (with_reducible refine (HCP.out _ (by repeat (first | (with_reducible exact Upd.refl _ _) | (with_reducible apply Upd.drew) | (with_reducible refine Upd.grE ?_ _) | (with_reducible refine Upd.alloc ?_ _)))).mono ?_); rintro e w1 ⟨g, gc, rs', ra, rc, rfl, hcp, hmp⟩; have HA := Lib.hid hcp; have HM := Lib.hid hmp; have t0 := hcp.cell 0 _ rfl; have t1 := hcp.cell 1 _ rfl; have t2 := hcp.cell 2 _ rfl; have t3 := hcp.cell 3 _ rfl; have t4 := hcp.cell 4 _ rfl; have t5 := hcp.cell 5 _ rfl; have t6 := hcp.cell 6 _ rfl; have t7 := hcp.cell 7 _ rfl; have t8 := hcp.cell 8 _ rfl; have t9 := hcp.cell 9 _ rfl; have t10 := hcp.cell 10 _ rfl; have t11 := hcp.cell 11 _ rfl; have t12 := hcp.cell 12 _ rfl; have t13 := hcp.cell 13 _ rfl; have t14 := hcp.cell 14 _ rfl; rw [Nat.add_zero] at t0; have hfr := hcp.free; have hgl := hcp.glt.2; have hgl2 := hcp.glt.1; simp only [World.size_alloc] at hgl2; have hgn1 : w.heap.size ≠ g := (by omega); have hgn2 : w.heap.size + 1 ≠ g := (by omega); have hcb := hcp.upd.keepb HCB.out (by simp); have hrb := hcp.upd.keepb HRB.out (by simp); obtain ⟨e0, e1, e2, e3, e4, e5, e6⟩ := cells7s hcb; obtain ⟨r0, r1, r2, r3, r4⟩ := cells5 hrb; have hrf := frozen_of_heap hrb; have HB1 := Lib.hid hcb; have HB2 := Lib.hid hrb; have hlb1 := heap_lt hcb; have hlb2 := heap_lt hrb; clear hcp hmp hcb hrb)
        | (go_at_call 45; (with_reducible refine (HRT.out _).mono ?_); rintro e w2 ⟨rfl, hu2⟩; obtain ⟨p2, rfl⟩ := hu2.grown; clear hu2)
        | (fail)))
  have HUA := Lib.hid ((upd2 w _ _).trans HA.out.upd)
  refine bodyPost_ret (v := .tuple #[.slice sa rs.length sc, .agg (resV (12, v0))]) (by simp [results, Try.f11, go_sem, resV, resA, v0, V4.one, size_setCell, hlb2, r0, r1, r2, r3, r4]) rfl ?_
  exact rdo_same HS.out (by repeat (first | (with_reducible exact Upd.refl _ _) | (with_reducible apply Upd.drew) | (with_reducible refine Upd.grE ?_ _) | (with_reducible refine Upd.alloc ?_ _) | (with_reducible refine Upd.setB ?_ (.inr (by simp))) | (with_reducible exact HUA.out)))

set_option maxRecDepth 100000 in
set_option maxHeartbeats 8000000 in
theorem rdo_nr1 (sc i : Nat) (k c0 c1 c2 c3 cn k1 cap wd rt f t i0 i1 i2 i3 z0 z1 z2 z3 : Int) (row : List V4) (h : SRel w sa rs) (hn : rs.length ≤ 1000) (hrw : ∀ r ∈ rs, r.x.row.length ≤ 64) (hi : i < rs.length) (hk : plainP k = 1)
    (hx : rs[i].x = ⟨⟨k1, cap, wd, rt, f, t, i0, i1, i2, i3⟩, row, ⟨z0, z1, z2, z3⟩⟩) (hr : rightB k1 cap wd rt = false) : Calls Try.prog 11 #[.slice sa rs.length sc, .agg (caV k i c0 c1 c2 c3 cn)] w fun e w' => Upd [] w w' ∧ SOut (rs.map (·.x)) (12, v0) e w' := by
  have HCP := Lib.hid (fun (w1 : World) (hu : Upd [] w w1) => by have h1 := rcopy_at sc i (h.upd hu) hn hrw hi; rw [hx] at h1; exact h1)
  have HS := Lib.hid h
  have HPL := Lib.hid (fun (w : World) => by have h1 := rplain_c w k; rw [hk] at h1; exact h1)
  have HRT := Lib.hid fun (w : World) => rright_any cap wd rt f t i0 i1 i2 i3 w k1
  have HRL := Lib.hid (show row.length ≤ 64 by have h1 := hrw rs[i] (List.getElem_mem hi); rw [hx] at h1; exact h1)
  have HI := Lib.hid hi
  have HX := Lib.hid hx
  have HCB := Lib.hid (show ((w.alloc (.cells #[.int .i64 k, .int .i64 i, .int .u32 c0, .int .u32 c1, .int .u32 c2, .int .u32 c3, .int .u32 cn] 28)).alloc (.cells #[.int .i64 0, .int .u32 0, .int .u32 0, .int .u32 0, .int .u32 0] 31)).heap[w.heap.size]? = some (.cells #[.int .i64 k, .int .i64 i, .int .u32 c0, .int .u32 c1, .int .u32 c2, .int .u32 c3, .int .u32 cn] 28) from heap_alloc' (heap_alloc_new w _))
  have HRB := Lib.hid (show ((w.alloc (.cells #[.int .i64 k, .int .i64 i, .int .u32 c0, .int .u32 c1, .int .u32 c2, .int .u32 c3, .int .u32 cn] 28)).alloc (.cells #[.int .i64 0, .int .u32 0, .int .u32 0, .int .u32 0, .int .u32 0] 31)).heap[w.heap.size + 1]? = some (.cells #[.int .i64 0, .int .u32 0, .int .u32 0, .int .u32 0, .int .u32 0] 31) from heap_alloc_at _ (by simp))
  have bi0 : ¬ ((i : Int) < 0) := by omega
  have bi1 : (i : Int) < (rs.length : Int) := by omega
  have bi2 : (0 : Int) ≤ (i : Int) := by omega
  have bi3 : ¬ ((rs.length : Int) ≤ (i : Int)) := by omega
  rw [hr] at HRT
  clear hr
  clear h hn hrw hk hx
  unfold caV
  unfold obA at HRT
  go_enter Try.func11, Try.ntmps11
  (
      go_wp2_with (first
        | (go_at_call 49; (with_reducible refine (HPL.out _).mono ?_); rintro e w9 ⟨rfl, rfl⟩)
        | (go_at_call 50; (with_reducible refine (HCP.out _ (by repeat (first | (with_reducible exact Upd.refl _ _) | (with_reducible apply Upd.drew) | (with_reducible refine Upd.grE ?_ _) | (with_reducible refine Upd.alloc ?_ _)))).mono ?_); rintro e w1 ⟨g, gc, rs', ra, rc, rfl, hcp, hmp⟩; have HA := Lib.hid hcp; have HM := Lib.hid hmp; have t0 := hcp.cell 0 _ rfl; have t1 := hcp.cell 1 _ rfl; have t2 := hcp.cell 2 _ rfl; have t3 := hcp.cell 3 _ rfl; have t4 := hcp.cell 4 _ rfl; have t5 := hcp.cell 5 _ rfl; have t6 := hcp.cell 6 _ rfl; have t7 := hcp.cell 7 _ rfl; have t8 := hcp.cell 8 _ rfl; have t9 := hcp.cell 9 _ rfl; have t10 := hcp.cell 10 _ rfl; have t11 := hcp.cell 11 _ rfl; have t12 := hcp.cell 12 _ rfl; have t13 := hcp.cell 13 _ rfl; have t14 := hcp.cell 14 _ rfl; rw [Nat.add_zero] at t0; have hfr := hcp.free; have hgl := hcp.glt.2; have hgl2 := hcp.glt.1; simp only [World.size_alloc] at hgl2; have hgn1 : w.heap.size ≠ g := (by omega); have hgn2 : w.heap.size + 1 ≠ g := (by omega); have hcb := hcp.upd.keepb HCB.out (by simp); have hrb := hcp.upd.keepb HRB.out (by simp); obtain ⟨e0, e1, e2, e3, e4, e5, e6⟩ := cells7s hcb; obtain ⟨r0, r1, r2, r3, r4⟩ := cells5 hrb; have hrf := frozen_of_heap hrb; have HB1 := Lib.hid hcb; have HB2 := Lib.hid hrb; have hlb1 := heap_lt hcb; have hlb2 := heap_lt hrb; clear hcp hmp hcb hrb)
        | (go_at_call 45; (with_reducible refine (HRT.out _).mono ?_); rintro e w2 ⟨rfl, hu2⟩; obtain ⟨p2, rfl⟩ := hu2.grown; clear hu2)
        | (fail)))
  have HUA := Lib.hid ((upd2 w _ _).trans HA.out.upd)
  refine bodyPost_ret (v := .tuple #[.slice sa rs.length sc, .agg (resV (12, v0))]) (by simp [results, Try.f11, go_sem, resV, resA, v0, V4.one, size_setCell, hlb2, r0, r1, r2, r3, r4]) rfl ?_
  exact rdo_same HS.out (by repeat (first | (with_reducible exact Upd.refl _ _) | (with_reducible apply Upd.drew) | (with_reducible refine Upd.grE ?_ _) | (with_reducible refine Upd.alloc ?_ _) | (with_reducible refine Upd.setB ?_ (.inr (by simp))) | (with_reducible exact HUA.out)))

set_option maxRecDepth 100000 in
set_option maxHeartbeats 8000000 in
theorem rdo_no2 (sc i : Nat) (k c0 c1 c2 c3 cn k1 cap wd rt f t i0 i1 i2 i3 z0 z1 z2 z3 : Int) (row : List V4) (h : SRel w sa rs) (hn : rs.length ≤ 1000) (hrw : ∀ r ∈ rs, r.x.row.length ≤ 64) (hi : i < rs.length) (hk : plainP k = 2)
    (hx : rs[i].x = ⟨⟨k1, cap, wd, rt, f, t, i0, i1, i2, i3⟩, row, ⟨z0, z1, z2, z3⟩⟩) (hr : rightB k1 cap wd rt = true) (hn1 : k1 ≠ 1) : Calls Try.prog 11 #[.slice sa rs.length sc, .agg (caV k i c0 c1 c2 c3 cn)] w fun e w' => Upd [] w w' ∧ SOut (rs.map (·.x)) (12, v0) e w' := by
  have HCP := Lib.hid (fun (w1 : World) (hu : Upd [] w w1) => by have h1 := rcopy_at sc i (h.upd hu) hn hrw hi; rw [hx] at h1; exact h1)
  have HS := Lib.hid h
  have HPL := Lib.hid (fun (w : World) => by have h1 := rplain_c w k; rw [hk] at h1; exact h1)
  have HRT := Lib.hid fun (w : World) => rright_any cap wd rt f t i0 i1 i2 i3 w k1
  have HRL := Lib.hid (show row.length ≤ 64 by have h1 := hrw rs[i] (List.getElem_mem hi); rw [hx] at h1; exact h1)
  have HI := Lib.hid hi
  have HX := Lib.hid hx
  have HCB := Lib.hid (show ((w.alloc (.cells #[.int .i64 k, .int .i64 i, .int .u32 c0, .int .u32 c1, .int .u32 c2, .int .u32 c3, .int .u32 cn] 28)).alloc (.cells #[.int .i64 0, .int .u32 0, .int .u32 0, .int .u32 0, .int .u32 0] 31)).heap[w.heap.size]? = some (.cells #[.int .i64 k, .int .i64 i, .int .u32 c0, .int .u32 c1, .int .u32 c2, .int .u32 c3, .int .u32 cn] 28) from heap_alloc' (heap_alloc_new w _))
  have HRB := Lib.hid (show ((w.alloc (.cells #[.int .i64 k, .int .i64 i, .int .u32 c0, .int .u32 c1, .int .u32 c2, .int .u32 c3, .int .u32 cn] 28)).alloc (.cells #[.int .i64 0, .int .u32 0, .int .u32 0, .int .u32 0, .int .u32 0] 31)).heap[w.heap.size + 1]? = some (.cells #[.int .i64 0, .int .u32 0, .int .u32 0, .int .u32 0, .int .u32 0] 31) from heap_alloc_at _ (by simp))
  have bi0 : ¬ ((i : Int) < 0) := by omega
  have bi1 : (i : Int) < (rs.length : Int) := by omega
  have bi2 : (0 : Int) ≤ (i : Int) := by omega
  have bi3 : ¬ ((rs.length : Int) ≤ (i : Int)) := by omega
  rw [hr] at HRT
  have q1 : (k1 == 1) = false := by simp [hn1]
  clear hr hn1
  clear h hn hrw hk hx
  unfold caV
  unfold obA at HRT
  go_enter Try.func11, Try.ntmps11
  (
      go_wp2_with (first
        | (go_at_call 49; (with_reducible refine (HPL.out _).mono ?_); rintro e w9 ⟨rfl, rfl⟩)
        | (go_at_call 50; (with_reducible refine (HCP.out _ (by repeat (first | (with_reducible exact Upd.refl _ _) | (with_reducible apply Upd.drew) | (with_reducible refine Upd.grE ?_ _) | (with_reducible refine Upd.alloc ?_ _)))).mono ?_); rintro e w1 ⟨g, gc, rs', ra, rc, rfl, hcp, hmp⟩; have HA := Lib.hid hcp; have HM := Lib.hid hmp; have t0 := hcp.cell 0 _ rfl; have t1 := hcp.cell 1 _ rfl; have t2 := hcp.cell 2 _ rfl; have t3 := hcp.cell 3 _ rfl; have t4 := hcp.cell 4 _ rfl; have t5 := hcp.cell 5 _ rfl; have t6 := hcp.cell 6 _ rfl; have t7 := hcp.cell 7 _ rfl; have t8 := hcp.cell 8 _ rfl; have t9 := hcp.cell 9 _ rfl; have t10 := hcp.cell 10 _ rfl; have t11 := hcp.cell 11 _ rfl; have t12 := hcp.cell 12 _ rfl; have t13 := hcp.cell 13 _ rfl; have t14 := hcp.cell 14 _ rfl; rw [Nat.add_zero] at t0; have hfr := hcp.free; have hgl := hcp.glt.2; have hgl2 := hcp.glt.1; simp only [World.size_alloc] at hgl2; have hgn1 : w.heap.size ≠ g := (by omega); have hgn2 : w.heap.size + 1 ≠ g := (by omega); have hcb := hcp.upd.keepb HCB.out (by simp); have hrb := hcp.upd.keepb HRB.out (by simp); obtain ⟨e0, e1, e2, e3, e4, e5, e6⟩ := cells7s hcb; obtain ⟨r0, r1, r2, r3, r4⟩ := cells5 hrb; have hrf := frozen_of_heap hrb; have HB1 := Lib.hid hcb; have HB2 := Lib.hid hrb; have hlb1 := heap_lt hcb; have hlb2 := heap_lt hrb; clear hcp hmp hcb hrb)
        | (go_at_call 45; (with_reducible refine (HRT.out _).mono ?_); rintro e w2 ⟨rfl, hu2⟩; obtain ⟨p2, rfl⟩ := hu2.grown; clear hu2)
        | (fail)))
  have HUA := Lib.hid ((upd2 w _ _).trans HA.out.upd)
  refine bodyPost_ret (v := .tuple #[.slice sa rs.length sc, .agg (resV (12, v0))]) (by simp [results, Try.f11, go_sem, resV, resA, v0, V4.one, size_setCell, hlb2, r0, r1, r2, r3, r4]) rfl ?_
  exact rdo_same HS.out (by repeat (first | (with_reducible exact Upd.refl _ _) | (with_reducible apply Upd.drew) | (with_reducible refine Upd.grE ?_ _) | (with_reducible refine Upd.alloc ?_ _) | (with_reducible refine Upd.setB ?_ (.inr (by simp))) | (with_reducible exact HUA.out)))

set_option maxRecDepth 100000 in
set_option maxHeartbeats 8000000 in
theorem rdo_nr2 (sc i : Nat) (k c0 c1 c2 c3 cn k1 cap wd rt f t i0 i1 i2 i3 z0 z1 z2 z3 : Int) (row : List V4) (h : SRel w sa rs) (hn : rs.length ≤ 1000) (hrw : ∀ r ∈ rs, r.x.row.length ≤ 64) (hi : i < rs.length) (hk : plainP k = 2)
    (hx : rs[i].x = ⟨⟨k1, cap, wd, rt, f, t, i0, i1, i2, i3⟩, row, ⟨z0, z1, z2, z3⟩⟩) (hr : rightB k1 cap wd rt = false) : Calls Try.prog 11 #[.slice sa rs.length sc, .agg (caV k i c0 c1 c2 c3 cn)] w fun e w' => Upd [] w w' ∧ SOut (rs.map (·.x)) (12, v0) e w' := by
  have HCP := Lib.hid (fun (w1 : World) (hu : Upd [] w w1) => by have h1 := rcopy_at sc i (h.upd hu) hn hrw hi; rw [hx] at h1; exact h1)
  have HS := Lib.hid h
  have HPL := Lib.hid (fun (w : World) => by have h1 := rplain_c w k; rw [hk] at h1; exact h1)
  have HRT := Lib.hid fun (w : World) => rright_any cap wd rt f t i0 i1 i2 i3 w k1
  have HRL := Lib.hid (show row.length ≤ 64 by have h1 := hrw rs[i] (List.getElem_mem hi); rw [hx] at h1; exact h1)
  have HI := Lib.hid hi
  have HX := Lib.hid hx
  have HCB := Lib.hid (show ((w.alloc (.cells #[.int .i64 k, .int .i64 i, .int .u32 c0, .int .u32 c1, .int .u32 c2, .int .u32 c3, .int .u32 cn] 28)).alloc (.cells #[.int .i64 0, .int .u32 0, .int .u32 0, .int .u32 0, .int .u32 0] 31)).heap[w.heap.size]? = some (.cells #[.int .i64 k, .int .i64 i, .int .u32 c0, .int .u32 c1, .int .u32 c2, .int .u32 c3, .int .u32 cn] 28) from heap_alloc' (heap_alloc_new w _))
  have HRB := Lib.hid (show ((w.alloc (.cells #[.int .i64 k, .int .i64 i, .int .u32 c0, .int .u32 c1, .int .u32 c2, .int .u32 c3, .int .u32 cn] 28)).alloc (.cells #[.int .i64 0, .int .u32 0, .int .u32 0, .int .u32 0, .int .u32 0] 31)).heap[w.heap.size + 1]? = some (.cells #[.int .i64 0, .int .u32 0, .int .u32 0, .int .u32 0, .int .u32 0] 31) from heap_alloc_at _ (by simp))
  have bi0 : ¬ ((i : Int) < 0) := by omega
  have bi1 : (i : Int) < (rs.length : Int) := by omega
  have bi2 : (0 : Int) ≤ (i : Int) := by omega
  have bi3 : ¬ ((rs.length : Int) ≤ (i : Int)) := by omega
  rw [hr] at HRT
  clear hr
  clear h hn hrw hk hx
  unfold caV
  unfold obA at HRT
  go_enter Try.func11, Try.ntmps11
  (
      go_wp2_with (first
        | (go_at_call 49; (with_reducible refine (HPL.out _).mono ?_); rintro e w9 ⟨rfl, rfl⟩)
        | (go_at_call 50; (with_reducible refine (HCP.out _ (by repeat (first | (with_reducible exact Upd.refl _ _) | (with_reducible apply Upd.drew) | (with_reducible refine Upd.grE ?_ _) | (with_reducible refine Upd.alloc ?_ _)))).mono ?_); rintro e w1 ⟨g, gc, rs', ra, rc, rfl, hcp, hmp⟩; have HA := Lib.hid hcp; have HM := Lib.hid hmp; have t0 := hcp.cell 0 _ rfl; have t1 := hcp.cell 1 _ rfl; have t2 := hcp.cell 2 _ rfl; have t3 := hcp.cell 3 _ rfl; have t4 := hcp.cell 4 _ rfl; have t5 := hcp.cell 5 _ rfl; have t6 := hcp.cell 6 _ rfl; have t7 := hcp.cell 7 _ rfl; have t8 := hcp.cell 8 _ rfl; have t9 := hcp.cell 9 _ rfl; have t10 := hcp.cell 10 _ rfl; have t11 := hcp.cell 11 _ rfl; have t12 := hcp.cell 12 _ rfl; have t13 := hcp.cell 13 _ rfl; have t14 := hcp.cell 14 _ rfl; rw [Nat.add_zero] at t0; have hfr := hcp.free; have hgl := hcp.glt.2; have hgl2 := hcp.glt.1; simp only [World.size_alloc] at hgl2; have hgn1 : w.heap.size ≠ g := (by omega); have hgn2 : w.heap.size + 1 ≠ g := (by omega); have hcb := hcp.upd.keepb HCB.out (by simp); have hrb := hcp.upd.keepb HRB.out (by simp); obtain ⟨e0, e1, e2, e3, e4, e5, e6⟩ := cells7s hcb; obtain ⟨r0, r1, r2, r3, r4⟩ := cells5 hrb; have hrf := frozen_of_heap hrb; have HB1 := Lib.hid hcb; have HB2 := Lib.hid hrb; have hlb1 := heap_lt hcb; have hlb2 := heap_lt hrb; clear hcp hmp hcb hrb)
        | (go_at_call 45; (with_reducible refine (HRT.out _).mono ?_); rintro e w2 ⟨rfl, hu2⟩; obtain ⟨p2, rfl⟩ := hu2.grown; clear hu2)
        | (fail)))
  have HUA := Lib.hid ((upd2 w _ _).trans HA.out.upd)
  refine bodyPost_ret (v := .tuple #[.slice sa rs.length sc, .agg (resV (12, v0))]) (by simp [results, Try.f11, go_sem, resV, resA, v0, V4.one, size_setCell, hlb2, r0, r1, r2, r3, r4]) rfl ?_
  exact rdo_same HS.out (by repeat (first | (with_reducible exact Upd.refl _ _) | (with_reducible apply Upd.drew) | (with_reducible refine Upd.grE ?_ _) | (with_reducible refine Upd.alloc ?_ _) | (with_reducible refine Upd.setB ?_ (.inr (by simp))) | (with_reducible exact HUA.out)))

set_option maxRecDepth 100000 in
set_option maxHeartbeats 8000000 in
theorem rdo_no3 (sc i : Nat) (k c0 c1 c2 c3 cn k1 cap wd rt f t i0 i1 i2 i3 z0 z1 z2 z3 : Int) (row : List V4) (h : SRel w sa rs) (hn : rs.length ≤ 1000) (hrw : ∀ r ∈ rs, r.x.row.length ≤ 64) (hi : i < rs.length) (hk : plainP k = 3)
    (hx : rs[i].x = ⟨⟨k1, cap, wd, rt, f, t, i0, i1, i2, i3⟩, row, ⟨z0, z1, z2, z3⟩⟩) (hr : rightB k1 cap wd rt = true) (hn2 : k1 ≠ 2) (hn3 : k1 ≠ 3) : Calls Try.prog 11 #[.slice sa rs.length sc, .agg (caV k i c0 c1 c2 c3 cn)] w fun e w' => Upd [] w w' ∧ SOut (rs.map (·.x)) (12, v0) e w' := by
  have HCP := Lib.hid (fun (w1 : World) (hu : Upd [] w w1) => by have h1 := rcopy_at sc i (h.upd hu) hn hrw hi; rw [hx] at h1; exact h1)
  have HS := Lib.hid h
  have HPL := Lib.hid (fun (w : World) => by have h1 := rplain_c w k; rw [hk] at h1; exact h1)
  have HRT := Lib.hid fun (w : World) => rright_any cap wd rt f t i0 i1 i2 i3 w k1
  have HRL := Lib.hid (show row.length ≤ 64 by have h1 := hrw rs[i] (List.getElem_mem hi); rw [hx] at h1; exact h1)
  have HI := Lib.hid hi
  have HX := Lib.hid hx
  have HCB := Lib.hid (show ((w.alloc (.cells #[.int .i64 k, .int .i64 i, .int .u32 c0, .int .u32 c1, .int .u32 c2, .int .u32 c3, .int .u32 cn] 28)).alloc (.cells #[.int .i64 0, .int .u32 0, .int .u32 0, .int .u32 0, .int .u32 0] 31)).heap[w.heap.size]? = some (.cells #[.int .i64 k, .int .i64 i, .int .u32 c0, .int .u32 c1, .int .u32 c2, .int .u32 c3, .int .u32 cn] 28) from heap_alloc' (heap_alloc_new w _))
  have HRB := Lib.hid (show ((w.alloc (.cells #[.int .i64 k, .int .i64 i, .int .u32 c0, .int .u32 c1, .int .u32 c2, .int .u32 c3, .int .u32 cn] 28)).alloc (.cells #[.int .i64 0, .int .u32 0, .int .u32 0, .int .u32 0, .int .u32 0] 31)).heap[w.heap.size + 1]? = some (.cells #[.int .i64 0, .int .u32 0, .int .u32 0, .int .u32 0, .int .u32 0] 31) from heap_alloc_at _ (by simp))
  have bi0 : ¬ ((i : Int) < 0) := by omega
  have bi1 : (i : Int) < (rs.length : Int) := by omega
  have bi2 : (0 : Int) ≤ (i : Int) := by omega
  have bi3 : ¬ ((rs.length : Int) ≤ (i : Int)) := by omega
  rw [hr] at HRT
  have q2 : (k1 == 2) = false := by simp [hn2]
  have q3 : (k1 == 3) = false := by simp [hn3]
  clear hr hn2 hn3
  clear h hn hrw hk hx
  unfold caV
  unfold obA at HRT
  go_enter Try.func11, Try.ntmps11
  (
      go_wp2_with (first
        | (go_at_call 49; (with_reducible refine (HPL.out _).mono ?_); rintro e w9 ⟨rfl, rfl⟩)
        | (go_at_call 50; (with_reducible refine (HCP.out _ (by repeat (first | (with_reducible exact Upd.refl _ _) | (with_reducible apply Upd.drew) | (with_reducible refine Upd.grE ?_ _) | (with_reducible refine Upd.alloc ?_ _)))).mono ?_); rintro e w1 ⟨g, gc, rs', ra, rc, rfl, hcp, hmp⟩; have HA := Lib.hid hcp; have HM := Lib.hid hmp; have t0 := hcp.cell 0 _ rfl; have t1 := hcp.cell 1 _ rfl; have t2 := hcp.cell 2 _ rfl; have t3 := hcp.cell 3 _ rfl; have t4 := hcp.cell 4 _ rfl; have t5 := hcp.cell 5 _ rfl; have t6 := hcp.cell 6 _ rfl; have t7 := hcp.cell 7 _ rfl; have t8 := hcp.cell 8 _ rfl; have t9 := hcp.cell 9 _ rfl; have t10 := hcp.cell 10 _ rfl; have t11 := hcp.cell 11 _ rfl; have t12 := hcp.cell 12 _ rfl; have t13 := hcp.cell 13 _ rfl; have t14 := hcp.cell 14 _ rfl; rw [Nat.add_zero] at t0; have hfr := hcp.free; have hgl := hcp.glt.2; have hgl2 := hcp.glt.1; simp only [World.size_alloc] at hgl2; have hgn1 : w.heap.size ≠ g := (by omega); have hgn2 : w.heap.size + 1 ≠ g := (by omega); have hcb := hcp.upd.keepb HCB.out (by simp); have hrb := hcp.upd.keepb HRB.out (by simp); obtain ⟨e0, e1, e2, e3, e4, e5, e6⟩ := cells7s hcb; obtain ⟨r0, r1, r2, r3, r4⟩ := cells5 hrb; have hrf := frozen_of_heap hrb; have HB1 := Lib.hid hcb; have HB2 := Lib.hid hrb; have hlb1 := heap_lt hcb; have hlb2 := heap_lt hrb; clear hcp hmp hcb hrb)
        | (go_at_call 45; (with_reducible refine (HRT.out _).mono ?_); rintro e w2 ⟨rfl, hu2⟩; obtain ⟨p2, rfl⟩ := hu2.grown; clear hu2)
        | (fail)))
  have HUA := Lib.hid ((upd2 w _ _).trans HA.out.upd)
  refine bodyPost_ret (v := .tuple #[.slice sa rs.length sc, .agg (resV (12, v0))]) (by simp [results, Try.f11, go_sem, resV, resA, v0, V4.one, size_setCell, hlb2, r0, r1, r2, r3, r4]) rfl ?_
  exact rdo_same HS.out (by repeat (first | (with_reducible exact Upd.refl _ _) | (with_reducible apply Upd.drew) | (with_reducible refine Upd.grE ?_ _) | (with_reducible refine Upd.alloc ?_ _) | (with_reducible refine Upd.setB ?_ (.inr (by simp))) | (with_reducible exact HUA.out)))

set_option maxRecDepth 100000 in
set_option maxHeartbeats 8000000 in
theorem rdo_nr3 (sc i : Nat) (k c0 c1 c2 c3 cn k1 cap wd rt f t i0 i1 i2 i3 z0 z1 z2 z3 : Int) (row : List V4) (h : SRel w sa rs) (hn : rs.length ≤ 1000) (hrw : ∀ r ∈ rs, r.x.row.length ≤ 64) (hi : i < rs.length) (hk : plainP k = 3)
    (hx : rs[i].x = ⟨⟨k1, cap, wd, rt, f, t, i0, i1, i2, i3⟩, row, ⟨z0, z1, z2, z3⟩⟩) (hr : rightB k1 cap wd rt = false) : Calls Try.prog 11 #[.slice sa rs.length sc, .agg (caV k i c0 c1 c2 c3 cn)] w fun e w' => Upd [] w w' ∧ SOut (rs.map (·.x)) (12, v0) e w' := by
  have HCP := Lib.hid (fun (w1 : World) (hu : Upd [] w w1) => by have h1 := rcopy_at sc i (h.upd hu) hn hrw hi; rw [hx] at h1; exact h1)
  have HS := Lib.hid h
  have HPL := Lib.hid (fun (w : World) => by have h1 := rplain_c w k; rw [hk] at h1; exact h1)
  have HRT := Lib.hid fun (w : World) => rright_any cap wd rt f t i0 i1 i2 i3 w k1
  have HRL := Lib.hid (show row.length ≤ 64 by have h1 := hrw rs[i] (List.getElem_mem hi); rw [hx] at h1; exact h1)
  have HI := Lib.hid hi
  have HX := Lib.hid hx
  have HCB := Lib.hid (show ((w.alloc (.cells #[.int .i64 k, .int .i64 i, .int .u32 c0, .int .u32 c1, .int .u32 c2, .int .u32 c3, .int .u32 cn] 28)).alloc (.cells #[.int .i64 0, .int .u32 0, .int .u32 0, .int .u32 0, .int .u32 0] 31)).heap[w.heap.size]? = some (.cells #[.int .i64 k, .int .i64 i, .int .u32 c0, .int .u32 c1, .int .u32 c2, .int .u32 c3, .int .u32 cn] 28) from heap_alloc' (heap_alloc_new w _))
  have HRB := Lib.hid (show ((w.alloc (.cells #[.int .i64 k, .int .i64 i, .int .u32 c0, .int .u32 c1, .int .u32 c2, .int .u32 c3, .int .u32 cn] 28)).alloc (.cells #[.int .i64 0, .int .u32 0, .int .u32 0, .int .u32 0, .int .u32 0] 31)).heap[w.heap.size + 1]? = some (.cells #[.int .i64 0, .int .u32 0, .int .u32 0, .int .u32 0, .int .u32 0] 31) from heap_alloc_at _ (by simp))
  have bi0 : ¬ ((i : Int) < 0) := by omega
  have bi1 : (i : Int) < (rs.length : Int) := by omega
  have bi2 : (0 : Int) ≤ (i : Int) := by omega
  have bi3 : ¬ ((rs.length : Int) ≤ (i : Int)) := by omega
  rw [hr] at HRT
  clear hr
  clear h hn hrw hk hx
  unfold caV
  unfold obA at HRT
  go_enter Try.func11, Try.ntmps11
  (
      go_wp2_with (first
        | (go_at_call 49; (with_reducible refine (HPL.out _).mono ?_); rintro e w9 ⟨rfl, rfl⟩)
        | (go_at_call 50; (with_reducible refine (HCP.out _ (by repeat (first | (with_reducible exact Upd.refl _ _) | (with_reducible apply Upd.drew) | (with_reducible refine Upd.grE ?_ _) | (with_reducible refine Upd.alloc ?_ _)))).mono ?_); rintro e w1 ⟨g, gc, rs', ra, rc, rfl, hcp, hmp⟩; have HA := Lib.hid hcp; have HM := Lib.hid hmp; have t0 := hcp.cell 0 _ rfl; have t1 := hcp.cell 1 _ rfl; have t2 := hcp.cell 2 _ rfl; have t3 := hcp.cell 3 _ rfl; have t4 := hcp.cell 4 _ rfl; have t5 := hcp.cell 5 _ rfl; have t6 := hcp.cell 6 _ rfl; have t7 := hcp.cell 7 _ rfl; have t8 := hcp.cell 8 _ rfl; have t9 := hcp.cell 9 _ rfl; have t10 := hcp.cell 10 _ rfl; have t11 := hcp.cell 11 _ rfl; have t12 := hcp.cell 12 _ rfl; have t13 := hcp.cell 13 _ rfl; have t14 := hcp.cell 14 _ rfl; rw [Nat.add_zero] at t0; have hfr := hcp.free; have hgl := hcp.glt.2; have hgl2 := hcp.glt.1; simp only [World.size_alloc] at hgl2; have hgn1 : w.heap.size ≠ g := (by omega); have hgn2 : w.heap.size + 1 ≠ g := (by omega); have hcb := hcp.upd.keepb HCB.out (by simp); have hrb := hcp.upd.keepb HRB.out (by simp); obtain ⟨e0, e1, e2, e3, e4, e5, e6⟩ := cells7s hcb; obtain ⟨r0, r1, r2, r3, r4⟩ := cells5 hrb; have hrf := frozen_of_heap hrb; have HB1 := Lib.hid hcb; have HB2 := Lib.hid hrb; have hlb1 := heap_lt hcb; have hlb2 := heap_lt hrb; clear hcp hmp hcb hrb)
        | (go_at_call 45; (with_reducible refine (HRT.out _).mono ?_); rintro e w2 ⟨rfl, hu2⟩; obtain ⟨p2, rfl⟩ := hu2.grown; clear hu2)
        | (fail)))
  have HUA := Lib.hid ((upd2 w _ _).trans HA.out.upd)
  refine bodyPost_ret (v := .tuple #[.slice sa rs.length sc, .agg (resV (12, v0))]) (by simp [results, Try.f11, go_sem, resV, resA, v0, V4.one, size_setCell, hlb2, r0, r1, r2, r3, r4]) rfl ?_
  exact rdo_same HS.out (by repeat (first | (with_reducible exact Upd.refl _ _) | (with_reducible apply Upd.drew) | (with_reducible refine Upd.grE ?_ _) | (with_reducible refine Upd.alloc ?_ _) | (with_reducible refine Upd.setB ?_ (.inr (by simp))) | (with_reducible exact HUA.out)))

set_option maxRecDepth 100000 in
set_option maxHeartbeats 8000000 in
theorem rdo_no4 (sc i : Nat) (k c0 c1 c2 c3 cn k1 cap wd rt f t i0 i1 i2 i3 z0 z1 z2 z3 : Int) (row : List V4) (h : SRel w sa rs) (hn : rs.length ≤ 1000) (hrw : ∀ r ∈ rs, r.x.row.length ≤ 64) (hi : i < rs.length) (hk : plainP k = 4)
    (hx : rs[i].x = ⟨⟨k1, cap, wd, rt, f, t, i0, i1, i2, i3⟩, row, ⟨z0, z1, z2, z3⟩⟩) (hr : rightB k1 cap wd rt = true) (hn2 : k1 ≠ 2) : Calls Try.prog 11 #[.slice sa rs.length sc, .agg (caV k i c0 c1 c2 c3 cn)] w fun e w' => Upd [] w w' ∧ SOut (rs.map (·.x)) (12, v0) e w' := by
  have HCP := Lib.hid (fun (w1 : World) (hu : Upd [] w w1) => by have h1 := rcopy_at sc i (h.upd hu) hn hrw hi; rw [hx] at h1; exact h1)
  have HS := Lib.hid h
  have HPL := Lib.hid (fun (w : World) => by have h1 := rplain_c w k; rw [hk] at h1; exact h1)
  have HRT := Lib.hid fun (w : World) => rright_any cap wd rt f t i0 i1 i2 i3 w k1
  have HRL := Lib.hid (show row.length ≤ 64 by have h1 := hrw rs[i] (List.getElem_mem hi); rw [hx] at h1; exact h1)
  have HI := Lib.hid hi
  have HX := Lib.hid hx
  have HCB := Lib.hid (show ((w.alloc (.cells #[.int .i64 k, .int .i64 i, .int .u32 c0, .int .u32 c1, .int .u32 c2, .int .u32 c3, .int .u32 cn] 28)).alloc (.cells #[.int .i64 0, .int .u32 0, .int .u32 0, .int .u32 0, .int .u32 0] 31)).heap[w.heap.size]? = some (.cells #[.int .i64 k, .int .i64 i, .int .u32 c0, .int .u32 c1, .int .u32 c2, .int .u32 c3, .int .u32 cn] 28) from heap_alloc' (heap_alloc_new w _))
  have HRB := Lib.hid (show ((w.alloc (.cells #[.int .i64 k, .int .i64 i, .int .u32 c0, .int .u32 c1, .int .u32 c2, .int .u32 c3, .int .u32 cn] 28)).alloc (.cells #[.int .i64 0, .int .u32 0, .int .u32 0, .int .u32 0, .int .u32 0] 31)).heap[w.heap.size + 1]? = some (.cells #[.int .i64 0, .int .u32 0, .int .u32 0, .int .u32 0, .int .u32 0] 31) from heap_alloc_at _ (by simp))
  have bi0 : ¬ ((i : Int) < 0) := by omega
  have bi1 : (i : Int) < (rs.length : Int) := by omega
  have bi2 : (0 : Int) ≤ (i : Int) := by omega
  have bi3 : ¬ ((rs.length : Int) ≤ (i : Int)) := by omega
  rw [hr] at HRT
  have q2 : (k1 == 2) = false := by simp [hn2]
  clear hr hn2
  clear h hn hrw hk hx
  unfold caV
  unfold obA at HRT
  go_enter Try.func11, Try.ntmps11
  (
      go_wp2_with (first
        | (go_at_call 49; (with_reducible refine (HPL.out _).mono ?_); rintro e w9 ⟨rfl, rfl⟩)
        | (go_at_call 50; (with_reducible refine (HCP.out _ (by repeat (first | (with_reducible exact Upd.refl _ _) | (with_reducible apply Upd.drew) | (with_reducible refine Upd.grE ?_ _) | (with_reducible refine Upd.alloc ?_ _)))).mono ?_); rintro e w1 ⟨g, gc, rs', ra, rc, rfl, hcp, hmp⟩; have HA := Lib.hid hcp; have HM := Lib.hid hmp; have t0 := hcp.cell 0 _ rfl; have t1 := hcp.cell 1 _ rfl; have t2 := hcp.cell 2 _ rfl; have t3 := hcp.cell 3 _ rfl; have t4 := hcp.cell 4 _ rfl; have t5 := hcp.cell 5 _ rfl; have t6 := hcp.cell 6 _ rfl; have t7 := hcp.cell 7 _ rfl; have t8 := hcp.cell 8 _ rfl; have t9 := hcp.cell 9 _ rfl; have t10 := hcp.cell 10 _ rfl; have t11 := hcp.cell 11 _ rfl; have t12 := hcp.cell 12 _ rfl; have t13 := hcp.cell 13 _ rfl; have t14 := hcp.cell 14 _ rfl; rw [Nat.add_zero] at t0; have hfr := hcp.free; have hgl := hcp.glt.2; have hgl2 := hcp.glt.1; simp only [World.size_alloc] at hgl2; have hgn1 : w.heap.size ≠ g := (by omega); have hgn2 : w.heap.size + 1 ≠ g := (by omega); have hcb := hcp.upd.keepb HCB.out (by simp); have hrb := hcp.upd.keepb HRB.out (by simp); obtain ⟨e0, e1, e2, e3, e4, e5, e6⟩ := cells7s hcb; obtain ⟨r0, r1, r2, r3, r4⟩ := cells5 hrb; have hrf := frozen_of_heap hrb; have HB1 := Lib.hid hcb; have HB2 := Lib.hid hrb; have hlb1 := heap_lt hcb; have hlb2 := heap_lt hrb; clear hcp hmp hcb hrb)
        | (go_at_call 45; (with_reducible refine (HRT.out _).mono ?_); rintro e w2 ⟨rfl, hu2⟩; obtain ⟨p2, rfl⟩ := hu2.grown; clear hu2)
        | (fail)))
  have HUA := Lib.hid ((upd2 w _ _).trans HA.out.upd)
  refine bodyPost_ret (v := .tuple #[.slice sa rs.length sc, .agg (resV (12, v0))]) (by simp [results, Try.f11, go_sem, resV, resA, v0, V4.one, size_setCell, hlb2, r0, r1, r2, r3, r4]) rfl ?_
  exact rdo_same HS.out (by repeat (first | (with_reducible exact Upd.refl _ _) | (with_reducible apply Upd.drew) | (with_reducible refine Upd.grE ?_ _) | (with_reducible refine Upd.alloc ?_ _) | (with_reducible refine Upd.setB ?_ (.inr (by simp))) | (with_reducible exact HUA.out)))

set_option maxRecDepth 100000 in
set_option maxHeartbeats 8000000 in
theorem rdo_nr4 (sc i : Nat) (k c0 c1 c2 c3 cn k1 cap wd rt f t i0 i1 i2 i3 z0 z1 z2 z3 : Int) (row : List V4) (h : SRel w sa rs) (hn : rs.length ≤ 1000) (hrw : ∀ r ∈ rs, r.x.row.length ≤ 64) (hi : i < rs.length) (hk : plainP k = 4)
    (hx : rs[i].x = ⟨⟨k1, cap, wd, rt, f, t, i0, i1, i2, i3⟩, row, ⟨z0, z1, z2, z3⟩⟩) (hr : rightB k1 cap wd rt = false) : Calls Try.prog 11 #[.slice sa rs.length sc, .agg (caV k i c0 c1 c2 c3 cn)] w fun e w' => Upd [] w w' ∧ SOut (rs.map (·.x)) (12, v0) e w' := by
  have HCP := Lib.hid (fun (w1 : World) (hu : Upd [] w w1) => by have h1 := rcopy_at sc i (h.upd hu) hn hrw hi; rw [hx] at h1; exact h1)
  have HS := Lib.hid h
  have HPL := Lib.hid (fun (w : World) => by have h1 := rplain_c w k; rw [hk] at h1; exact h1)
  have HRT := Lib.hid fun (w : World) => rright_any cap wd rt f t i0 i1 i2 i3 w k1
  have HRL := Lib.hid (show row.length ≤ 64 by have h1 := hrw rs[i] (List.getElem_mem hi); rw [hx] at h1; exact h1)
  have HI := Lib.hid hi
  have HX := Lib.hid hx
  have HCB := Lib.hid (show ((w.alloc (.cells #[.int .i64 k, .int .i64 i, .int .u32 c0, .int .u32 c1, .int .u32 c2, .int .u32 c3, .int .u32 cn] 28)).alloc (.cells #[.int .i64 0, .int .u32 0, .int .u32 0, .int .u32 0, .int .u32 0] 31)).heap[w.heap.size]? = some (.cells #[.int .i64 k, .int .i64 i, .int .u32 c0, .int .u32 c1, .int .u32 c2, .int .u32 c3, .int .u32 cn] 28) from heap_alloc' (heap_alloc_new w _))
  have HRB := Lib.hid (show ((w.alloc (.cells #[.int .i64 k, .int .i64 i, .int .u32 c0, .int .u32 c1, .int .u32 c2, .int .u32 c3, .int .u32 cn] 28)).alloc (.cells #[.int .i64 0, .int .u32 0, .int .u32 0, .int .u32 0, .int .u32 0] 31)).heap[w.heap.size + 1]? = some (.cells #[.int .i64 0, .int .u32 0, .int .u32 0, .int .u32 0, .int .u32 0] 31) from heap_alloc_at _ (by simp))
  have bi0 : ¬ ((i : Int) < 0) := by omega
  have bi1 : (i : Int) < (rs.length : Int) := by omega
  have bi2 : (0 : Int) ≤ (i : Int) := by omega
  have bi3 : ¬ ((rs.length : Int) ≤ (i : Int)) := by omega
  rw [hr] at HRT
  clear hr
  clear h hn hrw hk hx
  unfold caV
  unfold obA at HRT
  go_enter Try.func11, Try.ntmps11
  (
      go_wp2_with (first
        | (go_at_call 49; (with_reducible refine (HPL.out _).mono ?_); rintro e w9 ⟨rfl, rfl⟩)
        | (go_at_call 50; (with_reducible refine (HCP.out _ (by repeat (first | (with_reducible exact Upd.refl _ _) | (with_reducible apply Upd.drew) | (with_reducible refine Upd.grE ?_ _) | (with_reducible refine Upd.alloc ?_ _)))).mono ?_); rintro e w1 ⟨g, gc, rs', ra, rc, rfl, hcp, hmp⟩; have HA := Lib.hid hcp; have HM := Lib.hid hmp; have t0 := hcp.cell 0 _ rfl; have t1 := hcp.cell 1 _ rfl; have t2 := hcp.cell 2 _ rfl; have t3 := hcp.cell 3 _ rfl; have t4 := hcp.cell 4 _ rfl; have t5 := hcp.cell 5 _ rfl; have t6 := hcp.cell 6 _ rfl; have t7 := hcp.cell 7 _ rfl; have t8 := hcp.cell 8 _ rfl; have t9 := hcp.cell 9 _ rfl; have t10 := hcp.cell 10 _ rfl; have t11 := hcp.cell 11 _ rfl; have t12 := hcp.cell 12 _ rfl; have t13 := hcp.cell 13 _ rfl; have t14 := hcp.cell 14 _ rfl; rw [Nat.add_zero] at t0; have hfr := hcp.free; have hgl := hcp.glt.2; have hgl2 := hcp.glt.1; simp only [World.size_alloc] at hgl2; have hgn1 : w.heap.size ≠ g := (by omega); have hgn2 : w.heap.size + 1 ≠ g := (by omega); have hcb := hcp.upd.keepb HCB.out (by simp); have hrb := hcp.upd.keepb HRB.out (by simp); obtain ⟨e0, e1, e2, e3, e4, e5, e6⟩ := cells7s hcb; obtain ⟨r0, r1, r2, r3, r4⟩ := cells5 hrb; have hrf := frozen_of_heap hrb; have HB1 := Lib.hid hcb; have HB2 := Lib.hid hrb; have hlb1 := heap_lt hcb; have hlb2 := heap_lt hrb; clear hcp hmp hcb hrb)
        | (go_at_call 45; (with_reducible refine (HRT.out _).mono ?_); rintro e w2 ⟨rfl, hu2⟩; obtain ⟨p2, rfl⟩ := hu2.grown; clear hu2)
        | (fail)))
  have HUA := Lib.hid ((upd2 w _ _).trans HA.out.upd)
  refine bodyPost_ret (v := .tuple #[.slice sa rs.length sc, .agg (resV (12, v0))]) (by simp [results, Try.f11, go_sem, resV, resA, v0, V4.one, size_setCell, hlb2, r0, r1, r2, r3, r4]) rfl ?_
  exact rdo_same HS.out (by repeat (first | (with_reducible exact Upd.refl _ _) | (with_reducible apply Upd.drew) | (with_reducible refine Upd.grE ?_ _) | (with_reducible refine Upd.alloc ?_ _) | (with_reducible refine Upd.setB ?_ (.inr (by simp))) | (with_reducible exact HUA.out)))

set_option maxRecDepth 100000 in
set_option maxHeartbeats 8000000 in
theorem rdo_no5 (sc i : Nat) (k c0 c1 c2 c3 cn k1 cap wd rt f t i0 i1 i2 i3 z0 z1 z2 z3 : Int) (row : List V4) (h : SRel w sa rs) (hn : rs.length ≤ 1000) (hrw : ∀ r ∈ rs, r.x.row.length ≤ 64) (hi : i < rs.length) (hk : plainP k = 5)
    (hx : rs[i].x = ⟨⟨k1, cap, wd, rt, f, t, i0, i1, i2, i3⟩, row, ⟨z0, z1, z2, z3⟩⟩) (hr : rightB k1 cap wd rt = true) (hn3 : k1 ≠ 3) : Calls Try.prog 11 #[.slice sa rs.length sc, .agg (caV k i c0 c1 c2 c3 cn)] w fun e w' => Upd [] w w' ∧ SOut (rs.map (·.x)) (12, v0) e w' := by
  have HCP := Lib.hid (fun (w1 : World) (hu : Upd [] w w1) => by have h1 := rcopy_at sc i (h.upd hu) hn hrw hi; rw [hx] at h1; exact h1)
  have HS := Lib.hid h
  have HPL := Lib.hid (fun (w : World) => by have h1 := rplain_c w k; rw [hk] at h1; exact h1)
  have HRT := Lib.hid fun (w : World) => rright_any cap wd rt f t i0 i1 i2 i3 w k1
  have HRL := Lib.hid (show row.length ≤ 64 by have h1 := hrw rs[i] (List.getElem_mem hi); rw [hx] at h1; exact h1)
  have HI := Lib.hid hi
  have HX := Lib.hid hx
  have HCB := Lib.hid (show ((w.alloc (.cells #[.int .i64 k, .int .i64 i, .int .u32 c0, .int .u32 c1, .int .u32 c2, .int .u32 c3, .int .u32 cn] 28)).alloc (.cells #[.int .i64 0, .int .u32 0, .int .u32 0, .int .u32 0, .int .u32 0] 31)).heap[w.heap.size]? = some (.cells #[.int .i64 k, .int .i64 i, .int .u32 c0, .int .u32 c1, .int .u32 c2, .int .u32 c3, .int .u32 cn] 28) from heap_alloc' (heap_alloc_new w _))
  have HRB := Lib.hid (show ((w.alloc (.cells #[.int .i64 k, .int .i64 i, .int .u32 c0, .int .u32 c1, .int .u32 c2, .int .u32 c3, .int .u32 cn] 28)).alloc (.cells #[.int .i64 0, .int .u32 0, .int .u32 0, .int .u32 0, .int .u32 0] 31)).heap[w.heap.size + 1]? = some (.cells #[.int .i64 0, .int .u32 0, .int .u32 0, .int .u32 0, .int .u32 0] 31) from heap_alloc_at _ (by simp))
  have bi0 : ¬ ((i : Int) < 0) := by omega
  have bi1 : (i : Int) < (rs.length : Int) := by omega
  have bi2 : (0 : Int) ≤ (i : Int) := by omega
  have bi3 : ¬ ((rs.length : Int) ≤ (i : Int)) := by omega
  rw [hr] at HRT
  have q3 : (k1 == 3) = false := by simp [hn3]
  clear hr hn3
  clear h hn hrw hk hx
  unfold caV
  unfold obA at HRT
  go_enter Try.func11, Try.ntmps11
  (
      go_wp2_with (first
        | (go_at_call 49; (with_reducible refine (HPL.out _).mono ?_); rintro e w9 ⟨rfl, rfl⟩)
        | (go_at_call 50; (with_reducible refine (HCP.out _ (by repeat (first | (with_reducible exact Upd.refl _ _) | (with_reducible apply Upd.drew) | (with_reducible refine Upd.grE ?_ _) | (with_reducible refine Upd.alloc ?_ _)))).mono ?_); rintro e w1 ⟨g, gc, rs', ra, rc, rfl, hcp, hmp⟩; have HA := Lib.hid hcp; have HM := Lib.hid hmp; have t0 := hcp.cell 0 _ rfl; have t1 := hcp.cell 1 _ rfl; have t2 := hcp.cell 2 _ rfl; have t3 := hcp.cell 3 _ rfl; have t4 := hcp.cell 4 _ rfl; have t5 := hcp.cell 5 _ rfl; have t6 := hcp.cell 6 _ rfl; have t7 := hcp.cell 7 _ rfl; have t8 := hcp.cell 8 _ rfl; have t9 := hcp.cell 9 _ rfl; have t10 := hcp.cell 10 _ rfl; have t11 := hcp.cell 11 _ rfl; have t12 := hcp.cell 12 _ rfl; have t13 := hcp.cell 13 _ rfl; have t14 := hcp.cell 14 _ rfl; rw [Nat.add_zero] at t0; have hfr := hcp.free; have hgl := hcp.glt.2; have hgl2 := hcp.glt.1; simp only [World.size_alloc] at hgl2; have hgn1 : w.heap.size ≠ g := (by omega); have hgn2 : w.heap.size + 1 ≠ g := (by omega); have hcb := hcp.upd.keepb HCB.out (by simp); have hrb := hcp.upd.keepb HRB.out (by simp); obtain ⟨e0, e1, e2, e3, e4, e5, e6⟩ := cells7s hcb; obtain ⟨r0, r1, r2, r3, r4⟩ := cells5 hrb; have hrf := frozen_of_heap hrb; have HB1 := Lib.hid hcb; have HB2 := Lib.hid hrb; have hlb1 := heap_lt hcb; have hlb2 := heap_lt hrb; clear hcp hmp hcb hrb)
        | (go_at_call 45; (with_reducible refine (HRT.out _).mono ?_); rintro e w2 ⟨rfl, hu2⟩; obtain ⟨p2, rfl⟩ := hu2.grown; clear hu2)
        | (fail)))
  have HUA := Lib.hid ((upd2 w _ _).trans HA.out.upd)
  refine bodyPost_ret (v := .tuple #[.slice sa rs.length sc, .agg (resV (12, v0))]) (by simp [results, Try.f11, go_sem, resV, resA, v0, V4.one, size_setCell, hlb2, r0, r1, r2, r3, r4]) rfl ?_
  exact rdo_same HS.out (by repeat (first | (with_reducible exact Upd.refl _ _) | (with_reducible apply Upd.drew) | (with_reducible refine Upd.grE ?_ _) | (with_reducible refine Upd.alloc ?_ _) | (with_reducible refine Upd.setB ?_ (.inr (by simp))) | (with_reducible exact HUA.out)))

set_option maxRecDepth 100000 in
set_option maxHeartbeats 8000000 in
theorem rdo_nr5 (sc i : Nat) (k c0 c1 c2 c3 cn k1 cap wd rt f t i0 i1 i2 i3 z0 z1 z2 z3 : Int) (row : List V4) (h : SRel w sa rs) (hn : rs.length ≤ 1000) (hrw : ∀ r ∈ rs, r.x.row.length ≤ 64) (hi : i < rs.length) (hk : plainP k = 5)
    (hx : rs[i].x = ⟨⟨k1, cap, wd, rt, f, t, i0, i1, i2, i3⟩, row, ⟨z0, z1, z2, z3⟩⟩) (hr : rightB k1 cap wd rt = false) : Calls Try.prog 11 #[.slice sa rs.length sc, .agg (caV k i c0 c1 c2 c3 cn)] w fun e w' => Upd [] w w' ∧ SOut (rs.map (·.x)) (12, v0) e w' := by
  have HCP := Lib.hid (fun (w1 : World) (hu : Upd [] w w1) => by have h1 := rcopy_at sc i (h.upd hu) hn hrw hi; rw [hx] at h1; exact h1)
  have HS := Lib.hid h
  have HPL := Lib.hid (fun (w : World) => by have h1 := rplain_c w k; rw [hk] at h1; exact h1)
  have HRT := Lib.hid fun (w : World) => rright_any cap wd rt f t i0 i1 i2 i3 w k1
  have HRL := Lib.hid (show row.length ≤ 64 by have h1 := hrw rs[i] (List.getElem_mem hi); rw [hx] at h1; exact h1)
  have HI := Lib.hid hi
  have HX := Lib.hid hx
  have HCB := Lib.hid (show ((w.alloc (.cells #[.int .i64 k, .int .i64 i, .int .u32 c0, .int .u32 c1, .int .u32 c2, .int .u32 c3, .int .u32 cn] 28)).alloc (.cells #[.int .i64 0, .int .u32 0, .int .u32 0, .int .u32 0, .int .u32 0] 31)).heap[w.heap.size]? = some (.cells #[.int .i64 k, .int .i64 i, .int .u32 c0, .int .u32 c1, .int .u32 c2, .int .u32 c3, .int .u32 cn] 28) from heap_alloc' (heap_alloc_new w _))
  have HRB := Lib.hid (show ((w.alloc (.cells #[.int .i64 k, .int .i64 i, .int .u32 c0, .int .u32 c1, .int .u32 c2, .int .u32 c3, .int .u32 cn] 28)).alloc (.cells #[.int .i64 0, .int .u32 0, .int .u32 0, .int .u32 0, .int .u32 0] 31)).heap[w.heap.size + 1]? = some (.cells #[.int .i64 0, .int .u32 0, .int .u32 0, .int .u32 0, .int .u32 0] 31) from heap_alloc_at _ (by simp))
  have bi0 : ¬ ((i : Int) < 0) := by omega
  have bi1 : (i : Int) < (rs.length : Int) := by omega
  have bi2 : (0 : Int) ≤ (i : Int) := by omega
  have bi3 : ¬ ((rs.length : Int) ≤ (i : Int)) := by omega
  rw [hr] at HRT
  clear hr
  clear h hn hrw hk hx
  unfold caV
  unfold obA at HRT
  go_enter Try.func11, Try.ntmps11
  (
      go_wp2_with (first
        | (go_at_call 49; (with_reducible refine (HPL.out _).mono ?_); rintro e w9 ⟨rfl, rfl⟩)
        | (go_at_call 50; (with_reducible refine (HCP.out _ (by repeat (first | (with_reducible exact Upd.refl _ _) | (with_reducible apply Upd.drew) | (with_reducible refine Upd.grE ?_ _) | (with_reducible refine Upd.alloc ?_ _)))).mono ?_); rintro e w1 ⟨g, gc, rs', ra, rc, rfl, hcp, hmp⟩; have HA := Lib.hid hcp; have HM := Lib.hid hmp; have t0 := hcp.cell 0 _ rfl; have t1 := hcp.cell 1 _ rfl; have t2 := hcp.cell 2 _ rfl; have t3 := hcp.cell 3 _ rfl; have t4 := hcp.cell 4 _ rfl; have t5 := hcp.cell 5 _ rfl; have t6 := hcp.cell 6 _ rfl; have t7 := hcp.cell 7 _ rfl; have t8 := hcp.cell 8 _ rfl; have t9 := hcp.cell 9 _ rfl; have t10 := hcp.cell 10 _ rfl; have t11 := hcp.cell 11 _ rfl; have t12 := hcp.cell 12 _ rfl; have t13 := hcp.cell 13 _ rfl; have t14 := hcp.cell 14 _ rfl; rw [Nat.add_zero] at t0; have hfr := hcp.free; have hgl := hcp.glt.2; have hgl2 := hcp.glt.1; simp only [World.size_alloc] at hgl2; have hgn1 : w.heap.size ≠ g := (by omega); have hgn2 : w.heap.size + 1 ≠ g := (by omega); have hcb := hcp.upd.keepb HCB.out (by simp); have hrb := hcp.upd.keepb HRB.out (by simp); obtain ⟨e0, e1, e2, e3, e4, e5, e6⟩ := cells7s hcb; obtain ⟨r0, r1, r2, r3, r4⟩ := cells5 hrb; have hrf := frozen_of_heap hrb; have HB1 := Lib.hid hcb; have HB2 := Lib.hid hrb; have hlb1 := heap_lt hcb; have hlb2 := heap_lt hrb; clear hcp hmp hcb hrb)
        | (go_at_call 45; (with_reducible refine (HRT.out _).mono ?_); rintro e w2 ⟨rfl, hu2⟩; obtain ⟨p2, rfl⟩ := hu2.grown; clear hu2)
        | (fail)))
  have HUA := Lib.hid ((upd2 w _ _).trans HA.out.upd)
  refine bodyPost_ret (v := .tuple #[.slice sa rs.length sc, .agg (resV (12, v0))]) (by simp [results, Try.f11, go_sem, resV, resA, v0, V4.one, size_setCell, hlb2, r0, r1, r2, r3, r4]) rfl ?_
  exact rdo_same HS.out (by repeat (first | (with_reducible exact Upd.refl _ _) | (with_reducible apply Upd.drew) | (with_reducible refine Upd.grE ?_ _) | (with_reducible refine Upd.alloc ?_ _) | (with_reducible refine Upd.setB ?_ (.inr (by simp))) | (with_reducible exact HUA.out)))

end
end Go.Proofs.Ytdbgnnkbcebpcaa
