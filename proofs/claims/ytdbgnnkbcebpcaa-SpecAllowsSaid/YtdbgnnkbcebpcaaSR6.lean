/- The document's spec: Do on rings (printed by gensr6.py). -/
import Derived.Test.YtdbgnnkbcebpcaaSR4
import Derived.Deep.RegionHeld3
set_option linter.unusedVariables false
set_option linter.unusedSimpArgs false
namespace Go.Proofs.Ytdbgnnkbcebpcaa
open Go.RowKit
theorem row_head {base : Nat} {w : World} {o : OBJ} {y : V4} {rr : List V4} {v : V4} {ra : Option Addr} {rc : Nat} (h : ROwn base w ⟨⟨o, y :: rr, v⟩, ra, rc⟩) : ∃ rb, ra = some ⟨rb, 0, none⟩ ∧ base ≤ rb ∧ rb < w.heap.size ∧ rr.length + 1 ≤ rc ∧ rc ≤ maxLen ∧ (∀ j u, y.cells[j]? = some u → w.cell? ⟨rb, j, none⟩ = some u) ∧ (∀ j u, (rr.flatMap V4.cells)[j]? = some u → w.cell? ⟨rb, 4 + j, none⟩ = some u) := by
  have h0 := h
  rcases h.2 with ⟨e, h1⟩ | ⟨g, cap, cur, e, hb, hh, h1, h2, h3, h4⟩
  · simp at h1
  · simp only [Value.slice.injEq] at e
    obtain ⟨rfl, -, rfl⟩ := e
    obtain ⟨a, c, e2, _, hc⟩ := own_shape h0
    simp only [Value.slice.injEq, true_and] at e2
    obtain ⟨rfl, rfl⟩ := e2
    obtain ⟨b, off, e3, _, hcc⟩ := hc (by simp)
    simp at e3
    obtain ⟨rfl, rfl⟩ := e3
    simp only [List.flatMap_cons, Nat.zero_add] at hcc
    refine ⟨g, rfl, hb, heap_lt hh, by simpa using h1, h2, fun j u hj => hcc j u (by rw [List.getElem?_append_left (List.getElem?_eq_some_iff.1 hj).1]; exact hj), fun j u hj => hcc (4 + j) u (by rw [List.getElem?_append_right (by rw [v4_len]; omega), v4_len, Nat.add_sub_cancel_left]; exact hj)⟩
theorem rdo_fin2 {w w0 w1 WG WF : World} {n i g cap : Nat} {rs' : List IL} {x : IT} {ra : Option Addr} {rc : Nat} {z : IL} {s : List IT} {r : Int × V4} {e : Ending} {xs : List Value} {S2 : List Nat} (HA : CPA w0 w1 n i g cap rs' x ra rc)
    (hown : WG.ownsRow w0.heap.size 114 15 (.slice (some ⟨g, 0, none⟩) n cap) n xs) (hxs : xs = (rs'.set i z).flatMap IL.cells) (hz : ItemR WF z.x z.ra z.rc) (hU : Upd [] w WF) (hS2 : g ∉ S2) (hu2 : Upd S2 WG WF) (ho : ∀ m (h : m < rs'.length), m ≠ i → ItemR WF rs'[m].x rs'[m].ra rs'[m].rc) (hm : rs'.map (·.x) = s)
    (he : e = .returned (.tuple #[.slice (some ⟨g, 0, none⟩) n cap, .agg (resV r)])) : Upd [] w WF ∧ SOut (s.set i z.x) r e WF := by
  have hown2 := own_upd hown hu2 (fun k hk hm => by
    simp [Value.ownBlock] at hk
    subst hk
    exact hS2 hm)
  rw [hxs] at hown2
  refine ⟨hU, some ⟨g, 0, none⟩, cap, _, ?_, so_final hown2 HA.len hz ho, ?_⟩
  · rw [he, List.length_set, ← hm, List.length_map, HA.len]
  · rw [List.map_set, hm]
theorem CPA.keep {w0 w1 WF : World} {n i g cap : Nat} {rs' : List IL} {x : IT} {ra : Option Addr} {rc b : Nat} (HA : CPA w0 w1 n i g cap rs' x ra rc) (hb : b < w0.heap.size) (hu : Upd [g, b] w1 WF) (m : Nat) (h : m < rs'.length) : ItemR WF rs'[m].x rs'[m].ra rs'[m].rc := by
  have hr := HA.rows _ (List.getElem_mem h)
  exact ROwn.item (base := w0.heap.size) (own_upd hr hu (fun k hk hm => by
    simp at hm
    rcases hm with rfl | rfl
    · exact rows_apart HA.own hr (by decide) _ hk rfl
    · have := own_base hr _ hk; omega))
theorem item_tail {w : World} {o : OBJ} {rr : List V4} {v : V4} {rb c : Nat} (hc : ∀ j u, (rr.flatMap V4.cells)[j]? = some u → w.cell? ⟨rb, 4 + j, none⟩ = some u) (hb : rb < w.heap.size) (hl : rr.length ≤ c) (hm : c ≤ maxLen) : ItemR w ⟨o, rr, v⟩ (some ⟨rb, 4, none⟩) c :=
  ⟨fun h0 => ⟨rb, 4, rfl, hb, fun i hi j u hj => by
    have hi' : i < rr.length := by simpa using hi
    have := hc _ _ (flat_get V4.cells 4 v4_len rr i hi' j u (by rw [List.getElem_map] at hj; exact hj))
    rwa [← Nat.add_assoc] at this⟩, hl, hm, (fun h => by cases h), fun b h => by simp at h; subst h; exact hb⟩
theorem item_none {w : World} {o : OBJ} {rr : List V4} {v : V4} {rb : Nat} (h : rr = []) (hb : rb < w.heap.size) : ItemR w ⟨o, rr, v⟩ (some ⟨rb, 0, none⟩) 0 := by
  subst h
  exact ⟨fun h0 => by simp at h0, Nat.le_refl _, by simp [maxLen], (fun h => by cases h), fun b h => by simp at h; subst h; exact hb⟩
section
variable {w : World} {sa : Option Addr} {rs : List IL}
set_option maxRecDepth 100000 in
set_option maxHeartbeats 8000000 in
theorem rdo_recv (sc i : Nat) (k c0 c1 c2 c3 cn k1 cap wd rt f t i0 i1 i2 i3 z0 z1 z2 z3 : Int) (y0 y1 y2 y3 : Int) (rr : List V4) (h : SRel w sa rs) (hn : rs.length ≤ 1000) (hrw : ∀ r ∈ rs, r.x.row.length ≤ 64) (hi : i < rs.length) (hk : plainP k = 2)
    (hx : rs[i].x = ⟨⟨k1, cap, wd, rt, f, t, i0, i1, i2, i3⟩, (⟨y0, y1, y2, y3⟩ :: rr), ⟨z0, z1, z2, z3⟩⟩) (hk1 : k1 = 1) (hr : rightB k1 cap wd rt = true)  : Calls Try.prog 11 #[.slice sa rs.length sc, .agg (caV k i c0 c1 c2 c3 cn)] w fun e w' => Upd [] w w' ∧ SOut ((rs.map (·.x)).set i (⟨⟨k1, cap, wd, rt, f, t, i0, i1, i2, i3⟩, rr, ⟨z0, z1, z2, z3⟩⟩)) (0, ⟨y0, y1, y2, y3⟩) e w' := by
  have HCP := Lib.hid (fun (w1 : World) (hu : Upd [] w w1) => by have h1 := rcopy_at sc i (h.upd hu) hn hrw hi; rw [hx] at h1; exact h1)
  have HS := Lib.hid h
  have HPL := Lib.hid (fun (w : World) => by have h1 := rplain_c w k; rw [hk] at h1; exact h1)
  have HRT := Lib.hid fun (w : World) => rright_any cap wd rt f t i0 i1 i2 i3 w k1
  have HRL := Lib.hid (show ((⟨y0, y1, y2, y3⟩ :: rr)).length ≤ 64 by have h1 := hrw rs[i] (List.getElem_mem hi); rw [hx] at h1; exact h1)
  have HI := Lib.hid hi
  have HCB := Lib.hid (show ((w.alloc (.cells #[.int .i64 k, .int .i64 i, .int .u32 c0, .int .u32 c1, .int .u32 c2, .int .u32 c3, .int .u32 cn] 28)).alloc (.cells #[.int .i64 0, .int .u32 0, .int .u32 0, .int .u32 0, .int .u32 0] 31)).heap[w.heap.size]? = some (.cells #[.int .i64 k, .int .i64 i, .int .u32 c0, .int .u32 c1, .int .u32 c2, .int .u32 c3, .int .u32 cn] 28) from heap_alloc' (heap_alloc_new w _))
  have HRB := Lib.hid (show ((w.alloc (.cells #[.int .i64 k, .int .i64 i, .int .u32 c0, .int .u32 c1, .int .u32 c2, .int .u32 c3, .int .u32 cn] 28)).alloc (.cells #[.int .i64 0, .int .u32 0, .int .u32 0, .int .u32 0, .int .u32 0] 31)).heap[w.heap.size + 1]? = some (.cells #[.int .i64 0, .int .u32 0, .int .u32 0, .int .u32 0, .int .u32 0] 31) from heap_alloc_at _ (by simp))
  have bi0 : ¬ ((i : Int) < 0) := by omega
  have bi1 : (i : Int) < (rs.length : Int) := by omega
  have bi2 : (0 : Int) ≤ (i : Int) := by omega
  have bi3 : ¬ ((rs.length : Int) ≤ (i : Int)) := by omega
  rw [hr] at HRT
  have q1 : (k1 == 1) = true := by simp [hk1]
  clear hr hk1
  clear h hn hrw hk hx
  unfold caV
  unfold obA at HRT
  go_enter Try.func11, Try.ntmps11
  go_wp2_with (go_at_call 49; (with_reducible refine (HPL.out _).mono ?_); rintro e w9 ⟨rfl, rfl⟩)
  (with_reducible refine (HCP.out _ (by repeat (first | (with_reducible exact Upd.refl _ _) | (with_reducible apply Upd.drew) | (with_reducible refine Upd.grE ?_ _) | (with_reducible refine Upd.alloc ?_ _)))).mono ?_)
  rintro e w1 ⟨g, gc, rs', ra, rc, rfl, hcp, hmp⟩
  have HA := Lib.hid hcp
  have HM := Lib.hid hmp
  have t0 := hcp.cell 0 _ rfl
  have t1 := hcp.cell 1 _ rfl
  have t2 := hcp.cell 2 _ rfl
  have t3 := hcp.cell 3 _ rfl
  have t4 := hcp.cell 4 _ rfl
  have t5 := hcp.cell 5 _ rfl
  have t6 := hcp.cell 6 _ rfl
  have t7 := hcp.cell 7 _ rfl
  have t8 := hcp.cell 8 _ rfl
  have t9 := hcp.cell 9 _ rfl
  have t10 := hcp.cell 10 _ rfl
  have t11 := hcp.cell 11 _ rfl
  have t12 := hcp.cell 12 _ rfl
  have t13 := hcp.cell 13 _ rfl
  have t14 := hcp.cell 14 _ rfl
  rw [Nat.add_zero] at t0
  simp only at t10
  have hfr := hcp.free
  have hgl := hcp.glt.2
  have hgl2 := hcp.glt.1
  simp only [World.size_alloc] at hgl2
  have hgn1 : w.heap.size ≠ g := by omega
  have hgn2 : w.heap.size + 1 ≠ g := by omega
  have hcb := hcp.upd.keepb HCB.out (by simp)
  have hrb := hcp.upd.keepb HRB.out (by simp)
  obtain ⟨e0, e1, e2, e3, e4, e5, e6⟩ := cells7s hcb
  obtain ⟨r0, r1, r2, r3, r4⟩ := cells5 hrb
  have hrf := frozen_of_heap hrb
  have HB1 := Lib.hid hcb
  have HB2 := Lib.hid hrb
  have hlb1 := heap_lt hcb
  have hlb2 := heap_lt hrb
  have hrow := hcp.row
  obtain ⟨rb, rfl, hrb1, hrb2, hrc1, hrc2, hy, hrr⟩ := row_head hrow
  have hrbg : rb ≠ g := fun e => rows_apart hcp.own hrow (by decide) rb rfl (by rw [e]; rfl)
  have u0 := hy 0 _ rfl
  have u1 := hy 1 _ rfl
  have u2 := hy 2 _ rfl
  have u3 := hy 3 _ rfl
  simp only at u0 u1 u2 u3
  have HRR := Lib.hid hrr
  have HRC := Lib.hid hrc2
  have HRC1 := Lib.hid hrc1
  simp only [List.length_cons] at t10
  have d1 : (1 : Int) ≤ ((rr.length + 1 : Nat) : Int) := by omega
  have d2 : ((rr.length + 1 : Nat) : Int) ≤ (rc : Int) := by omega
  have d3 : ((rr.length + 1 : Nat) : Int) ≠ 0 := by omega
  have d4 : (((rr.length + 1 : Nat) : Int) == 0) = false := by simp; omega
  have hrl : rb < w1.heap.size := hrb2
  simp only [World.size_alloc] at hrb1
  have n1 : w.heap.size + 1 ≠ rb := by omega
  clear hy hrr hrow
  clear hcp hmp hcb hrb
  go_wp2_with (go_at_call 45; (with_reducible refine (HRT.out _).mono ?_); rintro e w2 ⟨rfl, hu2⟩; obtain ⟨p2, rfl⟩ := hu2.grown; clear hu2)
  all_goals
    go_region
    go_wp2
  all_goals
    refine bodyPost_ret (v := .tuple #[.slice (some ⟨g, 0, none⟩) rs.length gc, .agg (resV (0, ⟨y0, y1, y2, y3⟩))]) (by simp [results, Try.f11, go_sem, resV, resA, v0, V4.one, size_setCell, hlb2, r0, r1, r2, r3, r4, hrf]) rfl ?_
  all_goals
    have HUA := Lib.hid ((upd2 w (.cells #[.int .i64 k, .int .i64 i, .int .u32 c0, .int .u32 c1, .int .u32 c2, .int .u32 c3, .int .u32 cn] 28) (.cells #[.int .i64 0, .int .u32 0, .int .u32 0, .int .u32 0, .int .u32 0] 31)).trans HA.out.upd)
    have hfl : (rs'.flatMap IL.cells).length = rs.length * 15 := by rw [flatIL_len, HA.out.len]
    obtain ⟨hil, hie⟩ := HA.out.at_
  case inl =>
    have hz0 : rr = [] := List.eq_nil_of_length_eq_zero (by have := HRC1.out; omega)
    exact rdo_fin2 (z := ⟨⟨⟨k1, cap, wd, rt, f, t, i0, i1, i2, i3⟩, rr, ⟨z0, z1, z2, z3⟩⟩, some ⟨rb, 0, none⟩, 0⟩) (S2 := [w.heap.size + 1]) HA.out (own_setCell HA.out.own (p := i * 15 + 10) (by omega) (.slice (some ⟨rb, 0, none⟩) rr.length 0)) (flat_set rs' i 10 _ (.slice (some ⟨rb, 0, none⟩) rr.length 0) hil (by omega) (by rw [hie]; rfl)).symm (item_none hz0 (Nat.lt_of_lt_of_le hrl (Upd.size (S := [g, w.heap.size + 1]) (by repeat (first | (with_reducible exact Upd.refl _ _) | (with_reducible apply Upd.drew) | (with_reducible refine Upd.grE ?_ _) | (with_reducible refine Upd.alloc ?_ _) | (with_reducible refine Upd.setB ?_ (by simp))))))) (by repeat (first | (with_reducible exact Upd.refl _ _) | (with_reducible apply Upd.drew) | (with_reducible refine Upd.grE ?_ _) | (with_reducible refine Upd.alloc ?_ _) | (with_reducible refine Upd.setB ?_ (.inr (by first | (simp; done) | omega))) | (with_reducible exact HUA.out))) (by simp; omega) (by repeat (first | (with_reducible exact Upd.refl _ _) | (with_reducible apply Upd.drew) | (with_reducible refine Upd.grE ?_ _) | (with_reducible refine Upd.alloc ?_ _) | (with_reducible refine Upd.setB ?_ (by simp)))) (fun m h _ => HA.out.keep (b := w.heap.size + 1) (by simp) (by repeat (first | (with_reducible exact Upd.refl _ _) | (with_reducible apply Upd.drew) | (with_reducible refine Upd.grE ?_ _) | (with_reducible refine Upd.alloc ?_ _) | (with_reducible refine Upd.setB ?_ (by simp)))) m h) HM.out rfl
  case inr =>
    skip
    refine rdo_fin2 (z := ⟨⟨⟨k1, cap, wd, rt, f, t, i0, i1, i2, i3⟩, rr, ⟨z0, z1, z2, z3⟩⟩, some ⟨rb, 4, none⟩, rc - 1⟩) (S2 := [w.heap.size + 1]) HA.out (own_setCell HA.out.own (p := i * 15 + 10) (by omega) (.slice (some ⟨rb, 4, none⟩) rr.length (rc - 1))) (flat_set rs' i 10 _ (.slice (some ⟨rb, 4, none⟩) rr.length (rc - 1)) hil (by omega) (by rw [hie]; rfl)).symm (item_tail (fun j u hj => (Upd.cell (S := [g, w.heap.size + 1]) (by repeat (first | (with_reducible exact Upd.refl _ _) | (with_reducible apply Upd.drew) | (with_reducible refine Upd.grE ?_ _) | (with_reducible refine Upd.alloc ?_ _) | (with_reducible refine Upd.setB ?_ (by simp)))) (p := ⟨rb, 4 + j, none⟩) hrl (by simp; omega)).trans (HRR.out j u hj)) (Nat.lt_of_lt_of_le hrl (Upd.size (S := [g, w.heap.size + 1]) (by repeat (first | (with_reducible exact Upd.refl _ _) | (with_reducible apply Upd.drew) | (with_reducible refine Upd.grE ?_ _) | (with_reducible refine Upd.alloc ?_ _) | (with_reducible refine Upd.setB ?_ (by simp)))))) (show rr.length ≤ rc - 1 by have := HRC1.out; omega) (show rc - 1 ≤ maxLen by have := HRC.out; omega)) (by repeat (first | (with_reducible exact Upd.refl _ _) | (with_reducible apply Upd.drew) | (with_reducible refine Upd.grE ?_ _) | (with_reducible refine Upd.alloc ?_ _) | (with_reducible refine Upd.setB ?_ (.inr (by first | (simp; done) | omega))) | (with_reducible exact HUA.out))) (by simp; omega) (by repeat (first | (with_reducible exact Upd.refl _ _) | (with_reducible apply Upd.drew) | (with_reducible refine Upd.grE ?_ _) | (with_reducible refine Upd.alloc ?_ _) | (with_reducible refine Upd.setB ?_ (by simp)))) (fun m h _ => HA.out.keep (b := w.heap.size + 1) (by simp) (by repeat (first | (with_reducible exact Upd.refl _ _) | (with_reducible apply Upd.drew) | (with_reducible refine Upd.grE ?_ _) | (with_reducible refine Upd.alloc ?_ _) | (with_reducible refine Upd.setB ?_ (by simp)))) m h) HM.out rfl
end
end Go.Proofs.Ytdbgnnkbcebpcaa
