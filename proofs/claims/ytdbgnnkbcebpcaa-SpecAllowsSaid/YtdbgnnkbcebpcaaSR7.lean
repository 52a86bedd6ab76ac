/- The document's spec: Do: Send (printed by gensr6.py). -/
import Derived.Test.YtdbgnnkbcebpcaaSR6
import Derived.Deep.RegionHeld3
set_option linter.unusedVariables false
set_option linter.unusedSimpArgs false
namespace Go.Proofs.Ytdbgnnkbcebpcaa
open Go.RowKit
theorem rdo_fin3 {w w0 w1 w4 WF : World} {n i g cap : Nat} {rs' : List IL} {o : OBJ} {row : List V4} {v xx : V4} {ra p4 : Option Addr} {rc c4 : Nat} {s : List IT} {r : Int × V4} {e : Ending} (HA : CPA w0 w1 n i g cap rs' ⟨o, row, v⟩ ra rc) (hw : Upd [] w w0) (hs : w0.heap.size = w.heap.size + 1 + 1)
    (h4 : Upd (Value.slice ra row.length rc).ownBlock.toList w1 w4) (hown4 : w4.ownsRow (w.heap.size + 1 + 1) 26 4 (.slice p4 (row.length + 1) c4) (row.length + 1) (row.flatMap V4.cells ++ xx.cells))
    (hu : Upd [g, w.heap.size + 1] w4 WF) (hu2 : Upd [w.heap.size + 1] (w4.setCell ⟨g, i * 15 + 10, none⟩ (.slice p4 (row.length + 1) c4)) WF) (hm : rs'.map (·.x) = s)
    (he : e = .returned (.tuple #[.slice (some ⟨g, 0, none⟩) n cap, .agg (resV r)])) : Upd [] w WF ∧ SOut (s.set i ⟨o, row ++ [xx], v⟩) r e WF := by
  have hgl := HA.glt
  have hbase : ∀ k, k ∈ (Value.slice ra row.length rc).ownBlock.toList → w.heap.size + 1 + 1 ≤ k := fun k hk => by
    have := own_base HA.row k (by simpa using hk)
    omega
  have hng : g ∉ (Value.slice ra row.length rc).ownBlock.toList := fun hk => rows_apart HA.own HA.row (by decide) g (by simpa using hk) rfl
  have hU : Upd [] w WF := ((hw.trans HA.upd).then h4 (fun k hk => .inr (by have := hbase k hk; omega))).then hu (fun k hk => .inr (by simp at hk; omega))
  obtain ⟨hil, hie⟩ := HA.at_
  have hfl : (rs'.flatMap IL.cells).length = n * 15 := by rw [flatIL_len, HA.len]
  have hlt := HA.lt
  have hownG : w4.ownsRow w0.heap.size 114 15 (.slice (some ⟨g, 0, none⟩) n cap) n (rs'.flatMap IL.cells) := own_upd HA.own h4 (fun k hk hm => by
    simp [Value.ownBlock] at hk
    subst hk
    exact hng hm)
  have hown2 := own_upd (own_setCell hownG (p := i * 15 + 10) (by omega) (.slice p4 (row.length + 1) c4)) hu2 (fun k hk hm => by
    simp [Value.ownBlock] at hk hm
    omega)
  have hz : ROwn (w.heap.size + 1 + 1) w4 ⟨⟨o, row ++ [xx], v⟩, p4, c4⟩ := by
    unfold ROwn
    simpa using hown4
  have hset := flat_set rs' i 10 ⟨⟨o, row ++ [xx], v⟩, p4, c4⟩ (.slice p4 (row.length + 1) c4) hil (by omega) (by rw [hie]; obtain ⟨_, _, _, _, _, _, _, _, _, _⟩ := o; obtain ⟨_, _, _, _⟩ := v; simp [IL.cells, IT.A, itA])
  rw [← hset] at hown2
  refine ⟨hU, some ⟨g, 0, none⟩, cap, _, ?_, so_final hown2 HA.len ?_ (fun m h hne => ?_), ?_⟩
  · rw [he, List.length_set, ← hm, List.length_map, HA.len]
  · refine ROwn.item (base := w.heap.size + 1 + 1) (own_upd hz hu (fun k hk hm => ?_))
    simp at hm
    rcases hm with rfl | rfl
    · exact rows_apart hownG hz (by decide) _ hk rfl
    · have := own_base hz _ hk; omega
  · have hr := HA.rows _ (List.getElem_mem h)
    have hr4 : ROwn w0.heap.size w4 rs'[m] := own_upd hr h4 (fun k hk hm => by
      have hk1 : (Value.slice ra row.length rc).ownBlock = some k := by simpa using hm
      have hb1 : (ra.map (·.block)) = some k := by
        cases ra with
        | none => cases hk1
        | some a => simpa [Value.ownBlock] using hk1
      have hb2 : (rs'[m].ra.map (·.block)) = some k := by
        cases hra : rs'[m].ra with
        | none => rw [hra] at hk; cases hk
        | some a => rw [hra] at hk; simpa [Value.ownBlock] using hk
      have hd := List.pairwise_iff_getElem.1 HA.dis
      rcases Nat.lt_or_gt_of_ne hne with hlt | hlt
      · exact hd m i h hil hlt k hb2 (by rw [hie]; exact hb1)
      · exact hd i m hil h hlt k (by rw [hie]; exact hb1) hb2)
    exact ROwn.item (base := w0.heap.size) (own_upd hr4 hu (fun k hk hm => by
      simp at hm
      rcases hm with rfl | rfl
      · exact rows_apart hownG hr4 (by decide) _ hk rfl
      · have := own_base hr4 _ hk; omega))
  · rw [List.map_set, hm]
section
variable {w : World} {sa : Option Addr} {rs : List IL}
set_option maxRecDepth 100000 in
set_option maxHeartbeats 8000000 in
theorem rdo_send (sc i : Nat) (k c0 c1 c2 c3 cn k1 cap wd rt f t i0 i1 i2 i3 z0 z1 z2 z3 : Int) (row : List V4) (h : SRel w sa rs) (hn : rs.length ≤ 1000) (hrw : ∀ r ∈ rs, r.x.row.length ≤ 64) (hi : i < rs.length) (hk : plainP k = 1)
    (hx : rs[i].x = ⟨⟨k1, cap, wd, rt, f, t, i0, i1, i2, i3⟩, row, ⟨z0, z1, z2, z3⟩⟩) (hk1 : k1 = 1) (hr : rightB k1 cap wd rt = true) (hw : 1 ≤ wd ∧ wd ≤ 4) (hf : ¬ cap ≤ row.length) : Calls Try.prog 11 #[.slice sa rs.length sc, .agg (caV k i c0 c1 c2 c3 cn)] w fun e w' => Upd [] w w' ∧ SOut ((rs.map (·.x)).set i (⟨⟨k1, cap, wd, rt, f, t, i0, i1, i2, i3⟩, (row ++ [⟨clip1 (decide (0 < wd)) c0, clip1 (decide (1 < wd)) c1, clip1 (decide (2 < wd)) c2, clip1 (decide (3 < wd)) c3⟩]), ⟨z0, z1, z2, z3⟩⟩)) (0, v0) e w' := by
  have HCP := Lib.hid (fun (w1 : World) (hu : Upd [] w w1) => by have h1 := rcopy_at sc i (h.upd hu) hn hrw hi; rw [hx] at h1; exact h1)
  have HS := Lib.hid h
  have HPL := Lib.hid (fun (w : World) => by have h1 := rplain_c w k; rw [hk] at h1; exact h1)
  have HRT := Lib.hid fun (w : World) => rright_any cap wd rt f t i0 i1 i2 i3 w k1
  have HRL := Lib.hid (show (row).length ≤ 64 by have h1 := hrw rs[i] (List.getElem_mem hi); rw [hx] at h1; exact h1)
  have HI := Lib.hid hi
  have HCB := Lib.hid (show ((w.alloc (.cells #[.int .i64 k, .int .i64 i, .int .u32 c0, .int .u32 c1, .int .u32 c2, .int .u32 c3, .int .u32 cn] 28)).alloc (.cells #[.int .i64 0, .int .u32 0, .int .u32 0, .int .u32 0, .int .u32 0] 31)).heap[w.heap.size]? = some (.cells #[.int .i64 k, .int .i64 i, .int .u32 c0, .int .u32 c1, .int .u32 c2, .int .u32 c3, .int .u32 cn] 28) from heap_alloc' (heap_alloc_new w _))
  have HRB := Lib.hid (show ((w.alloc (.cells #[.int .i64 k, .int .i64 i, .int .u32 c0, .int .u32 c1, .int .u32 c2, .int .u32 c3, .int .u32 cn] 28)).alloc (.cells #[.int .i64 0, .int .u32 0, .int .u32 0, .int .u32 0, .int .u32 0] 31)).heap[w.heap.size + 1]? = some (.cells #[.int .i64 0, .int .u32 0, .int .u32 0, .int .u32 0, .int .u32 0] 31) from heap_alloc_at _ (by simp))
  have bi0 : ¬ ((i : Int) < 0) := by omega
  have bi1 : (i : Int) < (rs.length : Int) := by omega
  have bi2 : (0 : Int) ≤ (i : Int) := by omega
  have bi3 : ¬ ((rs.length : Int) ≤ (i : Int)) := by omega
  rw [hr] at HRT
  have q1 : (k1 == 1) = true := by simp [hk1]
  have HCL := Lib.hid (fun (w : World) => rclip_c c0 c1 c2 c3 w wd hw.1 hw.2)
  unfold clipA v4A at HCL
  obtain ⟨iv, hiv, hy0, hy1, hy2⟩ := info_parts info_val
  generalize hx0 : clip1 (decide (0 < wd)) c0 = x0 at HCL ⊢
  generalize hx1 : clip1 (decide (1 < wd)) c1 = x1 at HCL ⊢
  generalize hx2 : clip1 (decide (2 < wd)) c2 = x2 at HCL ⊢
  generalize hx3 : clip1 (decide (3 < wd)) c3 = x3 at HCL ⊢
  clear hr hk1 hw hx0 hx1 hx2 hx3
  clear h hn hrw hk hx
  unfold caV
  unfold obA at HRT
  go_enter Try.func11, Try.ntmps11
  go_wp2_with (go_at_call 49; (with_reducible refine (HPL.out _).mono ?_); rintro e w9 ⟨rfl, rfl⟩)
  (with_reducible refine (HCP.out _ (by repeat (first | (with_reducible exact Upd.refl _ _) | (with_reducible apply Upd.drew) | (with_reducible refine Upd.grE ?_ _) | (with_reducible refine Upd.alloc ?_ _)))).mono ?_)
  rintro e w1 ⟨g, gc, rs', ra, rc, rfl, hcp, hmp⟩
  have HA := Lib.hid hcp
  have HM := Lib.hid hmp
  have t0 := hcp.cell 0 _ rfl
  have t1 := hcp.cell 1 _ rfl
  have t2 := hcp.cell 2 _ rfl
  have t3 := hcp.cell 3 _ rfl
  have t4 := hcp.cell 4 _ rfl
  have t5 := hcp.cell 5 _ rfl
  have t6 := hcp.cell 6 _ rfl
  have t7 := hcp.cell 7 _ rfl
  have t8 := hcp.cell 8 _ rfl
  have t9 := hcp.cell 9 _ rfl
  have t10 := hcp.cell 10 _ rfl
  have t11 := hcp.cell 11 _ rfl
  have t12 := hcp.cell 12 _ rfl
  have t13 := hcp.cell 13 _ rfl
  have t14 := hcp.cell 14 _ rfl
  rw [Nat.add_zero] at t0
  simp only at t10
  have hfr := hcp.free
  have hgl := hcp.glt.2
  have hgl2 := hcp.glt.1
  simp only [World.size_alloc] at hgl2
  have hgn1 : w.heap.size ≠ g := by omega
  have hgn2 : w.heap.size + 1 ≠ g := by omega
  have hcb := hcp.upd.keepb HCB.out (by simp)
  have hrb := hcp.upd.keepb HRB.out (by simp)
  obtain ⟨e0, e1, e2, e3, e4, e5, e6⟩ := cells7s hcb
  obtain ⟨r0, r1, r2, r3, r4⟩ := cells5 hrb
  have hrf := frozen_of_heap hrb
  have HB1 := Lib.hid hcb
  have HB2 := Lib.hid hrb
  have hlb1 := heap_lt hcb
  have hlb2 := heap_lt hrb
  have HROW := Lib.hid (show w1.ownsRow (w.heap.size + 1 + 1) 26 4 (.slice ra row.length rc) row.length (row.flatMap V4.cells) from by have h1 := hcp.row; unfold ROwn at h1; simpa using h1)
  have HW1 := Lib.hid (show w.heap.size + 1 + 1 ≤ w1.heap.size by have := hcp.upd.size; simpa using this)
  have HNB := fun k (hk : k ∈ (Value.slice ra row.length rc).ownBlock.toList) => (own_base hcp.row k (by simpa using hk) : _ ≤ k)
  simp only [World.size_alloc] at HNB
  have HN0 := Lib.hid (show w.heap.size ∉ (Value.slice ra row.length rc).ownBlock.toList from fun hk => by have := HNB _ hk; omega)
  have HN1 := Lib.hid (show w.heap.size + 1 ∉ (Value.slice ra row.length rc).ownBlock.toList from fun hk => by have := HNB _ hk; omega)
  have HNG := Lib.hid (show g ∉ (Value.slice ra row.length rc).ownBlock.toList from fun hk => rows_apart hcp.own hcp.row (by decide) g (by simpa using hk) rfl)
  clear HNB
  clear hcp hmp hcb hrb
  go_wp2_with (go_at_call 45; (with_reducible refine (HRT.out _).mono ?_); rintro e w2 ⟨rfl, hu2⟩; obtain ⟨p2, rfl⟩ := hu2.grown; clear hu2)
  go_region
  go_wp2
  refine wp_region_held_drew (S := fun w' => w'.cell? ⟨w.heap.size, 2, none⟩ = some (.int .u32 c0) ∧ w'.cell? ⟨w.heap.size, 3, none⟩ = some (.int .u32 c1) ∧ w'.cell? ⟨w.heap.size, 4, none⟩ = some (.int .u32 c2) ∧ w'.cell? ⟨w.heap.size, 5, none⟩ = some (.int .u32 c3) ∧ w'.cell? ⟨g, i * 15 + 2, none⟩ = some (.int .i64 wd)) (by kernel_rfl) ?_ (fun hHeld => ?_)
  · exact (by (try dsimp only); (repeat' apply And.intro) <;> (repeat (first | (with_reducible assumption) | (with_reducible apply cell_grE) | (with_reducible apply cell_allocE) | (with_reducible apply cell_drewE) | (with_reducible refine cell_setE (by omega) ?_) | (with_reducible refine cell_setO (by omega) ?_))))
  refine wpAnyH_take (i := 0) (oi := { dst := some 85, op := Op.move (Operand.tmp 8), type := 120, pos := "ref.go:78", after := #[], guard := none }) (v := .pointer (some ⟨g, i * 15, none⟩)) rfl (by kernel_rfl) (by kernel_rfl) (by kernel_rfl) (fun _ _ _ h => h) (Or.inl ⟨by rfl, ?_⟩) hHeld ?_
  · intro w1 hSw
    (try dsimp only at hSw)
    go_simp
  (try simp only [Act.put, List.setIfInBounds_toArray, List.set_cons_zero, List.set_cons_succ])
  refine wpAnyH_take (i := 1) (oi := { dst := some 86, op := Op.move (Operand.tmp 8), type := 120, pos := "ref.go:78", after := #[], guard := none }) (v := .pointer (some ⟨g, i * 15, none⟩)) rfl (by kernel_rfl) (by kernel_rfl) (by kernel_rfl) (fun _ _ _ h => h) (Or.inl ⟨by rfl, ?_⟩) hHeld ?_
  · intro w1 hSw
    (try dsimp only at hSw)
    go_simp
  (try simp only [Act.put, List.setIfInBounds_toArray, List.set_cons_zero, List.set_cons_succ])
  refine wpAnyH_take (i := 2) (oi := { dst := some 87, op := Op.nilCheck (Operand.tmp 86), type := 0, pos := "ref.go:78", after := #[{ on := 1, ground := Ground.data }], guard := none }) (v := .pointer (some ⟨g, i * 15, none⟩)) rfl (by kernel_rfl) (by kernel_rfl) (by kernel_rfl) (fun _ _ _ h => h) (Or.inl ⟨by rfl, ?_⟩) hHeld ?_
  · intro w1 hSw
    (try dsimp only at hSw)
    go_simp
  (try simp only [Act.put, List.setIfInBounds_toArray, List.set_cons_zero, List.set_cons_succ])
  refine wpAnyH_take (i := 3) (oi := { dst := some 88, op := Op.fieldAddr 114 (Operand.tmp 87) 1, type := 0, pos := "ref.go:78", after := #[{ on := 2, ground := Ground.data }], guard := none }) (v := .pointer (some ⟨g, i * 15 + 10, none⟩)) rfl (by kernel_rfl) (by kernel_rfl) (by kernel_rfl) (fun _ _ _ h => h) (Or.inl ⟨by rfl, ?_⟩) hHeld ?_
  · intro w1 hSw
    (try dsimp only at hSw)
    go_simp
  (try simp only [Act.put, List.setIfInBounds_toArray, List.set_cons_zero, List.set_cons_succ])
  refine wpAnyH_take (i := 5) (oi := { dst := some 90, op := Op.fieldAddr 28 (Operand.tmp 3) 2, type := 0, pos := "ref.go:78", after := #[], guard := none }) (v := .pointer (some ⟨w.heap.size, 2, none⟩)) rfl (by kernel_rfl) (by kernel_rfl) (by kernel_rfl) (fun _ _ _ h => h) (Or.inl ⟨by rfl, ?_⟩) hHeld ?_
  · intro w1 hSw
    (try dsimp only at hSw)
    go_simp
  (try simp only [Act.put, List.setIfInBounds_toArray, List.set_cons_zero, List.set_cons_succ])
  refine wpAnyH_take (i := 6) (oi := { dst := some 91, op := Op.load 26 (Operand.tmp 90), type := 26, pos := "ref.go:78", after := #[{ on := 5, ground := Ground.data }], guard := none }) (v := .agg #[.int .u32 c0, .int .u32 c1, .int .u32 c2, .int .u32 c3]) rfl (by kernel_rfl) (by kernel_rfl) (by kernel_rfl) (fun _ _ _ h => h) (Or.inl ⟨by rfl, ?_⟩) hHeld ?_
  · intro w1 hSw
    (try dsimp only at hSw)
    go_simp
  (try simp only [Act.put, List.setIfInBounds_toArray, List.set_cons_zero, List.set_cons_succ])
  refine wpAnyH_take (i := 7) (oi := { dst := some 92, op := Op.move (Operand.tmp 8), type := 120, pos := "ref.go:78", after := #[], guard := none }) (v := .pointer (some ⟨g, i * 15, none⟩)) rfl (by kernel_rfl) (by kernel_rfl) (by kernel_rfl) (fun _ _ _ h => h) (Or.inl ⟨by rfl, ?_⟩) hHeld ?_
  · intro w1 hSw
    (try dsimp only at hSw)
    go_simp
  (try simp only [Act.put, List.setIfInBounds_toArray, List.set_cons_zero, List.set_cons_succ])
  refine wpAnyH_take (i := 8) (oi := { dst := some 93, op := Op.nilCheck (Operand.tmp 92), type := 0, pos := "ref.go:78", after := #[{ on := 7, ground := Ground.data }], guard := none }) (v := .pointer (some ⟨g, i * 15, none⟩)) rfl (by kernel_rfl) (by kernel_rfl) (by kernel_rfl) (fun _ _ _ h => h) (Or.inl ⟨by rfl, ?_⟩) hHeld ?_
  · intro w1 hSw
    (try dsimp only at hSw)
    go_simp
  (try simp only [Act.put, List.setIfInBounds_toArray, List.set_cons_zero, List.set_cons_succ])
  refine wpAnyH_take (i := 9) (oi := { dst := some 94, op := Op.fieldAddr 114 (Operand.tmp 93) 0, type := 0, pos := "ref.go:78", after := #[{ on := 8, ground := Ground.data }], guard := none }) (v := .pointer (some ⟨g, i * 15, none⟩)) rfl (by kernel_rfl) (by kernel_rfl) (by kernel_rfl) (fun _ _ _ h => h) (Or.inl ⟨by rfl, ?_⟩) hHeld ?_
  · intro w1 hSw
    (try dsimp only at hSw)
    go_simp
  (try simp only [Act.put, List.setIfInBounds_toArray, List.set_cons_zero, List.set_cons_succ])
  refine wpAnyH_take (i := 10) (oi := { dst := some 95, op := Op.fieldAddr 109 (Operand.tmp 94) 2, type := 0, pos := "ref.go:78", after := #[{ on := 9, ground := Ground.data }], guard := none }) (v := .pointer (some ⟨g, i * 15 + 2, none⟩)) rfl (by kernel_rfl) (by kernel_rfl) (by kernel_rfl) (fun _ _ _ h => h) (Or.inl ⟨by rfl, ?_⟩) hHeld ?_
  · intro w1 hSw
    (try dsimp only at hSw)
    go_simp
  (try simp only [Act.put, List.setIfInBounds_toArray, List.set_cons_zero, List.set_cons_succ])
  refine wpAnyH_take (i := 11) (oi := { dst := some 96, op := Op.load 3 (Operand.tmp 95), type := 3, pos := "ref.go:78", after := #[{ on := 10, ground := Ground.data }], guard := none }) (v := .int .i64 wd) rfl (by kernel_rfl) (by kernel_rfl) (by kernel_rfl) (fun _ _ _ h => h) (Or.inl ⟨by rfl, ?_⟩) hHeld ?_
  · intro w1 hSw
    (try dsimp only at hSw)
    go_simp
  (try simp only [Act.put, List.setIfInBounds_toArray, List.set_cons_zero, List.set_cons_succ])
  refine wpAnyH_ready (rs := [4, 12]) (by kernel_rfl) (by simp) ?_
  refine AllReadyH.cons (o := { dst := some 89, op := Op.load 110 (Operand.tmp 88), type := 110, pos := "ref.go:78", after := #[{ on := 3, ground := Ground.data }], guard := none }) rfl (fun K hK => ?_) (AllReadyH.cons (o := { dst := some 97, op := Op.call { callee := Callee.value (Operand.func 46), args := #[Operand.tmp 91, Operand.tmp 96], argTypes := #[26, 3] }, type := 26, pos := "ref.go:78", after := #[{ on := 6, ground := Ground.data }, { on := 11, ground := Ground.data }], guard := none }) rfl (fun K hK => ?_) AllReadyH.nil)
  · go_simp
    refine hK.out _ _ (by (try dsimp only); (repeat' apply And.intro) <;> (repeat (first | (with_reducible assumption) | (with_reducible apply cell_grE) | (with_reducible apply cell_allocE) | (with_reducible apply cell_drewE) | (with_reducible refine cell_setE (by omega) ?_) | (with_reducible refine cell_setO (by omega) ?_)))) (fun hHeld => ?_)
    clear hK K
    (try simp only [Act.put, List.setIfInBounds_toArray, List.set_cons_zero, List.set_cons_succ])
    refine wpAnyH_ready (rs := [12]) (by kernel_rfl) (by simp) ?_
    refine AllReadyH.cons (o := { dst := some 97, op := Op.call { callee := Callee.value (Operand.func 46), args := #[Operand.tmp 91, Operand.tmp 96], argTypes := #[26, 3] }, type := 26, pos := "ref.go:78", after := #[{ on := 6, ground := Ground.data }, { on := 11, ground := Ground.data }], guard := none }) rfl (fun K hK => ?_) AllReadyH.nil
    go_simp
    (with_reducible refine (HCL.out _).mono ?_)
    rintro e w3 ⟨rfl, hu3⟩
    obtain ⟨p3, rfl⟩ := hu3.grown
    clear hu3
    refine hK.out _ _ (by (try dsimp only); (repeat' apply And.intro) <;> (repeat (first | (with_reducible assumption) | (with_reducible apply cell_grE) | (with_reducible apply cell_allocE) | (with_reducible apply cell_drewE) | (with_reducible refine cell_setE (by omega) ?_) | (with_reducible refine cell_setO (by omega) ?_)))) (fun hHeld => ?_)
    clear hK K
    (try simp only [Act.put, List.setIfInBounds_toArray, List.set_cons_zero, List.set_cons_succ])
    refine wpAnyH_ready (rs := [13]) (by kernel_rfl) (by simp) ?_
    refine AllReadyH.cons (o := { dst := some 98, op := Op.buildSlice 110 1 #[(0, Operand.tmp 97)], type := 110, pos := "ref.go:78", after := #[{ on := 12, ground := Ground.data }], guard := none }) rfl (fun K hK => ?_) AllReadyH.nil
    go_simp
    refine hK.out _ _ (by (try dsimp only); (repeat' apply And.intro) <;> (repeat (first | (with_reducible assumption) | (with_reducible apply cell_grE) | (with_reducible apply cell_allocE) | (with_reducible apply cell_drewE) | (with_reducible refine cell_setE (by omega) ?_) | (with_reducible refine cell_setO (by omega) ?_)))) (fun hHeld => ?_)
    clear hK K
    (try simp only [Act.put, List.setIfInBounds_toArray, List.set_cons_zero, List.set_cons_succ])
    refine wpAnyH_ready (rs := [14]) (by kernel_rfl) (by simp) ?_
    refine AllReadyH.cons (o := { dst := some 99, op := Op.call { callee := Callee.builtin Builtin.append, args := #[Operand.tmp 89, Operand.tmp 98], argTypes := #[110, 110] }, type := 110, pos := "ref.go:78", after := #[{ on := 4, ground := Ground.data }, { on := 13, ground := Ground.data }, { on := 12, ground := Ground.chain }], guard := none }) rfl (fun K hK => ?_) AllReadyH.nil
    refine step_append_reads rfl (.tmp 89) (.tmp 98) 110 rfl (w.heap.size + 1 + 1) 26 iv _ 4 16 Try.underlying110 hiv hy0 hy1 hy2 rfl (by decide) (.slice ra row.length rc) row.length (row.flatMap V4.cells) rfl (own_upd (S := []) HROW.out (by repeat (first | (with_reducible exact Upd.refl _ _) | (with_reducible apply Upd.drew) | (with_reducible refine Upd.grE ?_ _) | (with_reducible refine Upd.alloc ?_ _))) (by simp)) _ 1 1 [.int .u32 x0, .int .u32 x1, .int .u32 x2, .int .u32 x3] rfl rfl (fun _ => ⟨_, 0, rfl, list_srcR (heap_alloc_at _ (by first | rfl | (simp; done) | (simp; omega)))⟩) (fun h => by cases h) (fun u hu => by simp at hu; rcases hu with rfl | rfl | rfl | rfl <;> rfl) (by have := HRL.out; simp only [maxLen]; omega) (by have := HRL.out; omega) (by have := HW1.out; simp; omega) ?_
    intro p4 c4 w4 hp4 hown4 hgrow4
    have hU4 := ((show Upd (Value.slice ra row.length rc).ownBlock.toList w1 _ by repeat (first | (with_reducible exact Upd.refl _ _) | (with_reducible apply Upd.drew) | (with_reducible refine Upd.grE ?_ _) | (with_reducible refine Upd.alloc ?_ _)))).trans (upd_grown hgrow4)
    have HU4 := Lib.hid hU4
    have HOWN4 := Lib.hid hown4
    have c20 := (hU4.cell (p := ⟨w.heap.size, 2, none⟩) hlb1 HN0.out).trans e2
    have c21 := (hU4.cell (p := ⟨w.heap.size, 3, none⟩) hlb1 HN0.out).trans e3
    have c22 := (hU4.cell (p := ⟨w.heap.size, 4, none⟩) hlb1 HN0.out).trans e4
    have c23 := (hU4.cell (p := ⟨w.heap.size, 5, none⟩) hlb1 HN0.out).trans e5
    have s2 := (hU4.cell (p := ⟨g, i * 15 + 2, none⟩) hgl HNG.out).trans t2
    have s10 := (hU4.cell (p := ⟨g, i * 15 + 10, none⟩) hgl HNG.out).trans t10
    have hfr4 := fun k => (hU4.frozen (p := ⟨g, k, none⟩) hgl HNG.out).trans (hfr k)
    have hrb4 := hU4.keepb HB2.out HN1.out
    obtain ⟨u0, u1, u2, u3, u4⟩ := cells5 hrb4
    have hrf4 := frozen_of_heap hrb4
    have hlb4 := heap_lt hrb4
    have hlg4 := Nat.lt_of_lt_of_le hgl hU4.size
    clear hU4 hown4 hgrow4 hrb4 hp4
    refine hK.out _ _ (by (try dsimp only); (repeat' apply And.intro) <;> (repeat (first | (with_reducible assumption) | (with_reducible apply cell_grE) | (with_reducible apply cell_allocE) | (with_reducible apply cell_drewE) | (with_reducible refine cell_setE (by omega) ?_) | (with_reducible refine cell_setO (by omega) ?_)))) (fun hHeld => ?_)
    clear hK K
    (try simp only [Act.put, List.setIfInBounds_toArray, List.set_cons_zero, List.set_cons_succ])
    refine wpAnyH_take (i := 15) (oi := { dst := some 100, op := Op.nilCheck (Operand.tmp 85), type := 0, pos := "ref.go:78", after := #[{ on := 0, ground := Ground.data }, { on := 0, ground := Ground.phase }, { on := 1, ground := Ground.phase }, { on := 2, ground := Ground.phase }, { on := 3, ground := Ground.phase }, { on := 4, ground := Ground.phase }, { on := 5, ground := Ground.phase }, { on := 6, ground := Ground.phase }, { on := 7, ground := Ground.phase }, { on := 8, ground := Ground.phase }, { on := 9, ground := Ground.phase }, { on := 10, ground := Ground.phase }, { on := 11, ground := Ground.phase }, { on := 12, ground := Ground.phase }, { on := 13, ground := Ground.phase }, { on := 14, ground := Ground.phase }], guard := none }) (v := .pointer (some ⟨g, i * 15, none⟩)) rfl (by kernel_rfl) (by kernel_rfl) (by kernel_rfl) (fun _ _ _ h => h) (Or.inl ⟨by rfl, ?_⟩) hHeld ?_
    · intro w1 hSw
      (try dsimp only at hSw)
      go_simp
    (try simp only [Act.put, List.setIfInBounds_toArray, List.set_cons_zero, List.set_cons_succ])
    refine wpAnyH_take (i := 16) (oi := { dst := some 101, op := Op.fieldAddr 114 (Operand.tmp 100) 1, type := 0, pos := "ref.go:78", after := #[{ on := 15, ground := Ground.data }, { on := 0, ground := Ground.phase }, { on := 1, ground := Ground.phase }, { on := 2, ground := Ground.phase }, { on := 3, ground := Ground.phase }, { on := 4, ground := Ground.phase }, { on := 5, ground := Ground.phase }, { on := 6, ground := Ground.phase }, { on := 7, ground := Ground.phase }, { on := 8, ground := Ground.phase }, { on := 9, ground := Ground.phase }, { on := 10, ground := Ground.phase }, { on := 11, ground := Ground.phase }, { on := 12, ground := Ground.phase }, { on := 13, ground := Ground.phase }, { on := 14, ground := Ground.phase }], guard := none }) (v := .pointer (some ⟨g, i * 15 + 10, none⟩)) rfl (by kernel_rfl) (by kernel_rfl) (by kernel_rfl) (fun _ _ _ h => h) (Or.inl ⟨by rfl, ?_⟩) hHeld ?_
    · intro w1 hSw
      (try dsimp only at hSw)
      go_simp
    (try simp only [Act.put, List.setIfInBounds_toArray, List.set_cons_zero, List.set_cons_succ])
    refine wpAnyH_ready (rs := [17]) (by kernel_rfl) (by simp) ?_
    refine AllReadyH.cons (o := { dst := none, op := Op.store 110 (Operand.tmp 101) (Operand.tmp 99), type := 0, pos := "ref.go:78", after := #[{ on := 16, ground := Ground.data }, { on := 14, ground := Ground.data }, { on := 14, ground := Ground.chain }, { on := 0, ground := Ground.phase }, { on := 1, ground := Ground.phase }, { on := 2, ground := Ground.phase }, { on := 3, ground := Ground.phase }, { on := 4, ground := Ground.phase }, { on := 5, ground := Ground.phase }, { on := 6, ground := Ground.phase }, { on := 7, ground := Ground.phase }, { on := 8, ground := Ground.phase }, { on := 9, ground := Ground.phase }, { on := 10, ground := Ground.phase }, { on := 11, ground := Ground.phase }, { on := 12, ground := Ground.phase }, { on := 13, ground := Ground.phase }, { on := 14, ground := Ground.phase }], guard := none }) rfl (fun K hK => ?_) AllReadyH.nil
    go_simp
    refine hK.out _ _ (by (try dsimp only); (repeat' apply And.intro) <;> (repeat (first | (with_reducible assumption) | (with_reducible apply cell_grE) | (with_reducible apply cell_allocE) | (with_reducible apply cell_drewE) | (with_reducible refine cell_setE (by omega) ?_) | (with_reducible refine cell_setO (by omega) ?_)))) (fun hHeld => ?_)
    clear hK K
    (try simp only [Act.put, List.setIfInBounds_toArray, List.set_cons_zero, List.set_cons_succ])
    refine wpAnyH_done (by kernel_rfl) ?_ _
    clear hHeld
    go_wp2
    refine bodyPost_ret (v := .tuple #[.slice (some ⟨g, 0, none⟩) rs.length gc, .agg (resV (0, v0))]) (by simp [results, Try.f11, go_sem, resV, resA, v0, V4.one, size_setCell, hlb4, u0, u1, u2, u3, u4, hrf4]) rfl ?_
    exact rdo_fin3 (v := ⟨z0, z1, z2, z3⟩) (xx := ⟨x0, x1, x2, x3⟩) HA.out (upd2 w _ _) (by simp) HU4.out HOWN4.out (by repeat (first | (with_reducible exact Upd.refl _ _) | (with_reducible apply Upd.drew) | (with_reducible refine Upd.grE ?_ _) | (with_reducible refine Upd.alloc ?_ _) | (with_reducible refine Upd.setB ?_ (by simp)))) (by repeat (first | (with_reducible exact Upd.refl _ _) | (with_reducible apply Upd.drew) | (with_reducible refine Upd.grE ?_ _) | (with_reducible refine Upd.alloc ?_ _) | (with_reducible refine Upd.setB ?_ (by simp)))) HM.out rfl
  · go_simp
    (with_reducible refine (HCL.out _).mono ?_)
    rintro e w3 ⟨rfl, hu3⟩
    obtain ⟨p3, rfl⟩ := hu3.grown
    clear hu3
    refine hK.out _ _ (by (try dsimp only); (repeat' apply And.intro) <;> (repeat (first | (with_reducible assumption) | (with_reducible apply cell_grE) | (with_reducible apply cell_allocE) | (with_reducible apply cell_drewE) | (with_reducible refine cell_setE (by omega) ?_) | (with_reducible refine cell_setO (by omega) ?_)))) (fun hHeld => ?_)
    clear hK K
    (try simp only [Act.put, List.setIfInBounds_toArray, List.set_cons_zero, List.set_cons_succ])
    refine wpAnyH_ready (rs := [4, 13]) (by kernel_rfl) (by simp) ?_
    refine AllReadyH.cons (o := { dst := some 89, op := Op.load 110 (Operand.tmp 88), type := 110, pos := "ref.go:78", after := #[{ on := 3, ground := Ground.data }], guard := none }) rfl (fun K hK => ?_) (AllReadyH.cons (o := { dst := some 98, op := Op.buildSlice 110 1 #[(0, Operand.tmp 97)], type := 110, pos := "ref.go:78", after := #[{ on := 12, ground := Ground.data }], guard := none }) rfl (fun K hK => ?_) AllReadyH.nil)
    · go_simp
      refine hK.out _ _ (by (try dsimp only); (repeat' apply And.intro) <;> (repeat (first | (with_reducible assumption) | (with_reducible apply cell_grE) | (with_reducible apply cell_allocE) | (with_reducible apply cell_drewE) | (with_reducible refine cell_setE (by omega) ?_) | (with_reducible refine cell_setO (by omega) ?_)))) (fun hHeld => ?_)
      clear hK K
      (try simp only [Act.put, List.setIfInBounds_toArray, List.set_cons_zero, List.set_cons_succ])
      refine wpAnyH_ready (rs := [13]) (by kernel_rfl) (by simp) ?_
      refine AllReadyH.cons (o := { dst := some 98, op := Op.buildSlice 110 1 #[(0, Operand.tmp 97)], type := 110, pos := "ref.go:78", after := #[{ on := 12, ground := Ground.data }], guard := none }) rfl (fun K hK => ?_) AllReadyH.nil
      go_simp
      refine hK.out _ _ (by (try dsimp only); (repeat' apply And.intro) <;> (repeat (first | (with_reducible assumption) | (with_reducible apply cell_grE) | (with_reducible apply cell_allocE) | (with_reducible apply cell_drewE) | (with_reducible refine cell_setE (by omega) ?_) | (with_reducible refine cell_setO (by omega) ?_)))) (fun hHeld => ?_)
      clear hK K
      (try simp only [Act.put, List.setIfInBounds_toArray, List.set_cons_zero, List.set_cons_succ])
      refine wpAnyH_ready (rs := [14]) (by kernel_rfl) (by simp) ?_
      refine AllReadyH.cons (o := { dst := some 99, op := Op.call { callee := Callee.builtin Builtin.append, args := #[Operand.tmp 89, Operand.tmp 98], argTypes := #[110, 110] }, type := 110, pos := "ref.go:78", after := #[{ on := 4, ground := Ground.data }, { on := 13, ground := Ground.data }, { on := 12, ground := Ground.chain }], guard := none }) rfl (fun K hK => ?_) AllReadyH.nil
      refine step_append_reads rfl (.tmp 89) (.tmp 98) 110 rfl (w.heap.size + 1 + 1) 26 iv _ 4 16 Try.underlying110 hiv hy0 hy1 hy2 rfl (by decide) (.slice ra row.length rc) row.length (row.flatMap V4.cells) rfl (own_upd (S := []) HROW.out (by repeat (first | (with_reducible exact Upd.refl _ _) | (with_reducible apply Upd.drew) | (with_reducible refine Upd.grE ?_ _) | (with_reducible refine Upd.alloc ?_ _))) (by simp)) _ 1 1 [.int .u32 x0, .int .u32 x1, .int .u32 x2, .int .u32 x3] rfl rfl (fun _ => ⟨_, 0, rfl, list_srcR (heap_alloc_at _ (by first | rfl | (simp; done) | (simp; omega)))⟩) (fun h => by cases h) (fun u hu => by simp at hu; rcases hu with rfl | rfl | rfl | rfl <;> rfl) (by have := HRL.out; simp only [maxLen]; omega) (by have := HRL.out; omega) (by have := HW1.out; simp; omega) ?_
      intro p4 c4 w4 hp4 hown4 hgrow4
      have hU4 := ((show Upd (Value.slice ra row.length rc).ownBlock.toList w1 _ by repeat (first | (with_reducible exact Upd.refl _ _) | (with_reducible apply Upd.drew) | (with_reducible refine Upd.grE ?_ _) | (with_reducible refine Upd.alloc ?_ _)))).trans (upd_grown hgrow4)
      have HU4 := Lib.hid hU4
      have HOWN4 := Lib.hid hown4
      have c20 := (hU4.cell (p := ⟨w.heap.size, 2, none⟩) hlb1 HN0.out).trans e2
      have c21 := (hU4.cell (p := ⟨w.heap.size, 3, none⟩) hlb1 HN0.out).trans e3
      have c22 := (hU4.cell (p := ⟨w.heap.size, 4, none⟩) hlb1 HN0.out).trans e4
      have c23 := (hU4.cell (p := ⟨w.heap.size, 5, none⟩) hlb1 HN0.out).trans e5
      have s2 := (hU4.cell (p := ⟨g, i * 15 + 2, none⟩) hgl HNG.out).trans t2
      have s10 := (hU4.cell (p := ⟨g, i * 15 + 10, none⟩) hgl HNG.out).trans t10
      have hfr4 := fun k => (hU4.frozen (p := ⟨g, k, none⟩) hgl HNG.out).trans (hfr k)
      have hrb4 := hU4.keepb HB2.out HN1.out
      obtain ⟨u0, u1, u2, u3, u4⟩ := cells5 hrb4
      have hrf4 := frozen_of_heap hrb4
      have hlb4 := heap_lt hrb4
      have hlg4 := Nat.lt_of_lt_of_le hgl hU4.size
      clear hU4 hown4 hgrow4 hrb4 hp4
      refine hK.out _ _ (by (try dsimp only); (repeat' apply And.intro) <;> (repeat (first | (with_reducible assumption) | (with_reducible apply cell_grE) | (with_reducible apply cell_allocE) | (with_reducible apply cell_drewE) | (with_reducible refine cell_setE (by omega) ?_) | (with_reducible refine cell_setO (by omega) ?_)))) (fun hHeld => ?_)
      clear hK K
      (try simp only [Act.put, List.setIfInBounds_toArray, List.set_cons_zero, List.set_cons_succ])
      refine wpAnyH_take (i := 15) (oi := { dst := some 100, op := Op.nilCheck (Operand.tmp 85), type := 0, pos := "ref.go:78", after := #[{ on := 0, ground := Ground.data }, { on := 0, ground := Ground.phase }, { on := 1, ground := Ground.phase }, { on := 2, ground := Ground.phase }, { on := 3, ground := Ground.phase }, { on := 4, ground := Ground.phase }, { on := 5, ground := Ground.phase }, { on := 6, ground := Ground.phase }, { on := 7, ground := Ground.phase }, { on := 8, ground := Ground.phase }, { on := 9, ground := Ground.phase }, { on := 10, ground := Ground.phase }, { on := 11, ground := Ground.phase }, { on := 12, ground := Ground.phase }, { on := 13, ground := Ground.phase }, { on := 14, ground := Ground.phase }], guard := none }) (v := .pointer (some ⟨g, i * 15, none⟩)) rfl (by kernel_rfl) (by kernel_rfl) (by kernel_rfl) (fun _ _ _ h => h) (Or.inl ⟨by rfl, ?_⟩) hHeld ?_
      · intro w1 hSw
        (try dsimp only at hSw)
        go_simp
      (try simp only [Act.put, List.setIfInBounds_toArray, List.set_cons_zero, List.set_cons_succ])
      refine wpAnyH_take (i := 16) (oi := { dst := some 101, op := Op.fieldAddr 114 (Operand.tmp 100) 1, type := 0, pos := "ref.go:78", after := #[{ on := 15, ground := Ground.data }, { on := 0, ground := Ground.phase }, { on := 1, ground := Ground.phase }, { on := 2, ground := Ground.phase }, { on := 3, ground := Ground.phase }, { on := 4, ground := Ground.phase }, { on := 5, ground := Ground.phase }, { on := 6, ground := Ground.phase }, { on := 7, ground := Ground.phase }, { on := 8, ground := Ground.phase }, { on := 9, ground := Ground.phase }, { on := 10, ground := Ground.phase }, { on := 11, ground := Ground.phase }, { on := 12, ground := Ground.phase }, { on := 13, ground := Ground.phase }, { on := 14, ground := Ground.phase }], guard := none }) (v := .pointer (some ⟨g, i * 15 + 10, none⟩)) rfl (by kernel_rfl) (by kernel_rfl) (by kernel_rfl) (fun _ _ _ h => h) (Or.inl ⟨by rfl, ?_⟩) hHeld ?_
      · intro w1 hSw
        (try dsimp only at hSw)
        go_simp
      (try simp only [Act.put, List.setIfInBounds_toArray, List.set_cons_zero, List.set_cons_succ])
      refine wpAnyH_ready (rs := [17]) (by kernel_rfl) (by simp) ?_
      refine AllReadyH.cons (o := { dst := none, op := Op.store 110 (Operand.tmp 101) (Operand.tmp 99), type := 0, pos := "ref.go:78", after := #[{ on := 16, ground := Ground.data }, { on := 14, ground := Ground.data }, { on := 14, ground := Ground.chain }, { on := 0, ground := Ground.phase }, { on := 1, ground := Ground.phase }, { on := 2, ground := Ground.phase }, { on := 3, ground := Ground.phase }, { on := 4, ground := Ground.phase }, { on := 5, ground := Ground.phase }, { on := 6, ground := Ground.phase }, { on := 7, ground := Ground.phase }, { on := 8, ground := Ground.phase }, { on := 9, ground := Ground.phase }, { on := 10, ground := Ground.phase }, { on := 11, ground := Ground.phase }, { on := 12, ground := Ground.phase }, { on := 13, ground := Ground.phase }, { on := 14, ground := Ground.phase }], guard := none }) rfl (fun K hK => ?_) AllReadyH.nil
      go_simp
      refine hK.out _ _ (by (try dsimp only); (repeat' apply And.intro) <;> (repeat (first | (with_reducible assumption) | (with_reducible apply cell_grE) | (with_reducible apply cell_allocE) | (with_reducible apply cell_drewE) | (with_reducible refine cell_setE (by omega) ?_) | (with_reducible refine cell_setO (by omega) ?_)))) (fun hHeld => ?_)
      clear hK K
      (try simp only [Act.put, List.setIfInBounds_toArray, List.set_cons_zero, List.set_cons_succ])
      refine wpAnyH_done (by kernel_rfl) ?_ _
      clear hHeld
      go_wp2
      refine bodyPost_ret (v := .tuple #[.slice (some ⟨g, 0, none⟩) rs.length gc, .agg (resV (0, v0))]) (by simp [results, Try.f11, go_sem, resV, resA, v0, V4.one, size_setCell, hlb4, u0, u1, u2, u3, u4, hrf4]) rfl ?_
      exact rdo_fin3 (v := ⟨z0, z1, z2, z3⟩) (xx := ⟨x0, x1, x2, x3⟩) HA.out (upd2 w _ _) (by simp) HU4.out HOWN4.out (by repeat (first | (with_reducible exact Upd.refl _ _) | (with_reducible apply Upd.drew) | (with_reducible refine Upd.grE ?_ _) | (with_reducible refine Upd.alloc ?_ _) | (with_reducible refine Upd.setB ?_ (by simp)))) (by repeat (first | (with_reducible exact Upd.refl _ _) | (with_reducible apply Upd.drew) | (with_reducible refine Upd.grE ?_ _) | (with_reducible refine Upd.alloc ?_ _) | (with_reducible refine Upd.setB ?_ (by simp)))) HM.out rfl
    · go_simp
      refine hK.out _ _ (by (try dsimp only); (repeat' apply And.intro) <;> (repeat (first | (with_reducible assumption) | (with_reducible apply cell_grE) | (with_reducible apply cell_allocE) | (with_reducible apply cell_drewE) | (with_reducible refine cell_setE (by omega) ?_) | (with_reducible refine cell_setO (by omega) ?_)))) (fun hHeld => ?_)
      clear hK K
      (try simp only [Act.put, List.setIfInBounds_toArray, List.set_cons_zero, List.set_cons_succ])
      refine wpAnyH_ready (rs := [4]) (by kernel_rfl) (by simp) ?_
      refine AllReadyH.cons (o := { dst := some 89, op := Op.load 110 (Operand.tmp 88), type := 110, pos := "ref.go:78", after := #[{ on := 3, ground := Ground.data }], guard := none }) rfl (fun K hK => ?_) AllReadyH.nil
      go_simp
      refine hK.out _ _ (by (try dsimp only); (repeat' apply And.intro) <;> (repeat (first | (with_reducible assumption) | (with_reducible apply cell_grE) | (with_reducible apply cell_allocE) | (with_reducible apply cell_drewE) | (with_reducible refine cell_setE (by omega) ?_) | (with_reducible refine cell_setO (by omega) ?_)))) (fun hHeld => ?_)
      clear hK K
      (try simp only [Act.put, List.setIfInBounds_toArray, List.set_cons_zero, List.set_cons_succ])
      refine wpAnyH_ready (rs := [14]) (by kernel_rfl) (by simp) ?_
      refine AllReadyH.cons (o := { dst := some 99, op := Op.call { callee := Callee.builtin Builtin.append, args := #[Operand.tmp 89, Operand.tmp 98], argTypes := #[110, 110] }, type := 110, pos := "ref.go:78", after := #[{ on := 4, ground := Ground.data }, { on := 13, ground := Ground.data }, { on := 12, ground := Ground.chain }], guard := none }) rfl (fun K hK => ?_) AllReadyH.nil
      refine step_append_reads rfl (.tmp 89) (.tmp 98) 110 rfl (w.heap.size + 1 + 1) 26 iv _ 4 16 Try.underlying110 hiv hy0 hy1 hy2 rfl (by decide) (.slice ra row.length rc) row.length (row.flatMap V4.cells) rfl (own_upd (S := []) HROW.out (by repeat (first | (with_reducible exact Upd.refl _ _) | (with_reducible apply Upd.drew) | (with_reducible refine Upd.grE ?_ _) | (with_reducible refine Upd.alloc ?_ _))) (by simp)) _ 1 1 [.int .u32 x0, .int .u32 x1, .int .u32 x2, .int .u32 x3] rfl rfl (fun _ => ⟨_, 0, rfl, list_srcR (heap_alloc_at _ (by first | rfl | (simp; done) | (simp; omega)))⟩) (fun h => by cases h) (fun u hu => by simp at hu; rcases hu with rfl | rfl | rfl | rfl <;> rfl) (by have := HRL.out; simp only [maxLen]; omega) (by have := HRL.out; omega) (by have := HW1.out; simp; omega) ?_
      intro p4 c4 w4 hp4 hown4 hgrow4
      have hU4 := ((show Upd (Value.slice ra row.length rc).ownBlock.toList w1 _ by repeat (first | (with_reducible exact Upd.refl _ _) | (with_reducible apply Upd.drew) | (with_reducible refine Upd.grE ?_ _) | (with_reducible refine Upd.alloc ?_ _)))).trans (upd_grown hgrow4)
      have HU4 := Lib.hid hU4
      have HOWN4 := Lib.hid hown4
      have c20 := (hU4.cell (p := ⟨w.heap.size, 2, none⟩) hlb1 HN0.out).trans e2
      have c21 := (hU4.cell (p := ⟨w.heap.size, 3, none⟩) hlb1 HN0.out).trans e3
      have c22 := (hU4.cell (p := ⟨w.heap.size, 4, none⟩) hlb1 HN0.out).trans e4
      have c23 := (hU4.cell (p := ⟨w.heap.size, 5, none⟩) hlb1 HN0.out).trans e5
      have s2 := (hU4.cell (p := ⟨g, i * 15 + 2, none⟩) hgl HNG.out).trans t2
      have s10 := (hU4.cell (p := ⟨g, i * 15 + 10, none⟩) hgl HNG.out).trans t10
      have hfr4 := fun k => (hU4.frozen (p := ⟨g, k, none⟩) hgl HNG.out).trans (hfr k)
      have hrb4 := hU4.keepb HB2.out HN1.out
      obtain ⟨u0, u1, u2, u3, u4⟩ := cells5 hrb4
      have hrf4 := frozen_of_heap hrb4
      have hlb4 := heap_lt hrb4
      have hlg4 := Nat.lt_of_lt_of_le hgl hU4.size
      clear hU4 hown4 hgrow4 hrb4 hp4
      refine hK.out _ _ (by (try dsimp only); (repeat' apply And.intro) <;> (repeat (first | (with_reducible assumption) | (with_reducible apply cell_grE) | (with_reducible apply cell_allocE) | (with_reducible apply cell_drewE) | (with_reducible refine cell_setE (by omega) ?_) | (with_reducible refine cell_setO (by omega) ?_)))) (fun hHeld => ?_)
      clear hK K
      (try simp only [Act.put, List.setIfInBounds_toArray, List.set_cons_zero, List.set_cons_succ])
      refine wpAnyH_take (i := 15) (oi := { dst := some 100, op := Op.nilCheck (Operand.tmp 85), type := 0, pos := "ref.go:78", after := #[{ on := 0, ground := Ground.data }, { on := 0, ground := Ground.phase }, { on := 1, ground := Ground.phase }, { on := 2, ground := Ground.phase }, { on := 3, ground := Ground.phase }, { on := 4, ground := Ground.phase }, { on := 5, ground := Ground.phase }, { on := 6, ground := Ground.phase }, { on := 7, ground := Ground.phase }, { on := 8, ground := Ground.phase }, { on := 9, ground := Ground.phase }, { on := 10, ground := Ground.phase }, { on := 11, ground := Ground.phase }, { on := 12, ground := Ground.phase }, { on := 13, ground := Ground.phase }, { on := 14, ground := Ground.phase }], guard := none }) (v := .pointer (some ⟨g, i * 15, none⟩)) rfl (by kernel_rfl) (by kernel_rfl) (by kernel_rfl) (fun _ _ _ h => h) (Or.inl ⟨by rfl, ?_⟩) hHeld ?_
      · intro w1 hSw
        (try dsimp only at hSw)
        go_simp
      (try simp only [Act.put, List.setIfInBounds_toArray, List.set_cons_zero, List.set_cons_succ])
      refine wpAnyH_take (i := 16) (oi := { dst := some 101, op := Op.fieldAddr 114 (Operand.tmp 100) 1, type := 0, pos := "ref.go:78", after := #[{ on := 15, ground := Ground.data }, { on := 0, ground := Ground.phase }, { on := 1, ground := Ground.phase }, { on := 2, ground := Ground.phase }, { on := 3, ground := Ground.phase }, { on := 4, ground := Ground.phase }, { on := 5, ground := Ground.phase }, { on := 6, ground := Ground.phase }, { on := 7, ground := Ground.phase }, { on := 8, ground := Ground.phase }, { on := 9, ground := Ground.phase }, { on := 10, ground := Ground.phase }, { on := 11, ground := Ground.phase }, { on := 12, ground := Ground.phase }, { on := 13, ground := Ground.phase }, { on := 14, ground := Ground.phase }], guard := none }) (v := .pointer (some ⟨g, i * 15 + 10, none⟩)) rfl (by kernel_rfl) (by kernel_rfl) (by kernel_rfl) (fun _ _ _ h => h) (Or.inl ⟨by rfl, ?_⟩) hHeld ?_
      · intro w1 hSw
        (try dsimp only at hSw)
        go_simp
      (try simp only [Act.put, List.setIfInBounds_toArray, List.set_cons_zero, List.set_cons_succ])
      refine wpAnyH_ready (rs := [17]) (by kernel_rfl) (by simp) ?_
      refine AllReadyH.cons (o := { dst := none, op := Op.store 110 (Operand.tmp 101) (Operand.tmp 99), type := 0, pos := "ref.go:78", after := #[{ on := 16, ground := Ground.data }, { on := 14, ground := Ground.data }, { on := 14, ground := Ground.chain }, { on := 0, ground := Ground.phase }, { on := 1, ground := Ground.phase }, { on := 2, ground := Ground.phase }, { on := 3, ground := Ground.phase }, { on := 4, ground := Ground.phase }, { on := 5, ground := Ground.phase }, { on := 6, ground := Ground.phase }, { on := 7, ground := Ground.phase }, { on := 8, ground := Ground.phase }, { on := 9, ground := Ground.phase }, { on := 10, ground := Ground.phase }, { on := 11, ground := Ground.phase }, { on := 12, ground := Ground.phase }, { on := 13, ground := Ground.phase }, { on := 14, ground := Ground.phase }], guard := none }) rfl (fun K hK => ?_) AllReadyH.nil
      go_simp
      refine hK.out _ _ (by (try dsimp only); (repeat' apply And.intro) <;> (repeat (first | (with_reducible assumption) | (with_reducible apply cell_grE) | (with_reducible apply cell_allocE) | (with_reducible apply cell_drewE) | (with_reducible refine cell_setE (by omega) ?_) | (with_reducible refine cell_setO (by omega) ?_)))) (fun hHeld => ?_)
      clear hK K
      (try simp only [Act.put, List.setIfInBounds_toArray, List.set_cons_zero, List.set_cons_succ])
      refine wpAnyH_done (by kernel_rfl) ?_ _
      clear hHeld
      go_wp2
      refine bodyPost_ret (v := .tuple #[.slice (some ⟨g, 0, none⟩) rs.length gc, .agg (resV (0, v0))]) (by simp [results, Try.f11, go_sem, resV, resA, v0, V4.one, size_setCell, hlb4, u0, u1, u2, u3, u4, hrf4]) rfl ?_
      exact rdo_fin3 (v := ⟨z0, z1, z2, z3⟩) (xx := ⟨x0, x1, x2, x3⟩) HA.out (upd2 w _ _) (by simp) HU4.out HOWN4.out (by repeat (first | (with_reducible exact Upd.refl _ _) | (with_reducible apply Upd.drew) | (with_reducible refine Upd.grE ?_ _) | (with_reducible refine Upd.alloc ?_ _) | (with_reducible refine Upd.setB ?_ (by simp)))) (by repeat (first | (with_reducible exact Upd.refl _ _) | (with_reducible apply Upd.drew) | (with_reducible refine Upd.grE ?_ _) | (with_reducible refine Upd.alloc ?_ _) | (with_reducible refine Upd.setB ?_ (by simp)))) HM.out rfl
end
end Go.Proofs.Ytdbgnnkbcebpcaa
