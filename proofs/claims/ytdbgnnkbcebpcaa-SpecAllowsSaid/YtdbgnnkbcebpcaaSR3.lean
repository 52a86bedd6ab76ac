/- The document's spec: Copy (printed by genct.py out of SR3.base). -/
import Derived.Test.YtdbgnnkbcebpcaaSR2
import Derived.Deep.RegionHeld3
set_option linter.unusedVariables false
set_option linter.unusedSimpArgs false
namespace Go.Proofs.Ytdbgnnkbcebpcaa
open Go.RowKit

theorem info_val : (Try.prog.info? 26).map (fun i => (i.zero, i.size, i.bytes)) = some (some (.agg #[.int .u32 0, .int .u32 0, .int .u32 0, .int .u32 0]), 4, 16) := by kernel_rfl
theorem info_v4L (a b c d : Value) : (Try.prog.info? 26).map (·.size) = some ([a, b, c, d] : List Value).length := by kernel_rfl
theorem row_one (xs : List V4) : ∀ u ∈ xs.flatMap V4.cells, u.oneCell' = true := by
  intro u hu
  simp only [List.mem_flatMap] at hu
  obtain ⟨x, _, hx⟩ := hu
  simp [V4.cells, V4.A, v4A] at hx
  rcases hx with rfl | rfl | rfl | rfl <;> rfl
/-- Two own rows of different types are apart. -/
theorem rows_apart {w : World} {b1 b2 s1 s2 n1 n2 : Nat} {e1 e2 : TypeId} {v1 v2 : Value} {x1 x2 : List Value} (h1 : w.ownsRow b1 e1 s1 v1 n1 x1) (h2 : w.ownsRow b2 e2 s2 v2 n2 x2) (he : e2 ≠ e1) : ∀ k, v2.ownBlock = some k → v1.ownBlock ≠ some k := by
  intro k hk
  rcases h2.2 with ⟨rfl, _⟩ | ⟨g, cap, cur, rfl, _, hh, _⟩
  · cases hk
  · obtain rfl : g = k := by simpa [Value.ownBlock] using hk
    exact own_ne h1 hh he
/-- An item's row, as a row of the call's own. -/
def ROwn (base : Nat) (w : World) (r : IL) : Prop := w.ownsRow base 26 4 (.slice r.ra r.x.row.length r.rc) r.x.row.length (r.x.row.flatMap V4.cells)
theorem ROwn.upd {base : Nat} {w w' : World} {r : IL} (h : ROwn base w r) (hu : Upd [] w w') : ROwn base w' r := own_upd h hu (by simp)
theorem ROwn.item {base : Nat} {w : World} {r : IL} (h : ROwn base w r) : ItemR w r.x r.ra r.rc := by
  obtain ⟨a, cap, e, h0, he⟩ := flat_own V4.cells v4_len h rfl
  simp only [Value.slice.injEq, true_and] at e
  obtain ⟨rfl, rfl⟩ := e
  refine ⟨he, ?_, ?_, h0, fun b hb => ?_⟩
  · rcases h.2 with ⟨e, _⟩ | ⟨g, cap, cur, e, _, hh, hx⟩
    · simp only [Value.slice.injEq] at e; omega
    · simp only [Value.slice.injEq] at e; rw [e.2.2]; exact hx.1
  · rcases h.2 with ⟨e, _⟩ | ⟨g, cap, cur, e, _, hh, hx⟩
    · simp only [Value.slice.injEq] at e; rw [e.2.2]; simp [maxLen]
    · simp only [Value.slice.injEq] at e; rw [e.2.2]; exact hx.2.1
  · rcases h.2 with ⟨e, _⟩ | ⟨g, cap, cur, e, _, hh, hx⟩
    · simp only [Value.slice.injEq] at e; obtain ⟨e, -, -⟩ := e; rw [e] at hb; cases hb
    · simp only [Value.slice.injEq] at e; obtain ⟨e, -, -⟩ := e; rw [e] at hb
      simp at hb
      subst hb
      exact heap_lt hh
theorem row_src {w w' : World} {x : IT} {ra : Option Addr} {rc : Nat} (h : ItemR w x ra rc) (hu : Upd [] w w') : 0 < x.row.length → ∃ b off, ra = some ⟨b, off, none⟩ ∧ ∀ j u, (x.row.flatMap V4.cells)[j]? = some u → w'.cell? ⟨b, off + j, none⟩ = some u := fun h0 => by
  obtain ⟨b, off, ea, hb, hc⟩ := els_at h.els h0
  refine ⟨b, off, ea, fun j u hj => ?_⟩
  obtain ⟨i, hi, k, rfl, hk'⟩ := flat_inv V4.cells 4 v4_len _ _ _ hj
  obtain ⟨b', off', ea', hb', hc'⟩ := els_at h.els hi
  rw [ea] at ea'
  simp only [Option.some.injEq, Addr.mk.injEq, and_true] at ea'
  obtain ⟨rfl, rfl⟩ := ea'
  rw [← Nat.add_assoc]
  exact (hu.cell (p := ⟨b, off + i * 4 + k, none⟩) hb (by simp)).trans (hc' k u hk')
theorem list_srcR {W : World} {g : Nat} {c : Array Value} {t : TypeId} {fr : Nat × Nat} (h : W.heap[g]? = some (.cells c t fr)) : ∀ (j : Nat) (u : Value), c.toList[j]? = some u → W.cell? ⟨g, 0 + j, none⟩ = some u := fun j u hj => by rw [Nat.zero_add, cell_of_heap h]; simpa using hj
theorem ten_of_item {k cap wd rt f t i0 i1 i2 i3 v0 v1 v2 v3 : Int} {ra : Option Addr} {row : List V4} {rc m : Nat} {v : Value} (h : ([.int .i64 k, .int .i64 cap, .int .i64 wd, .int .i64 rt, .int .i64 f, .int .i64 t, .int .u32 i0, .int .u32 i1, .int .u32 i2, .int .u32 i3] : List Value)[m]? = some v) : (IL.cells ⟨⟨⟨k, cap, wd, rt, f, t, i0, i1, i2, i3⟩, row, ⟨v0, v1, v2, v3⟩⟩, ra, rc⟩)[m]? = some v := by
  have hm := (List.getElem?_eq_some_iff.1 h).1
  simp at hm
  rcases m with _ | _ | _ | _ | _ | _ | _ | _ | _ | _ | m <;> first | exact h | omega
theorem four_of_item {k cap wd rt f t i0 i1 i2 i3 v0 v1 v2 v3 : Int} {ra : Option Addr} {row : List V4} {rc m : Nat} {v : Value} (h : ([.int .u32 v0, .int .u32 v1, .int .u32 v2, .int .u32 v3] : List Value)[m]? = some v) : (IL.cells ⟨⟨⟨k, cap, wd, rt, f, t, i0, i1, i2, i3⟩, row, ⟨v0, v1, v2, v3⟩⟩, ra, rc⟩)[11 + m]? = some v := by
  have hm := (List.getElem?_eq_some_iff.1 h).1
  simp at hm
  rcases m with _ | _ | _ | _ | m <;> first | exact h | omega
/-- Rows lie in blocks of their own. -/
def Dis (rs : List IL) : Prop := rs.Pairwise (fun r r' => ∀ k, r.ra.map (·.block) = some k → r'.ra.map (·.block) ≠ some k)
theorem ROwn.blk {base : Nat} {w : World} {r : IL} (h : ROwn base w r) {k : Nat} (hk : r.ra.map (·.block) = some k) : base ≤ k ∧ k < w.heap.size := by
  rcases h.2 with ⟨e, _⟩ | ⟨g, cap, cur, e, hb, hh, hx⟩
  · simp only [Value.slice.injEq] at e; rw [e.1] at hk; cases hk
  · simp only [Value.slice.injEq] at e; rw [e.1] at hk
    simp at hk
    subst hk
    exact ⟨hb, heap_lt hh⟩
theorem Dis.snoc {base b2 : Nat} {w w2 : World} {rs : List IL} {r : IL} (h : Dis rs) (hr : ∀ x ∈ rs, ROwn base w x) (h2 : ROwn b2 w2 r) (hb : w.heap.size ≤ b2) : Dis (rs ++ [r]) := by
  unfold Dis
  rw [List.pairwise_append]
  refine ⟨h, by simp, fun x hx y hy k hk hk2 => ?_⟩
  simp at hy
  subst hy
  have h1 := (hr x hx).blk hk
  have h3 := h2.blk hk2
  omega
/-- What Copy leaves. -/
def RCopy (w : World) (rs : List IL) (e : Ending) (w' : World) : Prop := ∃ (v : Value) (rs' : List IL), e = .returned v ∧ w'.ownsRow w.heap.size 114 15 v rs.length (rs'.flatMap IL.cells) ∧ rs'.map (·.x) = rs.map (·.x) ∧ (∀ r ∈ rs', ROwn w.heap.size w' r) ∧ Upd [] w w' ∧ Dis rs'
section
variable {w : World} {sa : Option Addr} {rs : List IL}
set_option maxRecDepth 100000 in
set_option maxHeartbeats 8000000 in
theorem rcopy_c (sc : Nat) (h : SRel w sa rs) (hn : rs.length ≤ 1000) (hrw : ∀ r ∈ rs, r.x.row.length ≤ 64) : Calls Try.prog 50 #[.slice sa rs.length sc] w (RCopy w rs) := by
  have HE := Lib.hid h
  have HL := Lib.hid hn
  have HRW := Lib.hid hrw
  obtain ⟨ii, hii, hz0, hz1, hz2⟩ := info_parts info_ritem
  obtain ⟨iv, hiv, hy0, hy1, hy2⟩ := info_parts info_val
  clear h hn hrw
  go_enter Try.func50, Try.ntmps50
  go_wp2
  go_loopg [3, 4] rs.length (fun n s3 s4 wr => ∃ (j : Nat) (rs' : List IL), n + j = rs.length ∧ s4 = .int .i64 j ∧ wr.ownsRow w.heap.size 114 15 s3 j (rs'.flatMap IL.cells) ∧ rs'.map (·.x) = (rs.map (·.x)).take j ∧ (∀ r ∈ rs', ROwn w.heap.size wr r) ∧ Upd [] w wr ∧ Dis rs')
  case atStart => exact ⟨0, [], by omega, rfl, own_none, rfl, by simp, Upd.refl _ _, List.Pairwise.nil⟩
  case round =>
    obtain ⟨j, rs', hj, rfl, hown, hmap, hrows, hu, hdis⟩ := hrel
    have HDIS := Lib.hid hdis
    have HJ := Lib.hid hj
    have HOWN := Lib.hid hown
    have HU := Lib.hid hu
    have HMAP := Lib.hid hmap
    have HROWS := Lib.hid hrows
    clear hown hu hmap hrows hdis
    have hl0 := HL.out
    by_cases hlt : j < rs.length
    · obtain ⟨sb, so, rfl, hb, hc⟩ := els_at HE.out.els hlt
      have HIT := Lib.hid (HE.out.items rs[j] (List.getElem_mem hlt))
      have HRL := Lib.hid (HRW.out rs[j] (List.getElem_mem hlt))
      have HLT := Lib.hid hlt
      have HMZ := Lib.hid (show (rs.map (·.x)).take (j + 1) = (rs.map (·.x)).take j ++ [rs[j].x] by rw [List.take_succ_eq_append_getElem (by simpa using hlt), List.getElem_map]; rfl)
      have b1 : (0 : Int) ≤ (j : Int) := by omega
      have b2 : (j : Int) < (rs.length : Int) := by omega
      have HW := Lib.hid (show wrap64 ((j : Int) + 1) = ((j + 1 : Nat) : Int) from wrap_next (by omega) hlt)
      generalize hz : rs[j] = z at *
      obtain ⟨⟨⟨k, cap, wd, rt, f, t, i0, i1, i2, i3⟩, row, ⟨v0, v1, v2, v3⟩⟩, ra, rc⟩ := z
      have HRG := Lib.hid (fun (w1 : World) (h1 : Upd [] w w1) m v hm => (h1.cell (p := ⟨sb, so + j * 15 + m, none⟩) hb (by simp)).trans (hc m v hm))
      have T10 : ∀ w1 : World, Upd [] w w1 → w1.cell? ⟨sb, so + j * 15 + 10, none⟩ = some (.slice ra row.length rc) := fun w1 h1 => HRG.out w1 h1 10 _ rfl
      have hbw : sb < w.heap.size := hb
      have hbr : sb < wr.heap.size := Nat.lt_of_lt_of_le hb HU.out.size
      obtain ⟨va, vc, rfl, _, _⟩ := own_shape HOWN.out
      clear hz hc hj hlt hb
      go_wp2_with fail
      refine wp_region_held_drew (S := fun w1 => Upd [] w w1) (by kernel_rfl) ?_ (fun hHeld => ?_)
      · exact HU.out.drew
      refine wpAnyH_take (i := 0) (oi := { dst := some 11, op := Op.move (Operand.tmp 3), type := 35, pos := "ref.go:52", after := #[], guard := none }) (v := .slice va j vc) rfl (by kernel_rfl) (by kernel_rfl) (by kernel_rfl) (fun _ _ _ h => h) (Or.inl ⟨by rfl, ?_⟩) hHeld ?_
      · intro w1 hSw
        (try dsimp only at hSw)
        go_simp
      (try simp only [Act.put, List.setIfInBounds_toArray, List.set_cons_zero, List.set_cons_succ])
      refine wpAnyH_take (i := 1) (oi := { dst := some 12, op := Op.move (Operand.tmp 0), type := 35, pos := "ref.go:52", after := #[], guard := none }) (v := .slice (some ⟨sb, so, none⟩) rs.length sc) rfl (by kernel_rfl) (by kernel_rfl) (by kernel_rfl) (fun _ _ _ h => h) (Or.inl ⟨by rfl, ?_⟩) hHeld ?_
      · intro w1 hSw
        (try dsimp only at hSw)
        go_simp
      (try simp only [Act.put, List.setIfInBounds_toArray, List.set_cons_zero, List.set_cons_succ])
      refine wpAnyH_take (i := 2) (oi := { dst := some 13, op := Op.move (Operand.tmp 4), type := 3, pos := "ref.go:52", after := #[], guard := none }) (v := .int .i64 j) rfl (by kernel_rfl) (by kernel_rfl) (by kernel_rfl) (fun _ _ _ h => h) (Or.inl ⟨by rfl, ?_⟩) hHeld ?_
      · intro w1 hSw
        (try dsimp only at hSw)
        go_simp
      (try simp only [Act.put, List.setIfInBounds_toArray, List.set_cons_zero, List.set_cons_succ])
      refine wpAnyH_take (i := 3) (oi := { dst := some 14, op := Op.indexAddr 35 (Operand.tmp 12) (Operand.tmp 13), type := 0, pos := "ref.go:52", after := #[{ on := 1, ground := Ground.data }, { on := 2, ground := Ground.data }], guard := none }) (v := .pointer (some ⟨sb, so + j * 15, none⟩)) rfl (by kernel_rfl) (by kernel_rfl) (by kernel_rfl) (fun _ _ _ h => h) (Or.inl ⟨by rfl, ?_⟩) hHeld ?_
      · intro w1 hSw
        (try dsimp only at hSw)
        go_simp
      (try simp only [Act.put, List.setIfInBounds_toArray, List.set_cons_zero, List.set_cons_succ])
      refine wpAnyH_take (i := 4) (oi := { dst := some 15, op := Op.fieldAddr 114 (Operand.tmp 14) 0, type := 0, pos := "ref.go:52", after := #[{ on := 3, ground := Ground.data }], guard := none }) (v := .pointer (some ⟨sb, so + j * 15, none⟩)) rfl (by kernel_rfl) (by kernel_rfl) (by kernel_rfl) (fun _ _ _ h => h) (Or.inl ⟨by rfl, ?_⟩) hHeld ?_
      · intro w1 hSw
        (try dsimp only at hSw)
        go_simp
      (try simp only [Act.put, List.setIfInBounds_toArray, List.set_cons_zero, List.set_cons_succ])
      refine wpAnyH_take (i := 5) (oi := { dst := some 16, op := Op.load 109 (Operand.tmp 15), type := 109, pos := "ref.go:52", after := #[{ on := 4, ground := Ground.data }], guard := none }) (v := .agg [.int .i64 k, .int .i64 cap, .int .i64 wd, .int .i64 rt, .int .i64 f, .int .i64 t, .int .u32 i0, .int .u32 i1, .int .u32 i2, .int .u32 i3].toArray) rfl (by kernel_rfl) (by kernel_rfl) (by kernel_rfl) (fun _ _ _ h => h) (yieldsIf_load_mid (by rfl) 109 _ rfl sb (so + j * 15) rfl [.int .i64 k, .int .i64 cap, .int .i64 wd, .int .i64 rt, .int .i64 f, .int .i64 t, .int .u32 i0, .int .u32 i1, .int .u32 i2, .int .u32 i3] _ (fun w1 h m v hm => HRG.out w1 h m v (ten_of_item hm)) Try.underlying109 rfl (info_obj _ _ _ _ _ _ _ _ _ _)) hHeld ?_
      (try simp only [Act.put, List.setIfInBounds_toArray, List.set_cons_zero, List.set_cons_succ])
      refine wpAnyH_take (i := 7) (oi := { dst := some 18, op := Op.move (Operand.tmp 0), type := 35, pos := "ref.go:52", after := #[], guard := none }) (v := .slice (some ⟨sb, so, none⟩) rs.length sc) rfl (by kernel_rfl) (by kernel_rfl) (by kernel_rfl) (fun _ _ _ h => h) (Or.inl ⟨by rfl, ?_⟩) hHeld ?_
      · intro w1 hSw
        (try dsimp only at hSw)
        go_simp
      (try simp only [Act.put, List.setIfInBounds_toArray, List.set_cons_zero, List.set_cons_succ])
      refine wpAnyH_take (i := 8) (oi := { dst := some 19, op := Op.move (Operand.tmp 4), type := 3, pos := "ref.go:52", after := #[], guard := none }) (v := .int .i64 j) rfl (by kernel_rfl) (by kernel_rfl) (by kernel_rfl) (fun _ _ _ h => h) (Or.inl ⟨by rfl, ?_⟩) hHeld ?_
      · intro w1 hSw
        (try dsimp only at hSw)
        go_simp
      (try simp only [Act.put, List.setIfInBounds_toArray, List.set_cons_zero, List.set_cons_succ])
      refine wpAnyH_take (i := 9) (oi := { dst := some 20, op := Op.indexAddr 35 (Operand.tmp 18) (Operand.tmp 19), type := 0, pos := "ref.go:52", after := #[{ on := 7, ground := Ground.data }, { on := 8, ground := Ground.data }], guard := none }) (v := .pointer (some ⟨sb, so + j * 15, none⟩)) rfl (by kernel_rfl) (by kernel_rfl) (by kernel_rfl) (fun _ _ _ h => h) (Or.inl ⟨by rfl, ?_⟩) hHeld ?_
      · intro w1 hSw
        (try dsimp only at hSw)
        go_simp
      (try simp only [Act.put, List.setIfInBounds_toArray, List.set_cons_zero, List.set_cons_succ])
      refine wpAnyH_take (i := 10) (oi := { dst := some 21, op := Op.fieldAddr 114 (Operand.tmp 20) 1, type := 0, pos := "ref.go:52", after := #[{ on := 9, ground := Ground.data }], guard := none }) (v := .pointer (some ⟨sb, so + j * 15 + 10, none⟩)) rfl (by kernel_rfl) (by kernel_rfl) (by kernel_rfl) (fun _ _ _ h => h) (Or.inl ⟨by rfl, ?_⟩) hHeld ?_
      · intro w1 hSw
        (try dsimp only at hSw)
        go_simp
      (try simp only [Act.put, List.setIfInBounds_toArray, List.set_cons_zero, List.set_cons_succ])
      refine wpAnyH_take (i := 11) (oi := { dst := some 22, op := Op.load 110 (Operand.tmp 21), type := 110, pos := "ref.go:52", after := #[{ on := 10, ground := Ground.data }], guard := none }) (v := .slice ra row.length rc) rfl (by kernel_rfl) (by kernel_rfl) (by kernel_rfl) (fun _ _ _ h => h) (Or.inl ⟨by rfl, ?_⟩) hHeld ?_
      · intro w1 hSw
        (try dsimp only at hSw)
        go_simp
      (try simp only [Act.put, List.setIfInBounds_toArray, List.set_cons_zero, List.set_cons_succ])
      refine wpAnyH_take (i := 13) (oi := { dst := some 24, op := Op.move (Operand.tmp 0), type := 35, pos := "ref.go:52", after := #[], guard := none }) (v := .slice (some ⟨sb, so, none⟩) rs.length sc) rfl (by kernel_rfl) (by kernel_rfl) (by kernel_rfl) (fun _ _ _ h => h) (Or.inl ⟨by rfl, ?_⟩) hHeld ?_
      · intro w1 hSw
        (try dsimp only at hSw)
        go_simp
      (try simp only [Act.put, List.setIfInBounds_toArray, List.set_cons_zero, List.set_cons_succ])
      refine wpAnyH_take (i := 14) (oi := { dst := some 25, op := Op.move (Operand.tmp 4), type := 3, pos := "ref.go:52", after := #[], guard := none }) (v := .int .i64 j) rfl (by kernel_rfl) (by kernel_rfl) (by kernel_rfl) (fun _ _ _ h => h) (Or.inl ⟨by rfl, ?_⟩) hHeld ?_
      · intro w1 hSw
        (try dsimp only at hSw)
        go_simp
      (try simp only [Act.put, List.setIfInBounds_toArray, List.set_cons_zero, List.set_cons_succ])
      refine wpAnyH_take (i := 15) (oi := { dst := some 26, op := Op.indexAddr 35 (Operand.tmp 24) (Operand.tmp 25), type := 0, pos := "ref.go:52", after := #[{ on := 13, ground := Ground.data }, { on := 14, ground := Ground.data }], guard := none }) (v := .pointer (some ⟨sb, so + j * 15, none⟩)) rfl (by kernel_rfl) (by kernel_rfl) (by kernel_rfl) (fun _ _ _ h => h) (Or.inl ⟨by rfl, ?_⟩) hHeld ?_
      · intro w1 hSw
        (try dsimp only at hSw)
        go_simp
      (try simp only [Act.put, List.setIfInBounds_toArray, List.set_cons_zero, List.set_cons_succ])
      refine wpAnyH_take (i := 16) (oi := { dst := some 27, op := Op.fieldAddr 114 (Operand.tmp 26) 2, type := 0, pos := "ref.go:52", after := #[{ on := 15, ground := Ground.data }], guard := none }) (v := .pointer (some ⟨sb, so + j * 15 + 11, none⟩)) rfl (by kernel_rfl) (by kernel_rfl) (by kernel_rfl) (fun _ _ _ h => h) (Or.inl ⟨by rfl, ?_⟩) hHeld ?_
      · intro w1 hSw
        (try dsimp only at hSw)
        go_simp
      (try simp only [Act.put, List.setIfInBounds_toArray, List.set_cons_zero, List.set_cons_succ])
      refine wpAnyH_take (i := 17) (oi := { dst := some 28, op := Op.load 26 (Operand.tmp 27), type := 26, pos := "ref.go:52", after := #[{ on := 16, ground := Ground.data }], guard := none }) (v := .agg [.int .u32 v0, .int .u32 v1, .int .u32 v2, .int .u32 v3].toArray) rfl (by kernel_rfl) (by kernel_rfl) (by kernel_rfl) (fun _ _ _ h => h) (yieldsIf_load_mid (by rfl) 26 _ rfl sb (so + j * 15 + 11) rfl [.int .u32 v0, .int .u32 v1, .int .u32 v2, .int .u32 v3] _ (fun w1 h m v hm => by rw [Nat.add_assoc]; exact HRG.out w1 h (11 + m) v (four_of_item hm)) Try.underlying26 rfl (info_v4L _ _ _ _)) hHeld ?_
      (try simp only [Act.put, List.setIfInBounds_toArray, List.set_cons_zero, List.set_cons_succ])
      refine wpAnyH_ready (rs := [6]) (by kernel_rfl) (by simp) ?_
      refine AllReadyH.cons (o := { dst := some 17, op := Op.buildSlice 110 0 #[], type := 110, pos := "ref.go:52", after := #[], guard := none }) rfl (fun K hK => ?_) AllReadyH.nil
      go_simp
      refine hK.out _ _ (hHeld.alloc _) (fun hHeld => ?_)
      clear hK K
      (try simp only [Act.put, List.setIfInBounds_toArray, List.set_cons_zero, List.set_cons_succ])
      have HOE := Lib.hid (show (wr.drew.alloc (.cells #[] 26)).ownsRow wr.heap.size 26 4 (.slice (some ⟨wr.heap.size, 0, none⟩) 0 0) 0 [] from own_empty' (Nat.le_refl _) rfl)
      have HUE := Lib.hid (show Upd [] wr (wr.drew.alloc (.cells #[] 26)) from (Upd.refl [] wr).drew.alloc _)
      refine wpAnyH_ready (rs := [12]) (by kernel_rfl) (by simp) ?_
      refine AllReadyH.cons (o := { dst := some 23, op := Op.call { callee := Callee.builtin Builtin.append, args := #[Operand.tmp 17, Operand.tmp 22], argTypes := #[110, 110] }, type := 110, pos := "ref.go:52", after := #[{ on := 6, ground := Ground.data }, { on := 11, ground := Ground.data }], guard := none }) rfl (fun K hK => ?_) AllReadyH.nil
      refine step_append_reads rfl (.tmp 17) (.tmp 22) 110 rfl wr.heap.size 26 iv _ 4 16 Try.underlying110 hiv hy0 hy1 hy2 rfl (by decide) _ 0 [] rfl HOE.out ra row.length rc (row.flatMap V4.cells) rfl (flat_len _) (row_src HIT.out hHeld) HIT.out.none (row_one _) (by have := HRL.out; (try simp only at this); simp only [maxLen]; omega) (by have := HRL.out; (try simp only at this); omega) HUE.out.size ?_
      intro p2 c2 w2 hp2 hown2 hgrow2
      replace hgrow2 : (wr.drew.alloc (.cells #[] 26)).grownBy w2 (Value.slice (some ⟨wr.heap.size, 0, none⟩) 0 0).ownBlock := hgrow2
      have HU2 := Lib.hid (own_start HUE.out HOE.out hgrow2 (Nat.le_refl _))
      simp only [Nat.zero_add, List.nil_append] at hown2 ⊢
      have HR2 := Lib.hid hown2
      clear hown2 hgrow2
      refine hK.out _ _ (HU.out.trans HU2.out) (fun hHeld => ?_)
      clear hK K
      (try simp only [Act.put, List.setIfInBounds_toArray, List.set_cons_zero, List.set_cons_succ])
      refine wpAnyH_take (i := 18) (oi := { dst := some 29, op := Op.build 114 #[(0, Operand.tmp 16), (1, Operand.tmp 23), (2, Operand.tmp 28)], type := 114, pos := "ref.go:52", after := #[{ on := 5, ground := Ground.data }, { on := 12, ground := Ground.data }, { on := 17, ground := Ground.data }], guard := none }) (v := .agg #[.int .i64 k, .int .i64 cap, .int .i64 wd, .int .i64 rt, .int .i64 f, .int .i64 t, .int .u32 i0, .int .u32 i1, .int .u32 i2, .int .u32 i3, .slice p2 row.length c2, .int .u32 v0, .int .u32 v1, .int .u32 v2, .int .u32 v3]) rfl (by kernel_rfl) (by kernel_rfl) (by kernel_rfl) (fun _ _ _ h => h) (Or.inl ⟨by rfl, ?_⟩) hHeld ?_
      · intro w1 hSw
        (try dsimp only at hSw)
        go_simp
      (try simp only [Act.put, List.setIfInBounds_toArray, List.set_cons_zero, List.set_cons_succ])
      refine wpAnyH_ready (rs := [19]) (by kernel_rfl) (by simp) ?_
      refine AllReadyH.cons (o := { dst := some 30, op := Op.buildSlice 35 1 #[(0, Operand.tmp 29)], type := 35, pos := "ref.go:52", after := #[{ on := 18, ground := Ground.data }], guard := none }) rfl (fun K hK => ?_) AllReadyH.nil
      go_simp
      refine hK.out _ _ (hHeld.alloc _) (fun hHeld => ?_)
      clear hK K
      (try simp only [Act.put, List.setIfInBounds_toArray, List.set_cons_zero, List.set_cons_succ])
      have HO5 := Lib.hid (show (w2.alloc (.cells #[.int .i64 k, .int .i64 cap, .int .i64 wd, .int .i64 rt, .int .i64 f, .int .i64 t, .int .u32 i0, .int .u32 i1, .int .u32 i2, .int .u32 i3, .slice p2 row.length c2, .int .u32 v0, .int .u32 v1, .int .u32 v2, .int .u32 v3] 114)).ownsRow w.heap.size 114 15 (.slice va j vc) j (rs'.flatMap IL.cells) from own_upd HOWN.out (HU2.out.alloc _) (by simp))
      have HU5 := Lib.hid (show Upd [] w (w2.alloc (.cells #[.int .i64 k, .int .i64 cap, .int .i64 wd, .int .i64 rt, .int .i64 f, .int .i64 t, .int .u32 i0, .int .u32 i1, .int .u32 i2, .int .u32 i3, .slice p2 row.length c2, .int .u32 v0, .int .u32 v1, .int .u32 v2, .int .u32 v3] 114)) from (HU.out.trans HU2.out).alloc _)
      refine wpAnyH_ready (rs := [20]) (by kernel_rfl) (by simp) ?_
      refine AllReadyH.cons (o := { dst := some 31, op := Op.call { callee := Callee.builtin Builtin.append, args := #[Operand.tmp 11, Operand.tmp 30], argTypes := #[35, 35] }, type := 35, pos := "ref.go:52", after := #[{ on := 0, ground := Ground.data }, { on := 19, ground := Ground.data }, { on := 12, ground := Ground.chain }], guard := none }) rfl (fun K hK => ?_) AllReadyH.nil
      refine step_append_reads rfl (.tmp 11) (.tmp 30) 35 rfl w.heap.size 114 ii _ 15 104 Try.underlying35 hii hz0 hz1 hz2 rfl (by decide) (.slice va j vc) j (rs'.flatMap IL.cells) rfl HO5.out (some ⟨w2.heap.size, 0, none⟩) 1 1 (itA k cap wd rt f t i0 i1 i2 i3 p2 row.length c2 v0 v1 v2 v3).toList rfl rfl (fun _ => ⟨_, 0, rfl, list_srcR (heap_alloc_new w2 _)⟩) (fun h => by cases h) (ritem_one k cap wd rt f t i0 i1 i2 i3 p2 row.length c2 v0 v1 v2 v3) (by have := HL.out; have := HLT.out; simp only [maxLen]; omega) (by have := HL.out; have := HLT.out; omega) HU5.out.size ?_
      intro p3 c3 w3 hp3 hown3 hgrow3
      have HU3 := Lib.hid (own_start HU5.out HO5.out hgrow3 (Nat.le_refl _))
      have HO3 := Lib.hid hown3
      have HG3 := Lib.hid hgrow3
      clear hown3 hgrow3
      refine hK.out _ _ HU3.out (fun hHeld => ?_)
      clear hK K
      (try simp only [Act.put, List.setIfInBounds_toArray, List.set_cons_zero, List.set_cons_succ])
      refine wpAnyH_take (i := 21) (oi := { dst := some 3, op := Op.assign (Operand.tmp 31), type := 35, pos := "ref.go:52", after := #[{ on := 20, ground := Ground.data }, { on := 20, ground := Ground.chain }, { on := 0, ground := Ground.phase }, { on := 1, ground := Ground.phase }, { on := 2, ground := Ground.phase }, { on := 3, ground := Ground.phase }, { on := 4, ground := Ground.phase }, { on := 5, ground := Ground.phase }, { on := 6, ground := Ground.phase }, { on := 7, ground := Ground.phase }, { on := 8, ground := Ground.phase }, { on := 9, ground := Ground.phase }, { on := 10, ground := Ground.phase }, { on := 11, ground := Ground.phase }, { on := 12, ground := Ground.phase }, { on := 13, ground := Ground.phase }, { on := 14, ground := Ground.phase }, { on := 15, ground := Ground.phase }, { on := 16, ground := Ground.phase }, { on := 17, ground := Ground.phase }, { on := 18, ground := Ground.phase }, { on := 19, ground := Ground.phase }, { on := 20, ground := Ground.phase }], guard := none }) (v := .slice p3 (j + 1) c3) rfl (by kernel_rfl) (by kernel_rfl) (by kernel_rfl) (fun _ _ _ h => h) (Or.inl ⟨by rfl, ?_⟩) hHeld ?_
      · intro w1 hSw
        (try dsimp only at hSw)
        go_simp
      (try simp only [Act.put, List.setIfInBounds_toArray, List.set_cons_zero, List.set_cons_succ])
      refine wpAnyH_done (by kernel_rfl) ?_ _
      clear hHeld
      go_wp2
      have HNEW := Lib.hid (show ROwn w.heap.size w2 ⟨⟨⟨k, cap, wd, rt, f, t, i0, i1, i2, i3⟩, row, ⟨v0, v1, v2, v3⟩⟩, p2, c2⟩ from World.ownsRow.mono HR2.out HU.out.size)
      have HALL := Lib.hid (show ∀ r ∈ rs' ++ [⟨⟨⟨k, cap, wd, rt, f, t, i0, i1, i2, i3⟩, row, ⟨v0, v1, v2, v3⟩⟩, p2, c2⟩], ROwn w.heap.size w3 r from fun r hr => by
        have h2 : ROwn w.heap.size (w2.alloc (.cells #[.int .i64 k, .int .i64 cap, .int .i64 wd, .int .i64 rt, .int .i64 f, .int .i64 t, .int .u32 i0, .int .u32 i1, .int .u32 i2, .int .u32 i3, .slice p2 row.length c2, .int .u32 v0, .int .u32 v1, .int .u32 v2, .int .u32 v3] 114)) r := by
          rcases List.mem_append.1 hr with h | h
          · exact (HROWS.out r h).upd (HU2.out.alloc _)
          · simp at h
            subst h
            exact HNEW.out.upd ((Upd.refl [] w2).alloc _)
        exact own_upd h2 (upd_grown HG3.out) (fun k hk hm => by
          rw [Option.mem_toList] at hm
          exact rows_apart HO5.out h2 (by decide) k hk hm))
      go_roundg (rs.length - (j + 1))
      case rel => exact ⟨j + 1, rs' ++ [⟨⟨⟨k, cap, wd, rt, f, t, i0, i1, i2, i3⟩, row, ⟨v0, v1, v2, v3⟩⟩, p2, c2⟩], by have := HLT.out; omega, by first | (rw [HW.out]; done) | (simp; done), by rw [List.flatMap_append, List.flatMap_singleton]; exact HO3.out, by rw [List.map_append, HMAP.out, HMZ.out]; rfl, HALL.out, HU3.out, HDIS.out.snoc HROWS.out (show ROwn wr.heap.size w2 ⟨⟨⟨k, cap, wd, rt, f, t, i0, i1, i2, i3⟩, row, ⟨v0, v1, v2, v3⟩⟩, p2, c2⟩ from HR2.out) (Nat.le_refl _)⟩
      case measure => have := HLT.out; have := HJ.out; omega
    · have hd : decide ((j : Int) < (rs.length : Int)) = false := by simp; omega
      obtain rfl : j = rs.length := by omega
      go_wp2
      go_ret
      exact ⟨_, rs', rfl, HOWN.out, by rw [HMAP.out, List.take_of_length_le (by simp)], HROWS.out, HU.out, HDIS.out⟩
end
end Go.Proofs.Ytdbgnnkbcebpcaa
