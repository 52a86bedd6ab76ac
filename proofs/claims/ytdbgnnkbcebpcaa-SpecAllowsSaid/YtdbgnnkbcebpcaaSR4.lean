/- The document's spec: Do, what its walks share. -/
import Derived.Test.YtdbgnnkbcebpcaaSR3
import Derived.Test.YtdbgnnkbcebpcaaSRB
set_option linter.unusedVariables false
set_option linter.unusedSimpArgs false
namespace Go.Proofs.Ytdbgnnkbcebpcaa
open Go.RowKit

theorem cell_setO {w : World} {g a b : Nat} {v u : Value} (h : a ≠ b) (hc : w.cell? ⟨g, b, none⟩ = some u) : (w.setCell ⟨g, a, none⟩ v).cell? ⟨g, b, none⟩ = some u := by
  unfold World.cell? at hc ⊢
  simp only at hc ⊢
  split at hc
  · rename_i c t f hh
    rw [heap_set hh]
    simpa [Array.getElem?_setIfInBounds, h] using hc
  · cases hc
theorem own_setCell {w : World} {base sz n g cap p : Nat} {e : TypeId} {xs : List Value} (h : w.ownsRow base e sz (.slice (some ⟨g, 0, none⟩) n cap) n xs) (hp : p < xs.length) (v : Value) :
    (w.setCell ⟨g, p, none⟩ v).ownsRow base e sz (.slice (some ⟨g, 0, none⟩) n cap) n (xs.set p v) := by
  refine ⟨by rw [List.length_set]; exact h.1, ?_⟩
  rcases h.2 with ⟨e', _⟩ | ⟨g', cap', cur, e', hb, hh, h1, h2, h3, h4⟩
  · cases e'
  · simp only [Value.slice.injEq, Option.some.injEq, Addr.mk.injEq, and_true, true_and] at e'
    obtain ⟨rfl, rfl⟩ := e'
    refine .inr ⟨g, cap, cur.setIfInBounds p v, rfl, hb, heap_set hh p v, h1, h2, by simpa using h3, ?_⟩
    rw [← h4, Array.toList_setIfInBounds, List.take_set]
theorem flat_set (rs : List IL) (i k : Nat) (z : IL) (v : Value) (hi : i < rs.length) (hk : k < 15) (hz : z.cells = rs[i].cells.set k v) : (rs.set i z).flatMap IL.cells = (rs.flatMap IL.cells).set (i * 15 + k) v := by
  induction rs generalizing i with
  | nil => simp at hi
  | cons r rs ih =>
    cases i with
    | zero =>
      simp only [List.set_cons_zero, List.flatMap_cons, Nat.zero_mul, Nat.zero_add]
      simp only [List.getElem_cons_zero] at hz
      rw [hz, List.set_append_left _ _ (by rw [il_len]; exact hk)]
    | succ i =>
      simp only [List.set_cons_succ, List.flatMap_cons]
      rw [ih i (by simpa using hi) (by simpa using hz), List.set_append_right _ _ (by rw [il_len]; omega), il_len, show (i + 1) * 15 + k - 15 = i * 15 + k by omega]
theorem flat_get15 (rs : List IL) (i : Nat) (hi : i < rs.length) (k : Nat) (v : Value) (h : rs[i].cells[k]? = some v) : (rs.flatMap IL.cells)[i * 15 + k]? = some v := flat_get IL.cells 15 il_len rs i hi k v h
/-- What Copy leaves, seen from one item. -/
structure CPA (w w1 : World) (n i g cap : Nat) (rs' : List IL) (x : IT) (ra : Option Addr) (rc : Nat) : Prop where
  own : w1.ownsRow w.heap.size 114 15 (.slice (some ⟨g, 0, none⟩) n cap) n (rs'.flatMap IL.cells)
  len : rs'.length = n
  lt : i < n
  at_ : ∃ h : i < rs'.length, rs'[i] = ⟨x, ra, rc⟩
  rows : ∀ r ∈ rs', ROwn w.heap.size w1 r
  upd : Upd [] w w1
  dis : Dis rs'
theorem rcopy_at {w : World} {sa : Option Addr} {rs : List IL} (sc i : Nat) (h : SRel w sa rs) (hn : rs.length ≤ 1000) (hrw : ∀ r ∈ rs, r.x.row.length ≤ 64) (hi : i < rs.length) :
    Calls Try.prog 50 #[.slice sa rs.length sc] w fun e w1 => ∃ g cap rs' ra rc, e = .returned (.slice (some ⟨g, 0, none⟩) rs.length cap) ∧ CPA w w1 rs.length i g cap rs' rs[i].x ra rc ∧ rs'.map (·.x) = rs.map (·.x) := by
  refine (rcopy_c sc h hn hrw).mono fun e w1 he => ?_
  obtain ⟨v, rs', rfl, hown, hmap, hrows, hu, hdis⟩ := he
  have hlen : rs'.length = rs.length := by have := congrArg List.length hmap; simpa using this
  obtain ⟨g, cap, rfl, _, _⟩ := own_some hown (by omega)
  have hx : rs'[i].x = rs[i].x := by
    have h1 : (rs'.map (·.x))[i]? = (rs.map (·.x))[i]? := by rw [hmap]
    rw [List.getElem?_map, List.getElem?_map, List.getElem?_eq_getElem (by omega), List.getElem?_eq_getElem hi] at h1
    simpa using h1
  exact ⟨g, cap, rs', rs'[i].ra, rs'[i].rc, rfl, ⟨hown, hlen, hi, ⟨by omega, by rw [← hx]⟩, hrows, hu, hdis⟩, hmap⟩
theorem CPA.cell {w w1 : World} {n i g cap : Nat} {rs' : List IL} {x : IT} {ra : Option Addr} {rc : Nat} (h : CPA w w1 n i g cap rs' x ra rc) (k : Nat) (v : Value) (hv : (IL.cells ⟨x, ra, rc⟩)[k]? = some v) : w1.cell? ⟨g, i * 15 + k, none⟩ = some v := by
  obtain ⟨hl, e⟩ := h.at_
  obtain ⟨a, c, e2, _, hc⟩ := own_shape h.own
  simp only [Value.slice.injEq, true_and] at e2
  obtain ⟨rfl, rfl⟩ := e2
  obtain ⟨b, off, e3, _, hcc⟩ := hc (by have := h.lt; omega)
  simp at e3
  obtain ⟨rfl, rfl⟩ := e3
  have := hcc _ _ (flat_get15 rs' i hl k v (by rw [e]; exact hv))
  rwa [Nat.zero_add] at this
theorem CPA.glt {w w1 : World} {n i g cap : Nat} {rs' : List IL} {x : IT} {ra : Option Addr} {rc : Nat} (h : CPA w w1 n i g cap rs' x ra rc) : w.heap.size ≤ g ∧ g < w1.heap.size := h.own.lt g rfl
theorem CPA.free {w w1 : World} {n i g cap : Nat} {rs' : List IL} {x : IT} {ra : Option Addr} {rc : Nat} (h : CPA w w1 n i g cap rs' x ra rc) (k : Nat) : w1.frozen? ⟨g, k, none⟩ = false := by
  rcases h.own.2 with ⟨e, _⟩ | ⟨g', cap', cur, e, _, hh, _⟩
  · cases e
  · simp only [Value.slice.injEq, Option.some.injEq, Addr.mk.injEq, and_true] at e
    obtain ⟨rfl, _⟩ := e
    exact frozen_of_heap hh k
theorem CPA.row {w w1 : World} {n i g cap : Nat} {rs' : List IL} {x : IT} {ra : Option Addr} {rc : Nat} (h : CPA w w1 n i g cap rs' x ra rc) : ROwn w.heap.size w1 ⟨x, ra, rc⟩ := by
  obtain ⟨hl, e⟩ := h.at_
  rw [← e]
  exact h.rows _ (List.getElem_mem hl)
/-- The state that is handed out: one item turned. -/
theorem so_final {w' : World} {base n g cap i : Nat} {rs' : List IL} {z : IL} (hown : w'.ownsRow base 114 15 (.slice (some ⟨g, 0, none⟩) n cap) n ((rs'.set i z).flatMap IL.cells)) (hn : rs'.length = n)
    (hz : ItemR w' z.x z.ra z.rc) (hi : ∀ m (h : m < rs'.length), m ≠ i → ItemR w' rs'[m].x rs'[m].ra rs'[m].rc) : SRel w' (some ⟨g, 0, none⟩) (rs'.set i z) := by
  have hl : (rs'.set i z).length = n := by simpa using hn
  obtain ⟨a, c, e, _, he⟩ := flat_own IL.cells il_len hown hl.symm
  simp only [Value.slice.injEq] at e
  obtain ⟨rfl, -, -⟩ := e
  refine ⟨he, fun r hr' => ?_⟩
  obtain ⟨m, hm, rfl⟩ := List.getElem_of_mem hr'
  rw [List.getElem_set]
  split
  · exact hz
  · rename_i hne
    exact hi m (by simpa using hm) (fun e => hne e.symm)
theorem flat_setV {rs : List IL} {i : Nat} {o : OBJ} {row : List V4} {v : V4} {ra : Option Addr} {rc : Nat} (hi : i < rs.length) (he : rs[i] = ⟨⟨o, row, v⟩, ra, rc⟩) (a b c d : Int) :
    (rs.set i ⟨⟨o, row, ⟨a, b, c, d⟩⟩, ra, rc⟩).flatMap IL.cells = ((((rs.flatMap IL.cells).set (i * 15 + 11) (.int .u32 a)).set (i * 15 + 11 + 1) (.int .u32 b)).set (i * 15 + 11 + 2) (.int .u32 c)).set (i * 15 + 11 + 3) (.int .u32 d) := by
  have h1 := flat_set rs i 11 ⟨⟨o, row, ⟨a, v.b, v.c, v.d⟩⟩, ra, rc⟩ (.int .u32 a) hi (by omega) (by rw [he]; rfl)
  have h2 := flat_set (rs.set i ⟨⟨o, row, ⟨a, v.b, v.c, v.d⟩⟩, ra, rc⟩) i 12 ⟨⟨o, row, ⟨a, b, v.c, v.d⟩⟩, ra, rc⟩ (.int .u32 b) (by simpa using hi) (by omega) (by rw [List.getElem_set_self]; rfl)
  have h3 := flat_set ((rs.set i ⟨⟨o, row, ⟨a, v.b, v.c, v.d⟩⟩, ra, rc⟩).set i ⟨⟨o, row, ⟨a, b, v.c, v.d⟩⟩, ra, rc⟩) i 13 ⟨⟨o, row, ⟨a, b, c, v.d⟩⟩, ra, rc⟩ (.int .u32 c) (by simpa using hi) (by omega) (by rw [List.getElem_set_self]; rfl)
  have h4 := flat_set (((rs.set i ⟨⟨o, row, ⟨a, v.b, v.c, v.d⟩⟩, ra, rc⟩).set i ⟨⟨o, row, ⟨a, b, v.c, v.d⟩⟩, ra, rc⟩).set i ⟨⟨o, row, ⟨a, b, c, v.d⟩⟩, ra, rc⟩) i 14 ⟨⟨o, row, ⟨a, b, c, d⟩⟩, ra, rc⟩ (.int .u32 d) (by simpa using hi) (by omega) (by rw [List.getElem_set_self]; rfl)
  rw [h3, h2, h1] at h4
  rw [List.set_set, List.set_set, List.set_set] at h4
  exact h4
/-- The end of a call that turns the item's value. -/
theorem rdo_fin {w w0 w1 WG WF : World} {n i g cap : Nat} {rs' : List IL} {x y : IT} {ra : Option Addr} {rc : Nat} {s : List IT} {r : Int × V4} {e : Ending} {xs : List Value} (HA : CPA w0 w1 n i g cap rs' x ra rc) (hw : Upd [] w w0) (hs : w0.heap.size = w.heap.size + 1 + 1)
    (hown : WG.ownsRow w0.heap.size 114 15 (.slice (some ⟨g, 0, none⟩) n cap) n xs) (hxs : xs = (rs'.set i ⟨y, ra, rc⟩).flatMap IL.cells) (hy : y.row = x.row) (hu : Upd [g, w.heap.size + 1] w1 WF) (hu2 : Upd [w.heap.size + 1] WG WF) (hm : rs'.map (·.x) = s)
    (he : e = .returned (.tuple #[.slice (some ⟨g, 0, none⟩) n cap, .agg (resV r)])) : Upd [] w WF ∧ SOut (s.set i y) r e WF := by
  have hgl := HA.glt
  have hU : Upd [] w WF := (hw.trans HA.upd).then hu (fun k hk => .inr (by simp at hk; omega))
  have hown2 := own_upd hown hu2 (fun k hk hm => by
    simp [Value.ownBlock] at hk hm
    omega)
  rw [hxs] at hown2
  have keep : ∀ r, ROwn w0.heap.size w1 r → ROwn w0.heap.size WF r := fun r hr => own_upd hr hu (fun k hk hm => by
    simp at hm
    rcases hm with rfl | rfl
    · exact rows_apart HA.own hr (by decide) _ hk rfl
    · have := own_base hr _ hk; omega)
  refine ⟨hU, some ⟨g, 0, none⟩, cap, _, ?_, so_final hown2 HA.len ?_ (fun m h _ => (keep _ (HA.rows _ (List.getElem_mem h))).item), ?_⟩
  · rw [he, List.length_set, ← hm, List.length_map, HA.len]
  · have h1 := (keep _ HA.row).item
    exact ⟨by rw [hy]; exact h1.els, by rw [hy]; exact h1.lc, h1.cm, h1.none, h1.blk⟩
  · rw [List.map_set, hm]
/-- The end of a call that turns nothing. -/
theorem rdo_same {w WF : World} {sa : Option Addr} {rs : List IL} {sc : Nat} {r : Int × V4} (h : SRel w sa rs) (hu : Upd [] w WF) : Upd [] w WF ∧ SOut (rs.map (·.x)) r (.returned (.tuple #[.slice sa rs.length sc, .agg (resV r)])) WF :=
  ⟨hu, sa, sc, rs, by simp, h.upd hu, rfl⟩
theorem upd2 (w : World) (a b : Obj) : Upd [] w ((w.alloc a).alloc b) := ((Upd.refl [] w).alloc a).alloc b
end Go.Proofs.Ytdbgnnkbcebpcaa
