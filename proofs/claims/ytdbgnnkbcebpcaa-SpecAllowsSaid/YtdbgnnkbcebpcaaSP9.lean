/- Package spec: laws for Do: a row made, stored into its middle; what stays of an item. -/
import Derived.Test.YtdbgnnkbcebpcaaSP678
import Derived.Test.YtdbgnnkbcebpcaaApp
import Derived.Laws.MakeOwn
import Derived.Laws.IdiomCopy
import Derived.Deep.MidRow
set_option linter.unusedVariables false
set_option linter.unusedSimpArgs false
namespace Go.Proofs.Ytdbgnnkbcebpcaa
open Go.RowKit
theorem gr_same (p : Regrown) {X Y : World} (hs : X.heap.size = Y.heap.size) {k : Nat} (h : Y.heap.size ≤ k) : (gr X p).heap[k]? = (gr Y p).heap[k]? := by
  unfold gr Go.Sort.grow redrawn
  simp only [Array.getElem?_append]
  rw [if_neg (by omega), if_neg (by omega), hs]
theorem item_move {w w' : World} {x : IT} {ra : Option Addr} {rc : Nat} (h : ItemR w x ra rc) (hs : w.heap.size ≤ w'.heap.size) (hb : ∀ b, ra.map (·.block) = some b → w'.heap[b]? = w.heap[b]?) : ItemR w' x ra rc :=
  ⟨fun h0 => by
    obtain ⟨b, off, e, hlt, hc⟩ := h.els h0
    subst e
    refine ⟨b, off, rfl, Nat.lt_of_lt_of_le hlt hs, fun i hi j v hv => ?_⟩
    rw [World.cell?_of_block (w := w) (a := ⟨b, _, none⟩) (hb b rfl)]
    exact hc i hi j v hv, h.lc, h.cm, h.none, fun b hb => Nat.lt_of_lt_of_le (h.blk b hb) hs⟩
theorem wpList_make {P : Program} {w : World} {ops : Array Oper} {rest : List Oper} {o : Oper} {a : Act} {Q : Exit → Act → World → Prop} (hgd : o.guard = none) (t : TypeId) (x y : Operand)
    (ho : o.op = .makeSlice t x y) (e : TypeId) (i : TypeInfo) (z : Value) (ht : P.underlying t = some (.slice e)) (hi : P.info? e = some i) (hz : i.zero = some z)
    (sz : Nat) (zc : Array Value) (hsz : i.size = sz) (hzc : z.cells = zc) (n : Nat) (hx : a.eval x = .int .i64 n) (hy : a.eval y = .int .i64 n) (hbytes : i.bytes * n ≤ 281474976710656) (h63 : n ≤ 9223372036854775807)
    (h : wpList P ops Q rest (a.put o.dst (.slice (some ⟨w.heap.size, 0, none⟩) n n)) (w.alloc (.cells (madeCells zc (n * sz)) e))) : wpList P ops Q (o :: rest) a w := by
  subst hsz hzc
  refine wpList_plain hgd fun K hK => ?_
  have hb : (i.bytes : Int) * (n : Int) ≤ 281474976710656 := by
    have h : ((i.bytes * n : Nat) : Int) ≤ 281474976710656 := by omega
    rwa [Int.natCast_mul] at h
  have hrun := run_make (P := P) w t e i z ht hi hz .i64 .i64 n n (by omega) (Int.le_refl _) hb (by omega)
  simp only [Int.toNat_natCast] at hrun
  unfold Oper.wp
  simp only [execOp, ho, hx, hy]
  simp [hx, hy, hrun, Result.andThen]
  exact hK _ _ h
theorem upd_setCells (b : Nat) : ∀ (vs : List Value) (o : Nat) (w : World), Upd [b] w (w.setCells b o vs)
  | [], o, w => Upd.refl _ _
  | v :: vs, o, w => by
    rw [World.setCells]
    exact ((Upd.refl [b] w).setCell (p := ⟨b, o, none⟩) (by simp) v).trans (upd_setCells b vs (o + 1) _)
theorem flatIL_len (rs : List IL) : (rs.flatMap IL.cells).length = rs.length * 15 := by
  induction rs with
  | nil => rfl
  | cons x xs ih => rw [List.flatMap_cons, List.length_append, ih, il_len, List.length_cons]; omega
theorem there_of_heap {w : World} {g : Nat} {cs : Array Value} {t : TypeId} (h : w.heap[g]? = some (.cells cs t (0, 0))) {o n : Nat} (hn : o + n ≤ cs.size) : w.there g o n := fun j hj => by
  rw [cell_of_heap h, frozen_of_heap h]
  exact ⟨by rw [Array.getElem?_eq_getElem (by omega)]; rfl, rfl⟩
/-- A state of which one item has been stored anew, in a copy. -/
theorem srel_turn {wf : World} {rs : List IL} {i gn : Nat} {z : IL} {w4 : World} {t : TypeId} (hi : i < rs.length) (hitems : ∀ r ∈ rs, ItemR wf r.x r.ra r.rc) (hz : ItemR wf z.x z.ra z.rc)
    (hg : w4.heap[gn]? = some (.cells (rs.flatMap IL.cells).toArray t (0, 0))) (hw : wf.heap[gn]? = (w4.setCells gn (i * 15) z.cells).heap[gn]?) : SRel wf (some ⟨gn, 0, none⟩) (rs.set i z) := by
  have hin := World.cell?_setCells_in gn z.cells (i * 15) w4 (fun j hj => by rw [cell_of_heap hg, Array.getElem?_eq_getElem (by rw [List.size_toArray, flatIL_len]; rw [il_len] at hj; omega)]; rfl)
  have hs := Nat.lt_of_lt_of_le (heap_lt hg) (upd_setCells gn z.cells (i * 15) w4).size
  have hlt : gn < wf.heap.size := by
    rw [Array.getElem?_eq_getElem hs] at hw
    exact heap_lt hw
  refine ⟨fun h0 => ⟨gn, 0, rfl, hlt, fun m hm j v hv => ?_⟩, fun r hr => ?_⟩
  · simp only [List.getElem_map, List.getElem_set] at hv
    simp only [List.length_map, List.length_set] at hm
    rw [Nat.zero_add, World.cell?_of_block (w := w4.setCells gn (i * 15) z.cells) (a := ⟨gn, _, none⟩) hw]
    by_cases he : i = m
    · subst he
      rw [if_pos rfl] at hv
      have hj : j < z.cells.length := (List.getElem?_eq_some_iff.1 hv).1
      rw [hin j hj, ← hv, List.getElem?_eq_getElem hj]
    · rw [if_neg he] at hv
      have hj : j < 15 := by have := (List.getElem?_eq_some_iff.1 hv).1; rwa [il_len] at this
      rw [World.cell?_setCells_out gn _ _ _ _ (fun _ _ => by rw [il_len]; simp only; omega), cell_of_heap hg]
      have := flat_get IL.cells 15 il_len rs m hm j v hv
      simpa using this
  · rcases List.mem_or_eq_of_mem_set hr with h | h
    · exact hitems r h
    · rw [h]; exact hz
theorem doneP_o (kind : Int) (x : IT) (c : V4) : (doneP kind x c).1.o = x.o := by
  unfold doneP
  split
  · split <;> rfl
  split
  · split <;> rfl
  (repeat' split) <;> rfl
end Go.Proofs.Ytdbgnnkbcebpcaa
