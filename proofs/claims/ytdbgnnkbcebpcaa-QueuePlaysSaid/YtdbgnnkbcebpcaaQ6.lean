/- Package queue: the ring behind Add and Remove. -/
import Derived.Test.YtdbgnnkbcebpcaaQ5
set_option linter.unusedVariables false
set_option linter.unusedSimpArgs false
namespace Go.Proofs.Ytdbgnnkbcebpcaa
open Go.RowKit

theorem QL.blk {w : World} {q : Nat} {xs : List QN} (h : QL w q xs) {k : Nat} (hk : k ∈ q :: xs.map QN.b) : ∃ (c : Array Value) (t : TypeId), w.heap[k]? = some (.cells c t (0, 0)) ∧ 6 ≤ c.size := by
  rcases List.mem_cons.1 hk with rfl | hk
  · obtain ⟨va, vn, hh, _⟩ := h.hd
    exact ⟨_, _, hh, by simp⟩
  · obtain ⟨x, hx, rfl⟩ := List.mem_map.1 hk
    obtain ⟨va, vn, hh⟩ := h.seg.mem hx
    exact ⟨_, _, hh, by simp⟩
theorem QL.lnk {w : World} {q : Nat} {xs : List QN} (h : QL w q xs) {k : Nat} (hk : k ∈ q :: xs.map QN.b) (i : Nat) (hi : i < 6) : (∃ v, w.cell? ⟨k, i, none⟩ = some v) ∧ w.frozen? ⟨k, i, none⟩ = false := by
  obtain ⟨c, t, hh, hs⟩ := h.blk hk
  refine ⟨⟨c[i]'(by omega), ?_⟩, frozen_of_heap hh i⟩
  rw [cell_of_heap hh]
  simp
/-- A store into a link. -/
theorem heap_set_ne (w : World) {k a i : Nat} (v : Value) (h : k ≠ a) {o : Option Obj} (ho : w.heap[k]? = o) : (w.setCell ⟨a, i, none⟩ v).heap[k]? = o := (heap_set_other w i v h).trans ho
theorem QL.remove {w : World} {q : Nat} {pre rest : List QN} {x : QN} (h : QL w q (pre ++ x :: rest)) :
    QL (((w.setCell ⟨qlast q pre, 5, none⟩ (qptr (qhd q rest))).setCell ⟨qhd q rest, 4, none⟩ (qptr (qlast q pre))).setCell ⟨q, 6, none⟩ (.int .i64 (pre ++ rest).length)) q (pre ++ rest) := by
  obtain ⟨va, vn, hh, he⟩ := h.hd
  obtain ⟨rfl, rfl⟩ := he (by simp)
  obtain ⟨hp, hx, hr⟩ := QSeg.split.1 h.seg
  have hnd := h.nodup
  simp only [List.map_append, List.map_cons, List.nodup_cons, List.nodup_append, List.mem_append, List.mem_cons, List.mem_map, not_or, not_exists, not_and] at hnd
  obtain ⟨⟨hqp, hqx, hqr⟩, hndp, ⟨hxr, hndr⟩, hpx⟩ := hnd
  have hnd2 : (q :: (pre ++ rest).map QN.b).Nodup := by
    have := h.nodup
    refine List.Nodup.sublist ?_ this
    simp
  have hpr : ∀ y ∈ pre, ∀ z ∈ rest, y.b ≠ z.b := fun y hy z hz e => hpx y.b ⟨y, hy, rfl⟩ z.b (.inr ⟨z, hz, rfl⟩) e
  have hq1 : ∀ y ∈ pre, y.b ≠ q := fun y hy e => hqp y hy e
  have hq2 : ∀ y ∈ rest, y.b ≠ q := fun y hy e => hqr y hy e
  have hl : qhd q rest = q ∨ ∃ z r, rest = z :: r ∧ qhd q rest = z.b := by cases rest with
    | nil => exact .inl rfl
    | cons z r => exact .inr ⟨z, r, rfl, rfl⟩
  have hf : qlast q pre = q ∨ ∃ l y, pre = l ++ [y] ∧ qlast q pre = y.b := by
    rcases List.eq_nil_or_concat pre with rfl | ⟨l, y, rfl⟩
    · exact .inl rfl
    · rw [List.concat_eq_append]; exact .inr ⟨l, y, rfl, qlast_append _ _ _⟩
  have hB1 : ∀ y ∈ pre, y.b ≠ qhd q rest := fun y hy => by
    rcases hl with e | ⟨z, r, e1, e⟩
    · rw [e]; exact hq1 y hy
    · rw [e]; exact hpr y hy z (by rw [e1]; simp)
  have hA1 : ∀ y ∈ rest, y.b ≠ qlast q pre := fun y hy => by
    rcases hf with e | ⟨l, z, e1, e⟩
    · rw [e]; exact hq2 y hy
    · rw [e]; exact (hpr z (by rw [e1]; simp) y hy).symm
  refine ⟨?_, QSeg.split.2 ⟨?_, ?_⟩, hnd2⟩
  · -- the head
    have key : ∀ (a n : Value), (((w.setCell ⟨qlast q pre, 5, none⟩ (qptr (qhd q rest))).setCell ⟨qhd q rest, 4, none⟩ (qptr (qlast q pre))).heap[q]? = some (.cells #[.int .i64 0, .int .i64 0, .int .i64 0, .int .u32 0, a, n, .int .i64 (pre ++ x :: rest).length] 56)) →
        ((pre ++ rest ≠ []) → a = qptr (qlast q (pre ++ rest)) ∧ n = qptr (qhd q (pre ++ rest))) → ∃ va vn, (((w.setCell ⟨qlast q pre, 5, none⟩ (qptr (qhd q rest))).setCell ⟨qhd q rest, 4, none⟩ (qptr (qlast q pre))).setCell ⟨q, 6, none⟩ (.int .i64 (pre ++ rest).length)).heap[q]? = some (.cells #[.int .i64 0, .int .i64 0, .int .i64 0, .int .u32 0, va, vn, .int .i64 (pre ++ rest).length] 56) ∧ (pre ++ rest ≠ [] → va = qptr (qlast q (pre ++ rest)) ∧ vn = qptr (qhd q (pre ++ rest))) := by
      intro a n h1 h2
      exact ⟨a, n, by rw [heap_set h1]; rfl, h2⟩
    rcases hf with e | ⟨l, y, e1, e⟩ <;> rcases hl with e' | ⟨z, r, e1', e'⟩
    · refine key (qptr q) (qptr q) ?_ ?_
      · rw [e, e']
        have h1 := heap_set hh 5 (qptr q)
        rw [heap_set h1]; rfl
      · intro hne
        exfalso
        have hp0 : pre = [] := by
          rcases List.eq_nil_or_concat pre with h0 | ⟨l, y, h0⟩
          · exact h0
          · rw [h0, List.concat_eq_append, qlast_append] at e
            exact absurd e (hq1 y (by rw [h0]; simp))
        have hr0 : rest = [] := by
          cases rest with
          | nil => rfl
          | cons z r => exact absurd e' (hq2 z (by simp))
        rw [hp0, hr0] at hne
        exact hne rfl
    · have hp0 : pre = [] := by
        rcases List.eq_nil_or_concat pre with h0 | ⟨l, y, h0⟩
        · exact h0
        · rw [h0, List.concat_eq_append, qlast_append] at e
          exact absurd e (hq1 y (by rw [h0]; simp))
      refine key (qptr (qlast q (pre ++ x :: rest))) (qptr z.b) ?_ ?_
      · rw [e, e']
        rw [heap_set_other _ _ _ (fun e2 => hq2 z (by rw [e1']; simp) e2.symm), heap_set hh]; rfl
      · intro _
        rw [hp0, e1']
        exact ⟨rfl, rfl⟩
    · have hr0 : rest = [] := by
        cases rest with
        | nil => rfl
        | cons z r => exact absurd e' (hq2 z (by simp))
      refine key (qptr y.b) (qptr (qhd q (pre ++ x :: rest))) ?_ ?_
      · rw [e, e']
        have h1 : (w.setCell ⟨y.b, 5, none⟩ (qptr q)).heap[q]? = _ := (heap_set_other w 5 _ (fun e2 => hq1 y (by rw [e1]; simp) e2.symm)).trans hh
        rw [heap_set h1]; rfl
      · intro _
        rw [hr0, e1]
        refine ⟨by rw [List.append_nil, qlast_append], ?_⟩
        cases l <;> rfl
    · refine key (qptr (qlast q (pre ++ x :: rest))) (qptr (qhd q (pre ++ x :: rest))) ?_ ?_
      · rw [e, e', heap_set_other _ _ _ (fun e2 => hq2 z (by rw [e1']; simp) e2.symm), heap_set_other _ _ _ (fun e2 => hq1 y (by rw [e1]; simp) e2.symm)]
        exact hh
      · intro _
        rw [e1, e1']
        refine ⟨?_, ?_⟩
        · rw [qlast_app q (l ++ [y]) (x :: z :: r), qlast_app q (l ++ [y]) (z :: r)]; rfl
        · cases l <;> rfl
  · refine QSeg.frame (w := w.setCell ⟨qlast q pre, 5, none⟩ (qptr (qhd q rest))) ?_ fun y hy => ?_
    · rcases hf with e | ⟨l, y, e1, e⟩
      · have hp0 : pre = [] := by
          rcases List.eq_nil_or_concat pre with h0 | ⟨l, y, h0⟩
          · exact h0
          · rw [h0, List.concat_eq_append, qlast_append] at e
            exact absurd e (hq1 y (by rw [h0]; simp))
        rw [hp0]
        trivial
      · rw [e]
        rw [e1] at hp ⊢
        refine QSeg.setNext hp ?_ _
        intro z hz e2
        rw [e1, List.map_append] at hndp
        exact (List.nodup_append.1 hndp).2.2 z.b (List.mem_map.2 ⟨z, hz, rfl⟩) y.b (by simp) e2
    · rw [heap_set_other _ _ _ (hq1 y hy), heap_set_other _ _ _ (hB1 y hy)]
  · have h1 : QSeg ((w.setCell ⟨qlast q pre, 5, none⟩ (qptr (qhd q rest))).setCell ⟨qhd q rest, 4, none⟩ (qptr (qlast q pre))) q (qlast q pre) rest := by
      have h0 := hr.frame (w' := w.setCell ⟨qlast q pre, 5, none⟩ (qptr (qhd q rest))) fun y hy => heap_set_other _ _ _ (hA1 y hy)
      cases rest with
      | nil => trivial
      | cons z r =>
        refine QSeg.setAhead h0 ?_ _
        intro y hy e2
        simp at hndr
        exact hndr.1 y hy e2
    exact h1.frame fun y hy => heap_set_other _ _ _ (hq2 y hy)

/-- The ring of none, laid: the queue's own link points to itself. -/
theorem QL.own {w : World} {q : Nat} (h : QL w q []) : QL ((w.setCell ⟨q, 4, none⟩ (qptr q)).setCell ⟨q, 5, none⟩ (qptr q)) q [] := by
  obtain ⟨va, vn, hh, he⟩ := h.hd
  have h1 := heap_set hh 4 (qptr q)
  exact ⟨⟨qptr q, qptr q, by rw [heap_set h1]; rfl, fun h => absurd rfl h⟩, trivial, h.nodup⟩
theorem QL.add {w : World} {q : Nat} {xs : List QN} (h : QL w q xs) (hown : ∃ va vn n, w.heap[q]? = some (.cells #[.int .i64 0, .int .i64 0, .int .i64 0, .int .u32 0, va, vn, n] 56) ∧ va = qptr (qlast q xs) ∧ vn = qptr (qhd q xs)) (x : QW) :
    QL ((((w.setCell ⟨qlast q xs, 5, none⟩ (qptr w.heap.size)).setCell ⟨q, 4, none⟩ (qptr w.heap.size)).setCell ⟨q, 6, none⟩ (.int .i64 (xs.length + 1 : Nat))).alloc (.cells #[.int .i64 x.t, .int .i64 x.k, .int .i64 x.o, .int .u32 x.m, qptr (qlast q xs), qptr q] 54)) q (xs ++ [⟨w.heap.size, x⟩]) := by
  obtain ⟨va, vn, n, hh, rfl, rfl⟩ := hown
  have hlt := h.lt
  have hnd := h.nodup
  have hndl : (q :: (xs ++ [QN.mk w.heap.size x]).map QN.b).Nodup := by
    simp only [List.map_append, List.map_cons, List.map_nil, List.nodup_cons, List.nodup_append, List.mem_append, List.mem_singleton, not_or] at hnd ⊢
    refine ⟨⟨hnd.1, fun e => ?_⟩, hnd.2, by simp, ?_⟩
    · have := hlt q (by simp); omega
    · rintro a ha b rfl e
      have := hlt a (List.mem_cons_of_mem _ ha); omega
  have hq1 : ∀ y ∈ xs, y.b ≠ q := fun y hy e => (List.nodup_cons.1 hnd).1 (by rw [← e]; exact List.mem_map.2 ⟨y, hy, rfl⟩)
  have hf : qlast q xs = q ∨ ∃ l y, xs = l ++ [y] ∧ qlast q xs = y.b := by
    rcases List.eq_nil_or_concat xs with rfl | ⟨l, y, rfl⟩
    · exact .inl rfl
    · rw [List.concat_eq_append]; exact .inr ⟨l, y, rfl, qlast_append _ _ _⟩
  have hsz : ((((w.setCell ⟨qlast q xs, 5, none⟩ (qptr w.heap.size)).setCell ⟨q, 4, none⟩ (qptr w.heap.size)).setCell ⟨q, 6, none⟩ (.int .i64 (xs.length + 1 : Nat)))).heap.size = w.heap.size := by simp [size_setCell]
  refine ⟨?_, QSeg.split.2 ⟨?_, ?_, trivial⟩, hndl⟩
  · refine ⟨qptr w.heap.size, qptr (qhd w.heap.size xs), ?_, fun _ => ⟨by rw [qlast_append], by rw [qhd_app]; rfl⟩⟩
    apply heap_alloc'
    rcases hf with e | ⟨l, y, e1, e⟩
    · rw [e]
      have h1 := heap_set hh 5 (qptr w.heap.size)
      have h2 := heap_set h1 4 (qptr w.heap.size)
      rw [heap_set h2]
      have hx0 : xs = [] := by
        rcases List.eq_nil_or_concat xs with h0 | ⟨l, y, h0⟩
        · exact h0
        · rw [h0, List.concat_eq_append, qlast_append] at e
          exact absurd e (hq1 y (by rw [h0]; simp))
      subst hx0
      rfl
    · rw [e]
      have h1 : (w.setCell ⟨y.b, 5, none⟩ (qptr w.heap.size)).heap[q]? = _ := (heap_set_other w 5 _ (fun e2 => hq1 y (by rw [e1]; simp) e2.symm)).trans hh
      have h2 := heap_set h1 4 (qptr w.heap.size)
      rw [heap_set h2]
      have : qhd w.heap.size xs = qhd q xs := by rw [e1]; cases l <;> rfl
      rw [this]
      simp
  · refine QSeg.frame (w := w.setCell ⟨qlast q xs, 5, none⟩ (qptr w.heap.size)) ?_ fun y hy => ?_
    · show QSeg _ w.heap.size q xs
      rcases hf with e | ⟨l, y, e1, e⟩
      · have hx0 : xs = [] := by
          rcases List.eq_nil_or_concat xs with h0 | ⟨l, y, h0⟩
          · exact h0
          · rw [h0, List.concat_eq_append, qlast_append] at e
            exact absurd e (hq1 y (by rw [h0]; simp))
        rw [hx0]
        trivial
      · rw [e]
        have hs := h.seg
        rw [e1] at hs ⊢
        refine QSeg.setNext hs ?_ _
        intro z hz e2
        have := (List.nodup_cons.1 hnd).2
        rw [e1, List.map_append] at this
        exact (List.nodup_append.1 this).2.2 z.b (List.mem_map.2 ⟨z, hz, rfl⟩) y.b (by simp) e2
    · rw [heap_alloc_other _ _ (by rw [hsz]; exact hlt y.b (List.mem_cons_of_mem _ (List.mem_map.2 ⟨y, hy, rfl⟩))), heap_set_other _ _ _ (hq1 y hy), heap_set_other _ _ _ (hq1 y hy)]
  · exact heap_alloc_at _ hsz.symm
theorem QL.addUpd {w : World} {q : Nat} {xs : List QN} (h : QL w q xs) (x : QW) (v : Value) :
    Upd (q :: xs.map QN.b) w ((((w.setCell ⟨qlast q xs, 5, none⟩ (qptr w.heap.size)).setCell ⟨q, 4, none⟩ (qptr w.heap.size)).setCell ⟨q, 6, none⟩ v).alloc (.cells #[.int .i64 x.t, .int .i64 x.k, .int .i64 x.o, .int .u32 x.m, qptr (qlast q xs), qptr q] 54)) :=
  ((((Upd.refl _ w).setB (.inl (by rcases qlast_mem q xs with e | e <;> simp [e]))).setB (.inl (by simp))).setB (.inl (by simp))).alloc _
end Go.Proofs.Ytdbgnnkbcebpcaa
