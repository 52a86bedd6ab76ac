/- A row of the call's own that lies anywhere in its block: 'row = row[1:]', 'row = append(row, x)'. -/
import Derived.Test.YtbjeojcnofpgfaaLaws
import Derived.Deep.AppendSrc
import Derived.Laws.AppendOwn
set_option linter.unusedVariables false
set_option linter.unusedSimpArgs false
namespace Go.Proofs.Ytbjeojcnofpgfaa
open Go.RowKit

theorem setCells_upd (g : Nat) : ∀ (vs : List Value) (o : Nat) (w : World), Upd [g] w (w.setCells g o vs)
  | [], _, w => Upd.refl _ _
  | v :: r, o, w => by
    rw [World.setCells]
    exact ((Upd.refl [g] w).setCell (by simp) v).trans (setCells_upd g r (o + 1) _)
theorem setCells_heap (g : Nat) (e : TypeId) (fz : Nat × Nat) : ∀ (vs : List Value) (o : Nat) (w : World) (cur : Array Value), w.heap[g]? = some (.cells cur e fz) → o + vs.length ≤ cur.size →
    ∃ cur', (w.setCells g o vs).heap[g]? = some (.cells cur' e fz) ∧ cur'.size = cur.size ∧ (∀ i, i < o ∨ o + vs.length ≤ i → cur'[i]? = cur[i]?) ∧ (∀ j u, vs[j]? = some u → cur'[o + j]? = some u)
  | [], o, w, cur, hg, _ => ⟨cur, hg, rfl, fun _ _ => rfl, fun j u h => by simp at h⟩
  | v :: r, o, w, cur, hg, hl => by
    simp at hl
    obtain ⟨cur', h1, h2, h3, h4⟩ := setCells_heap g e fz r (o + 1) (w.setCell ⟨g, o, none⟩ v) _ (heap_set hg o v) (by simp; omega)
    refine ⟨cur', h1, by rw [h2]; simp, fun i hi => ?_, fun j u hj => ?_⟩
    · rw [h3 i (by simp at hi; omega)]
      rw [Array.getElem?_setIfInBounds_ne (by simp at hi; omega)]
    · cases j with
      | zero =>
        simp at hj
        subst hj
        rw [h3 _ (by omega)]
        simp [show o < cur.size by omega]
      | succ j =>
        simp at hj
        rw [show o + (j + 1) = o + 1 + j by omega]
        exact h4 j u hj

/-- The slice 'v' of 'n' elements of 'size' cells lies somewhere in a block from 'base' on, its room with it. -/
def RowAt (w : World) (base : Nat) (e : TypeId) (size : Nat) (v : Value) (n : Nat) (xs : List Value) : Prop :=
  xs.length = n * size ∧ ((v = .slice none 0 0 ∧ n = 0) ∨
    ∃ g off cap cur, v = .slice (some ⟨g, off, none⟩) n cap ∧ base ≤ g ∧ w.heap[g]? = some (.cells cur e (0, 0)) ∧ n ≤ cap ∧ off + cap * size ≤ cur.size ∧ ∀ j u, xs[j]? = some u → cur[off + j]? = some u)
theorem RowAt.empty (w : World) (base : Nat) (e : TypeId) (size : Nat) : RowAt w base e size (.slice none 0 0) 0 [] := ⟨by simp, .inl ⟨rfl, rfl⟩⟩
theorem RowAt.keep {w w' : World} {base size n : Nat} {e : TypeId} {v : Value} {xs : List Value} (h : RowAt w base e size v n xs) {S : List Nat} (hu : Upd S w w') (hS : ∀ k, v.ownBlock = some k → k ∉ S) : RowAt w' base e size v n xs := by
  refine ⟨h.1, ?_⟩
  rcases h.2 with h2 | ⟨g, off, cap, cur, rfl, hb, hg, r⟩
  · exact .inl h2
  · exact .inr ⟨g, off, cap, cur, rfl, hb, hu.keepb hg (hS g rfl), r⟩
theorem RowAt.block {w : World} {base size n : Nat} {e : TypeId} {v : Value} {xs : List Value} (h : RowAt w base e size v n xs) {k : Nat} (hk : v.ownBlock = some k) : base ≤ k ∧ k < w.heap.size ∧ ∃ cur, w.heap[k]? = some (.cells cur e (0, 0)) := by
  rcases h.2 with ⟨rfl, _⟩ | ⟨g, off, cap, cur, rfl, hb, hg, r⟩
  · simp [Value.ownBlock] at hk
  · simp [Value.ownBlock] at hk
    subst hk
    exact ⟨hb, heap_lt hg, cur, hg⟩
theorem RowAt.full {w : World} {base size n : Nat} {e : TypeId} {v : Value} {xs : List Value} (h : RowAt w base e size v n xs) (hn : 0 < n) : ∃ g off cap, v = .slice (some ⟨g, off, none⟩) n cap ∧ base ≤ g ∧ g < w.heap.size ∧ n ≤ cap ∧ ∀ j u, xs[j]? = some u → w.cell? ⟨g, off + j, none⟩ = some u := by
  rcases h.2 with ⟨rfl, h0⟩ | ⟨g, off, cap, cur, rfl, hb, hg, hc, hr, hx⟩
  · omega
  · refine ⟨g, off, cap, rfl, hb, heap_lt hg, hc, fun j u hj => ?_⟩
    rw [cell_of_heap hg]
    exact hx j u hj
theorem RowAt.shape {w : World} {base size n : Nat} {e : TypeId} {v : Value} {xs : List Value} (h : RowAt w base e size v n xs) : ∃ a cap, v = .slice a n cap := by
  rcases h.2 with ⟨rfl, rfl⟩ | ⟨g, off, cap, cur, rfl, _⟩
  · exact ⟨_, _, rfl⟩
  · exact ⟨_, _, rfl⟩
/-- 'row[1:]'. -/
theorem RowAt.tail {w : World} {base size n g off cap : Nat} {e : TypeId} {xs : List Value} (h : RowAt w base e size (.slice (some ⟨g, off, none⟩) (n + 1) cap) (n + 1) xs) (a : Option Addr) (m : Nat) (hm : m = cap - 1) (ha : a = some ⟨g, if cap = 1 then off else off + size, none⟩) :
    RowAt w base e size (.slice a n m) n (xs.drop size) := by
  refine ⟨by rw [List.length_drop, h.1, Nat.add_mul]; omega, ?_⟩
  rcases h.2 with ⟨h0, _⟩ | ⟨g', off', cap', cur, he, hb, hg, hc, hr, hx⟩
  · cases h0
  · simp only [Value.slice.injEq, Option.some.injEq, Addr.mk.injEq, true_and, and_true] at he
    obtain ⟨⟨rfl, rfl⟩, rfl⟩ := he
    subst hm
    refine .inr ⟨g, _, cap - 1, cur, by rw [ha], hb, hg, by omega, ?_, fun j u hj => ?_⟩
    · split
      · rename_i h1; subst h1; simp at hr ⊢; omega
      · rename_i h1
        have : cap * size = (cap - 1) * size + size := by rw [← Nat.succ_mul]; congr 1; omega
        omega
    · rw [List.getElem?_drop] at hj
      split
      · rename_i h1
        have hn : n = 0 := by omega
        subst hn
        have := (List.getElem?_eq_some_iff.1 hj).1
        rw [h.1] at this
        omega
      · rw [Nat.add_assoc]
        exact hx _ u hj

theorem wpList_append_at {P : Program} {w : World} {ops : Array Oper} {rest : List Oper} {o : Oper} {a : Act} {Q : Exit → Act → World → Prop} (hgd : o.guard = none) (s x : Operand) (t : TypeId)
    (ho : o.op = .call { callee := .builtin .append, args := #[s, x], argTypes := #[t, t] })
    (base : Nat) (e : TypeId) (i : TypeInfo) (z : Value) (size bytes : Nat) (ht : P.underlying t = some (.slice e)) (hi : P.info? e = some i) (hz : i.zero = some z)
    (hsize : i.size = size) (hby : i.bytes = bytes) (hzs : z.cells.size = size) (hsz : 0 < size)
    (v : Value) (n : Nat) (xs : List Value) (hs : a.eval s = v) (hrow : RowAt w base e size v n xs)
    (b f c : Nat) (news : List Value) (hx : a.eval x = .slice (some ⟨b, f, none⟩) 1 c) (hl : news.length = size) (hnews : ∀ j u, news[j]? = some u → w.cell? ⟨b, f + j, none⟩ = some u) (h1 : ∀ u ∈ news, u.oneCell' = true)
    (hn : n < 100000) (hb16 : bytes ≤ 1000) (hbase : base ≤ w.heap.size)
    (h : ∀ v' w', RowAt w' base e size v' (n + 1) (xs ++ news) → Upd v.ownBlock.toList w w' → (∀ k, v'.ownBlock = some k → v.ownBlock = some k ∨ w.heap.size ≤ k) → wpList P ops Q rest (a.put o.dst v') w') : wpList P ops Q (o :: rest) a w := by
  refine wpList_plain hgd fun K hK' => ?_
  subst hsize
  subst hby
  have hadd : ∀ j, (⟨b, f, none⟩ : Addr).add j = ⟨b, f + j, none⟩ := fun j => by unfold Addr.add; split <;> simp_all
  have hnews' : ∀ j u, news[j]? = some u → w.cell? ((⟨b, f, none⟩ : Addr).add j) = some u := fun j u hj => by rw [hadd]; exact hnews j u hj
  have hl1 : news.length = 1 * i.size := by omega
  have hsrc := Src.ofSlice (P := P) w (size := i.size) (tx := t) (e' := e) ht ⟨b, f, none⟩ 1 c news hl1 hnews' h1
  have hlen : (xs ++ news).length = (n + 1) * i.size := by rw [List.length_append, hrow.1, hl, Nat.succ_mul]
  suffices hrun : ∃ v' w', (Builtin.append_ #[t, t] o.type #[v, .slice (some ⟨b, f, none⟩) 1 c]).run P w = .ok v' w' ∧ RowAt w' base e i.size v' (n + 1) (xs ++ news) ∧ Upd v.ownBlock.toList w w' ∧ (∀ k, v'.ownBlock = some k → v.ownBlock = some k ∨ w.heap.size ≤ k) by
    obtain ⟨v', w', hr, r1, r2, r3⟩ := hrun
    unfold Oper.wp
    simp [execOp, ho, resolve, invoke, builtin, hs, hx, hr, Result.andThen]
    exact hK' _ _ (h v' w' r1 r2 r3)
  have grown : ∀ (old : Nat) (olds : List Value), olds = xs → RowAt (w.drew.alloc (.cells (olds.toArray ++ news.toArray ++ Builtin.zeroCells z.cells (grownCap w (n + 1) old e - (n + 1))) e)) base e i.size (.slice (some ⟨w.heap.size, 0, none⟩) (n + 1) (grownCap w (n + 1) old e)) (n + 1) (xs ++ news) := by
    intro old olds ho
    subst ho
    have hge := grownCap_ge w (n + 1) old e
    refine ⟨hlen, .inr ⟨w.heap.size, 0, _, _, rfl, hbase, heap_alloc_new w.drew _, hge, ?_, fun j u hj => ?_⟩⟩
    · simp only [Array.size_append, List.size_toArray, size_zeroCells, hzs, hrow.1, hl]
      have : grownCap w (n + 1) old e * i.size = (n + 1) * i.size + (grownCap w (n + 1) old e - (n + 1)) * i.size := by rw [← Nat.add_mul]; congr 1; omega
      rw [Nat.zero_add, this, Nat.succ_mul]
      exact Nat.le_refl _
    · have hj' := (List.getElem?_eq_some_iff.1 hj).1
      rw [Nat.zero_add, Array.getElem?_append_left (by simpa using hj')]
      simpa using hj
  rcases hrow.2 with ⟨rfl, rfl⟩ | ⟨g, off, cap, cur, rfl, hb, hg, hc, hr, hx'⟩
  · have hx0 : xs = [] := List.eq_nil_of_length_eq_zero (by simpa using hrow.1)
    subst hx0
    have hr := run_append_nil (P := P) w t o.type e i z ht hi hz ⟨b, f, none⟩ 1 c news hl1 hnews' (by omega) (by omega) (by omega)
    refine ⟨_, _, hr, by simpa using grown 0 [] rfl, ((Upd.refl _ _).drew).alloc _, fun k hk => .inr ?_⟩
    simp [Value.ownBlock] at hk
    omega
  · by_cases hroom : n + 1 ≤ cap
    · have hfit : (n + 1) * i.size ≤ cap * i.size := Nat.mul_le_mul_right _ hroom
      rw [Nat.succ_mul] at hfit
      have hr2 := run_append_room_src (P := P) w t t o.type e i ht hi g off n cap (.slice (some ⟨b, f, none⟩) 1 c) 1 news hsrc hroom
        (fun j hj => by rw [cell_of_heap hg, Array.getElem?_eq_getElem (by omega)]; rfl) (fun j hj => frozen_of_heap hg _)
      obtain ⟨cur', q1, q2, q3, q4⟩ := setCells_heap g e (0, 0) news (off + n * i.size) w cur hg (by omega)
      refine ⟨_, _, hr2, ⟨hlen, .inr ⟨g, off, cap, cur', rfl, hb, q1, hroom, by omega, fun j u hj => ?_⟩⟩, by simpa [Value.ownBlock] using setCells_upd g news (off + n * i.size) w, fun k hk => .inl hk⟩
      by_cases hjl : j < xs.length
      · rw [List.getElem?_append_left hjl] at hj
        rw [q3 _ (.inl (by rw [hrow.1] at hjl; omega))]
        exact hx' j u hj
      · rw [List.getElem?_append_right (by omega)] at hj
        have := q4 _ u hj
        rw [show off + n * i.size + (j - xs.length) = off + j by rw [hrow.1] at hjl ⊢; omega] at this
        exact this
    · have hadd2 : ∀ j, (⟨g, off, none⟩ : Addr).add j = ⟨g, off + j, none⟩ := fun j => by unfold Addr.add; split <;> simp_all
      have hcn : cap = n := by omega
      have hfit : Builtin.nextslicecap (n + 1) cap * i.bytes ≤ 281474976710656 := by
        have h2 := nextslicecap_le (need := n + 1) (old := cap) (by omega)
        have h3 : Builtin.nextslicecap (n + 1) cap * i.bytes ≤ (2 * (n + 1)) * 1000 := Nat.mul_le_mul h2 hb16
        omega
      have hr2 := run_append_grow (P := P) w t o.type e i z ht hi hz ⟨g, off, none⟩ n cap xs hrow.1 (fun j u hj => by rw [hadd2, cell_of_heap hg]; exact hx' j u hj) ⟨b, f, none⟩ 1 c news hl1 hnews' (by omega) (by omega) hfit
      refine ⟨_, _, hr2, grown cap xs rfl, ((Upd.refl _ _).drew).alloc _, fun k hk => .inr ?_⟩
      simp [Value.ownBlock] at hk
      omega
end Go.Proofs.Ytbjeojcnofpgfaa
