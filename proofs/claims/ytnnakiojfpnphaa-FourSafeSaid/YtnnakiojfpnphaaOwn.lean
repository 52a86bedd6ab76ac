/- Rows that the call itself made: appended to whole, stored into, read. -/
import Derived.Test.YtnnakiojfpnphaaLaws
import Derived.Laws.AppendOwnNone
import Derived.Deep.Onto
set_option linter.unusedVariables false
set_option linter.unusedSimpArgs false
namespace Go.Proofs.Ytnnakiojfpnphaa
open Go.RowKit

/-- 'append(own, src...)', whatever src is: nil, empty or not. -/
theorem wpList_append_reads {P : Program} {w : World} {ops : Array Oper} {rest : List Oper} {o : Oper} {a : Act} {Q : Exit → Act → World → Prop} (hgd : o.guard = none) (s x : Operand) (t : TypeId)
    (ho : o.op = .call { callee := .builtin .append, args := #[s, x], argTypes := #[t, t] })
    (base : Nat) (e : TypeId) (i : TypeInfo) (z : Value) (size bytes : Nat) (ht : P.underlying t = some (.slice e)) (hi : P.info? e = some i) (hz : i.zero = some z)
    (hsize : i.size = size) (hby : i.bytes = bytes) (hzs : z.cells.size = size) (hsz : 0 < size)
    (v : Value) (n : Nat) (xs : List Value) (hs : a.eval s = v) (hown : w.ownsRow base e size v n xs)
    (sp : Option Addr) (m c : Nat) (news : List Value) (hx : a.eval x = .slice sp m c) (hl : news.length = m * size)
    (hsrc : 0 < m → ∃ b off, sp = some ⟨b, off, none⟩ ∧ ∀ j u, news[j]? = some u → w.cell? ⟨b, off + j, none⟩ = some u) (hnil : sp = none → c = 0) (h1 : ∀ u ∈ news, u.oneCell' = true)
    (h63 : n + m ≤ maxLen) (hbytes : (n + m) * bytes ≤ 140737488355328) (hbase : base ≤ w.heap.size)
    (h : ∀ v' w', w'.ownsRow base e size v' (n + m) (xs ++ news) → w.grownBy w' v.ownBlock → wpList P ops Q rest (a.put o.dst v') w') : wpList P ops Q (o :: rest) a w := by
  rcases sp with _ | ad
  · have hm : m = 0 := by
      apply Nat.eq_zero_of_not_pos
      intro h0
      obtain ⟨b, off, e, _⟩ := hsrc h0
      cases e
    subst hm
    obtain rfl : news = [] := List.eq_nil_of_length_eq_zero (by simpa using hl)
    obtain rfl := hnil rfl
    refine wpList_append_own_none hgd s x t ho base e i size ht hi v n xs hs hown hx (h v w (by simpa using hown) ⟨rfl, rfl, rfl, Nat.le_refl _, fun _ _ _ => rfl⟩)
  · refine wpList_append_own w hgd s x t ho base e i z size bytes ht hi hz hsize hby hzs hsz v n xs hs hown ad m c news hx hl (fun j u hj => ?_) h1 h63 hbytes hbase fun v' w' h1 h2 _ => h v' w' h1 h2
    have h0 : 0 < m := by
      apply Nat.pos_of_ne_zero
      rintro rfl
      obtain rfl : news = [] := List.eq_nil_of_length_eq_zero (by simpa using hl)
      simp at hj
    obtain ⟨b, off, e, hc⟩ := hsrc h0
    obtain rfl : ad = ⟨b, off, none⟩ := by simpa using e
    have := hc j u hj
    unfold Addr.add
    split
    · rename_i hz; subst hz; simpa using this
    · simpa using this

/-- An own row with elements lies at the head of a block. -/
theorem own_some {w : World} {base n size : Nat} {e : TypeId} {v : Value} {xs : List Value} (h : w.ownsRow base e size v n xs) (hn : 0 < n) : ∃ g cap, v = .slice (some ⟨g, 0, none⟩) n cap ∧ base ≤ g ∧ g < w.heap.size := by
  rcases h.2 with ⟨_, rfl⟩ | ⟨g, cap, cur, rfl, hb, hh, _⟩
  · omega
  · exact ⟨g, cap, rfl, hb, heap_lt hh⟩
theorem own_shape {w : World} {base n size : Nat} {e : TypeId} {v : Value} {xs : List Value} (h : w.ownsRow base e size v n xs) : ∃ a cap, v = .slice a n cap ∧ (a = none → cap = 0) ∧ (0 < n → ∃ b off, a = some ⟨b, off, none⟩ ∧ b < w.heap.size ∧ ∀ j u, xs[j]? = some u → w.cell? ⟨b, off + j, none⟩ = some u) := by
  rcases h.2 with ⟨rfl, rfl⟩ | ⟨g, cap, cur, rfl, hb, hh, h1, h2, h3, h4⟩
  · exact ⟨none, 0, rfl, fun _ => rfl, fun h0 => by omega⟩
  · refine ⟨_, cap, rfl, (fun h => by cases h), fun h0 => ⟨g, 0, rfl, heap_lt hh, fun j v hj => ?_⟩⟩
    rw [cell_of_heap hh]
    rw [← h4, List.getElem?_take] at hj
    split at hj
    · simpa using hj
    · cases hj
theorem own_len {w : World} {base n size : Nat} {e : TypeId} {v : Value} {xs : List Value} (h : w.ownsRow base e size v n xs) : n ≤ maxLen := by
  rcases h.2 with ⟨_, rfl⟩ | ⟨g, cap, cur, rfl, hb, hh, h1, h2, _⟩
  · exact Nat.zero_le _
  · omega
theorem own_empty (w : World) (base : Nat) (e : TypeId) (size : Nat) (hb : base ≤ w.heap.size) : (w.alloc (.cells #[] e)).ownsRow base e size (.slice (some ⟨w.heap.size, 0, none⟩) 0 0) 0 [] :=
  ⟨by simp, .inr ⟨_, 0, #[], rfl, hb, heap_alloc_new _ _, by omega, by omega, by simp, by simp⟩⟩
theorem own_empty' {w : World} {base g : Nat} {e : TypeId} {size : Nat} (hb : base ≤ g) (hg : g = w.heap.size) : (w.alloc (.cells #[] e)).ownsRow base e size (.slice (some ⟨g, 0, none⟩) 0 0) 0 [] := by
  subst hg
  exact own_empty w base e size hb
theorem own_start {w w' : World} {v : Value} {base n size : Nat} {e : TypeId} {xs : List Value} (hu : Upd [] w w') (hg : w'.ownsRow base e size v n xs) {w1 : World} (hgr : w'.grownBy w1 v.ownBlock) (hb : w.heap.size ≤ base) : Upd [] w w1 :=
  hu.then (upd_grown hgr) fun i hi => .inr (by
    rw [Option.mem_toList] at hi
    exact Nat.le_trans hb (hg.lt i hi).1)
theorem grown_keep {w' w1 : World} {v : Value} {base n size : Nat} {e : TypeId} {xs : List Value} (hg : w'.ownsRow base e size v n xs) (hgr : w'.grownBy w1 v.ownBlock) {k : Nat} {o : Obj} (hk : w'.heap[k]? = some o) (hb : k < base) : w1.heap[k]? = some o := by
  rw [hgr.block k (heap_lt hk) (fun e => by have := (hg.lt k e.symm).1; omega)]
  exact hk
theorem own_ne {w : World} {base n size : Nat} {e : TypeId} {v : Value} {xs : List Value} (h : w.ownsRow base e size v n xs) {j : Nat} {c : Array Value} {t : TypeId} {f : Nat × Nat} (hj : w.heap[j]? = some (.cells c t f)) (ht : t ≠ e) : v.ownBlock ≠ some j := by
  rcases h.2 with ⟨rfl, rfl⟩ | ⟨g, cap, cur, rfl, hb, hh, _⟩
  · intro e; cases e
  · intro e
    obtain rfl : g = j := by simpa [Value.ownBlock] using e
    rw [hh] at hj
    simp at hj
    exact ht hj.2.1.symm

theorem own_reads {w : World} {base n : Nat} {e : TypeId} {v : Value} {vs : List Value} (h : w.ownsRow base e 1 v n vs) : ∃ a cap, v = .slice a n cap ∧ Reads w a n vs := by
  rcases h.2 with ⟨rfl, rfl⟩ | ⟨g, cap, cur, rfl, hb, hh, h1, h2, h3, h4⟩
  · exact ⟨none, 0, rfl, by simpa using h.1, fun h0 => by omega⟩
  · refine ⟨_, cap, rfl, by simpa using h.1, fun h0 => ⟨g, 0, rfl, heap_lt hh, fun j v hj => ?_⟩⟩
    rw [cell_of_heap hh, ← h4] at *
    rw [List.getElem?_take] at hj
    split at hj
    · simpa using hj
    · cases hj
theorem own_upd {w w' : World} {S : List Nat} {base size n : Nat} {e : TypeId} {v : Value} {vs : List Value} (h : w.ownsRow base e size v n vs) (hu : Upd S w w') (hS : ∀ k, v.ownBlock = some k → k ∉ S) : w'.ownsRow base e size v n vs := by
  refine ⟨h.1, ?_⟩
  rcases h.2 with h2 | ⟨g, cap, cur, rfl, hb, hh, r⟩
  · exact .inl h2
  · exact .inr ⟨g, cap, cur, rfl, hb, hu.keepb hh (hS g rfl), r⟩
theorem own_base {w : World} {base size n : Nat} {e : TypeId} {v : Value} {vs : List Value} (h : w.ownsRow base e size v n vs) : ∀ k, v.ownBlock = some k → base ≤ k := fun k hk => (h.lt k hk).1

end Go.Proofs.Ytnnakiojfpnphaa
