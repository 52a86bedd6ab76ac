/- append onto a row of the call's own, at a step of a region that draws its order, whatever is appended. -/
import Derived.Test.YtnnakiojfpnphaaOwn
import Derived.Deep.AppendLies
import Derived.Deep.RegionHeld3
set_option linter.unusedVariables false
set_option linter.unusedSimpArgs false
namespace Go.Proofs.Ytnnakiojfpnphaa
open Go.RowKit

theorem cell_allocE {w : World} {p : Addr} {v : Value} {o : Obj} (h : w.cell? p = some v) : (w.alloc o).cell? p = some v := by
  have hp : p.block < w.heap.size := by
    apply Nat.lt_of_not_le
    intro hp
    have : w.heap[p.block]? = none := Array.getElem?_eq_none hp
    simp [World.cell?, this] at h
  exact (World.cell?_of_block (w := w) (heap_alloc_other w o hp)).trans h
theorem cell_drewE {w : World} {p : Addr} {v : Value} (h : w.cell? p = some v) : w.drew.cell? p = some v := h
theorem cell_drewNE {w : World} {p : Addr} {v : Value} {n : Nat} (h : w.cell? p = some v) : (w.drewN n).cell? p = some v := h
theorem cell_setE {w : World} {g i p j : Nat} {v u : Value} (h : g ≠ p) (hc : w.cell? ⟨p, j, none⟩ = some u) : (w.setCell ⟨g, i, none⟩ v).cell? ⟨p, j, none⟩ = some u :=
  (World.cell?_of_block (w := w) (heap_set_other w i v (fun e => h e.symm))).trans hc

theorem wp_append_reads {P : Program} {w : World} {o : Oper} {a : Act} {K : Act → World → Prop} {Q : Exit → Act → World → Prop} (s x : Operand) (t : TypeId)
    (ho : o.op = .call { callee := .builtin .append, args := #[s, x], argTypes := #[t, t] })
    (base : Nat) (e : TypeId) (i : TypeInfo) (z : Value) (size bytes : Nat) (ht : P.underlying t = some (.slice e)) (hi : P.info? e = some i) (hz : i.zero = some z)
    (hsize : i.size = size) (hby : i.bytes = bytes) (hzs : z.cells.size = size) (hsz : 0 < size)
    (v : Value) (n : Nat) (xs : List Value) (hs : a.eval s = v) (hown : w.ownsRow base e size v n xs)
    (sp : Option Addr) (m c : Nat) (news : List Value) (hx : a.eval x = .slice sp m c) (hl : news.length = m * size)
    (hsrc : 0 < m → ∃ b off, sp = some ⟨b, off, none⟩ ∧ ∀ j u, news[j]? = some u → w.cell? ⟨b, off + j, none⟩ = some u) (hnil : sp = none → c = 0) (h1 : ∀ u ∈ news, u.oneCell' = true)
    (h63 : n + m ≤ maxLen) (hbytes : (n + m) * bytes ≤ 140737488355328) (hbase : base ≤ w.heap.size)
    (h : ∀ p cap w', (p = none → cap = 0) → w'.ownsRow base e size (.slice p (n + m) cap) (n + m) (xs ++ news) → w.grownBy w' v.ownBlock → K (a.put o.dst (.slice p (n + m) cap)) w') : o.wp P a w K Q := by
  rcases sp with _ | ad
  · have hm : m = 0 := by
      apply Nat.eq_zero_of_not_pos
      intro h0
      obtain ⟨b, off, e, _⟩ := hsrc h0
      cases e
    subst hm
    obtain rfl : news = [] := List.eq_nil_of_length_eq_zero (by simpa using hl)
    obtain rfl := hnil rfl
    have hrun := run_append_owned_none (P := P) (w := w) base t o.type e i size ht hi v n xs hown
    obtain ⟨p, cap, rfl, hp, _⟩ := own_shape hown
    unfold Oper.wp
    simp [execOp, ho, resolve, invoke, builtin, hs, hx, hrun, Result.andThen]
    exact h p cap w hp (by simpa using hown) ⟨rfl, rfl, rfl, Nat.le_refl _, fun _ _ _ => rfl⟩
  · refine wp_append_own w s x t ho base e i z size bytes ht hi hz hsize hby hzs hsz v n xs hs hown ad m c news hx hl (fun j u hj => ?_) h1 h63 hbytes hbase fun v' w' h1 h2 _ => ?_
    · have h0 : 0 < m := by
        apply Nat.pos_of_ne_zero
        rintro rfl
        obtain rfl : news = [] := List.eq_nil_of_length_eq_zero (by simpa using hl)
        simp at hj
      obtain ⟨b, off, e, hc⟩ := hsrc h0
      obtain rfl : ad = ⟨b, off, none⟩ := by simpa using e
      have := hc j u hj
      unfold Addr.add
      split
      · rename_i hz; subst hz; simpa using this
      · simpa using this
    · obtain ⟨p, cap, rfl, hp, _⟩ := own_shape h1
      exact h p cap w' hp h1 h2

theorem step_append_reads {P : Program} {w : World} {ops : Array Oper} {o : Oper} {a : Act} {K : Act → World → Prop} {Q : Exit → Act → World → Prop} {E : Prop} (hgd : o.guard = none) (s x : Operand) (t : TypeId)
    (ho : o.op = .call { callee := .builtin .append, args := #[s, x], argTypes := #[t, t] })
    (base : Nat) (e : TypeId) (i : TypeInfo) (z : Value) (size bytes : Nat) (ht : P.underlying t = some (.slice e)) (hi : P.info? e = some i) (hz : i.zero = some z)
    (hsize : i.size = size) (hby : i.bytes = bytes) (hzs : z.cells.size = size) (hsz : 0 < size)
    (v : Value) (n : Nat) (xs : List Value) (hs : a.eval s = v) (hown : w.ownsRow base e size v n xs)
    (sp : Option Addr) (m c : Nat) (news : List Value) (hx : a.eval x = .slice sp m c) (hl : news.length = m * size)
    (hsrc : 0 < m → ∃ b off, sp = some ⟨b, off, none⟩ ∧ ∀ j u, news[j]? = some u → w.cell? ⟨b, off + j, none⟩ = some u) (hnil : sp = none → c = 0) (h1 : ∀ u ∈ news, u.oneCell' = true)
    (h63 : n + m ≤ maxLen) (hbytes : (n + m) * bytes ≤ 140737488355328) (hbase : base ≤ w.heap.size)
    (h : ∀ p cap w', (p = none → cap = 0) → w'.ownsRow base e size (.slice p (n + m) cap) (n + m) (xs ++ news) → w.grownBy w' v.ownBlock → K (a.put o.dst (.slice p (n + m) cap)) w') :
    if Region.wanted o (yielded ops a.tmps) = true then Oper.wp P o a w K Q else E := by
  have hw : Region.wanted o (yielded ops a.tmps) = true := by simp [Region.wanted, hgd]
  rw [if_pos hw]
  exact wp_append_reads s x t ho base e i z size bytes ht hi hz hsize hby hzs hsz v n xs hs hown sp m c news hx hl hsrc hnil h1 h63 hbytes hbase h
end Go.Proofs.Ytnnakiojfpnphaa
