/- append onto a slice without any room: always a new row of the call's own. -/
import Derived.Test.YtgmdhjlbedgafaaOwn2
import Derived.Deep.AppendSrc
set_option linter.unusedVariables false
set_option linter.unusedSimpArgs false
namespace Go.Proofs.Ytgmdhjlbedgafaa
open Go.RowKit

theorem wp_append_full {P : Program} {w : World} {o : Oper} {a : Act} {K : Act → World → Prop} {Q : Exit → Act → World → Prop} (s x : Operand) (t : TypeId)
    (ho : o.op = .call { callee := .builtin .append, args := #[s, x], argTypes := #[t, t] })
    (base : Nat) (e : TypeId) (i : TypeInfo) (z : Value) (size bytes : Nat) (ht : P.underlying t = some (.slice e)) (hi : P.info? e = some i) (hz : i.zero = some z)
    (hsize : i.size = size) (hby : i.bytes = bytes) (hzs : z.cells.size = size) (hsz : 0 < size)
    (p : Option Addr) (n : Nat) (olds : List Value) (hs : a.eval s = .slice p n n) (hlo : olds.length = n * size)
    (hold : 0 < n → ∃ b off, p = some ⟨b, off, none⟩ ∧ ∀ j u, olds[j]? = some u → w.cell? ⟨b, off + j, none⟩ = some u)
    (b off m c : Nat) (news : List Value) (hx : a.eval x = .slice (some ⟨b, off, none⟩) m c) (hm : 0 < m) (hl : news.length = m * size)
    (hnews : ∀ j u, news[j]? = some u → w.cell? ⟨b, off + j, none⟩ = some u) (h1 : ∀ u ∈ news, u.oneCell' = true)
    (h63 : n + m ≤ 100000) (hb16 : bytes ≤ 1000) (hbase : base ≤ w.heap.size)
    (h : ∀ g cap w', g = w.heap.size → w'.ownsRow base e size (.slice (some ⟨g, 0, none⟩) (n + m) cap) (n + m) (olds ++ news) → Upd [] w w' → K (a.put o.dst (.slice (some ⟨g, 0, none⟩) (n + m) cap)) w') : o.wp P a w K Q := by
  subst hsize
  subst hby
  have hadd : ∀ (b f j : Nat), (⟨b, f, none⟩ : Addr).add j = ⟨b, f + j, none⟩ := fun b f j => by unfold Addr.add; split <;> simp_all
  have hsrc := Src.ofSlice (P := P) w (size := i.size) (tx := t) (e' := e) ht ⟨b, off, none⟩ m c news hl (fun j u hj => by rw [hadd]; exact hnews j u hj) h1
  have hlen : (olds ++ news).length = (n + m) * i.size := by rw [List.length_append, hlo, hl, Nat.add_mul]
  have hold' : (Builtin.firstCells i.size n (.slice p n n)).run P w.drew = .ok olds.toArray w.drew := by
    rcases p with _ | ad
    · have hn : n = 0 := by
        apply Nat.eq_zero_of_not_pos
        intro h0
        obtain ⟨b, off, e, _⟩ := hold h0
        cases e
      subst hn
      obtain rfl : olds = [] := List.eq_nil_of_length_eq_zero (by simpa using hlo)
      exact run_firstCells_none w.drew i.size 0 0 0
    · refine run_firstCells_some w.drew i.size n ad n n olds hlo (fun j u hj => ?_)
      have h0 : 0 < n := by
        apply Nat.pos_of_ne_zero
        rintro rfl
        obtain rfl : olds = [] := List.eq_nil_of_length_eq_zero (by simpa using hlo)
        simp at hj
      obtain ⟨b', off', e, hc⟩ := hold h0
      obtain rfl : ad = ⟨b', off', none⟩ := by simpa using e
      rw [hadd]
      exact hc j u hj
  have hfit : Builtin.nextslicecap (n + m) n * i.bytes ≤ 281474976710656 := by
    have h2 := nextslicecap_le (need := n + m) (old := n) (by omega)
    have h3 : Builtin.nextslicecap (n + m) n * i.bytes ≤ (2 * (n + m)) * 1000 := Nat.mul_le_mul h2 hb16
    omega
  have hr := run_append_grow_src (P := P) w t t o.type e i z ht hi hz p n n olds hold' (.slice (some ⟨b, off, none⟩) m c) m news hsrc (by omega) (by omega) hfit
  have hge := grownCap_ge w (n + m) n e
  have hcm : grownCap w (n + m) n e ≤ maxLen := grownCap_le_maxLen w (n + m) n e (by simp only [maxLen]; omega)
  unfold Oper.wp execOp
  simp only [ho, resolve, invoke, builtin, Sem.run_bind, Sem.run_pure, Result.andThen_ok, List.map_toArray, List.map_cons, List.map_nil, hs, hx, hr]
  refine h w.heap.size _ _ rfl ⟨hlen, .inr ⟨w.heap.size, _, _, rfl, hbase, heap_alloc_new w.drew _, hge, hcm, ?_, ?_⟩⟩ (((Upd.refl _ _).drew).alloc _)
  · simp only [Array.size_append, List.size_toArray, size_zeroCells, hzs, hlen, ← Nat.add_mul]
    congr 1
    omega
  · simp only [Array.toList_append]
    rw [← hlen]
    exact List.take_left

theorem step_append_full {P : Program} {w : World} {ops : Array Oper} {o : Oper} {a : Act} {K : Act → World → Prop} {Q : Exit → Act → World → Prop} {E : Prop} (hgd : o.guard = none) (s x : Operand) (t : TypeId)
    (ho : o.op = .call { callee := .builtin .append, args := #[s, x], argTypes := #[t, t] })
    (base : Nat) (e : TypeId) (i : TypeInfo) (z : Value) (size bytes : Nat) (ht : P.underlying t = some (.slice e)) (hi : P.info? e = some i) (hz : i.zero = some z)
    (hsize : i.size = size) (hby : i.bytes = bytes) (hzs : z.cells.size = size) (hsz : 0 < size)
    (p : Option Addr) (n : Nat) (olds : List Value) (hs : a.eval s = .slice p n n) (hlo : olds.length = n * size)
    (hold : 0 < n → ∃ b off, p = some ⟨b, off, none⟩ ∧ ∀ j u, olds[j]? = some u → w.cell? ⟨b, off + j, none⟩ = some u)
    (b off m c : Nat) (news : List Value) (hx : a.eval x = .slice (some ⟨b, off, none⟩) m c) (hm : 0 < m) (hl : news.length = m * size)
    (hnews : ∀ j u, news[j]? = some u → w.cell? ⟨b, off + j, none⟩ = some u) (h1 : ∀ u ∈ news, u.oneCell' = true)
    (h63 : n + m ≤ 100000) (hb16 : bytes ≤ 1000) (hbase : base ≤ w.heap.size)
    (h : ∀ g cap w', g = w.heap.size → w'.ownsRow base e size (.slice (some ⟨g, 0, none⟩) (n + m) cap) (n + m) (olds ++ news) → Upd [] w w' → K (a.put o.dst (.slice (some ⟨g, 0, none⟩) (n + m) cap)) w') :
    if Region.wanted o (yielded ops a.tmps) = true then Oper.wp P o a w K Q else E := by
  have hw : Region.wanted o (yielded ops a.tmps) = true := by simp [Region.wanted, hgd]
  rw [if_pos hw]
  exact wp_append_full s x t ho base e i z size bytes ht hi hz hsize hby hzs hsz p n olds hs hlo hold b off m c news hx hm hl hnews h1 h63 hb16 hbase h
end Go.Proofs.Ytgmdhjlbedgafaa
