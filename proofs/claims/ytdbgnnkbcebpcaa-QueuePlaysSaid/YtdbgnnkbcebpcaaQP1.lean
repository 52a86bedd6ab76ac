/- The law on queues: the program's answers in the document's words. -/
import Derived.Test.YtdbgnnkbcebpcaaQ9
import Derived.Test.YtdbgnnkbcebpcaaQR4
set_option linter.unusedVariables false
set_option linter.unusedSimpArgs false
namespace Go.Proofs.Ytdbgnnkbcebpcaa
open Go.RowKit

/-- A part of a function's code, by its path: so that a walk can be parted into several theorems. -/
def navq : Code → List Nat → Code
  | c, [] => c
  | .seq a b, i :: p => if i = 0 then navq a p else navq b p
  | .cond _ a b, i :: p => if i = 0 then navq a p else navq b p
  | .scope c, _ :: p => navq c p
  | .block _ c, _ :: p => navq c p
  | .loop c, _ :: p => navq c p
  | c, _ => c
def fB (t : Int) (L : List QW) : Bool := decide (0 ≤ qpl t 0 L)
def fA (t : Int) (L : List QW) : QW := if 0 ≤ qpl t 0 L then (L[(qpl t 0 L).toNat]?).getD .zero else .zero
def rL (t : Int) (L : List QW) : List QW := if 0 ≤ qpl t 0 L then L.eraseIdx (qpl t 0 L).toNat else L
def aL (x : QW) (L : List QW) : List QW := if rqaddB x L then L ++ [x] else L
theorem qfindN_pl {t : Int} {xs : List QN} : (qfindN t xs = none ∧ qpl t 0 (xs.map QN.w) = -1) ∨ (∃ pre x rest, xs = pre ++ x :: rest ∧ (∀ y ∈ pre, y.w.t ≠ t) ∧ x.w.t = t ∧ qfindN t xs = some x ∧ qpl t 0 (xs.map QN.w) = pre.length) := by
  rcases h : qfindN t xs with _ | x
  · refine .inl ⟨rfl, qpl_none _ _ fun y hy => ?_⟩
    obtain ⟨z, hz, rfl⟩ := List.mem_map.1 hy
    unfold qfindN at h
    rw [List.find?_eq_none] at h
    simpa using h z hz
  · obtain ⟨pre, rest, rfl, hp, hx⟩ := qfindN_split h
    refine .inr ⟨pre, x, rest, rfl, hp, hx, rfl, ?_⟩
    rw [List.map_append, List.map_cons, qpl_some hx]
    · simp
    · intro y hy
      obtain ⟨z, hz, rfl⟩ := List.mem_map.1 hy
      exact hp z hz
theorem qfind_f {t : Int} {xs : List QN} : qor ((qfindN t xs).map QN.w) = fA t (xs.map QN.w) ∧ (qfindN t xs).isSome = fB t (xs.map QN.w) := by
  rcases qfindN_pl (t := t) (xs := xs) with ⟨h1, h2⟩ | ⟨pre, x, rest, rfl, hp, hx, h1, h2⟩
  · unfold fA fB
    rw [h1, h2]
    exact ⟨rfl, rfl⟩
  · unfold fA fB
    rw [h1, h2]
    refine ⟨?_, by simp⟩
    rw [if_pos (by omega), Int.toNat_natCast, List.map_append, List.getElem?_append_right (by simp)]
    simp [qor]
theorem qnext_f {t : Int} {xs : List QN} : (qnextN t xs).map QN.w = qnx t (xs.map QN.w) := by
  unfold qnx
  rcases qfindN_pl (t := t) (xs := xs) with ⟨h1, h2⟩ | ⟨pre, x, rest, rfl, hp, hx, h1, h2⟩
  · unfold qnextN
    rw [h1, h2]
    cases xs <;> simp
  · rw [qnextN_some hp hx, h2, show ((pre.length : Int) + 1).toNat = pre.length + 1 by omega, List.map_append, List.getElem?_append_right (by simp)]
    cases rest <;> simp
theorem qadd_f {x : QW} {xs : List QN} : qaddN x xs = rqaddB x (xs.map QN.w) := by
  unfold qaddN rqaddB
  rcases qfindN_pl (t := x.t) (xs := xs) with ⟨h1, h2⟩ | ⟨pre, y, rest, rfl, hp, hx, h1, h2⟩
  · rw [h1, h2]; simp
  · rw [h1, h2]; simp
section
variable {w : World} {q : Nat} {xs : List QN}
theorem qremove_f (task : Int) (h : QL w q xs) (hn : xs.length ≤ 1000000) : Calls Try.prog 17 #[.pointer (some ⟨q, 0, none⟩), .int .i64 task] w fun e w' =>
    e = .returned (.tuple #[.agg (fA task (xs.map QN.w)).A, .bool (fB task (xs.map QN.w))]) ∧ ∃ xs', QL w' q xs' ∧ xs'.map QN.w = rL task (xs.map QN.w) ∧ Upd (q :: xs.map QN.b) w w' ∧ (∀ k ∈ xs'.map QN.b, k ∈ xs.map QN.b) := by
  refine (qremove_c task h hn).mono fun e w' he => ?_
  rcases he with ⟨h1, rfl, hu⟩ | ⟨pre, x, rest, rfl, hp, hx, rfl, hq, hu⟩
  · rcases qfindN_pl (t := task) (xs := xs) with ⟨_, h2⟩ | ⟨pre, y, rest, rfl, hp, hx, h3, h2⟩
    · unfold fA fB rL
      rw [h2]
      exact ⟨rfl, xs, h.upd hu (by simp), rfl, hu.mono (by simp), fun k hk => hk⟩
    · rw [h3] at h1; cases h1
  · have h2 : qpl task 0 ((pre ++ x :: rest).map QN.w) = pre.length := by
      rw [List.map_append, List.map_cons, qpl_some hx]
      · simp
      · intro y hy
        obtain ⟨z, hz, rfl⟩ := List.mem_map.1 hy
        exact hp z hz
    unfold fA fB rL
    rw [h2, if_pos (by omega), if_pos (by omega), Int.toNat_natCast]
    refine ⟨?_, pre ++ rest, hq, ?_, hu, ?_⟩
    · rw [List.map_append, List.getElem?_append_right (by simp)]
      simp
    · rw [List.map_append, List.map_append, List.eraseIdx_append_of_length_le (by simp)]
      simp
    · intro k hk
      simp at hk ⊢
      rcases hk with h | h
      · exact .inl h
      · exact .inr (.inr h)
theorem qadd_g (x : QW) (h : QL w q xs) (hn : xs.length ≤ 1000000) : Calls Try.prog 19 #[.pointer (some ⟨q, 0, none⟩), .agg x.A] w fun e w' =>
    e = .returned (.bool (rqaddB x (xs.map QN.w))) ∧ ∃ xs', QL w' q xs' ∧ xs'.map QN.w = aL x (xs.map QN.w) ∧ Upd (q :: xs.map QN.b) w w' ∧ (∀ k ∈ xs'.map QN.b, k ∈ xs.map QN.b ∨ w.heap.size ≤ k) := by
  refine (qadd_c x h hn).mono fun e w' he => ?_
  unfold aL
  rcases he with ⟨h1, rfl, hu⟩ | ⟨h1, N, rfl, hN, hq, hu⟩
  · rw [qadd_f] at h1
    rw [h1]
    exact ⟨rfl, xs, h.upd hu (by simp), rfl, hu.mono (by simp), fun k hk => .inl hk⟩
  · rw [qadd_f] at h1
    rw [h1]
    refine ⟨rfl, _, hq, by simp, hu, fun k hk => ?_⟩
    simp at hk ⊢
    rcases hk with ⟨y, hy, e⟩ | h
    · exact .inl ⟨y, hy, e⟩
    · exact .inr (by omega)
theorem qnext_g (task : Int) (h : QL w q xs) (hn : xs.length ≤ 1000000) : Calls Try.prog 21 #[.pointer (some ⟨q, 0, none⟩), .int .i64 task] w fun e w' =>
    e = .returned (.tuple #[.agg (((qnx task (xs.map QN.w)).getD .zero).A), .bool (qnx task (xs.map QN.w)).isSome]) ∧ Upd [] w w' := by
  refine (qnext_c task h hn).mono fun e w' he => ?_
  rw [← qnext_f]
  refine ⟨?_, he.2⟩
  rw [he.1]
  cases qnextN task xs <;> rfl
theorem qFind_g (task : Int) (h : QL w q xs) (hn : xs.length ≤ 1000000) : Calls Try.prog 23 #[.pointer (some ⟨q, 0, none⟩), .int .i64 task] w fun e w' =>
    e = .returned (.tuple #[.agg (fA task (xs.map QN.w)).A, .bool (fB task (xs.map QN.w))]) ∧ Upd [] w w' := by
  refine (qFind_c task h hn).mono fun e w' he => ?_
  rw [← qfind_f.1, ← qfind_f.2]
  exact he
theorem qlist_g (h : QL w q xs) (hn : xs.length ≤ 1000) : Calls Try.prog 27 #[.pointer (some ⟨q, 0, none⟩)] w fun e w' => (∃ v, e = .returned v ∧ RQ 51 w' v (xs.map QN.w)) ∧ Upd [] w w' := by
  refine (qlist_c h hn).mono fun e w' he => ?_
  obtain ⟨⟨v, rfl, ho⟩, hu⟩ := he
  refine ⟨⟨v, rfl, ?_⟩, hu⟩
  unfold RQ
  rw [List.length_map]
  exact World.ownsRow.mono ho (Nat.zero_le _)
theorem qof_g (obj : Int) (h : QL w q xs) (hn : xs.length ≤ 1000) : Calls Try.prog 28 #[.pointer (some ⟨q, 0, none⟩), .int .i64 obj] w fun e w' => (∃ v, e = .returned v ∧ RQ 51 w' v (qofL obj (xs.map QN.w))) ∧ Upd [] w w' := by
  refine (qof_c obj h hn).mono fun e w' he => ?_
  obtain ⟨⟨v, rfl, ho⟩, hu⟩ := he
  exact ⟨⟨v, rfl, World.ownsRow.mono ho (Nat.zero_le _)⟩, hu⟩
theorem rqremove_g {v : Value} {L : List QW} (t : Int) (h : RQ 58 w v L) (hl : L.length ≤ 1000) : Calls Try.prog 18 #[v, .int .i64 t] w fun e w' =>
    (∃ v', e = .returned (.tuple #[v', .agg (fA t L).A, .bool (fB t L)]) ∧ RQ 58 w' v' (rL t L)) ∧ Upd [] w w' := by
  refine (rqremove_c t h hl).mono fun e w' he => ?_
  unfold fA fB rL
  obtain ⟨⟨v', ⟨rfl, h1, h2⟩ | ⟨rfl, h1, h2⟩⟩, hu⟩ := he
  · rw [if_pos h1, if_pos h1]
    exact ⟨⟨v', by simp [h1], h2⟩, hu⟩
  · have h1' : ¬ 0 ≤ qpl t 0 L := by omega
    rw [if_neg h1', if_neg h1']
    exact ⟨⟨v', by simp [h1'], h2⟩, hu⟩
theorem rqadd_g {v : Value} {L : List QW} (x : QW) (h : RQ 58 w v L) (hl : L.length ≤ 1000) : Calls Try.prog 20 #[v, .agg x.A] w fun e w' =>
    (∃ v', e = .returned (.tuple #[v', .bool (rqaddB x L)]) ∧ RQ 58 w' v' (aL x L)) ∧ Upd [] w w' := rqadd_c x h hl
/-- A row of waits is apart from the ring. -/
theorem QL.apart {v : Value} {L : List QW} {e : TypeId} (h : QL w q xs) (hr : RQ e w v L) (he1 : 56 ≠ e) (he2 : 54 ≠ e) : ∀ k, v.ownBlock = some k → k ∉ q :: xs.map QN.b := by
  intro k hk hm
  rcases List.mem_cons.1 hm with rfl | hm
  · obtain ⟨va, vn, hh, _⟩ := h.hd
    exact own_ne hr hh he1 hk
  · obtain ⟨x, hx, rfl⟩ := List.mem_map.1 hm
    obtain ⟨va, vn, hh⟩ := h.seg.mem hx
    exact own_ne hr hh he2 hk
theorem RQ.updQ {w' : World} {v : Value} {L : List QW} (hr : RQ 58 w v L) (h : QL w q xs) (hu : Upd (q :: xs.map QN.b) w w') : RQ 58 w' v L :=
  own_upd hr hu (h.apart hr (by decide) (by decide))
end
theorem qpl_len_rL (t : Int) (L : List QW) : (rL t L).length ≤ L.length := by
  unfold rL
  split
  · exact List.length_eraseIdx_le _ _
  · exact Nat.le_refl _
theorem aL_len (x : QW) (L : List QW) : (aL x L).length ≤ L.length + 1 := by
  unfold aL
  split <;> simp
end Go.Proofs.Ytdbgnnkbcebpcaa
