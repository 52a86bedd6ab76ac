/- Package queue: Len, Find, Next, Remove, Add. -/
import Derived.Test.YtdbgnnkbcebpcaaQ6
import Derived.Test.YtdbgnnkbcebpcaaQE1
set_option linter.unusedVariables false
set_option linter.unusedSimpArgs false
namespace Go.Proofs.Ytdbgnnkbcebpcaa
open Go.RowKit

section
variable {w : World} {q : Nat} {xs : List QN}
set_option maxRecDepth 100000 in
set_option maxHeartbeats 1000000 in
theorem qlen_c (h : QL w q xs) : Calls Try.prog 30 #[.pointer (some ⟨q, 0, none⟩)] w fun e w' => e = .returned (.int .i64 xs.length) ∧ w' = w := by
  obtain ⟨va, vn, hh, he⟩ := h.hd
  obtain ⟨c0, c1, c2, c3, c4, c5, c6⟩ := cells7 hh
  clear he
  go_enter Try.func30, Try.ntmps30
  go_wp2
  go_ret
  exact ⟨rfl, rfl⟩
theorem qfindN_split {t : Int} {xs : List QN} {x : QN} (h : qfindN t xs = some x) : ∃ pre rest, xs = pre ++ x :: rest ∧ (∀ y ∈ pre, y.w.t ≠ t) ∧ x.w.t = t := by
  unfold qfindN at h
  rw [List.find?_eq_some_iff_append] at h
  obtain ⟨h1, l1, l2, rfl, h2⟩ := h
  exact ⟨l1, l2, rfl, fun y hy => by simpa using h2 y hy, by simpa using h1⟩
set_option maxRecDepth 100000 in
set_option maxHeartbeats 4000000 in
theorem qremove_c (task : Int) (h : QL w q xs) (hn : xs.length ≤ 1000000) : Calls Try.prog 17 #[.pointer (some ⟨q, 0, none⟩), .int .i64 task] w fun e w' => 
    (qfindN task xs = none ∧ e = .returned (.tuple #[.agg QW.zero.A, .bool false]) ∧ Upd [] w w') ∨
    (∃ pre x rest, xs = pre ++ x :: rest ∧ (∀ y ∈ pre, y.w.t ≠ task) ∧ x.w.t = task ∧ e = .returned (.tuple #[.agg x.w.A, .bool true]) ∧ QL w' q (pre ++ rest) ∧ Upd (q :: xs.map QN.b) w w') := by
  have hF := fun (w' : World) (hu : Upd [] w w') => qfind_c task (h.upd hu (by simp)) hn
  have HL := Lib.hid h
  have HF := Lib.hid hF
  clear h hF
  rcases hx : qfindN task xs with _ | x
  · rw [hx] at HF
    unfold qaddr at HF
    simp only [Option.map] at HF
    have HX := Lib.hid hx
    clear hx
    go_enter Try.func17, Try.ntmps17
    go_wp2_with (go_at_call 54; refine (HF.out _ ((Upd.refl _ _).alloc _)).mono ?_; rintro e w1 ⟨rfl, hu⟩; obtain ⟨p1, rfl⟩ := hu.grown; clear hu)
    refine bodyPost_ret (v := .tuple #[.agg QW.zero.A, .bool false]) (by simp [results, Try.f17, go_sem, QW.zero, QW.A]) rfl ?_
    exact .inl ⟨trivial, rfl, ((Upd.refl [] w).alloc _).grE _⟩
  · obtain ⟨pre, rest, e, hp, ht⟩ := qfindN_split hx
    rw [hx] at HF
    unfold qaddr at HF
    simp only [Option.map] at HF
    subst e
    obtain ⟨d0, d1, d2, d3, d4, d5⟩ := cellsQ (QSeg.at HL.out.seg)
    obtain ⟨va, vn, hh, _⟩ := HL.out.hd
    obtain ⟨c0, c1, c2, c3, c4, c5, c6⟩ := cells7 hh
    have hl := HL.out.lt
    have hA : qlast q pre ∈ q :: (pre ++ x :: rest).map QN.b := by rcases qlast_mem q pre with e | e <;> simp [e] <;> (simp at e; obtain ⟨y, hy, e⟩ := e; exact .inr (.inl ⟨y, hy, e⟩))
    have hB : qhd q rest ∈ q :: (pre ++ x :: rest).map QN.b := by rcases qhd_mem q rest with e | e <;> simp [e] <;> (simp at e; obtain ⟨y, hy, e⟩ := e; exact .inr (.inr (.inr ⟨y, hy, e⟩)))
    obtain ⟨⟨vA, hcA⟩, hfA⟩ := HL.out.lnk hA 5 (by omega)
    obtain ⟨⟨vB, hcB⟩, hfB⟩ := HL.out.lnk hB 4 (by omega)
    have hlA := hl _ hA
    have hlB := hl _ hB
    have hlx := hl x.b (by simp)
    have hlq := hl q (by simp)
    have hfq := frozen_of_heap hh 6
    have hw : wrap64 (((pre ++ x :: rest).length : Int) - 1) = ((pre ++ rest).length : Nat) := by unfold wrap64; simp at hn ⊢; omega
    generalize hn0 : (pre ++ x :: rest).length = n0 at c6 hw
    generalize hm0 : (pre ++ rest).length = m0 at hw
    unfold qptr at d4 d5
    generalize hA0 : qlast q pre = A at d4 hcA hfA hlA
    generalize hB0 : qhd q rest = B at d5 hcB hfB hlB
    have HX := Lib.hid (And.intro hA0 (And.intro hB0 (And.intro hn0 (And.intro hm0 (And.intro hp ht)))))
    clear hA0 hB0 hn0 hm0 hA hB hh hl hp ht hx hn
    go_enter Try.func17, Try.ntmps17
    go_wp2_with (go_at_call 54; refine (HF.out _ ((Upd.refl _ _).alloc _)).mono ?_; rintro e w1 ⟨rfl, hu⟩; obtain ⟨p1, rfl⟩ := hu.grown; clear hu)
    go_region
    go_wp2
    refine bodyPost_ret (v := .tuple #[.agg x.w.A, .bool true]) (by simp [results, Try.f17, go_sem, QW.A]) rfl ?_
    obtain ⟨rfl, rfl, hn0, rfl, hp, ht⟩ := HX.out
    refine .inr ⟨pre, x, rest, rfl, hp, ht, rfl, QL.upd (S := []) (HL.out.remove) (((Upd.refl [] _).alloc _).grE _) (by simp), ?_⟩
    refine Upd.grE (Upd.alloc (Upd.setB (Upd.setB (Upd.setB (Upd.refl _ _) (.inl ?_)) (.inl ?_)) (.inl (by simp))) _) _
    · rcases qlast_mem q pre with e | e <;> simp [e]
    · rcases qhd_mem q rest with e | e <;> simp [e]
set_option maxRecDepth 100000 in
set_option maxHeartbeats 4000000 in
theorem qFind_c (task : Int) (h : QL w q xs) (hn : xs.length ≤ 1000000) : Calls Try.prog 23 #[.pointer (some ⟨q, 0, none⟩), .int .i64 task] w fun e w' => 
    e = .returned (.tuple #[.agg (qor ((qfindN task xs).map QN.w)).A, .bool (qfindN task xs).isSome]) ∧ Upd [] w w' := by
  have hF := fun (w' : World) (hu : Upd [] w w') => qfind_c task (h.upd hu (by simp)) hn
  have HL := Lib.hid h
  have HF := Lib.hid hF
  clear h hF
  rcases hx : qfindN task xs with _ | x
  · rw [hx] at HF
    unfold qaddr at HF
    simp only [Option.map] at HF
    clear hx
    go_enter Try.func23, Try.ntmps23
    go_wp2_with (go_at_call 54; refine (HF.out _ ((Upd.refl _ _).alloc _)).mono ?_; rintro e w1 ⟨rfl, hu⟩; obtain ⟨p1, rfl⟩ := hu.grown; clear hu)
    refine bodyPost_ret (v := .tuple #[.agg QW.zero.A, .bool false]) (by simp [results, Try.f23, go_sem, QW.zero, QW.A]) rfl ?_
    exact ⟨rfl, ((Upd.refl [] w).alloc _).grE _⟩
  · obtain ⟨pre, rest, e, hp, ht⟩ := qfindN_split hx
    rw [hx] at HF
    unfold qaddr at HF
    simp only [Option.map] at HF
    subst e
    obtain ⟨d0, d1, d2, d3, d4, d5⟩ := cellsQ (QSeg.at HL.out.seg)
    have hlx := HL.out.lt x.b (by simp)
    clear hp hx hn
    obtain ⟨b, ⟨t, k, o, m⟩⟩ := x
    simp only at ht d0 d1 d2 d3 hlx HF
    subst ht
    have hqn := neq_wait
    rcases hz : qeq ⟨t, k, o, m⟩ ⟨0, 0, 0, 0⟩ with _ | _
    · have HZ := Lib.hid hz
      go_enter Try.func23, Try.ntmps23
      go_wp2_with (go_at_call 54; refine (HF.out _ ((Upd.refl _ _).alloc _)).mono ?_; rintro e w1 ⟨rfl, hu⟩; obtain ⟨p1, rfl⟩ := hu.grown; clear hu)
      go_region
      go_wp2
      refine bodyPost_ret (v := .tuple #[.agg (QW.mk t k o m).A, .bool true]) (by simp [results, Try.f23, go_sem, QW.A]) rfl ?_
      exact ⟨rfl, ((Upd.refl [] w).alloc _).grE _⟩
    · have HZ := Lib.hid hz
      obtain h0 := qeq_iff.1 hz
      injection h0 with e1 e2 e3 e4
      subst e1 e2 e3 e4
      go_enter Try.func23, Try.ntmps23
      go_wp2_with (go_at_call 54; refine (HF.out _ ((Upd.refl _ _).alloc _)).mono ?_; rintro e w1 ⟨rfl, hu⟩; obtain ⟨p1, rfl⟩ := hu.grown; clear hu)
      go_region
      go_wp2
      refine bodyPost_ret (v := .tuple #[.agg (QW.mk 0 0 0 0).A, .bool true]) (by simp [results, Try.f23, go_sem, QW.A]) rfl ?_
      exact ⟨rfl, ((Upd.refl [] w).alloc _).grE _⟩
end
end Go.Proofs.Ytdbgnnkbcebpcaa
