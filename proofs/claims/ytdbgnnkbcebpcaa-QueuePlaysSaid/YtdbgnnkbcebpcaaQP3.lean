/- The law on queues: the chapter's example. -/
import Derived.Test.YtdbgnnkbcebpcaaQP2
set_option linter.unusedVariables false
set_option linter.unusedSimpArgs false
namespace Go.Proofs.Ytdbgnnkbcebpcaa
open Go.RowKit

theorem ql_new {w : World} {g : Nat} (h : w.heap[g]? = some (.cells #[.int .i64 0, .int .i64 0, .int .i64 0, .int .u32 0, .pointer none, .pointer none, .int .i64 0] 56)) : QL w g [] :=
  ⟨⟨_, _, h, fun h => absurd rfl h⟩, trivial, by simp⟩
def UPQ (W w : World) (q : Nat) (xs : List QN) : Prop := Upd [] W w ∧ QL w q xs ∧ ∀ k ∈ q :: xs.map QN.b, W.heap.size ≤ k
theorem UPQ.upd {W w w' : World} {q : Nat} {xs : List QN} (h : UPQ W w q xs) (hu : Upd [] w w') : UPQ W w' q xs := ⟨h.1.trans hu, h.2.1.upd hu (by simp), h.2.2⟩
theorem UPQ.step {W w w' : World} {q : Nat} {xs xs' : List QN} (h : UPQ W w q xs) (hq : QL w' q xs') (hu : Upd (q :: xs.map QN.b) w w') (hb : ∀ k ∈ xs'.map QN.b, k ∈ xs.map QN.b ∨ w.heap.size ≤ k) : UPQ W w' q xs' :=
  ⟨h.1.then hu (fun k hk => .inr (h.2.2 k hk)), hq, fun k hk => by
    rcases List.mem_cons.1 hk with rfl | hk
    · exact h.2.2 k (by simp)
    · rcases hb k hk with h1 | h1
      · exact h.2.2 k (List.mem_cons_of_mem _ h1)
      · exact Nat.le_trans h.1.size h1⟩
theorem upq_add {W w : World} {q : Nat} {xs : List QN} (x : QW) (L : List QW) (h : UPQ W w q xs) (hm : xs.map QN.w = L) (hn : L.length ≤ 100000) : Calls Try.prog 19 #[.pointer (some ⟨q, 0, none⟩), .agg x.A] w fun e w' => e = .returned (.bool (rqaddB x L)) ∧ ∃ xs', UPQ W w' q xs' ∧ xs'.map QN.w = aL x L ∧ (∀ v M, RQ 58 w v M → RQ 58 w' v M) := by
  subst hm
  refine (qadd_g x h.2.1 (by simp at hn; omega)).mono fun e w' he => ?_
  obtain ⟨rfl, xs', h1, h2, h3, h4⟩ := he
  exact ⟨rfl, xs', h.step h1 h3 h4, h2, fun v M hr => hr.updQ h.2.1 h3⟩
theorem upq_remove {W w : World} {q : Nat} {xs : List QN} (t : Int) (L : List QW) (h : UPQ W w q xs) (hm : xs.map QN.w = L) (hn : L.length ≤ 100000) : Calls Try.prog 17 #[.pointer (some ⟨q, 0, none⟩), .int .i64 t] w fun e w' => e = .returned (.tuple #[.agg (fA t L).A, .bool (fB t L)]) ∧ ∃ xs', UPQ W w' q xs' ∧ xs'.map QN.w = rL t L ∧ (∀ v M, RQ 58 w v M → RQ 58 w' v M) := by
  subst hm
  refine (qremove_f t h.2.1 (by simp at hn; omega)).mono fun e w' he => ?_
  obtain ⟨rfl, xs', h1, h2, h3, h4⟩ := he
  exact ⟨rfl, xs', h.step h1 h3 (fun k hk => .inl (h4 k hk)), h2, fun v M hr => hr.updQ h.2.1 h3⟩
theorem upq_next {W w : World} {q : Nat} {xs : List QN} (t : Int) (L : List QW) (h : UPQ W w q xs) (hm : xs.map QN.w = L) (hn : L.length ≤ 100000) : Calls Try.prog 21 #[.pointer (some ⟨q, 0, none⟩), .int .i64 t] w fun e w' => e = .returned (.tuple #[.agg (((qnx t L).getD .zero).A), .bool (qnx t L).isSome]) ∧ Upd [] w w' := by
  subst hm
  exact qnext_g t h.2.1 (by simp at hn; omega)
set_option maxRecDepth 100000 in
set_option maxHeartbeats 4000000 in
theorem alive25 (w : World) : Calls Try.prog 16 #[] w fun e w' => e = .returned (.bool true) ∧ Upd [] w w' := by
  go_enter Try.func16, Try.ntmps16
  have HU0 := Lib.hid (show UPQ w (w.alloc (.cells #[.int .i64 0, .int .i64 0, .int .i64 0, .int .u32 0, .pointer none, .pointer none, .int .i64 0] 56)) w.heap.size [] from ⟨(Upd.refl [] w).alloc _, ql_new (heap_alloc_new w _), by simp⟩)
  have HA1 := Lib.hid (upq_add ⟨1, 0, 0, 0⟩ [] HU0.out rfl (by simp))
  unfold QW.A at HA1
  go_wp2_with (first
    | (go_at_call 19; (with_reducible refine HA1.out.mono ?_); clear HA1; rintro e w1 ⟨rfl, xs1, hq1, hm1, -⟩; have HQ1 := Lib.hid hq1; have HM1 := Lib.hid hm1; clear hq1 hm1; have HA2 := Lib.hid (upq_add ⟨2, 0, 0, 0⟩ [⟨1, 0, 0, 0⟩] HQ1.out HM1.out (by simp)); unfold QW.A at HA2)
    | (go_at_call 19; (with_reducible refine HA2.out.mono ?_); clear HA2; rintro e w2 ⟨rfl, xs2, hq2, hm2, -⟩; have HQ2 := Lib.hid hq2; have HM2 := Lib.hid hm2; clear hq2 hm2; have HA3 := Lib.hid (upq_add ⟨3, 0, 0, 0⟩ [⟨1, 0, 0, 0⟩, ⟨2, 0, 0, 0⟩] HQ2.out HM2.out (by simp)); unfold QW.A at HA3)
    | (go_at_call 19; (with_reducible refine HA3.out.mono ?_); clear HA3; rintro e w3 ⟨rfl, xs3, hq3, hm3, -⟩; have HQ3 := Lib.hid hq3; have HM3 := Lib.hid hm3; clear hq3 hm3; have HR := Lib.hid (upq_remove 2 [⟨1, 0, 0, 0⟩, ⟨2, 0, 0, 0⟩, ⟨3, 0, 0, 0⟩] HQ3.out HM3.out (by simp)); unfold QW.A at HR)
    | (go_at_call 17; (with_reducible refine HR.out.mono ?_); clear HR; rintro e w4 ⟨rfl, xs4, hq4, hm4, -⟩; have HQ4 := Lib.hid hq4; have HM4 := Lib.hid (show xs4.map QN.w = [⟨1, 0, 0, 0⟩, ⟨3, 0, 0, 0⟩] from hm4); clear hq4 hm4; have HN1 := Lib.hid (show Calls Try.prog 21 #[.pointer (some ⟨w.heap.size, 0, none⟩), .int .i64 1] w4 fun e w' => e = .returned (.tuple #[.agg #[.int .i64 3, .int .i64 0, .int .i64 0, .int .u32 0], .bool true]) ∧ Upd [] w4 w' from upq_next 1 [⟨1, 0, 0, 0⟩, ⟨3, 0, 0, 0⟩] HQ4.out HM4.out (by simp)))
    | (go_at_call 21; (with_reducible refine HN1.out.mono ?_); clear HN1; rintro e w5 ⟨rfl, hu5⟩; obtain ⟨p5, rfl⟩ := hu5.grown; clear hu5; have HQ5 := Lib.hid (HQ4.out.upd (show Upd [] w4 ((gr w4 p5).alloc (.cells #[.int .i64 3, .int .i64 0, .int .i64 0, .int .u32 0] 51)) from ((Upd.refl [] w4).grE p5).alloc _)); have HN2 := Lib.hid (show Calls Try.prog 21 #[.pointer (some ⟨w.heap.size, 0, none⟩), .int .i64 2] ((gr w4 p5).alloc (.cells #[.int .i64 3, .int .i64 0, .int .i64 0, .int .u32 0] 51)) fun e w' => e = .returned (.tuple #[.agg #[.int .i64 1, .int .i64 0, .int .i64 0, .int .u32 0], .bool true]) ∧ Upd [] _ w' from upq_next 2 [⟨1, 0, 0, 0⟩, ⟨3, 0, 0, 0⟩] HQ5.out HM4.out (by simp)))
    | (go_at_call 21; (with_reducible refine HN2.out.mono ?_); clear HN2; rintro e w6 ⟨rfl, hu6⟩; obtain ⟨p6, rfl⟩ := hu6.grown; clear hu6; have HL := Lib.hid (fun (w7 : World) (hu : Upd [] w4 w7) => (show Calls Try.prog 30 #[.pointer (some ⟨w.heap.size, 0, none⟩)] w7 fun e w' => e = .returned (.int .i64 2) ∧ w' = w7 from by have h1 := qlen_c (HQ4.out.upd hu).2.1; rw [show xs4.length = 2 by have := congrArg List.length HM4.out; simpa using this] at h1; exact h1)))
    | (go_at_call 30; (with_reducible refine (HL.out _ (by repeat (first | (with_reducible exact Upd.refl _ _) | (with_reducible apply Upd.drew) | (with_reducible refine Upd.grE ?_ _) | (with_reducible refine Upd.alloc ?_ _)))).mono ?_); rintro e w8 ⟨rfl, rfl⟩))
  go_ret
  exact ⟨rfl, HQ4.out.1.trans (by repeat (first | (with_reducible exact Upd.refl _ _) | (with_reducible apply Upd.drew) | (with_reducible refine Upd.grE ?_ _) | (with_reducible refine Upd.alloc ?_ _)))⟩
end Go.Proofs.Ytdbgnnkbcebpcaa
