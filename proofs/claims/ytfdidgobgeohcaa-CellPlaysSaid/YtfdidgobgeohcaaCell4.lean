/- The chapter's example, and the law CellKeeps as a walk. -/
import Derived.Test.YtfdidgobgeohcaaCell3
set_option linter.unusedVariables false
set_option linter.unusedSimpArgs false
namespace Go.Proofs.Ytfdidgobgeohcaa
open Go.RowKit

set_option maxRecDepth 100000 in
set_option maxHeartbeats 1000000 in
theorem alive06 (w : World) : Calls Try.prog 14 #[] w fun e w' => e = .returned (.bool true) ∧ Upd [] w w' := by
  go_enter Try.func14, Try.ntmps14
  go_wp2_with (first
    | (go_at_call 83; refine (new_any 2 _ (by omega)).mono ?_; rintro e w1 ⟨b, g, rfl, hb, hg, hm0, hu0⟩; have HM0 := Lib.hid hm0; clear hm0)
    | (go_at_call 84; refine (or_any 1 5 HM0.out (by simp) (by omega) (by omega) (by omega) (by omega)).mono ?_; rintro e w2 ⟨rfl, hm1, hu1⟩; have HM1 := Lib.hid hm1; clear hm1)
    | (go_at_call 85; refine (and_any 1 4 HM1.out (by simp) (by omega) (by omega) (by omega) (by omega)).mono ?_; rintro e w3 ⟨rfl, hm2, hu2⟩; have HM2 := Lib.hid hm2; clear hm2)
    | (go_at_call 19; refine (load_any 1 HM2.out (by simp) (by omega) (by omega)).mono ?_; rintro e w4 ⟨rfl, hm3, hu3⟩; have HM3 := Lib.hid hm3; clear hm3)
    | (go_at_call 39; refine (len_any HM3.out).mono ?_; rintro e w5 ⟨rfl, rfl⟩))
  go_ret
  refine ⟨by simp, ((hu0.then hu1 ?_).then hu2 ?_).then hu3 ?_⟩ <;> simp <;> omega

/-- What stands in the cells behind a store and a step elsewhere. -/
theorem step_keeps (op ai v2 v : Int) (xs : List Int) (i : Nat) (hi : i < xs.length) (hne : ai ≠ i) :
    ∃ lo st ys, (stepMS op ai v2 ⟨0, 1, xs.set i v⟩).1 = ⟨lo, st, ys⟩ ∧ 0 ≤ lo ∧ lo ≤ 1 ∧ 1 ≤ st ∧ st ≤ 2 ∧ ys.length = xs.length ∧ ys[i]? = some v ∧ ∀ j : Nat, j ≠ i → (j : Int) ≠ ai → ys[j]? = xs[j]? := by
  have key : ∀ (x : Int), inR ai xs.length = true → ((xs.set i v).set ai.toNat x).length = xs.length ∧ ((xs.set i v).set ai.toNat x)[i]? = some v ∧ ∀ j : Nat, j ≠ i → (j : Int) ≠ ai → ((xs.set i v).set ai.toNat x)[j]? = xs[j]? := by
    intro x hR
    have hr : 0 ≤ ai ∧ ai < xs.length := by simpa [inR] using hR
    refine ⟨by simp, ?_, fun j h1 h2 => ?_⟩
    · rw [List.getElem?_set_ne (by omega), List.getElem?_set_self hi]
    · rw [List.getElem?_set_ne (by omega), List.getElem?_set_ne (by omega)]
  have key0 : (xs.set i v).length = xs.length ∧ (xs.set i v)[i]? = some v ∧ ∀ j : Nat, j ≠ i → (j : Int) ≠ ai → (xs.set i v)[j]? = xs[j]? :=
    ⟨by simp, List.getElem?_set_self hi, fun j h1 _ => List.getElem?_set_ne (by omega)⟩
  unfold stepMS
  by_cases hR : inR ai (xs.set i v).length = true
  · have hR' : inR ai xs.length = true := by simpa using hR
    simp only [hR, if_true]
    by_cases e1 : op = 1
    · simp only [e1, if_true]; exact ⟨_, _, _, rfl, by omega, by omega, by omega, by omega, key0⟩
    by_cases e2 : op = 2
    · simp only [e2]; exact ⟨_, _, _, rfl, by omega, by omega, by omega, by omega, key _ hR'⟩
    by_cases e3 : op = 3
    · simp only [e3]; exact ⟨_, _, _, rfl, by omega, by omega, by omega, by omega, key _ hR'⟩
    by_cases e4 : op = 4
    · simp only [e4]; exact ⟨_, _, _, rfl, by omega, by omega, by omega, by omega, key _ hR'⟩
    by_cases e5 : op = 5
    · simp only [e5]; exact ⟨_, _, _, rfl, by omega, by omega, by omega, by omega, key _ hR'⟩
    simp only [e1, e2, e3, e4, e5, if_false]; exact ⟨_, _, _, rfl, by omega, by omega, by omega, by omega, key0⟩
  · simp only [hR]; exact ⟨_, _, _, rfl, by omega, by omega, by omega, by omega, key0⟩

set_option maxRecDepth 100000 in
set_option maxHeartbeats 1000000 in
theorem keeps_out (a : Option Addr) (n cap : Nat) (at' v op ai v2 : Int) (w : World) (hn : n ≤ 9223372036854775807) (h : 60 < n ∨ at' < 0 ∨ (n : Int) ≤ at' ∨ ai = at') :
    Calls Try.prog 3 #[.slice a n cap, .int .i64 at', .int .u32 v, .agg #[.int .i64 op, .int .i64 ai, .int .u32 v2]] w fun e w' => e = .returned (.bool true) ∧ Upd [] w w' := by
  have hu : Upd [] w (w.alloc (.cells #[.int .i64 op, .int .i64 ai, .int .u32 v2] 25)) := (Upd.refl _ _).alloc _
  by_cases h1 : 60 < n
  · go_enter Try.func3, Try.ntmps3
    go_wp2_with (go_at_call 14; refine (alive06 _).mono ?_; rintro e w1 ⟨rfl, hu1⟩)
    go_ret
    exact ⟨rfl, hu.trans hu1⟩
  by_cases h2 : at' < 0
  · go_enter Try.func3, Try.ntmps3
    go_wp2_with (go_at_call 14; refine (alive06 _).mono ?_; rintro e w1 ⟨rfl, hu1⟩)
    go_ret
    exact ⟨rfl, hu.trans hu1⟩
  by_cases h3 : (n : Int) ≤ at'
  · go_enter Try.func3, Try.ntmps3
    go_wp2_with (go_at_call 14; refine (alive06 _).mono ?_; rintro e w1 ⟨rfl, hu1⟩)
    go_ret
    exact ⟨rfl, hu.trans hu1⟩
  obtain rfl : ai = at' := by omega
  go_enter Try.func3, Try.ntmps3
  go_wp2_with (go_at_call 14; refine (alive06 _).mono ?_; rintro e w1 ⟨rfl, hu1⟩)
  go_ret
  exact ⟨rfl, hu.trans hu1⟩
end Go.Proofs.Ytfdidgobgeohcaa
