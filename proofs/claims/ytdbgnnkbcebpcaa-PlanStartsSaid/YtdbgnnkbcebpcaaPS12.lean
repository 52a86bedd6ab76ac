/- The law PlanStarts: what comes at any rate; where a cell lies. -/
import Derived.Test.YtdbgnnkbcebpcaaPS11
import Derived.Test.YtdbgnnkbcebpcaaInts
import Derived.Test.YtdbgnnkbcebpcaaCF13
set_option linter.unusedVariables false
set_option linter.unusedSimpArgs false
namespace Go.Proofs.Ytdbgnnkbcebpcaa
open Go.RowKit
set_option maxRecDepth 100000 in
set_option maxHeartbeats 4000000 in
theorem alive30 (w : World) : Calls Try.prog 37 #[] w fun e w' => e = .returned (.bool true) ∧ Upd [] w w' := by
  have e2 : CF.bad ⟨[⟨0, false, none, 0, 0⟩], [⟨1, none, 0, 0⟩], [], 0⟩ = (0, 0, 0) := by decide
  have H2 := Lib.hid fun (w : World) (b b2 : Nat) (h : w.heap[b]? = some (.cells #[.int .i64 0, .bool false, .slice none 0 0] 131)) (h2 : w.heap[b2]? = some (.cells #[.int .i64 1, .slice none 0 0] 133)) => planOf_c (W := w) (ta := some ⟨b, 0, none⟩) (la := some ⟨b2, 0, none⟩) (oa := none) (c := ⟨[⟨0, false, none, 0, 0⟩], [⟨1, none, 0, 0⟩], [], 0⟩) 1 1 0 ⟨fun _ => ⟨b, 0, rfl, heap_lt h, fun i hi j v hv => by
    obtain rfl : i = 0 := by simpa using hi
    rw [cell_of_heap h]
    simpa [TK.cells] using hv⟩, fun _ => ⟨b2, 0, rfl, heap_lt h2, fun i hi j v hv => by
    obtain rfl : i = 0 := by simpa using hi
    rw [cell_of_heap h2]
    simpa [LV.cells] using hv⟩, fun h => by simp at h, by simp, by simp, by simp, by simp [maxLen], by simp [maxLen]⟩ e2
  have f1 : sumS ([] : List OBJ) + sumL ([⟨1, none, 0, 0⟩].map LV.r) = 4 := by decide
  have f3 : lns (sumS ([] : List OBJ)) ([⟨1, none, 0, 0⟩].map LV.r) = [⟨0, 1, 3⟩] := by simp [lns, lnOf, sumS, lsize, sizeP, rightB, aheadP, roomsP, wideB, pw7]
  simp only [f1, f3] at H2
  unfold cfA at H2
  simp only [List.length_nil, List.length_cons] at H2
  clear e2 f1 f3
  go_enter Try.func37, Try.ntmps37
  go_wp2_with fail
  refine (H2.out _ w.heap.size (w.heap.size + 1) (heap_alloc' (heap_alloc_new w _)) (heap_alloc_at _ (by simp))).mono ?_
  rintro e w2 ⟨hu2, va, vc, na, nc, ka, kc, rfl, -, hln, hkr⟩
  have HU2 := Lib.hid ((((Upd.refl [] w).alloc _).alloc _).trans hu2)
  obtain ⟨lb, lo, rfl, hlb, hlc⟩ := hln (by simp)
  have l5 := hlc 0 (by simp) 5 (.int .i64 3) rfl
  simp only [Nat.zero_mul, Nat.add_zero] at l5
  have ha5 : asks (4 + 1) (0 + 1) = i64s [5] := by simp [asks, i64s, List.range_succ]
  rw [ha5] at hkr
  have HKR := Lib.hid (show Reads w2 ka [(5 : Int)].length (i64s [5]) from hkr)
  clear hu2 hlc hkr ha5 hln
  go_wp2_with (go_at_call 58; refine Go.RowKit.Hid.out ?_)
  refine Lib.hid ?_
  refine (same_any ka (some ⟨w2.heap.size + 1, 0, none⟩) kc 1 [5] [5] _ (HKR.out.upd (((Upd.refl [] w2).alloc _).alloc _) (by simp)) ⟨rfl, fun _ => ⟨_, 0, rfl, by simp, fun j v hv => by rw [Nat.zero_add]; exact cell_of_list (c := [.int .i64 5]) (heap_alloc_at _ (by simp)) _ _ (by simpa [i64s] using hv)⟩⟩ (by simp) (by simp)).mono ?_
  rintro e w3 ⟨rfl, hu3⟩
  have HU3 := Lib.hid (((HU2.out.alloc (.cells #[.slice va 0 vc, .slice (some ⟨lb, lo, none⟩) 1 nc, .int .i64 4, .slice ka 1 kc, .int .i64 6] 96)).alloc (.cells #[.int .i64 5] 3)).trans hu3)
  have hb4 := hu3.keepb (k := w2.heap.size) (heap_alloc' (heap_alloc_new w2 (.cells #[.slice va 0 vc, .slice (some ⟨lb, lo, none⟩) 1 nc, .int .i64 4, .slice ka 1 kc, .int .i64 6] 96))) (by simp)
  have c4 : w3.cell? ⟨w2.heap.size, 4, none⟩ = some (.int .i64 6) := by rw [cell_of_heap hb4]; rfl
  clear hu3 hb4
  go_wp2
  go_ret
  exact ⟨rfl, HU3.out⟩
theorem least_of {P : Nat → Prop} : ∀ n, P n → ∃ i, P i ∧ ∀ j, j < i → ¬ P j := by
  intro n
  induction n using Nat.strongRecOn with
  | _ n ih =>
    intro hn
    by_cases h : ∃ m, m < n ∧ P m
    · obtain ⟨m, hm, hp⟩ := h
      exact ih m hm hp
    · exact ⟨n, hn, fun j hj hp => h ⟨j, hj, hp⟩⟩
def AllRight (l : List OBJ) : Prop := ∀ o ∈ l, rightB o.k o.cap o.wd o.rt = true
theorem has_some (l : List OBJ) (hr : AllRight l) : ∀ (m n : Int), m ≤ n → n < m + sumS l → ∃ (i : Nat) (p : PL), (pls m l)[i]? = some p ∧ p.has n = true := by
  induction l with
  | nil => intro m n h1 h2; simp [sumS] at h2; omega
  | cons o l ih =>
    intro m n h1 h2
    have ho := hr o (by simp)
    by_cases h : n < m + o.size
    · refine ⟨0, plOf m o, rfl, ?_⟩
      unfold plOf
      rw [if_pos ho]
      unfold OBJ.size at h
      simp [PL.has, inB, h1, h]
    · simp only [sumS] at h2
      obtain ⟨i, p, hp, hh⟩ := ih (fun x hx => hr x (by simp [hx])) (m + o.size) n (by omega) (by omega)
      exact ⟨i + 1, p, hp, hh⟩
theorem has_first (l : List OBJ) (hr : AllRight l) (n : Int) (h0 : 0 ≤ n) (h1 : n < sumS l) : ∃ i : Nat, (∃ p, (pls 0 l)[i]? = some p ∧ p.has n = true) ∧ ∀ (j : Nat) (p : PL), (pls 0 l)[j]? = some p → j < i → p.has n = false := by
  obtain ⟨i, p, hp⟩ := has_some l hr 0 n h0 (by omega)
  obtain ⟨i, hi, hn⟩ := least_of (P := fun i => ∃ p, (pls 0 l)[i]? = some p ∧ p.has n = true) i ⟨p, hp⟩
  refine ⟨i, hi, fun j p hj hlt => ?_⟩
  cases hh : p.has n with
  | false => rfl
  | true => exact absurd ⟨p, hj, hh⟩ (hn j hlt)
theorem pls_bounds (l : List OBJ) (hr : AllRight l) : ∀ (m : Int), ∀ p ∈ pls m l, m ≤ p.a ∧ p.a + sizeP p.k p.cap p.wd p.rt ≤ m + sumS l := by
  induction l with
  | nil => intro m p hp; simp [pls] at hp
  | cons o l ih =>
    intro m p hp
    have ho := hr o (by simp)
    have hs := sumS_bounds l
    have hz := sizeP_bounds o.k o.cap o.wd o.rt
    simp only [pls, List.mem_cons] at hp
    simp only [sumS]
    rcases hp with rfl | hp
    · unfold plOf
      rw [if_pos ho]
      simp only [OBJ.size]
      omega
    · have := ih (fun x hx => hr x (by simp [hx])) _ p hp
      unfold OBJ.size at *
      omega
theorem has_out (l : List OBJ) (hr : AllRight l) (n : Int) (h1 : sumS l ≤ n) : ∀ (j : Nat) (p : PL), (pls 0 l)[j]? = some p → p.has n = false := by
  intro j p hj
  have := pls_bounds l hr 0 p (List.mem_of_getElem? hj)
  unfold PL.has inB
  simp
  omega
theorem pls_kind (l : List OBJ) (hr : AllRight l) : ∀ (m : Int) (j : Nat) (hj : j < l.length) (p : PL), (pls m l)[j]? = some p → p.k = l[j].k := by
  intro m j hj p hp
  rw [pls_get m l j hj] at hp
  rw [← Option.some.inj hp]
  unfold plOf
  rw [if_pos (hr _ (List.getElem_mem hj))]
end Go.Proofs.Ytdbgnnkbcebpcaa
