/- The document's answer for package walk. -/
import Derived.Test.YtkjonflmokapcaaWK4
set_option linter.unusedVariables false
set_option linter.unusedSimpArgs false
namespace Go.Proofs.Ytkjonflmokapcaa
open Go.RowKit

theorem cells2' {w : World} {k : Nat} {x y : Value} {t : TypeId} {f : Nat × Nat} (h : w.heap[k]? = some (.cells #[x, y] t f)) : w.cell? ⟨k, 0, none⟩ = some x ∧ w.cell? ⟨k, 1, none⟩ = some y :=
  ⟨by rw [cell_of_heap h]; rfl, by rw [cell_of_heap h]; rfl⟩
set_option maxRecDepth 100000 in
theorem rg_within (n : Int) (w : World) : Calls Try.prog 91 #[.int .i64 n] w fun e w' => e = .returned (.bool (decide (-1048576 ≤ n ∧ n ≤ 1048576))) ∧ w = w' := by
  by_cases h1 : -1048576 ≤ n
  · by_cases h2 : n ≤ 1048576
    · go_enter Try.func91, Try.ntmps91
      go_wp2
      go_ret
      exact ⟨by simp [h1, h2], rfl⟩
    · go_enter Try.func91, Try.ntmps91
      go_wp2
      go_ret
      exact ⟨by simp [h1, h2], rfl⟩
  · go_enter Try.func91, Try.ntmps91
    go_wp2
    go_ret
    refine ⟨congrArg Ending.returned (congrArg Value.bool ?_), rfl⟩
    first
      | (symm; exact decide_eq_false (fun h => by omega))
      | (simp; omega)
set_option maxRecDepth 100000 in
theorem rg_right (x y : Int) (w : World) : Calls Try.prog 59 #[.agg #[.int .i64 x, .int .i64 y]] w fun e w' => e = .returned (.bool (decide (GR x y))) ∧ Upd [] w w' := by
  by_cases h1 : -1048576 ≤ x ∧ x ≤ 1048576
  · have d1 : decide (-1048576 ≤ x ∧ x ≤ 1048576) = true := by simpa using h1
    have hd : decide (GR x y) = decide (-1048576 ≤ y ∧ y ≤ 1048576) := decide_eq_decide.2 ⟨fun h => h.2, fun h => ⟨h1, h⟩⟩
    clear h1
    go_enter Try.func59, Try.ntmps59
    go_wp2_with (go_at_call 91; refine (rg_within _ _).mono ?_; rintro e w1 ⟨rfl, rfl⟩)
    go_ret
    refine ⟨congrArg Ending.returned (congrArg Value.bool ?_), (Upd.refl _ _).alloc _⟩
    rw [hd, Bool.decide_and]
  · have d1 : decide (-1048576 ≤ x ∧ x ≤ 1048576) = false := by simpa using h1
    have hd : decide (GR x y) = false := decide_eq_false (fun h => h1 h.1)
    clear h1
    go_enter Try.func59, Try.ntmps59
    go_wp2_with (go_at_call 91; refine (rg_within _ _).mono ?_; rintro e w1 ⟨rfl, rfl⟩)
    go_ret
    refine ⟨congrArg Ending.returned (congrArg Value.bool ?_), (Upd.refl _ _).alloc _⟩
    rw [hd]
set_option maxRecDepth 100000 in
theorem rw_right (x y t : Int) (w : World) : Calls Try.prog 16 #[.agg #[.int .i64 x, .int .i64 y, .int .i64 t]] w fun e w' => e = .returned (.bool (decide (WR x y t))) ∧ Upd [] w w' := by
  have hb0 := heap_alloc_new w (.cells #[.int .i64 x, .int .i64 y, .int .i64 t] 25)
  have HB0 := Lib.hid hb0
  clear hb0
  by_cases h1 : GR x y
  · have d1 : decide (GR x y) = true := by simpa using h1
    have hd : decide (WR x y t) = decide (0 ≤ t ∧ t < 4) := decide_eq_decide.2 ⟨fun h => h.2, fun h => ⟨h1, h⟩⟩
    clear h1
    by_cases h2 : 0 ≤ t
    · go_enter Try.func16, Try.ntmps16
      go_wp2_with (go_at_call 59; refine (rg_right _ _ _).mono ?_; rintro e w1 ⟨rfl, hu1⟩; obtain ⟨k0, k1, k2⟩ := cells3 (hu1.keepb HB0.out (by simp)); have HU1 := Lib.hid (((Upd.refl [] w).alloc _).trans hu1); clear hu1)
      go_ret
      refine ⟨congrArg Ending.returned (congrArg Value.bool ?_), HU1.out⟩
      first
        | (rw [hd]; exact decide_eq_decide.2 ⟨fun h => ⟨h2, by omega⟩, fun h => by omega⟩)
        | (rw [hd]; simp [h2]; done)
        | (simp only [Bool.decide_and] at hd ⊢; rw [hd]; simp; omega)
        | (rw [hd]; simp; omega)
        | (simp; omega)
    · go_enter Try.func16, Try.ntmps16
      go_wp2_with (go_at_call 59; refine (rg_right _ _ _).mono ?_; rintro e w1 ⟨rfl, hu1⟩; obtain ⟨k0, k1, k2⟩ := cells3 (hu1.keepb HB0.out (by simp)); have HU1 := Lib.hid (((Upd.refl [] w).alloc _).trans hu1); clear hu1)
      go_ret
      refine ⟨congrArg Ending.returned (congrArg Value.bool ?_), HU1.out⟩
      first
        | (rw [hd]; simp [h2]; done)
        | (simp only [Bool.decide_and] at hd ⊢; rw [hd]; simp; omega)
        | (rw [hd]; simp; omega)
        | (simp; omega)
  · have d1 : decide (GR x y) = false := by simpa using h1
    have hd : decide (WR x y t) = false := decide_eq_false (fun h => h1 h.1)
    clear h1
    go_enter Try.func16, Try.ntmps16
    go_wp2_with (go_at_call 59; refine (rg_right _ _ _).mono ?_; rintro e w1 ⟨rfl, hu1⟩; obtain ⟨k0, k1, k2⟩ := cells3 (hu1.keepb HB0.out (by simp)); have HU1 := Lib.hid (((Upd.refl [] w).alloc _).trans hu1); clear hu1)
    go_ret
    refine ⟨congrArg Ending.returned (congrArg Value.bool ?_), HU1.out⟩
    rw [hd]

theorem tre_succ (x y : Int) {n : Nat} (h : n + 1 < 4) : tre x y (n + 1) = -tim x y n ∧ tim x y (n + 1) = tre x y n := by
  have : n = 0 ∨ n = 1 ∨ n = 2 := by omega
  rcases this with rfl | rfl | rfl <;> simp [tre, tim]
theorem neg64 {x : Int} (h : Sm x) : wrap64 (-x) = -x := by
  have e : (2 : Nat) ^ 40 = 1099511627776 := by decide
  unfold Sm at h
  unfold wrap64
  omega
set_option maxRecDepth 100000 in
set_option maxHeartbeats 1000000 in
theorem r_turned {x y k : Int} (hx : Sm x) (hy : Sm y) (w : World) :
    Calls Try.prog 56 #[.agg #[.int .i64 x, .int .i64 y], .int .i64 k] w fun e w' => e = .returned (.agg #[.int .i64 (tre x y (k % 4).toNat), .int .i64 (tim x y (k % 4).toNat)]) ∧ Upd [] w w' := by
  have ht := turn_index k
  obtain ⟨r, hr, hrk⟩ : ∃ r : Nat, r < 4 ∧ k % 4 = r := ⟨(k % 4).toNat, by omega, by omega⟩
  rw [hrk] at ht ⊢
  have HX := Lib.hid hx
  have HY := Lib.hid hy
  have HB := Lib.hid (show ((w.alloc (.cells #[.int .i64 x, .int .i64 y] 23)).alloc (.cells #[.int .i64 0, .int .i64 0] 23)).heap[w.heap.size]? = some (.cells [.int .i64 (tre x y 0), .int .i64 (tim x y 0)].toArray 23) ∧ ((w.alloc (.cells #[.int .i64 x, .int .i64 y] 23)).alloc (.cells #[.int .i64 0, .int .i64 0] 23)).heap[w.heap.size + 1]? = some (.cells [.int .i64 0, .int .i64 0].toArray 23) ∧ Upd [] w ((w.alloc (.cells #[.int .i64 x, .int .i64 y] 23)).alloc (.cells #[.int .i64 0, .int .i64 0] 23)) from ⟨heap_alloc' (heap_alloc_new _ _), heap_alloc_at _ (by simp), ((Upd.refl _ _).alloc _).alloc _⟩)
  clear hx hy hrk
  go_enter Try.func56, Try.ntmps56
  go_wp2
  go_loopg [5] r (fun m i wr => ∃ n : Nat, m + n = r ∧ i = .int .i64 n ∧ wr.heap[w.heap.size]? = some (.cells [.int .i64 (tre x y n), .int .i64 (tim x y n)].toArray 23) ∧ wr.heap[w.heap.size + 1]? = some (.cells [.int .i64 0, .int .i64 0].toArray 23) ∧ Upd [] w wr)
  case atStart => exact ⟨0, by omega, rfl, HB.out⟩
  case round =>
    obtain ⟨n, hn, rfl, hb0, hb1, hu⟩ := hrel
    obtain ⟨c0, c1⟩ := cells2' hb0
    obtain ⟨d0, d1⟩ := cells2' hb1
    have zf := fun i => frozen_of_heap hb0 i
    have zf1 := fun i => frozen_of_heap hb1 i
    have l0 := heap_lt hb0
    have l1 := heap_lt hb1
    have HB0 := Lib.hid hb0
    have HB1 := Lib.hid hb1
    have HU := Lib.hid hu
    have HN := Lib.hid hn
    by_cases hlt : n < r
    · have hw := neg64 (tre_sm HX.out HY.out n).2
      have HS := Lib.hid (tre_succ x y (n := n) (by omega))
      clear hb0 hb1 hu hn
      go_wp2
      have hn' := HN.out
      go_roundg (gk - 1)
      case measure => omega
      case rel =>
        refine ⟨n + 1, by omega, by go_num, ?_, ?_, ?_⟩
        · rw [heap_set (heap_set HB0.out _ _)]
          rw [HS.out.1, HS.out.2]
          simp
        · rw [heap_set_other _ _ _ (by omega), heap_set_other _ _ _ (by omega)]; exact HB1.out
        · exact Upd.then (S := []) HU.out (((Upd.refl [w.heap.size] wr).setCell (by simp) _).setCell (by simp) _) (fun i hi => .inr (by simp at hi; omega))
    · obtain rfl : n = r := by omega
      clear hb0 hb1 hu hn
      go_wp2
      refine ret_rnum1 rfl (g := w.heap.size + 1) (x := .int .i64 (tre x y n)) (y := .int .i64 (tim x y n)) (t := 23) (fr := (0, 0)) rfl rfl (hg := ?hg) ?_
      case hg =>
        repeat (first | (with_reducible exact HB1.out) | (with_reducible apply heap_set2))
        all_goals rfl
      · exact ⟨by simp, Upd.then (S := []) HU.out (((Upd.refl [w.heap.size + 1] wr).setCell (by simp) _).setCell (by simp) _) (fun i hi => .inr (by simp at hi; omega))⟩
end Go.Proofs.Ytkjonflmokapcaa
