/- Package delta: the chapter's example. -/
import Derived.Test.YtgmdhjlbedgafaaDelta5
set_option linter.unusedVariables false
set_option linter.unusedSimpArgs false
namespace Go.Proofs.Ytgmdhjlbedgafaa
open Go.RowKit

/-- A list that was just made. -/
theorem dl_new (w : World) : DL (w.alloc (.cells #[.pointer none, .int .i64 0] 27)) w.heap.size [] :=
  ⟨heap_alloc_new _ _, trivial, by simp, trivial⟩

theorem reads_new (w : World) (vs : List Value) (t : TypeId) : Reads (w.alloc (.cells vs.toArray t)) (some ⟨w.heap.size, 0, none⟩) vs.length vs :=
  ⟨rfl, fun _ => ⟨w.heap.size, 0, rfl, by simp, fun j v hj => by rw [cell_of_heap (heap_alloc_new _ _)]; simpa using hj⟩⟩

set_option maxRecDepth 100000 in
set_option maxHeartbeats 2000000 in
theorem alive24 (w : World) : Calls Try.prog 5 #[] w fun e w' => e = .returned (.bool true) ∧ Upd [] w w' := by
  go_enter Try.func5, Try.ntmps5
  have h0 := dl_new w
  have hu0 : Upd [] w (w.alloc (.cells #[.pointer none, .int .i64 0] 27)) := (Upd.refl _ _).alloc _
  have H0 := Lib.hid h0
  clear h0
  go_wp2_with fail
  refine (dadd_yes 1 2 H0.out rfl (by omega) (by omega) (by omega) (by omega) (by simp)).mono ?_
  rintro e w1 ⟨B1, rfl, hB1, hd1, hu1⟩
  simp only [dspan, List.nil_append] at hd1
  have H1 := Lib.hid hd1
  clear hd1
  go_wp2_with fail
  refine (dadd_yes 2 1 H1.out (by simp [dfind]) (by omega) (by omega) (by omega) (by omega) (by simp)).mono ?_
  rintro e w2 ⟨B2, rfl, hB2, hd2, hu2⟩
  have e2 : dspan 1 [⟨B1, 1, 2⟩] = ([], [⟨B1, 1, 2⟩]) := by simp [dspan]
  rw [e2] at hd2
  have H2 := Lib.hid hd2
  clear hd2 e2
  go_wp2_with fail
  refine (dadd_yes 3 2 H2.out (by simp [dfind]) (by omega) (by omega) (by omega) (by omega) (by simp)).mono ?_
  rintro e w3 ⟨B3, rfl, hB3, hd3, hu3⟩
  have e3 : dspan 2 ([] ++ [⟨B2, 2, 1⟩, ⟨B1, 1, 2⟩]) = ([⟨B2, 2, 1⟩, ⟨B1, 1, 2⟩], []) := by simp [dspan]
  rw [e3] at hd3
  have H3 := Lib.hid hd3
  clear hd3 e3
  go_wp2_with fail
  refine (dtick_any H3.out (by simp) (by simp)).mono ?_
  rintro e w4 ⟨v4, rfl, ho4, hd4, hu4⟩
  have e4 : dsplit0 (ddec ([⟨B2, 2, 1⟩, ⟨B1, 1, 2⟩] ++ [⟨B3, 3, 2⟩])) = ([⟨B2, 2, 0⟩], [⟨B1, 1, 1⟩, ⟨B3, 3, 1⟩]) := by simp [dsplit0, ddec]
  rw [drest, e4] at hd4
  rw [dtold, e4] at ho4
  have H4 := Lib.hid hd4
  obtain ⟨a4, c4, rfl, hr4⟩ := own_reads ho4
  have R4 := Lib.hid hr4
  clear hd4 e4 ho4 hr4
  go_wp2_with fail
  refine (same_any a4 _ c4 _ [2] [2] _ (R4.out.upd ((Upd.refl [] _).alloc _) (by simp)) (reads_new w4 (i64s [2]) _) (by simp) (by simp)).mono ?_
  rintro e w5 ⟨rfl, hu5⟩
  have hu5' := ((Upd.refl [] w4).alloc (.cells (i64s [2]).toArray 3)).trans hu5
  have hd5 := H4.out.keep hu5' (by simp)
  have H5 := Lib.hid hd5
  clear hd5
  go_wp2_with fail
  refine (dtick_any H5.out (by simp) (by simp)).mono ?_
  rintro e w6 ⟨v6, rfl, ho6, hd6, hu6⟩
  have e6 : dsplit0 (ddec [⟨B1, 1, 1⟩, ⟨B3, 3, 1⟩]) = ([⟨B1, 1, 0⟩, ⟨B3, 3, 0⟩], []) := by simp [dsplit0, ddec]
  rw [dtold, e6] at ho6
  obtain ⟨a6, c6, rfl, hr6⟩ := own_reads ho6
  have R6 := Lib.hid hr6
  clear hd6 e6 ho6 hr6
  go_wp2_with fail
  refine (same_any a6 _ c6 _ [1, 3] [1, 3] _ (R6.out.upd ((Upd.refl [] _).alloc _) (by simp)) (reads_new w6 (i64s [1, 3]) _) (by simp) (by simp)).mono ?_
  rintro e w7 ⟨rfl, hu7⟩
  have hu7' := ((Upd.refl [] w6).alloc (.cells (i64s [1, 3]).toArray 3)).trans hu7
  go_wp2
  go_ret
  have s0 : (w.alloc (.cells #[.pointer none, .int .i64 0] 27)).heap.size = w.heap.size + 1 := by simp
  have s1 := hu1.size
  have s2 := hu2.size
  refine ⟨by simp, ((((((hu0.then hu1 ?_).then hu2 ?_).then hu3 ?_).then hu4 ?_).trans hu5').then hu6 ?_).trans hu7'⟩ <;> simp <;> omega
end Go.Proofs.Ytgmdhjlbedgafaa
