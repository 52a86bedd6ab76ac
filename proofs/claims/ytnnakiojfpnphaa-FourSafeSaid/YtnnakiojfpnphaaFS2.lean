/- Package four: what a routine's state is; its small methods. -/
import Derived.Test.YtnnakiojfpnphaaFS1
import Derived.Test.YtnnakiojfpnphaaDrew
import Derived.Laws.Rows
set_option linter.unusedVariables false
set_option linter.unusedSimpArgs false
namespace Go.Proofs.Ytnnakiojfpnphaa
open Go.RowKit
structure FSt where
  (n p i v0 v1 v2 v3 f r0 r1 r2 r3 : Int) (is on : Bool)
def fourC (a wd : Int) (s : FSt) : List Value := [.int .i64 2, .int .i64 a, .int .i64 0, .int .i64 wd, .int .i64 0, .int .i64 s.n, .int .i64 s.p, .int .i64 s.i, .int .u32 s.v0, .int .u32 s.v1, .int .u32 s.v2, .int .u32 s.v3, .int .i64 s.f, .int .u32 s.r0, .int .u32 s.r1, .int .u32 s.r2, .int .u32 s.r3, .bool s.is, .bool s.on]
structure FG (a wd : Int) (w : World) (b : Nat) (t : TypeId) (s : FSt) : Prop where
  h : w.heap[b]? = some (.cells (fourC a wd s).toArray t (0, 0))
theorem FG.keep {a wd : Int} {w w' : World} {b : Nat} {t : TypeId} {s : FSt} (h : FG a wd w b t s) {S : List Nat} (hu : Upd S w w') (hb : b ∉ S) : FG a wd w' b t s := ⟨hu.keepb h.h hb⟩
theorem FG.cell {a wd : Int} {w : World} {b : Nat} {t : TypeId} {s : FSt} (h : FG a wd w b t s) (i : Nat) : w.cell? ⟨b, i, none⟩ = (fourC a wd s)[i]? := by rw [cell_of_heap h.h]; simp
theorem FG.pl {a wd : Int} {w : World} {b : Nat} {t : TypeId} {s : FSt} (h : FG a wd w b t s) :
    w.cell? ⟨b, 0, none⟩ = some (.int .i64 2) ∧ w.cell? ⟨b, 1, none⟩ = some (.int .i64 a) ∧ w.cell? ⟨b, 2, none⟩ = some (.int .i64 0) ∧ w.cell? ⟨b, 3, none⟩ = some (.int .i64 wd) ∧ w.cell? ⟨b, 4, none⟩ = some (.int .i64 0) ∧ w.cell? ⟨b, 5, none⟩ = some (.int .i64 s.n) ∧ w.cell? ⟨b, 6, none⟩ = some (.int .i64 s.p) ∧ w.cell? ⟨b, 7, none⟩ = some (.int .i64 s.i) ∧ w.cell? ⟨b, 18, none⟩ = some (.bool s.on) :=
  ⟨by rw [h.cell]; rfl, by rw [h.cell]; rfl, by rw [h.cell]; rfl, by rw [h.cell]; rfl, by rw [h.cell]; rfl, by rw [h.cell]; rfl, by rw [h.cell]; rfl, by rw [h.cell]; rfl, by rw [h.cell]; rfl⟩
theorem FG.vs {a wd : Int} {w : World} {b : Nat} {t : TypeId} {s : FSt} (h : FG a wd w b t s) :
    w.cell? ⟨b, 8, none⟩ = some (.int .u32 s.v0) ∧ w.cell? ⟨b, 9, none⟩ = some (.int .u32 s.v1) ∧ w.cell? ⟨b, 10, none⟩ = some (.int .u32 s.v2) ∧ w.cell? ⟨b, 11, none⟩ = some (.int .u32 s.v3) :=
  ⟨by rw [h.cell]; rfl, by rw [h.cell]; rfl, by rw [h.cell]; rfl, by rw [h.cell]; rfl⟩
theorem FG.rs {a wd : Int} {w : World} {b : Nat} {t : TypeId} {s : FSt} (h : FG a wd w b t s) :
    w.cell? ⟨b, 12, none⟩ = some (.int .i64 s.f) ∧ w.cell? ⟨b, 13, none⟩ = some (.int .u32 s.r0) ∧ w.cell? ⟨b, 14, none⟩ = some (.int .u32 s.r1) ∧ w.cell? ⟨b, 15, none⟩ = some (.int .u32 s.r2) ∧ w.cell? ⟨b, 16, none⟩ = some (.int .u32 s.r3) ∧ w.cell? ⟨b, 17, none⟩ = some (.bool s.is) :=
  ⟨by rw [h.cell]; rfl, by rw [h.cell]; rfl, by rw [h.cell]; rfl, by rw [h.cell]; rfl, by rw [h.cell]; rfl, by rw [h.cell]; rfl⟩
theorem FG.fz {a wd : Int} {w : World} {b : Nat} {t : TypeId} {s : FSt} (h : FG a wd w b t s) (i : Nat) : w.frozen? ⟨b, i, none⟩ = false := frozen_of_heap h.h i
def f0 (v0 v1 v2 v3 : Int) : FSt := ⟨0, 0, 0, v0, v1, v2, v3, 0, 0, 0, 0, 0, true, true⟩
def zero4 : Array Value := #[.int .i64 0, .int .i64 0, .int .i64 0, .int .i64 0, .int .i64 0, .int .i64 0, .int .i64 0, .int .i64 0, .int .u32 0, .int .u32 0, .int .u32 0, .int .u32 0, .int .i64 0, .int .u32 0, .int .u32 0, .int .u32 0, .int .u32 0, .bool false, .bool false]
theorem heap_set2c {w : World} {g i : Nat} {v : Value} {cs ds : Array Value} {t : TypeId} {f : Nat × Nat} (h : w.heap[g]? = some (.cells cs t f)) (e : cs.setIfInBounds i v = ds) : (w.setCell ⟨g, i, none⟩ v).heap[g]? = some (.cells ds t f) := by
  rw [heap_set h, e]
theorem updR {S : List Nat} {w w' : World} {g : Nat} {cs : Array Value} (h : Upd S w w') (hg : g ∈ S ∨ w.heap.size ≤ g) : Upd S w (w'.setRow g cs) := h.then (upd_setRow w' g cs) (fun i hi => by simp at hi; subst hi; exact hg)
theorem cells5p {w : World} {k : Nat} {a b c d e : Value} {t : TypeId} {fr : Nat × Nat} (hh : w.heap[k]? = some (.cells #[a, b, c, d, e] t fr)) :
    w.cell? ⟨k, 0, none⟩ = some a ∧ w.cell? ⟨k, 1, none⟩ = some b ∧ w.cell? ⟨k, 2, none⟩ = some c ∧ w.cell? ⟨k, 3, none⟩ = some d ∧ w.cell? ⟨k, 4, none⟩ = some e :=
  ⟨by rw [cell_of_heap hh]; rfl, by rw [cell_of_heap hh]; rfl, by rw [cell_of_heap hh]; rfl, by rw [cell_of_heap hh]; rfl, by rw [cell_of_heap hh]; rfl⟩
theorem fourC_one (a wd : Int) (s : FSt) : (fourC a wd s).toArray.all (·.oneCell') = true := by simp [fourC, Value.oneCell']
theorem info_four : (Try.prog.info? 81).map (·.size) = some 19 := by kernel_rfl
theorem info_four2 (a wd : Int) (s : FSt) : (Try.prog.info? 81).map (·.size) = some (fourC a wd s).toArray.size := info_four
section
variable (a wd : Int)
set_option maxRecDepth 100000 in
set_option maxHeartbeats 1000000 in
theorem four_begun (hw : 1 ≤ wd ∧ wd ≤ 4) (W : World) : Calls Try.prog 28 #[.agg #[.int .i64 2, .int .i64 a, .int .i64 0, .int .i64 wd, .int .i64 0]] W fun e w' => e = .returned (.agg (fourC a wd (f0 0 0 0 0)).toArray) ∧ Upd [] W w' := by
  have HR := Lib.hid fun w => sright_any 0 wd 0 0 0 0 0 0 0 w 2
  rw [right4 wd hw] at HR
  unfold obA at HR
  clear hw
  go_enter Try.func28, Try.ntmps28
  go_wp2_with (refine wpList_store_row rfl 81 _ _ rfl (W.heap.size + 1 + 1) (fourC a wd { f0 0 0 0 0 with on := false }).toArray rfl rfl 81 zero4 ?hz info_four rfl (fourC_one _ _ _) ?_; rotate_left 1; refine Go.RowKit.Hid.out ?_)
  case hz => exact heap_alloc_at _ (by simp)
  refine Lib.hid ?_
  obtain ⟨w3, hw3⟩ : ∃ w3, w3 = (((W.alloc (.cells #[.int .i64 2, .int .i64 a, .int .i64 0, .int .i64 wd, .int .i64 0] 27)).alloc (.cells zero4 81)).alloc (.cells zero4 81)).setRow (W.heap.size + 1 + 1) (fourC a wd { f0 0 0 0 0 with on := false }).toArray := ⟨_, rfl⟩
  have HP3 : w3.heap[W.heap.size]? = some (.cells #[.int .i64 2, .int .i64 a, .int .i64 0, .int .i64 wd, .int .i64 0] 27 (0, 0)) := by
    rw [hw3, setRow_other _ _ _ _ (by omega)]
    exact heap_alloc' (heap_alloc' (heap_alloc_new _ _))
  have HZ3 := Lib.hid (show w3.heap[W.heap.size + 1]? = some (.cells zero4 81 (0, 0)) by
    rw [hw3, setRow_other _ _ _ _ (by omega)]
    exact heap_alloc' (heap_alloc_at _ (by simp)))
  have HS3 := Lib.hid (show w3.heap[W.heap.size + 1 + 1]? = some (.cells (fourC a wd { f0 0 0 0 0 with on := false }).toArray 81 (0, 0)) by
    rw [hw3]
    exact setRow_heap _ _ zero4 _ _ _ (heap_alloc_at _ (by simp)))
  have HU3 := Lib.hid (show Upd [] W w3 by
    rw [hw3]
    exact updR ((((Upd.refl _ _).alloc _).alloc _).alloc _) (.inr (by omega)))
  have hl3 := heap_lt HS3.out
  have hl4 := heap_lt HP3
  unfold zero4 at hw3
  unfold fourC f0 at hw3
  simp only at hw3
  unfold fourC f0
  simp only
  rw [← hw3]
  clear hw3
  obtain ⟨p0, p1, p2, p3, p4⟩ := cells5p HP3
  have HP3' := Lib.hid HP3
  have z18 := cell_of_heap HS3.out 18
  simp [fourC] at z18
  clear HP3
  go_wp2_with (first
    | (go_at_call 19; refine (HR.out _).mono ?_; rintro e w1 ⟨rfl, hu1⟩; have HU1 := Lib.hid (((Upd.refl [] w3).alloc _).trans hu1); have hx1 := hu1.keepb (heap_alloc' HZ3.out) (by simp); have hx2 := hu1.keepb (heap_alloc' HS3.out) (by simp); have HX1 := Lib.hid hx1; have HX2 := Lib.hid hx2; have z18 := cell_of_heap hx2 18; have zf := fun j => frozen_of_heap hx2 j; simp [fourC] at z18; clear hx1 hx2 hu1)
    | (refine wpList_load_row rfl 81 (.tmp 3) rfl (W.heap.size + 1 + 1) rfl 81 (fourC a wd (f0 0 0 0 0)).toArray (0, 0) _ ?hz2 Try.underlying81 rfl (info_four2 _ _ _) ?_; rotate_left 1; refine Go.RowKit.Hid.out ?_))
  case hz2 => exact heap_set2c HX2.out rfl
  refine Lib.hid ?_
  have HX1' := Lib.hid (show (w1.setCell ⟨W.heap.size + 1 + 1, 18, none⟩ (.bool true)).heap[W.heap.size + 1]? = some (.cells zero4 81 (0, 0)) from (heap_set_other _ _ _ (by omega)).trans HX1.out)
  have h1 : Upd [W.heap.size + 1 + 1] w1 (w1.setCell ⟨W.heap.size + 1 + 1, 18, none⟩ (.bool true)) := (Upd.refl _ _).setCell (by simp) _
  have HU4 := Lib.hid ((HU3.out.trans HU1.out).then h1 (by simp; omega))
  clear h1
  generalize w1.setCell ⟨W.heap.size + 1 + 1, 18, none⟩ (.bool true) = w4 at *
  go_wp2_with (refine wpList_store_row rfl 81 (.tmp 2) (.tmp 29) rfl (W.heap.size + 1) (fourC a wd (f0 0 0 0 0)).toArray rfl rfl 81 zero4 ?hz3 info_four rfl (fourC_one _ _ _) ?_; rotate_left 1)
  case hz3 => exact HX1'.out
  refine bodyPost_ret (v := .agg (fourC a wd (f0 0 0 0 0)).toArray) (results_cell_row rfl _ _ (W.heap.size + 1) 81 _ (0, 0) _ rfl (setRow_heap _ _ zero4 _ _ _ HX1'.out) Try.underlying81 rfl info_four) rfl ?_
  exact ⟨rfl, HU4.out.then (upd_setRow _ _ _) (by simp)⟩
set_option maxRecDepth 100000 in
set_option maxHeartbeats 1000000 in
theorem fw_new (x0 x1 x2 x3 : Int) (hw : 1 ≤ wd ∧ wd ≤ 4) (W : World) : Calls Try.prog 15 #[.agg #[.int .i64 2, .int .i64 a, .int .i64 0, .int .i64 wd, .int .i64 0], .agg #[.int .u32 x0, .int .u32 x1, .int .u32 x2, .int .u32 x3]] W fun e w' => ∃ b, e = .returned (.pointer (some ⟨b, 0, none⟩)) ∧ W.heap.size ≤ b ∧ FG a wd w' b 95 (f0 x0 x1 x2 x3) ∧ Upd [] W w' := by
  have HB := Lib.hid fun w => four_begun a wd hw w
  unfold fourC f0 at HB
  go_enter Try.func15, Try.ntmps15
  go_wp2_with (go_at_call 28; refine (HB.out _).mono ?_; rintro e w1 ⟨rfl, hu1⟩; have HU1 := Lib.hid ((((Upd.refl [] W).alloc _).alloc _).trans hu1); have hx := hu1.keepb (heap_alloc_at (w := W.alloc _) (g := W.heap.size + 1) _ (by simp)) (by simp); have z0 := cell_of_heap hx 0; have z1 := cell_of_heap hx 1; have z2 := cell_of_heap hx 2; have z3 := cell_of_heap hx 3; simp at z0 z1 z2 z3; have lx := heap_lt hx; clear hx hu1)
  go_ret
  have hsz := HU1.out.size
  refine ⟨_, rfl, hsz, ⟨?hg⟩, ?_⟩
  case hg => exact heap_alloc_new _ _
  repeat (first | (with_reducible refine Upd.setCell ?_ (by simp; omega) _) | (with_reducible refine Upd.alloc ?_ _))
  exact HU1.out
set_option maxRecDepth 100000 in
set_option maxHeartbeats 1000000 in
theorem fr_new (hw : 1 ≤ wd ∧ wd ≤ 4) (W : World) : Calls Try.prog 10 #[.agg #[.int .i64 2, .int .i64 a, .int .i64 0, .int .i64 wd, .int .i64 0]] W fun e w' => ∃ b, e = .returned (.pointer (some ⟨b, 0, none⟩)) ∧ W.heap.size ≤ b ∧ FG a wd w' b 84 (f0 0 0 0 0) ∧ Upd [] W w' := by
  have HB := Lib.hid fun w => four_begun a wd hw w
  unfold fourC f0 at HB
  go_enter Try.func10, Try.ntmps10
  go_wp2_with (go_at_call 28; refine (HB.out _).mono ?_; rintro e w1 ⟨rfl, hu1⟩; have HU1 := Lib.hid (((Upd.refl [] W).alloc _).trans hu1); clear hu1)
  go_ret
  have hsz := HU1.out.size
  refine ⟨_, rfl, hsz, ⟨?hg⟩, ?_⟩
  case hg => exact heap_alloc_new _ _
  repeat (first | (with_reducible refine Upd.setCell ?_ (by simp; omega) _) | (with_reducible refine Upd.alloc ?_ _))
  exact HU1.out
variable {w : World} {b : Nat} {t : TypeId} {s : FSt}
set_option maxRecDepth 100000 in
set_option maxHeartbeats 1000000 in
theorem four_cell (part i r : Int) (h : FG a wd w b t s) (hc : ∀ w, Calls Try.prog 54 #[.agg #[.int .i64 2, .int .i64 a, .int .i64 0, .int .i64 wd, .int .i64 0], .int .i64 part, .int .i64 i, .int .i64 0] w fun e w' => e = .returned (.int .i64 r) ∧ Upd [] w w') :
    Calls Try.prog 31 #[.pointer (some ⟨b, 0, none⟩), .int .i64 part, .int .i64 i] w fun e w' => e = .returned (.int .i64 r) ∧ Upd [] w w' := by
  obtain ⟨x0, x1, x2, x3, x4, -, -, -, -⟩ := h.pl
  have HC := Lib.hid hc
  clear h hc
  go_enter Try.func31, Try.ntmps31
  go_wp2_with (go_at_call 54; (with_reducible refine (HC.out _).mono ?_); rintro e w1 ⟨rfl, hu1⟩; have HU1 := Lib.hid hu1; clear hu1)
  go_ret
  exact ⟨rfl, HU1.out⟩
end
end Go.Proofs.Ytnnakiojfpnphaa
