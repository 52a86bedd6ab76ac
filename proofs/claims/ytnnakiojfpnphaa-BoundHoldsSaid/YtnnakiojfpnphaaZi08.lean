/- The walk, part 8: BD2 FS2 LK2. -/
import Derived.Test.YtnnakiojfpnphaaZi07
import Derived.Test.YtnnakiojfpnphaaZi03
import Derived.Test.YtnnakiojfpnphaaZi06
import Derived.Test.YtnnakiojfpnphaaZi01
import Derived.Laws.Rows
set_option linter.unusedVariables false
set_option linter.unusedSimpArgs false

namespace Go.Proofs.Ytnnakiojfpnphaa
open Go.RowKit
set_option maxRecDepth 100000 in
set_option maxHeartbeats 4000000 in
theorem told_act (f : Int) (w : World) : Calls Try.prog 100 #[.agg #[.int .i64 f]] w fun e w' => e = .returned (.tuple #[.agg #[.int .i64 0, .int .i64 0, .int .u32 0], .bool false]) ∧ Upd [] w w' := by
  go_enter Try.func100, Try.ntmps100
  go_wp2
  refine bodyPost_ret (v := .tuple #[.agg #[.int .i64 0, .int .i64 0, .int .u32 0], .bool false]) (by simp [results, Try.results100, go_sem]) rfl ?_
  exact ⟨rfl, (by repeat (first | (with_reducible exact Upd.refl _ _) | (with_reducible apply Upd.drew) | (with_reducible refine Upd.grE ?_ _) | (with_reducible refine Upd.alloc ?_ _)))⟩
set_option maxRecDepth 100000 in
set_option maxHeartbeats 4000000 in
theorem told_take (f g : Int) (w : World) : Calls Try.prog 102 #[.agg #[.int .i64 f], .int .u32 g] w fun e w' => e = .returned (.tuple #[]) ∧ Upd [] w w' := by
  go_enter Try.func102, Try.ntmps102
  go_wp2
  first | refine bodyPost_ret (results_none rfl _ _ _) rfl ?_ | go_end0
  exact ⟨rfl, (by repeat (first | (with_reducible exact Upd.refl _ _) | (with_reducible apply Upd.drew) | (with_reducible refine Upd.grE ?_ _) | (with_reducible refine Upd.alloc ?_ _)))⟩
set_option maxRecDepth 100000 in
set_option maxHeartbeats 4000000 in
theorem told_result (f : Int) (w : World) : Calls Try.prog 101 #[.agg #[.int .i64 f]] w fun e w' => e = .returned (.tuple #[.agg #[.int .i64 f, .int .u32 0, .int .u32 0, .int .u32 0, .int .u32 0], .bool true]) ∧ Upd [] w w' := by
  go_enter Try.func101, Try.ntmps101
  go_wp2
  refine ret_result rfl (g := w.heap.size + 1) (t := 46) (fr := (0, 0)) (x0 := .int .i64 f) (x1 := .int .u32 0) (x2 := .int .u32 0) (x3 := .int .u32 0) (x4 := .int .u32 0) rfl rfl rfl (hg := ?hg) ?_
  case hg => repeat (first | ((with_reducible refine heap_alloc_at _ ?_); (first | rfl | (simp; done))) | (with_reducible apply heap_drewE) | (with_reducible apply heap_grE) | (with_reducible apply heap_alloc'))
  exact ⟨rfl, (by repeat (first | (with_reducible exact Upd.refl _ _) | (with_reducible apply Upd.drew) | (with_reducible refine Upd.grE ?_ _) | (with_reducible refine Upd.alloc ?_ _)))⟩
theorem told_rou (f : Int) : Rou 101 (.agg #[.int .i64 f]) [] (fun (_ : Unit) _ => True) (fun _ => none) (fun _ _ => ()) (fun _ => ⟨f, 0, 0, 0, 0⟩) 100 102 101 where
  mA := fun _ => by kernel_rfl
  mT := fun _ => by kernel_rfl
  mR := fun _ => by kernel_rfl
  cA := fun _ _ => by kernel_rfl
  cT := fun _ _ => by kernel_rfl
  cR := fun _ _ => by kernel_rfl
  keep := fun _ _ _ _ _ _ _ => trivial
  lt := fun _ _ _ _ h => by cases h
  more := fun _ _ _ _ _ _ h => by cases h
  noAct := fun _ w _ _ => told_act f w
  took := fun _ _ _ _ _ _ _ h => by cases h
  ans := fun _ w _ _ => told_result f w
def flagP (kind : Int) : Int := if kind = 7 then 1 else if kind = 8 then 2 else if kind = 9 then 3 else if kind = 16 then 4 else if kind = 17 then 5 else 0
set_option maxRecDepth 100000 in
set_option maxHeartbeats 4000000 in
theorem dflag_c (kind : Int) (w : World) : Calls Try.prog 50 #[.int .i64 kind] w fun e w' => e = .returned (.int .i64 (flagP kind)) ∧ w = w' := by
  by_cases hk : kind = 7 ∨ kind = 8 ∨ kind = 9 ∨ kind = 16 ∨ kind = 17
  · rcases hk with rfl | rfl | rfl | rfl | rfl
    all_goals
      go_enter Try.func50, Try.ntmps50
      go_wp2
      go_ret
      exact ⟨rfl, rfl⟩
  · have e : flagP kind = 0 := by unfold flagP; rw [if_neg (by omega), if_neg (by omega), if_neg (by omega), if_neg (by omega), if_neg (by omega)]
    rw [e]
    have q7 : (kind == 7) = false := by simp; omega
    have q8 : (kind == 8) = false := by simp; omega
    have q9 : (kind == 9) = false := by simp; omega
    have q16 : (kind == 16) = false := by simp; omega
    have q17 : (kind == 17) = false := by simp; omega
    clear hk e
    go_enter Try.func50, Try.ntmps50
    go_wp2
    go_ret
    exact ⟨rfl, rfl⟩
end Go.Proofs.Ytnnakiojfpnphaa
namespace Go.Proofs.Ytnnakiojfpnphaa
open Go.RowKit
structure FSt where
  (n p i v0 v1 v2 v3 f r0 r1 r2 r3 : Int) (is on : Bool)
def fourC (a wd : Int) (s : FSt) : List Value := [.int .i64 2, .int .i64 a, .int .i64 0, .int .i64 wd, .int .i64 0, .int .i64 s.n, .int .i64 s.p, .int .i64 s.i, .int .u32 s.v0, .int .u32 s.v1, .int .u32 s.v2, .int .u32 s.v3, .int .i64 s.f, .int .u32 s.r0, .int .u32 s.r1, .int .u32 s.r2, .int .u32 s.r3, .bool s.is, .bool s.on]
structure FG (a wd : Int) (w : World) (b : Nat) (t : TypeId) (s : FSt) : Prop where
  h : w.heap[b]? = some (.cells (fourC a wd s).toArray t (0, 0))
theorem FG.keep {a wd : Int} {w w' : World} {b : Nat} {t : TypeId} {s : FSt} (h : FG a wd w b t s) {S : List Nat} (hu : Upd S w w') (hb : b ∉ S) : FG a wd w' b t s := ⟨hu.keepb h.h hb⟩
theorem FG.cell {a wd : Int} {w : World} {b : Nat} {t : TypeId} {s : FSt} (h : FG a wd w b t s) (i : Nat) : w.cell? ⟨b, i, none⟩ = (fourC a wd s)[i]? := by rw [cell_of_heap h.h]; simp
theorem FG.pl {a wd : Int} {w : World} {b : Nat} {t : TypeId} {s : FSt} (h : FG a wd w b t s) :
    w.cell? ⟨b, 0, none⟩ = some (.int .i64 2) ∧ w.cell? ⟨b, 1, none⟩ = some (.int .i64 a) ∧ w.cell? ⟨b, 2, none⟩ = some (.int .i64 0) ∧ w.cell? ⟨b, 3, none⟩ = some (.int .i64 wd) ∧ w.cell? ⟨b, 4, none⟩ = some (.int .i64 0) ∧ w.cell? ⟨b, 5, none⟩ = some (.int .i64 s.n) ∧ w.cell? ⟨b, 6, none⟩ = some (.int .i64 s.p) ∧ w.cell? ⟨b, 7, none⟩ = some (.int .i64 s.i) ∧ w.cell? ⟨b, 18, none⟩ = some (.bool s.on) :=
  ⟨by rw [h.cell]; rfl, by rw [h.cell]; rfl, by rw [h.cell]; rfl, by rw [h.cell]; rfl, by rw [h.cell]; rfl, by rw [h.cell]; rfl, by rw [h.cell]; rfl, by rw [h.cell]; rfl, by rw [h.cell]; rfl⟩
theorem FG.vs {a wd : Int} {w : World} {b : Nat} {t : TypeId} {s : FSt} (h : FG a wd w b t s) :
    w.cell? ⟨b, 8, none⟩ = some (.int .u32 s.v0) ∧ w.cell? ⟨b, 9, none⟩ = some (.int .u32 s.v1) ∧ w.cell? ⟨b, 10, none⟩ = some (.int .u32 s.v2) ∧ w.cell? ⟨b, 11, none⟩ = some (.int .u32 s.v3) :=
  ⟨by rw [h.cell]; rfl, by rw [h.cell]; rfl, by rw [h.cell]; rfl, by rw [h.cell]; rfl⟩
theorem FG.rs {a wd : Int} {w : World} {b : Nat} {t : TypeId} {s : FSt} (h : FG a wd w b t s) :
    w.cell? ⟨b, 12, none⟩ = some (.int .i64 s.f) ∧ w.cell? ⟨b, 13, none⟩ = some (.int .u32 s.r0) ∧ w.cell? ⟨b, 14, none⟩ = some (.int .u32 s.r1) ∧ w.cell? ⟨b, 15, none⟩ = some (.int .u32 s.r2) ∧ w.cell? ⟨b, 16, none⟩ = some (.int .u32 s.r3) ∧ w.cell? ⟨b, 17, none⟩ = some (.bool s.is) :=
  ⟨by rw [h.cell]; rfl, by rw [h.cell]; rfl, by rw [h.cell]; rfl, by rw [h.cell]; rfl, by rw [h.cell]; rfl, by rw [h.cell]; rfl⟩
theorem FG.fz {a wd : Int} {w : World} {b : Nat} {t : TypeId} {s : FSt} (h : FG a wd w b t s) (i : Nat) : w.frozen? ⟨b, i, none⟩ = false := frozen_of_heap h.h i
def f0 (v0 v1 v2 v3 : Int) : FSt := ⟨0, 0, 0, v0, v1, v2, v3, 0, 0, 0, 0, 0, true, true⟩
def zero4 : Array Value := #[.int .i64 0, .int .i64 0, .int .i64 0, .int .i64 0, .int .i64 0, .int .i64 0, .int .i64 0, .int .i64 0, .int .u32 0, .int .u32 0, .int .u32 0, .int .u32 0, .int .i64 0, .int .u32 0, .int .u32 0, .int .u32 0, .int .u32 0, .bool false, .bool false]
theorem heap_set2c {w : World} {g i : Nat} {v : Value} {cs ds : Array Value} {t : TypeId} {f : Nat × Nat} (h : w.heap[g]? = some (.cells cs t f)) (e : cs.setIfInBounds i v = ds) : (w.setCell ⟨g, i, none⟩ v).heap[g]? = some (.cells ds t f) := by
  rw [heap_set h, e]
theorem updR {S : List Nat} {w w' : World} {g : Nat} {cs : Array Value} (h : Upd S w w') (hg : g ∈ S ∨ w.heap.size ≤ g) : Upd S w (w'.setRow g cs) := h.then (upd_setRow w' g cs) (fun i hi => by simp at hi; subst hi; exact hg)
theorem cells5p {w : World} {k : Nat} {a b c d e : Value} {t : TypeId} {fr : Nat × Nat} (hh : w.heap[k]? = some (.cells #[a, b, c, d, e] t fr)) :
    w.cell? ⟨k, 0, none⟩ = some a ∧ w.cell? ⟨k, 1, none⟩ = some b ∧ w.cell? ⟨k, 2, none⟩ = some c ∧ w.cell? ⟨k, 3, none⟩ = some d ∧ w.cell? ⟨k, 4, none⟩ = some e :=
  ⟨by rw [cell_of_heap hh]; rfl, by rw [cell_of_heap hh]; rfl, by rw [cell_of_heap hh]; rfl, by rw [cell_of_heap hh]; rfl, by rw [cell_of_heap hh]; rfl⟩
theorem fourC_one (a wd : Int) (s : FSt) : (fourC a wd s).toArray.all (·.oneCell') = true := by simp [fourC, Value.oneCell']
theorem info_four : (Try.prog.info? 81).map (·.size) = some 19 := by kernel_rfl
theorem info_four2 (a wd : Int) (s : FSt) : (Try.prog.info? 81).map (·.size) = some (fourC a wd s).toArray.size := info_four
section
variable (a wd : Int)
set_option maxRecDepth 100000 in
set_option maxHeartbeats 1000000 in
theorem four_begun (hw : 1 ≤ wd ∧ wd ≤ 4) (W : World) : Calls Try.prog 28 #[.agg #[.int .i64 2, .int .i64 a, .int .i64 0, .int .i64 wd, .int .i64 0]] W fun e w' => e = .returned (.agg (fourC a wd (f0 0 0 0 0)).toArray) ∧ Upd [] W w' := by
  have HR := Lib.hid fun w => sright_any 0 wd 0 0 0 0 0 0 0 w 2
  rw [right4 wd hw] at HR
  unfold obA at HR
  clear hw
  go_enter Try.func28, Try.ntmps28
  go_wp2_with (refine wpList_store_row rfl 81 _ _ rfl (W.heap.size + 1 + 1) (fourC a wd { f0 0 0 0 0 with on := false }).toArray rfl rfl 81 zero4 ?hz info_four rfl (fourC_one _ _ _) ?_; rotate_left 1; refine Go.RowKit.Hid.out ?_)
  case hz => exact heap_alloc_at _ (by simp)
  refine Lib.hid ?_
  obtain ⟨w3, hw3⟩ : ∃ w3, w3 = (((W.alloc (.cells #[.int .i64 2, .int .i64 a, .int .i64 0, .int .i64 wd, .int .i64 0] 27)).alloc (.cells zero4 81)).alloc (.cells zero4 81)).setRow (W.heap.size + 1 + 1) (fourC a wd { f0 0 0 0 0 with on := false }).toArray := ⟨_, rfl⟩
  have HP3 : w3.heap[W.heap.size]? = some (.cells #[.int .i64 2, .int .i64 a, .int .i64 0, .int .i64 wd, .int .i64 0] 27 (0, 0)) := by
    rw [hw3, setRow_other _ _ _ _ (by omega)]
    exact heap_alloc' (heap_alloc' (heap_alloc_new _ _))
  have HZ3 := Lib.hid (show w3.heap[W.heap.size + 1]? = some (.cells zero4 81 (0, 0)) by
    rw [hw3, setRow_other _ _ _ _ (by omega)]
    exact heap_alloc' (heap_alloc_at _ (by simp)))
  have HS3 := Lib.hid (show w3.heap[W.heap.size + 1 + 1]? = some (.cells (fourC a wd { f0 0 0 0 0 with on := false }).toArray 81 (0, 0)) by
    rw [hw3]
    exact setRow_heap _ _ zero4 _ _ _ (heap_alloc_at _ (by simp)))
  have HU3 := Lib.hid (show Upd [] W w3 by
    rw [hw3]
    exact updR ((((Upd.refl _ _).alloc _).alloc _).alloc _) (.inr (by omega)))
  have hl3 := heap_lt HS3.out
  have hl4 := heap_lt HP3
  unfold zero4 at hw3
  unfold fourC f0 at hw3
  simp only at hw3
  unfold fourC f0
  simp only
  rw [← hw3]
  clear hw3
  obtain ⟨p0, p1, p2, p3, p4⟩ := cells5p HP3
  have HP3' := Lib.hid HP3
  have z18 := cell_of_heap HS3.out 18
  simp [fourC] at z18
  clear HP3
  go_wp2_with (first
    | (go_at_call 19; refine (HR.out _).mono ?_; rintro e w1 ⟨rfl, hu1⟩; have HU1 := Lib.hid (((Upd.refl [] w3).alloc _).trans hu1); have hx1 := hu1.keepb (heap_alloc' HZ3.out) (by simp); have hx2 := hu1.keepb (heap_alloc' HS3.out) (by simp); have HX1 := Lib.hid hx1; have HX2 := Lib.hid hx2; have z18 := cell_of_heap hx2 18; have zf := fun j => frozen_of_heap hx2 j; simp [fourC] at z18; clear hx1 hx2 hu1)
    | (refine wpList_load_row rfl 81 (.tmp 3) rfl (W.heap.size + 1 + 1) rfl 81 (fourC a wd (f0 0 0 0 0)).toArray (0, 0) _ ?hz2 Try.underlying81 rfl (info_four2 _ _ _) ?_; rotate_left 1; refine Go.RowKit.Hid.out ?_))
  case hz2 => exact heap_set2c HX2.out rfl
  refine Lib.hid ?_
  have HX1' := Lib.hid (show (w1.setCell ⟨W.heap.size + 1 + 1, 18, none⟩ (.bool true)).heap[W.heap.size + 1]? = some (.cells zero4 81 (0, 0)) from (heap_set_other _ _ _ (by omega)).trans HX1.out)
  have h1 : Upd [W.heap.size + 1 + 1] w1 (w1.setCell ⟨W.heap.size + 1 + 1, 18, none⟩ (.bool true)) := (Upd.refl _ _).setCell (by simp) _
  have HU4 := Lib.hid ((HU3.out.trans HU1.out).then h1 (by simp; omega))
  clear h1
  generalize w1.setCell ⟨W.heap.size + 1 + 1, 18, none⟩ (.bool true) = w4 at *
  go_wp2_with (refine wpList_store_row rfl 81 (.tmp 2) (.tmp 29) rfl (W.heap.size + 1) (fourC a wd (f0 0 0 0 0)).toArray rfl rfl 81 zero4 ?hz3 info_four rfl (fourC_one _ _ _) ?_; rotate_left 1)
  case hz3 => exact HX1'.out
  refine bodyPost_ret (v := .agg (fourC a wd (f0 0 0 0 0)).toArray) (results_cell_row rfl _ _ (W.heap.size + 1) 81 _ (0, 0) _ rfl (setRow_heap _ _ zero4 _ _ _ HX1'.out) Try.underlying81 rfl info_four) rfl ?_
  exact ⟨rfl, HU4.out.then (upd_setRow _ _ _) (by simp)⟩
set_option maxRecDepth 100000 in
set_option maxHeartbeats 1000000 in
theorem fw_new (x0 x1 x2 x3 : Int) (hw : 1 ≤ wd ∧ wd ≤ 4) (W : World) : Calls Try.prog 15 #[.agg #[.int .i64 2, .int .i64 a, .int .i64 0, .int .i64 wd, .int .i64 0], .agg #[.int .u32 x0, .int .u32 x1, .int .u32 x2, .int .u32 x3]] W fun e w' => ∃ b, e = .returned (.pointer (some ⟨b, 0, none⟩)) ∧ W.heap.size ≤ b ∧ FG a wd w' b 95 (f0 x0 x1 x2 x3) ∧ Upd [] W w' := by
  have HB := Lib.hid fun w => four_begun a wd hw w
  unfold fourC f0 at HB
  go_enter Try.func15, Try.ntmps15
  go_wp2_with (go_at_call 28; refine (HB.out _).mono ?_; rintro e w1 ⟨rfl, hu1⟩; have HU1 := Lib.hid ((((Upd.refl [] W).alloc _).alloc _).trans hu1); have hx := hu1.keepb (heap_alloc_at (w := W.alloc _) (g := W.heap.size + 1) _ (by simp)) (by simp); have z0 := cell_of_heap hx 0; have z1 := cell_of_heap hx 1; have z2 := cell_of_heap hx 2; have z3 := cell_of_heap hx 3; simp at z0 z1 z2 z3; have lx := heap_lt hx; clear hx hu1)
  go_ret
  have hsz := HU1.out.size
  refine ⟨_, rfl, hsz, ⟨?hg⟩, ?_⟩
  case hg => exact heap_alloc_new _ _
  repeat (first | (with_reducible refine Upd.setCell ?_ (by simp; omega) _) | (with_reducible refine Upd.alloc ?_ _))
  exact HU1.out
set_option maxRecDepth 100000 in
set_option maxHeartbeats 1000000 in
theorem fr_new (hw : 1 ≤ wd ∧ wd ≤ 4) (W : World) : Calls Try.prog 10 #[.agg #[.int .i64 2, .int .i64 a, .int .i64 0, .int .i64 wd, .int .i64 0]] W fun e w' => ∃ b, e = .returned (.pointer (some ⟨b, 0, none⟩)) ∧ W.heap.size ≤ b ∧ FG a wd w' b 84 (f0 0 0 0 0) ∧ Upd [] W w' := by
  have HB := Lib.hid fun w => four_begun a wd hw w
  unfold fourC f0 at HB
  go_enter Try.func10, Try.ntmps10
  go_wp2_with (go_at_call 28; refine (HB.out _).mono ?_; rintro e w1 ⟨rfl, hu1⟩; have HU1 := Lib.hid (((Upd.refl [] W).alloc _).trans hu1); clear hu1)
  go_ret
  have hsz := HU1.out.size
  refine ⟨_, rfl, hsz, ⟨?hg⟩, ?_⟩
  case hg => exact heap_alloc_new _ _
  repeat (first | (with_reducible refine Upd.setCell ?_ (by simp; omega) _) | (with_reducible refine Upd.alloc ?_ _))
  exact HU1.out
variable {w : World} {b : Nat} {t : TypeId} {s : FSt}
set_option maxRecDepth 100000 in
set_option maxHeartbeats 1000000 in
theorem four_cell (part i r : Int) (h : FG a wd w b t s) (hc : ∀ w, Calls Try.prog 54 #[.agg #[.int .i64 2, .int .i64 a, .int .i64 0, .int .i64 wd, .int .i64 0], .int .i64 part, .int .i64 i, .int .i64 0] w fun e w' => e = .returned (.int .i64 r) ∧ Upd [] w w') :
    Calls Try.prog 31 #[.pointer (some ⟨b, 0, none⟩), .int .i64 part, .int .i64 i] w fun e w' => e = .returned (.int .i64 r) ∧ Upd [] w w' := by
  obtain ⟨x0, x1, x2, x3, x4, -, -, -, -⟩ := h.pl
  have HC := Lib.hid hc
  clear h hc
  go_enter Try.func31, Try.ntmps31
  go_wp2_with (go_at_call 54; (with_reducible refine (HC.out _).mono ?_); rintro e w1 ⟨rfl, hu1⟩; have HU1 := Lib.hid hu1; clear hu1)
  go_ret
  exact ⟨rfl, HU1.out⟩
end
end Go.Proofs.Ytnnakiojfpnphaa
namespace Go.Proofs.Ytnnakiojfpnphaa
open Go.RowKit
structure LSt where
  (n seq v0 v1 v2 v3 f r0 r1 r2 r3 : Int) (is on : Bool)
def lkC (a wd rt : Int) (s : LSt) : List Value := [.int .i64 3, .int .i64 a, .int .i64 0, .int .i64 wd, .int .i64 rt, .int .i64 s.n, .int .u32 s.seq, .int .u32 s.v0, .int .u32 s.v1, .int .u32 s.v2, .int .u32 s.v3, .int .i64 s.f, .int .u32 s.r0, .int .u32 s.r1, .int .u32 s.r2, .int .u32 s.r3, .bool s.is, .bool s.on]
structure LG (a wd rt : Int) (w : World) (b : Nat) (t : TypeId) (more : List Value) (s : LSt) : Prop where
  h : w.heap[b]? = some (.cells (lkC a wd rt s ++ more).toArray t (0, 0))
theorem LG.keep {a wd rt : Int} {w w' : World} {b : Nat} {t : TypeId} {more : List Value} {s : LSt} (h : LG a wd rt w b t more s) {S : List Nat} (hu : Upd S w w') (hb : b ∉ S) : LG a wd rt w' b t more s := ⟨hu.keepb h.h hb⟩
theorem LG.cell {a wd rt : Int} {w : World} {b : Nat} {t : TypeId} {more : List Value} {s : LSt} (h : LG a wd rt w b t more s) (i : Nat) : w.cell? ⟨b, i, none⟩ = (lkC a wd rt s ++ more)[i]? := by rw [cell_of_heap h.h]; simp
theorem LG.pl {a wd rt : Int} {w : World} {b : Nat} {t : TypeId} {more : List Value} {s : LSt} (h : LG a wd rt w b t more s) :
    w.cell? ⟨b, 0, none⟩ = some (.int .i64 3) ∧ w.cell? ⟨b, 1, none⟩ = some (.int .i64 a) ∧ w.cell? ⟨b, 2, none⟩ = some (.int .i64 0) ∧ w.cell? ⟨b, 3, none⟩ = some (.int .i64 wd) ∧ w.cell? ⟨b, 4, none⟩ = some (.int .i64 rt) ∧ w.cell? ⟨b, 5, none⟩ = some (.int .i64 s.n) ∧ w.cell? ⟨b, 6, none⟩ = some (.int .u32 s.seq) ∧ w.cell? ⟨b, 17, none⟩ = some (.bool s.on) :=
  ⟨h.cell 0, h.cell 1, h.cell 2, h.cell 3, h.cell 4, h.cell 5, h.cell 6, h.cell 17⟩
theorem LG.vs {a wd rt : Int} {w : World} {b : Nat} {t : TypeId} {more : List Value} {s : LSt} (h : LG a wd rt w b t more s) :
    w.cell? ⟨b, 7, none⟩ = some (.int .u32 s.v0) ∧ w.cell? ⟨b, 8, none⟩ = some (.int .u32 s.v1) ∧ w.cell? ⟨b, 9, none⟩ = some (.int .u32 s.v2) ∧ w.cell? ⟨b, 10, none⟩ = some (.int .u32 s.v3) :=
  ⟨h.cell 7, h.cell 8, h.cell 9, h.cell 10⟩
theorem LG.rs {a wd rt : Int} {w : World} {b : Nat} {t : TypeId} {more : List Value} {s : LSt} (h : LG a wd rt w b t more s) :
    w.cell? ⟨b, 11, none⟩ = some (.int .i64 s.f) ∧ w.cell? ⟨b, 12, none⟩ = some (.int .u32 s.r0) ∧ w.cell? ⟨b, 13, none⟩ = some (.int .u32 s.r1) ∧ w.cell? ⟨b, 14, none⟩ = some (.int .u32 s.r2) ∧ w.cell? ⟨b, 15, none⟩ = some (.int .u32 s.r3) ∧ w.cell? ⟨b, 16, none⟩ = some (.bool s.is) :=
  ⟨h.cell 11, h.cell 12, h.cell 13, h.cell 14, h.cell 15, h.cell 16⟩
theorem LG.fz {a wd rt : Int} {w : World} {b : Nat} {t : TypeId} {more : List Value} {s : LSt} (h : LG a wd rt w b t more s) (i : Nat) : w.frozen? ⟨b, i, none⟩ = false := frozen_of_heap h.h i
theorem LG.set {a wd rt : Int} {w : World} {b : Nat} {t : TypeId} {more more' : List Value} {s s' : LSt} (h : LG a wd rt w b t more s) (i : Nat) (v : Value) (e : (lkC a wd rt s ++ more).set i v = lkC a wd rt s' ++ more') : LG a wd rt (w.setCell ⟨b, i, none⟩ v) b t more' s' := ⟨heap_set2 h.h e⟩
theorem LG.dr {a wd rt : Int} {w : World} {b : Nat} {t : TypeId} {more : List Value} {s : LSt} (h : LG a wd rt w b t more s) : LG a wd rt w.drew b t more s := ⟨h.h⟩
def l0 (v0 v1 v2 v3 : Int) : LSt := ⟨0, 0, v0, v1, v2, v3, 0, 0, 0, 0, 0, true, true⟩
def zeroL : Array Value := #[.int .i64 0, .int .i64 0, .int .i64 0, .int .i64 0, .int .i64 0, .int .i64 0, .int .u32 0, .int .u32 0, .int .u32 0, .int .u32 0, .int .u32 0, .int .i64 0, .int .u32 0, .int .u32 0, .int .u32 0, .int .u32 0, .bool false, .bool false]
theorem lkC_one (a wd rt : Int) (s : LSt) : (lkC a wd rt s).toArray.all (·.oneCell') = true := by simp [lkC, Value.oneCell']
theorem info_lockst : (Try.prog.info? 145).map (·.size) = some 18 := by kernel_rfl
theorem info_lockst2 (a wd rt : Int) (s : LSt) : (Try.prog.info? 145).map (·.size) = some (lkC a wd rt s).toArray.size := info_lockst
section
variable (a wd rt : Int)
set_option maxRecDepth 100000 in
set_option maxHeartbeats 1000000 in
theorem lk_begun (hw : 1 ≤ wd ∧ wd ≤ 4) (hrt : 0 ≤ rt ∧ rt ≤ 8) (W : World) : Calls Try.prog 76 #[.agg #[.int .i64 3, .int .i64 a, .int .i64 0, .int .i64 wd, .int .i64 rt]] W fun e w' => e = .returned (.agg (lkC a wd rt (l0 0 0 0 0)).toArray) ∧ Upd [] W w' := by
  have HR := Lib.hid fun w => sright_any 0 wd rt 0 0 0 0 0 0 w 3
  rw [right3 wd rt hw hrt] at HR
  unfold obA at HR
  clear hw hrt
  go_enter Try.func76, Try.ntmps76
  go_wp2_with (refine wpList_store_row rfl 145 _ _ rfl (W.heap.size + 1 + 1) (lkC a wd rt { l0 0 0 0 0 with on := false }).toArray rfl rfl 145 zeroL ?hz info_lockst rfl (lkC_one _ _ _ _) ?_; rotate_left 1; refine Go.RowKit.Hid.out ?_)
  case hz => exact heap_alloc_at _ (by simp)
  refine Lib.hid ?_
  obtain ⟨w3, hw3⟩ : ∃ w3, w3 = (((W.alloc (.cells #[.int .i64 3, .int .i64 a, .int .i64 0, .int .i64 wd, .int .i64 rt] 27)).alloc (.cells zeroL 145)).alloc (.cells zeroL 145)).setRow (W.heap.size + 1 + 1) (lkC a wd rt { l0 0 0 0 0 with on := false }).toArray := ⟨_, rfl⟩
  have HP3 : w3.heap[W.heap.size]? = some (.cells #[.int .i64 3, .int .i64 a, .int .i64 0, .int .i64 wd, .int .i64 rt] 27 (0, 0)) := by
    rw [hw3, setRow_other _ _ _ _ (by omega)]
    exact heap_alloc' (heap_alloc' (heap_alloc_new _ _))
  have HZ3 := Lib.hid (show w3.heap[W.heap.size + 1]? = some (.cells zeroL 145 (0, 0)) by
    rw [hw3, setRow_other _ _ _ _ (by omega)]
    exact heap_alloc' (heap_alloc_at _ (by simp)))
  have HS3 := Lib.hid (show w3.heap[W.heap.size + 1 + 1]? = some (.cells (lkC a wd rt { l0 0 0 0 0 with on := false }).toArray 145 (0, 0)) by
    rw [hw3]
    exact setRow_heap _ _ zeroL _ _ _ (heap_alloc_at _ (by simp)))
  have HU3 := Lib.hid (show Upd [] W w3 by
    rw [hw3]
    exact updR ((((Upd.refl _ _).alloc _).alloc _).alloc _) (.inr (by omega)))
  have hl3 := heap_lt HS3.out
  have hl4 := heap_lt HP3
  unfold zeroL at hw3
  unfold lkC l0 at hw3
  simp only at hw3
  unfold lkC l0
  simp only
  rw [← hw3]
  clear hw3
  obtain ⟨p0, p1, p2, p3, p4⟩ := cells5p HP3
  have HP3' := Lib.hid HP3
  have z17 := cell_of_heap HS3.out 17
  simp [lkC] at z17
  clear HP3
  go_wp2_with (first
    | (go_at_call 19; refine (HR.out _).mono ?_; rintro e w1 ⟨rfl, hu1⟩; have HU1 := Lib.hid (((Upd.refl [] w3).alloc _).trans hu1); have hx1 := hu1.keepb (heap_alloc' HZ3.out) (by simp); have hx2 := hu1.keepb (heap_alloc' HS3.out) (by simp); have HX1 := Lib.hid hx1; have HX2 := Lib.hid hx2; have z17 := cell_of_heap hx2 17; have zf := fun j => frozen_of_heap hx2 j; simp [lkC] at z17; clear hx1 hx2 hu1)
    | (refine wpList_load_row rfl 145 (.tmp 3) rfl (W.heap.size + 1 + 1) rfl 145 (lkC a wd rt (l0 0 0 0 0)).toArray (0, 0) _ ?hz2 Try.underlying145 rfl (info_lockst2 _ _ _ _) ?_; rotate_left 1; refine Go.RowKit.Hid.out ?_))
  case hz2 => exact heap_set2c HX2.out rfl
  refine Lib.hid ?_
  have HX1' := Lib.hid (show (w1.setCell ⟨W.heap.size + 1 + 1, 17, none⟩ (.bool true)).heap[W.heap.size + 1]? = some (.cells zeroL 145 (0, 0)) from (heap_set_other _ _ _ (by omega)).trans HX1.out)
  have h1 : Upd [W.heap.size + 1 + 1] w1 (w1.setCell ⟨W.heap.size + 1 + 1, 17, none⟩ (.bool true)) := (Upd.refl _ _).setCell (by simp) _
  have HU4 := Lib.hid ((HU3.out.trans HU1.out).then h1 (by simp; omega))
  clear h1
  generalize w1.setCell ⟨W.heap.size + 1 + 1, 17, none⟩ (.bool true) = w4 at *
  go_wp2_with (refine wpList_store_row rfl 145 (.tmp 2) (.tmp 29) rfl (W.heap.size + 1) (lkC a wd rt (l0 0 0 0 0)).toArray rfl rfl 145 zeroL ?hz3 info_lockst rfl (lkC_one _ _ _ _) ?_; rotate_left 1)
  case hz3 => exact HX1'.out
  refine bodyPost_ret (v := .agg (lkC a wd rt (l0 0 0 0 0)).toArray) (results_cell_row rfl _ _ (W.heap.size + 1) 145 _ (0, 0) _ rfl (setRow_heap _ _ zeroL _ _ _ HX1'.out) Try.underlying145 rfl info_lockst) rfl ?_
  exact ⟨rfl, HU4.out.then (upd_setRow _ _ _) (by simp)⟩
set_option maxRecDepth 100000 in
set_option maxHeartbeats 1000000 in
theorem lkw_new (x0 x1 x2 x3 : Int) (hw : 1 ≤ wd ∧ wd ≤ 4) (hrt : 0 ≤ rt ∧ rt ≤ 8) (W : World) : Calls Try.prog 67 #[.agg #[.int .i64 3, .int .i64 a, .int .i64 0, .int .i64 wd, .int .i64 rt], .agg #[.int .u32 x0, .int .u32 x1, .int .u32 x2, .int .u32 x3]] W fun e w' => ∃ b, e = .returned (.pointer (some ⟨b, 0, none⟩)) ∧ W.heap.size ≤ b ∧ LG a wd rt w' b 148 [] (l0 x0 x1 x2 x3) ∧ Upd [] W w' := by
  have HB := Lib.hid fun w => lk_begun a wd rt hw hrt w
  unfold lkC l0 at HB
  clear hw hrt
  go_enter Try.func67, Try.ntmps67
  go_wp2_with (go_at_call 76; refine (HB.out _).mono ?_; rintro e w1 ⟨rfl, hu1⟩; have HU1 := Lib.hid ((((Upd.refl [] W).alloc _).alloc _).trans hu1); have hx := hu1.keepb (heap_alloc_at (w := W.alloc _) (g := W.heap.size + 1) _ (by simp)) (by simp); have z0 := cell_of_heap hx 0; have z1 := cell_of_heap hx 1; have z2 := cell_of_heap hx 2; have z3 := cell_of_heap hx 3; simp at z0 z1 z2 z3; have lx := heap_lt hx; clear hx hu1)
  go_ret
  have hsz := HU1.out.size
  refine ⟨_, rfl, hsz, ⟨?hg⟩, ?_⟩
  case hg => exact heap_alloc_new _ _
  repeat (first | (with_reducible refine Upd.setCell ?_ (by simp; omega) _) | (with_reducible refine Upd.alloc ?_ _))
  exact HU1.out
set_option maxRecDepth 100000 in
set_option maxHeartbeats 1000000 in
theorem lkr_new (again : Int) (h0 : 0 ≤ again ∧ again ≤ 8) (hw : 1 ≤ wd ∧ wd ≤ 4) (hrt : 0 ≤ rt ∧ rt ≤ 8) (W : World) : Calls Try.prog 68 #[.agg #[.int .i64 3, .int .i64 a, .int .i64 0, .int .i64 wd, .int .i64 rt], .int .i64 again] W fun e w' => ∃ b, e = .returned (.pointer (some ⟨b, 0, none⟩)) ∧ W.heap.size ≤ b ∧ LG a wd rt w' b 150 [.int .i64 again, .int .i64 1] (l0 0 0 0 0) ∧ Upd [] W w' := by
  have HB := Lib.hid fun w => lk_begun a wd rt hw hrt w
  unfold lkC l0 at HB
  have d1 : decide (again < 0) = false := by simp; omega
  have d2 : decide (again > 8) = false := by simp; omega
  have d3 : decide (8 < again) = false := by simp; omega
  clear h0 hw hrt
  go_enter Try.func68, Try.ntmps68
  go_wp2_with (go_at_call 76; refine (HB.out _).mono ?_; rintro e w1 ⟨rfl, hu1⟩; have HU1 := Lib.hid (((Upd.refl [] W).alloc _).trans hu1); clear hu1)
  go_ret
  have hsz := HU1.out.size
  exact ⟨_, rfl, hsz, ⟨heap_alloc_new _ _⟩, HU1.out.alloc _⟩
variable {w : World} {b : Nat} {t : TypeId} {more : List Value} {s : LSt}
set_option maxRecDepth 100000 in
set_option maxHeartbeats 1000000 in
theorem lk_count (h : LG a wd rt w b t more s) (hw : 1 ≤ wd ∧ wd ≤ 4) (hrt : 0 ≤ rt ∧ rt ≤ 8) :
    Calls Try.prog 121 #[.pointer (some ⟨b, 0, none⟩)] w fun e w' => e = .returned (.int .i64 a) ∧ Upd [] w w' := by
  obtain ⟨x0, x1, x2, x3, x4, -, -, -⟩ := h.pl
  have HC := Lib.hid fun w => c3_seq a wd rt w hw hrt
  clear h hw hrt
  go_enter Try.func121, Try.ntmps121
  go_wp2_with (go_at_call 54; refine (HC.out _).mono ?_; rintro e w1 ⟨rfl, hu1⟩)
  go_ret
  exact ⟨rfl, hu1⟩
set_option maxRecDepth 100000 in
set_option maxHeartbeats 1000000 in
theorem lk_data (k : Int) (h : LG a wd rt w b t more s) (hw : 1 ≤ wd ∧ wd ≤ 4) (hrt : 0 ≤ rt ∧ rt ≤ 8) (ha : 0 ≤ a ∧ a < 1000000) (hk : 0 ≤ k ∧ k < wd) :
    Calls Try.prog 122 #[.pointer (some ⟨b, 0, none⟩), .int .i64 k] w fun e w' => e = .returned (.int .i64 (a + 1 + k)) ∧ Upd [] w w' := by
  obtain ⟨x0, x1, x2, x3, x4, -, -, -⟩ := h.pl
  have HC := Lib.hid fun w => c3_data a wd rt w k hw hrt ha hk
  clear h hw hrt ha hk
  go_enter Try.func122, Try.ntmps122
  go_wp2_with (go_at_call 54; refine (HC.out _).mono ?_; rintro e w1 ⟨rfl, hu1⟩)
  go_ret
  exact ⟨rfl, hu1⟩
set_option maxRecDepth 100000 in
set_option maxHeartbeats 1000000 in
theorem lk_answer (h : LG a wd rt w b t more s) (hon : s.on = false) (his : s.is = true) :
    Calls Try.prog 123 #[.pointer (some ⟨b, 0, none⟩)] w fun e w' => e = .returned (.tuple #[.agg #[.int .i64 s.f, .int .u32 s.r0, .int .u32 s.r1, .int .u32 s.r2, .int .u32 s.r3], .bool true]) ∧ Upd [] w w' := by
  obtain ⟨-, -, -, -, -, -, -, x17⟩ := h.pl
  obtain ⟨x11, x12, x13, x14, x15, x16⟩ := h.rs
  rw [hon] at x17
  rw [his] at x16
  have lb := heap_lt h.h
  generalize s.f = f at *
  generalize s.r0 = r0 at *
  generalize s.r1 = r1 at *
  generalize s.r2 = r2 at *
  generalize s.r3 = r3 at *
  clear h hon his
  go_enter Try.func123, Try.ntmps123
  go_wp2
  refine ret_result rfl (g := w.heap.size) (t := 46) (fr := (0, 0)) (x0 := .int .i64 f) (x1 := .int .u32 r0) (x2 := .int .u32 r1) (x3 := .int .u32 r2) (x4 := .int .u32 r3) rfl rfl rfl (hg := ?hg) ?_
  case hg => repeat (first | ((with_reducible refine heap_alloc_at _ ?_); (first | rfl | (simp; done))) | (with_reducible apply heap_drewE) | (with_reducible apply heap_grE) | (with_reducible apply heap_alloc'))
  exact ⟨rfl, (by repeat (first | (with_reducible exact Upd.refl _ _) | (with_reducible apply Upd.drew) | (with_reducible refine Upd.grE ?_ _) | (with_reducible refine Upd.alloc ?_ _)))⟩
set_option maxRecDepth 100000 in
set_option maxHeartbeats 1000000 in
theorem lkw_result (h : LG a wd rt w b t more s) (hon : s.on = false) (his : s.is = true) :
    Calls Try.prog 119 #[.pointer (some ⟨b, 0, none⟩)] w fun e w' => e = .returned (.tuple #[.agg #[.int .i64 s.f, .int .u32 s.r0, .int .u32 s.r1, .int .u32 s.r2, .int .u32 s.r3], .bool true]) ∧ Upd [] w w' := by
  have HA := Lib.hid (fun (w1 : World) (hu : Upd [] w w1) => lk_answer a wd rt (h.keep hu (by simp)) hon his)
  generalize s.f = f at *
  generalize s.r0 = r0 at *
  generalize s.r1 = r1 at *
  generalize s.r2 = r2 at *
  generalize s.r3 = r3 at *
  clear h hon his
  go_enter Try.func119, Try.ntmps119
  go_wp2_with (go_at_call 123; (with_reducible refine (HA.out _ (by repeat (first | (with_reducible exact Upd.refl _ _) | (with_reducible apply Upd.drew) | (with_reducible refine Upd.grE ?_ _) | (with_reducible refine Upd.alloc ?_ _)))).mono ?_); rintro e w1 ⟨rfl, hu1⟩; obtain ⟨p1, rfl⟩ := hu1.grown; clear hu1)
  refine ret_result rfl (g := w.heap.size) (t := 46) (fr := (0, 0)) (x0 := .int .i64 f) (x1 := .int .u32 r0) (x2 := .int .u32 r1) (x3 := .int .u32 r2) (x4 := .int .u32 r3) rfl rfl rfl (hg := ?hg) ?_
  case hg => repeat (first | ((with_reducible refine heap_alloc_at _ ?_); (first | rfl | (simp; done))) | (with_reducible apply heap_drewE) | (with_reducible apply heap_grE) | (with_reducible apply heap_alloc'))
  exact ⟨rfl, (by repeat (first | (with_reducible exact Upd.refl _ _) | (with_reducible apply Upd.drew) | (with_reducible refine Upd.grE ?_ _) | (with_reducible refine Upd.alloc ?_ _)))⟩
set_option maxRecDepth 100000 in
set_option maxHeartbeats 1000000 in
theorem lkw_done (h : LG a wd rt w b t more s) (hon : s.on = false) :
    Calls Try.prog 118 #[.pointer (some ⟨b, 0, none⟩)] w fun e w' => e = .returned (.tuple #[.agg #[.int .i64 0, .int .i64 0, .int .u32 0], .bool false]) ∧ Upd [] w w' := by
  obtain ⟨-, -, -, -, -, -, -, x17⟩ := h.pl
  rw [hon] at x17
  have lb := heap_lt h.h
  have nb : w.heap.size ≠ b := by omega
  have nb' : b ≠ w.heap.size := by omega
  clear h hon
  go_enter Try.func118, Try.ntmps118
  go_wp2
  go_step3
  go_wp2
  rw [Exit.noGoto_ret]
  refine bodyPost_ret (v := .tuple #[.agg #[.int .i64 0, .int .i64 0, .int .u32 0], .bool false]) (by simp [results, Try.results118, go_sem]) rfl ?_
  exact ⟨rfl, (Upd.refl _ _).alloc _⟩
set_option maxRecDepth 100000 in
set_option maxHeartbeats 1000000 in
theorem lkr_result (h : LG a wd rt w b t more s) (hon : s.on = false) (his : s.is = true) :
    Calls Try.prog 125 #[.pointer (some ⟨b, 0, none⟩)] w fun e w' => e = .returned (.tuple #[.agg #[.int .i64 s.f, .int .u32 s.r0, .int .u32 s.r1, .int .u32 s.r2, .int .u32 s.r3], .bool true]) ∧ Upd [] w w' := by
  have HA := Lib.hid (fun (w1 : World) (hu : Upd [] w w1) => lk_answer a wd rt (h.keep hu (by simp)) hon his)
  generalize s.f = f at *
  generalize s.r0 = r0 at *
  generalize s.r1 = r1 at *
  generalize s.r2 = r2 at *
  generalize s.r3 = r3 at *
  clear h hon his
  go_enter Try.func125, Try.ntmps125
  go_wp2_with (go_at_call 123; (with_reducible refine (HA.out _ (by repeat (first | (with_reducible exact Upd.refl _ _) | (with_reducible apply Upd.drew) | (with_reducible refine Upd.grE ?_ _) | (with_reducible refine Upd.alloc ?_ _)))).mono ?_); rintro e w1 ⟨rfl, hu1⟩; obtain ⟨p1, rfl⟩ := hu1.grown; clear hu1)
  refine ret_result rfl (g := w.heap.size) (t := 46) (fr := (0, 0)) (x0 := .int .i64 f) (x1 := .int .u32 r0) (x2 := .int .u32 r1) (x3 := .int .u32 r2) (x4 := .int .u32 r3) rfl rfl rfl (hg := ?hg) ?_
  case hg => repeat (first | ((with_reducible refine heap_alloc_at _ ?_); (first | rfl | (simp; done))) | (with_reducible apply heap_drewE) | (with_reducible apply heap_grE) | (with_reducible apply heap_alloc'))
  exact ⟨rfl, (by repeat (first | (with_reducible exact Upd.refl _ _) | (with_reducible apply Upd.drew) | (with_reducible refine Upd.grE ?_ _) | (with_reducible refine Upd.alloc ?_ _)))⟩
set_option maxRecDepth 100000 in
set_option maxHeartbeats 1000000 in
theorem lkr_done (h : LG a wd rt w b t more s) (hon : s.on = false) :
    Calls Try.prog 124 #[.pointer (some ⟨b, 0, none⟩)] w fun e w' => e = .returned (.tuple #[.agg #[.int .i64 0, .int .i64 0, .int .u32 0], .bool false]) ∧ Upd [] w w' := by
  obtain ⟨-, -, -, -, -, -, -, x17⟩ := h.pl
  rw [hon] at x17
  have lb := heap_lt h.h
  have nb : w.heap.size ≠ b := by omega
  have nb' : b ≠ w.heap.size := by omega
  clear h hon
  go_enter Try.func124, Try.ntmps124
  go_wp2
  refine bodyPost_ret (v := .tuple #[.agg #[.int .i64 0, .int .i64 0, .int .u32 0], .bool false]) (by simp [results, Try.results124, go_sem]) rfl ?_
  exact ⟨rfl, (Upd.refl _ _).alloc _⟩
end
end Go.Proofs.Ytnnakiojfpnphaa
