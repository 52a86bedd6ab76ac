/- Package flags: a routine on a Flags object's word. -/
import Derived.Test.YtbjeojcnofpgfaaFlags
set_option linter.unusedVariables false
set_option linter.unusedSimpArgs false
namespace Go.Proofs.Ytbjeojcnofpgfaa
open Go.RowKit

/-- A routine, by its cells: its place, its kind and mask, its answer, whether it was made, whether it goes on. -/
def flagC (at' kind mask f v0 : Int) (on : Bool) : Array Value := #[.int .i64 4, .int .i64 at', .int .i64 0, .int .i64 0, .int .i64 0, .int .i64 kind, .int .u32 mask, .int .i64 f, .int .u32 v0, .int .u32 0, .int .u32 0, .int .u32 0, .bool true, .bool on]
structure FlagAt (w : World) (b : Nat) (at' kind mask f v0 : Int) (on : Bool) : Prop where
  h : w.heap[b]? = some (.cells (flagC at' kind mask f v0 on) 195 (0, 0))
theorem FlagAt.keep {w w' : World} {b : Nat} {at' kind mask f v0 : Int} {on : Bool} (h : FlagAt w b at' kind mask f v0 on) {S : List Nat} (hu : Upd S w w') (hb : b ∉ S) : FlagAt w' b at' kind mask f v0 on := ⟨hu.keepb h.h hb⟩

set_option maxRecDepth 100000 in
set_option maxHeartbeats 1000000 in
theorem flag_new (at' kind mask : Int) (W : World) (hk1 : 1 ≤ kind) (hk5 : kind ≤ 5) :
    Calls Try.prog 67 #[.agg #[.int .i64 4, .int .i64 at', .int .i64 0, .int .i64 0, .int .i64 0], .int .i64 kind, .int .u32 mask] W fun e w' => ∃ b, e = .returned (.pointer (some ⟨b, 0, none⟩)) ∧ W.heap.size ≤ b ∧ FlagAt w' b at' kind mask 0 0 true ∧ Upd [] W w' := by
  have HR := Lib.hid fun w => right_flags 0 0 0 0 0 0 w
  unfold objV at HR
  go_enter Try.func67, Try.ntmps67
  have hu0 : Upd [] W ((W.alloc (.cells #[.int .i64 4, .int .i64 at', .int .i64 0, .int .i64 0, .int .i64 0] 66)).alloc (.cells (flagC at' kind mask 0 0 false) 195)) := ((Upd.refl _ _).alloc _).alloc _
  have hx0 : ((W.alloc (.cells #[.int .i64 4, .int .i64 at', .int .i64 0, .int .i64 0, .int .i64 0] 66)).alloc (.cells (flagC at' kind mask 0 0 false) 195)).heap[W.heap.size + 1]? = some (.cells (flagC at' kind mask 0 0 false) 195 (0, 0)) := heap_alloc_at _ (by simp)
  go_wp2
  change Code.wp _ _ _ _ ((W.alloc (.cells #[.int .i64 4, .int .i64 at', .int .i64 0, .int .i64 0, .int .i64 0] 66)).alloc (.cells (flagC at' kind mask 0 0 false) 195))
  obtain ⟨w0, hw0⟩ : ∃ w0, w0 = ((W.alloc (.cells #[.int .i64 4, .int .i64 at', .int .i64 0, .int .i64 0, .int .i64 0] 66)).alloc (.cells (flagC at' kind mask 0 0 false) 195)) := ⟨_, rfl⟩
  rw [← hw0] at hu0 hx0 ⊢
  have HU0 := Lib.hid hu0
  have HX0 := Lib.hid hx0
  have x0 := cell_of_heap hx0 0
  have x2 := cell_of_heap hx0 2
  have x3 := cell_of_heap hx0 3
  have x4 := cell_of_heap hx0 4
  simp [flagC] at x0 x2 x3 x4
  have lx := heap_lt hx0
  have nx : w0.heap.size ≠ W.heap.size + 1 := by omega
  have nx' : W.heap.size + 1 ≠ w0.heap.size := by omega
  have xf := fun j => frozen_of_heap hx0 j
  clear hu0 hx0 hw0
  go_region_held3 (fun w' => w'.cell? ⟨W.heap.size + 1, 0, none⟩ = some (.int .i64 4) ∧ w'.cell? ⟨W.heap.size + 1, 2, none⟩ = some (.int .i64 0) ∧ w'.cell? ⟨W.heap.size + 1, 3, none⟩ = some (.int .i64 0) ∧ w'.cell? ⟨W.heap.size + 1, 4, none⟩ = some (.int .i64 0))
    (first | exact ⟨x0, x2, x3, x4⟩ | (go_keep; done))
    (fail)
  go_wp2_with (go_at_call 94; refine (HR.out _).mono ?_; rintro e w1 ⟨rfl, hu1⟩; have HU1 := Lib.hid (show Upd [] w0 w1 from by first | exact ((Upd.refl _ _).alloc _).trans hu1 | exact ((Upd.refl _ _).alloc _).drew.trans hu1); have hx1 := HU1.out.keepb HX0.out (by simp); have HX1 := Lib.hid hx1; have y13 := cell_of_heap hx1 13; have yf := fun j => frozen_of_heap hx1 j; simp [flagC] at y13; clear hx1 hu1)
  go_ret
  have hS : Upd [W.heap.size + 1] w1 (w1.setCell ⟨W.heap.size + 1, 13, none⟩ (.bool true)) := (Upd.refl _ _).setCell (by simp) _
  exact ⟨_, rfl, by omega, ⟨heap_set HX1.out 13 _⟩, (HU0.out.trans HU1.out).then hS (by simp)⟩
end Go.Proofs.Ytbjeojcnofpgfaa
