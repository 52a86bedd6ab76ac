/- Package post: a Put made; a gate; an act with a gate beside. -/
import Derived.Test.YtbjeojcnofpgfaaPost3
import Derived.Test.YtbjeojcnofpgfaaDo
set_option linter.unusedVariables false
set_option linter.unusedSimpArgs false
namespace Go.Proofs.Ytbjeojcnofpgfaa
open Go.RowKit

set_option maxRecDepth 100000 in
set_option maxHeartbeats 2000000 in
theorem post_cell (ov : Int) (h0 : 0 ≤ ov) (h1 : ov < 65536) (w : World) : Calls Try.prog 137 #[.int .i64 ov] w fun e w' => e = .returned (.bool true) ∧ w' = w := by
  have d1 : decide (0 ≤ ov) = true := by simpa using h0
  have d2 : decide (ov < 65536) = true := by simpa using h1
  clear h0 h1
  go_enter Try.func137, Try.ntmps137
  go_wp2
  go_ret
  exact ⟨rfl, rfl⟩
set_option maxRecDepth 100000 in
set_option maxHeartbeats 2000000 in
theorem hand_begun {cap ov : Int} {w : World} {b : Nat} {s : HdS} (h : HD cap ov w b s) : Calls Try.prog 136 #[.pointer (some ⟨b, 0, none⟩), .bool true] w fun e w' => e = .returned (.pointer (some ⟨b, 0, none⟩)) ∧ HD cap ov w' b { s with on := true } ∧ Upd [b] w w' := by
  obtain ⟨-, -, -, -, -, -, -, -, -, -, -, -, -, -, -, -, -, x17⟩ := h.cells
  have lb := heap_lt h.h
  have xf := fun j => h.fz j
  have HX := Lib.hid h.h
  clear h
  go_enter Try.func136, Try.ntmps136
  go_wp2
  go_ret
  refine ⟨rfl, ⟨?hg⟩, ?_⟩
  case hg =>
    unfold hdC at *
    repeat (first | (with_reducible exact HX.out) | (with_reducible apply heap_set2) | (with_reducible apply heap_drew'))
    all_goals rfl
  repeat (first | (with_reducible refine Upd.setCell ?_ (by simp) _) | (with_reducible refine Upd.drew ?_))
  exact Upd.refl _ _
set_option maxRecDepth 100000 in
set_option maxHeartbeats 2000000 in
theorem put_new (cap ov v : Int) (hc : Cap5 cap) (h0 : 0 ≤ ov) (h1 : ov < 65536) (W : World) : Calls Try.prog 90 #[.agg #[.int .i64 1, .int .i64 0, .int .i64 cap, .int .i64 1, .int .i64 0, .int .i64 ov], .int .u32 v] W fun e w' => ∃ b, e = .returned (.pointer (some ⟨b, 0, none⟩)) ∧ W.heap.size ≤ b ∧ HD cap ov w' b ⟨v, 0, 0, 0, 0, 0, true⟩ ∧ Upd [] W w' := by
  have HRM := Lib.hid (show ∀ w, Calls Try.prog 133 #[.agg #[.int .i64 1, .int .i64 0, .int .i64 cap, .int .i64 1, .int .i64 0], .int .u32 0] w fun e w' => e = .returned (.int .i64 0) ∧ Upd [] w w' from fun w => (ring_room cap 1 0 hc (by omega) (by omega) w).mono fun e w' h => ⟨by rw [h.1]; simp [roomI], h.2⟩)
  have HPC := Lib.hid fun w => post_cell ov h0 h1 w
  have hx : ∀ w', Upd [] ((W.alloc (.cells #[.int .i64 1, .int .i64 0, .int .i64 cap, .int .i64 1, .int .i64 0, .int .i64 ov] 75)).alloc (.cells (hdC cap ov ⟨v, 0, 0, 0, 0, 0, false⟩).toArray 77)) w' → HD cap ov w' (W.heap.size + 1) ⟨v, 0, 0, 0, 0, 0, false⟩ := fun w' hu => ⟨hu.keepb (heap_alloc_at _ (by simp)) (by simp)⟩
  have hl : ∀ w' i u, Upd [] ((W.alloc (.cells #[.int .i64 1, .int .i64 0, .int .i64 cap, .int .i64 1, .int .i64 0, .int .i64 ov] 75)).alloc (.cells (hdC cap ov ⟨v, 0, 0, 0, 0, 0, false⟩).toArray 77)) w' → (#[.int .i64 1, .int .i64 0, .int .i64 cap, .int .i64 1, .int .i64 0, .int .i64 ov] : Array Value)[i]? = some u → w'.cell? ⟨W.heap.size, i, none⟩ = some u := fun w' i u hu hi => by
    rw [cell_of_heap (hu.keepb (heap_alloc' (heap_alloc_new W _)) (by simp))]
    exact hi
  have HX := Lib.hid hx
  have HLL := Lib.hid hl
  unfold hdC at HX HLL
  clear hc h0 h1 hx hl
  go_enter Try.func90, Try.ntmps90
  go_wp2_with (first
    | (go_at_call 133; refine (HRM.out _).mono ?_; rintro e w1 ⟨rfl, hu1⟩; have HU1 := Lib.hid hu1; have y3 := HLL.out _ 3 _ hu1 rfl; have y5 := HLL.out _ 5 _ hu1 rfl; clear hu1)
    | (go_at_call 137; refine (HPC.out _).mono ?_; rintro e w2 ⟨rfl, rfl⟩)
    | (go_at_call 136; refine (hand_begun (HX.out _ HU1.out)).mono ?_; rintro e w3 ⟨rfl, hh3, hu3⟩; have HH3 := Lib.hid hh3; have HU3 := Lib.hid hu3; clear hh3 hu3))
  go_ret
  have hu := ((Upd.refl [] W).alloc (.cells #[.int .i64 1, .int .i64 0, .int .i64 cap, .int .i64 1, .int .i64 0, .int .i64 ov] 75)).alloc (.cells #[.int .i64 1, .int .i64 0, .int .i64 cap, .int .i64 1, .int .i64 0, .int .i64 ov, .int .i64 1, .int .i64 0, .int .u32 v, .int .i64 0, .int .u32 0, .int .u32 0, .int .i64 0, .int .u32 0, .int .u32 0, .int .u32 0, .int .u32 0, .bool false] 77)
  exact ⟨_, rfl, by omega, HH3.out, (hu.trans HU1.out).then HU3.out (fun k hk => .inr (by simp at hk; omega))⟩
structure GA (w : World) (g : Nat) (bits raised : Int) : Prop where
  h : w.heap[g]? = some (.cells #[.int .u32 bits, .int .i64 raised, .int .i64 0, .int .i64 0, .int .i64 0, .int .i64 0, .int .i64 0, .int .i64 0, .int .i64 0, .int .i64 0, .int .i64 0, .int .i64 0, .int .i64 0, .int .i64 0, .int .i64 0, .int .i64 0, .int .i64 0, .int .i64 0, .int .i64 0, .int .i64 0, .int .i64 0, .int .i64 0, .int .i64 0, .int .i64 0, .int .i64 0, .int .i64 0, .int .i64 0, .int .i64 0, .int .i64 0, .int .i64 0, .int .i64 0, .int .i64 0, .int .i64 0, .int .i64 0, .int .i64 0, .int .i64 0, .int .i64 0, .int .i64 1, .int .i64 0] 212 (0, 0))
theorem GA.keep {w w' : World} {g : Nat} {bits raised : Int} (h : GA w g bits raised) {S : List Nat} (hu : Upd S w w') (hg : g ∉ S) : GA w' g bits raised := ⟨hu.keepb h.h hg⟩
theorem GA.cells {w : World} {g : Nat} {bits raised : Int} (h : GA w g bits raised) : w.cell? ⟨g, 0, none⟩ = some (.int .u32 bits) ∧ w.cell? ⟨g, 1, none⟩ = some (.int .i64 raised) ∧ w.cell? ⟨g, 2, none⟩ = some (.int .i64 0) ∧ w.cell? ⟨g, 37, none⟩ = some (.int .i64 1) :=
  ⟨by rw [cell_of_heap h.h]; rfl, by rw [cell_of_heap h.h]; rfl, by rw [cell_of_heap h.h]; rfl, by rw [cell_of_heap h.h]; rfl⟩
set_option maxRecDepth 100000 in
set_option maxHeartbeats 2000000 in
theorem gate_new (W : World) : Calls Try.prog 88 #[.int .i64 1] W fun e w' => ∃ g, e = .returned (.pointer (some ⟨g, 0, none⟩)) ∧ W.heap.size ≤ g ∧ GA w' g 0 0 ∧ Upd [] W w' := by
  go_enter Try.func88, Try.ntmps88
  go_wp2
  go_ret
  exact ⟨_, rfl, Nat.le_refl _, ⟨heap_alloc_new _ _⟩, (Upd.refl _ _).alloc _⟩
set_option maxRecDepth 100000 in
set_option maxHeartbeats 2000000 in
theorem gate_pending {w : World} {g : Nat} {bits raised : Int} (h : GA w g bits raised) : Calls Try.prog 92 #[.pointer (some ⟨g, 0, none⟩)] w fun e w' => e = .returned (.int .u32 bits) ∧ w' = w := by
  obtain ⟨y0, y1, y2, y37⟩ := h.cells
  have HB := Lib.hid (show ∀ w, w.cell? ⟨g, 0, none⟩ = some (.int .u32 bits) → Calls Try.prog 138 #[.pointer (some ⟨g, 0, none⟩)] w fun e w' => e = .returned (.int .u32 bits) ∧ w' = w from fun w y0 => by
    go_enter Try.func138, Try.ntmps138
    go_wp2
    go_ret
    exact ⟨rfl, rfl⟩)
  clear h
  go_enter Try.func92, Try.ntmps92
  go_wp2_with (go_at_call 138; refine (HB.out _ y0).mono ?_; rintro e w1 ⟨rfl, rfl⟩)
  go_ret
  exact ⟨rfl, rfl⟩
set_option maxRecDepth 100000 in
set_option maxHeartbeats 2000000 in
theorem has_zero (w : World) : Calls Try.prog 154 #[.int .u32 0, .int .i64 0] w fun e w' => e = .returned (.bool false) ∧ w' = w := by
  go_enter Try.func154, Try.ntmps154
  go_wp2
  go_ret
  exact ⟨rfl, rfl⟩
set_option maxRecDepth 100000 in
set_option maxHeartbeats 2000000 in
theorem with_zero (w : World) : Calls Try.prog 155 #[.int .u32 0, .int .i64 0] w fun e w' => e = .returned (.int .u32 1) ∧ w' = w := by
  go_enter Try.func155, Try.ntmps155
  go_wp2
  go_ret
  exact ⟨rfl, rfl⟩
set_option maxRecDepth 100000 in
set_option maxHeartbeats 2000000 in
theorem pend_level {w : World} {p q g : Nat} (hp : w.cell? ⟨p, 0, none⟩ = some (.pointer (some ⟨g, 0, none⟩))) (hq : w.cell? ⟨q, 0, none⟩ = some (.int .i64 0)) : Calls Try.prog 153 #[.pointer (some ⟨p, 0, none⟩), .pointer (some ⟨q, 0, none⟩)] w fun e w' => e = .returned (.bool true) ∧ w' = w := by
  go_enter Try.func153, Try.ntmps153
  go_wp2
  go_ret
  exact ⟨rfl, rfl⟩
set_option maxRecDepth 100000 in
set_option maxHeartbeats 2000000 in
theorem pend_raise {w : World} {g : Nat} (h : GA w g 0 0) : Calls Try.prog 145 #[.pointer (some ⟨g, 0, none⟩), .int .i64 0] w fun e w' => e = .returned (.bool true) ∧ GA w' g 1 1 ∧ Upd [g] w w' := by
  obtain ⟨y0, y1, y2, y37⟩ := h.cells
  have lg := heap_lt h.h
  have yf := fun j => frozen_of_heap h.h j
  have HX := Lib.hid h.h
  have hmf : ∀ (fn : Fn) (first cap : Array Value) (w : World), (Instr.makeFunc fn first cap).run Try.prog w = .ok (.func fn first cap) w := fun _ _ _ _ => rfl
  have HLV := Lib.hid (show Calls Try.prog 153 #[.pointer (some ⟨w.heap.size, 0, none⟩), .pointer (some ⟨w.heap.size + 1, 0, none⟩)] ((w.alloc (.cells #[.pointer (some ⟨g, 0, none⟩)] 226)).alloc (.cells #[.int .i64 0] 3)) fun e w' => e = .returned (.bool true) ∧ w' = _ from pend_level (g := g) (by rw [cell_of_heap (heap_alloc' (heap_alloc_new _ _))]; rfl) (by rw [cell_of_heap (heap_alloc_at _ (by simp))]; rfl))
  have ne1 : w.heap.size ≠ g := by omega
  have ne2 : w.heap.size + 1 ≠ g := by omega
  have ne3 : g ≠ w.heap.size := by omega
  have ne4 : g ≠ w.heap.size + 1 := by omega
  clear h
  go_enter Try.func145, Try.ntmps145
  go_wp2_with (go_at_call 153; refine (HLV.out).mono ?_; rintro e w1 ⟨rfl, rfl⟩)
  go_quiet ((go_at_call 154; exact (has_zero _).mono (fun _ _ h => ⟨h.1, _, h.2⟩)))
  go_wp2
  go_region_with (go_at_call 155; refine (with_zero _).mono ?_; rintro e w2 ⟨rfl, rfl⟩)
  all_goals
    go_wp2
    go_ret
    refine ⟨rfl, ⟨?hg⟩, ?_⟩
    case hg =>
      repeat (first | (with_reducible exact HX.out) | (with_reducible apply heap_set2) | (with_reducible apply heap_drew') | (with_reducible apply heap_drewN') | (with_reducible apply heap_alloc'))
      all_goals rfl
    repeat (first | (with_reducible refine Upd.setCell ?_ (by simp) _) | (with_reducible refine Upd.drew ?_) | (with_reducible refine Upd.drewN ?_ _) | (with_reducible refine Upd.alloc ?_ _))
    exact Upd.refl _ _
end Go.Proofs.Ytbjeojcnofpgfaa

