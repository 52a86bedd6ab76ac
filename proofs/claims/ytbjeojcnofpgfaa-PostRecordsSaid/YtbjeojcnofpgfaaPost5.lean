/- Package post: an act with a gate beside. -/
import Derived.Test.YtbjeojcnofpgfaaPost4
set_option linter.unusedVariables false
set_option linter.unusedSimpArgs false
namespace Go.Proofs.Ytbjeojcnofpgfaa
open Go.RowKit

set_option maxRecDepth 100000 in
set_option maxHeartbeats 2000000 in
theorem gate_raise {w : World} {g : Nat} (h : GA w g 0 0) : Calls Try.prog 112 #[.pointer (some ⟨g, 0, none⟩), .int .i64 0] w fun e w' => e = .returned (.bool true) ∧ GA w' g 1 1 ∧ Upd [g] w w' := by
  obtain ⟨y0, y1, y2, y37⟩ := h.cells
  have lg := heap_lt h.h
  have HP := Lib.hid (pend_raise h)
  clear h
  go_enter Try.func112, Try.ntmps112
  go_wp2_with (go_at_call 145; refine (HP.out).mono ?_; rintro e w1 ⟨rfl, hg1, hu1⟩; have HG1 := Lib.hid hg1; have HU1 := Lib.hid hu1; clear hg1 hu1)
  go_ret
  exact ⟨rfl, HG1.out, HU1.out⟩
set_option maxRecDepth 100000 in
set_option maxHeartbeats 2000000 in
theorem do_load_g {W : World} {b g c : Nat} {xs : List Int} (gv : Value) (a : Nat) (h : MemX W b g c xs) (hc : c < 100000) (ha : a < xs.length) :
    Calls Try.prog 52 #[.pointer (some ⟨b, 0, none⟩), gv, .agg #[.int .i64 1, .int .i64 a, .int .u32 0]] W (DoPost b g c W (xs[a]) (xs)) := by
  obtain ⟨lo, st, lo0, lo1, st0, st1, hm⟩ := h
  have hlen := hm.len
  have HD := Lib.hid lo0
  have HE := Lib.hid st0
  have HB := Lib.hid lo1
  have HC := Lib.hid st1
  have HA : a < 65536 := by omega
  have HR := Lib.hid fun w => act_right 1 0 a HA w (by simp)
  have HOP := Lib.hid fun w (k : Upd [] W w) => load_any a (hm.keep k (by simp) (by simp)) ha lo0 (by omega)
  generalize xs[a]'ha = y at *
  clear hm ha HA hlen lo0 st0 lo1 st1 hc
  go_enter Try.func52, Try.ntmps52
  go_wp2_with (first
    | (go_at_call 110; refine (HR.out _).mono ?_; rintro e w1 ⟨rfl, hu1⟩; have hx := hu1.keepb (heap_alloc_new _ _) (by simp); have HU1 := Lib.hid (((Upd.refl [] W).alloc _).trans hu1); have x0 := cell_of_heap hx 0; have x1 := cell_of_heap hx 1; have x2 := cell_of_heap hx 2; simp at x0 x1 x2; clear hu1 hx)
    | (go_at_call 91; refine (HOP.out _ HU1.out).mono ?_; rintro e w2 ⟨rfl, hm2, hu2⟩; have HM2 := Lib.hid hm2; have HU2 := Lib.hid hu2; clear hm2 hu2))
  go_ret2
  exact ⟨rfl, ⟨_, _, by have := HD.out; omega, by have := HB.out; omega, by have := HE.out; omega, by have := HC.out; omega, HM2.out⟩, (HU1.out.mono (by simp)).trans (HU2.out.mono (by simp))⟩
set_option maxRecDepth 100000 in
set_option maxHeartbeats 2000000 in
theorem do_store_g {W : World} {b g c : Nat} {xs : List Int} (gv : Value) (a : Nat) (x : Int) (h : MemX W b g c xs) (hc : c < 100000) (ha : a < xs.length) :
    Calls Try.prog 52 #[.pointer (some ⟨b, 0, none⟩), gv, .agg #[.int .i64 2, .int .i64 a, .int .u32 x]] W (DoPost b g c W (0) (xs.set a x)) := by
  obtain ⟨lo, st, lo0, lo1, st0, st1, hm⟩ := h
  have hlen := hm.len
  have HD := Lib.hid lo0
  have HE := Lib.hid st0
  have HB := Lib.hid lo1
  have HC := Lib.hid st1
  have HA : a < 65536 := by omega
  have HR := Lib.hid fun w => act_right 2 x a HA w (by simp)
  have HOP := Lib.hid fun w (k : Upd [] W w) => store_any a x (hm.keep k (by simp) (by simp)) ha st0 (by omega)
  skip
  clear hm ha HA hlen lo0 st0 lo1 st1 hc
  go_enter Try.func52, Try.ntmps52
  go_wp2_with (first
    | (go_at_call 110; refine (HR.out _).mono ?_; rintro e w1 ⟨rfl, hu1⟩; have hx := hu1.keepb (heap_alloc_new _ _) (by simp); have HU1 := Lib.hid (((Upd.refl [] W).alloc _).trans hu1); have x0 := cell_of_heap hx 0; have x1 := cell_of_heap hx 1; have x2 := cell_of_heap hx 2; simp at x0 x1 x2; clear hu1 hx)
    | (go_at_call 37; refine (HOP.out _ HU1.out).mono ?_; rintro e w2 ⟨rfl, hm2, hu2⟩; have HM2 := Lib.hid hm2; have HU2 := Lib.hid hu2; clear hm2 hu2))
  go_ret2
  exact ⟨rfl, ⟨_, _, by have := HD.out; omega, by have := HB.out; omega, by have := HE.out; omega, by have := HC.out; omega, HM2.out⟩, (HU1.out.mono (by simp)).trans (HU2.out.mono (by simp))⟩
set_option maxRecDepth 100000 in
set_option maxHeartbeats 2000000 in
theorem right_raise (w : World) : Calls Try.prog 110 #[.agg #[.int .i64 6, .int .i64 0, .int .u32 0]] w fun e w' => e = .returned (.bool true) ∧ Upd [] w w' := by
  go_enter Try.func110, Try.ntmps110
  go_wp2
  go_ret
  exact ⟨rfl, (Upd.refl _ _).alloc _⟩
set_option maxRecDepth 100000 in
set_option maxHeartbeats 2000000 in
theorem do_raise {W : World} {k : Nat} (bv : Value) (h : GA W k 0 0) :
    Calls Try.prog 52 #[bv, .pointer (some ⟨k, 0, none⟩), .agg #[.int .i64 6, .int .i64 0, .int .u32 0]] W fun e w' => e = .returned (.tuple #[.int .u32 0, .bool true]) ∧ GA w' k 1 1 ∧ Upd [k] W w' := by
  have HR := Lib.hid fun w => right_raise w
  have HG := Lib.hid fun w (u : Upd [] W w) => gate_raise (h.keep u (by simp))
  have lk := heap_lt h.h
  have HK := Lib.hid lk
  clear h lk
  go_enter Try.func52, Try.ntmps52
  go_wp2_with (first
    | (go_at_call 110; refine (HR.out _).mono ?_; rintro e w1 ⟨rfl, hu1⟩; have hx := hu1.keepb (heap_alloc_new _ _) (by simp); have HU1 := Lib.hid (((Upd.refl [] W).alloc _).trans hu1); have x0 := cell_of_heap hx 0; have x1 := cell_of_heap hx 1; have x2 := cell_of_heap hx 2; simp at x0 x1 x2; clear hu1 hx)
    | (go_at_call 112; refine (HG.out _ HU1.out).mono ?_; rintro e w2 ⟨rfl, hg2, hu2⟩; have HG2 := Lib.hid hg2; have HU2 := Lib.hid hu2; clear hg2 hu2))
  go_ret2
  exact ⟨rfl, HG2.out, (HU1.out.mono (by simp)).trans HU2.out⟩
end Go.Proofs.Ytbjeojcnofpgfaa

