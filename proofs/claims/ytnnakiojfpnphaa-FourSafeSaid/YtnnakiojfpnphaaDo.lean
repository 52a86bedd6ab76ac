/- Package act: what an act does to a memory. -/
import Derived.Test.YtnnakiojfpnphaaCell2
set_option linter.unusedVariables false
set_option linter.unusedSimpArgs false
namespace Go.Proofs.Ytnnakiojfpnphaa
open Go.RowKit

/-- A memory whose counts are at most c. -/
def MemX (w : World) (b g : Nat) (c : Nat) (xs : List Int) : Prop := ∃ lo st : Int, 0 ≤ lo ∧ lo ≤ c ∧ 0 ≤ st ∧ st ≤ c ∧ Mem w b g lo st xs
theorem MemX.keep {w w' : World} {b g c : Nat} {xs : List Int} (h : MemX w b g c xs) {S : List Nat} (hu : Upd S w w') (h1 : b ∉ S) (h2 : g ∉ S) : MemX w' b g c xs := by
  obtain ⟨lo, st, a1, a2, a3, a4, hm⟩ := h
  exact ⟨lo, st, a1, a2, a3, a4, hm.keep hu h1 h2⟩
theorem MemX.mono {w : World} {b g c c' : Nat} {xs : List Int} (h : MemX w b g c xs) (hc : c ≤ c') : MemX w b g c' xs := by
  obtain ⟨lo, st, a1, a2, a3, a4, hm⟩ := h
  exact ⟨lo, st, a1, by omega, a3, by omega, hm⟩
theorem MemX.lt {w : World} {b g c : Nat} {xs : List Int} (h : MemX w b g c xs) : b < w.heap.size ∧ g < w.heap.size := by
  obtain ⟨lo, st, a1, a2, a3, a4, hm⟩ := h
  exact ⟨heap_lt hm.hb, heap_lt hm.hg⟩

/-- What an act does: what is read, and the words behind it. -/
def doC (o : Int) (a : Nat) (x : Int) (xs : List Int) : Option (Int × List Int) :=
  if h : a < xs.length then
    if o = 1 then (if x = 0 then some (xs[a], xs) else none)
    else if o = 2 then some (0, xs.set a x)
    else if o = 3 then some (xs[a], xs.set a x)
    else if o = 4 then some (xs[a], xs.set a (bits .or .u32 xs[a] x))
    else if o = 5 then some (xs[a], xs.set a (bits .and .u32 xs[a] x))
    else none
  else none

set_option maxRecDepth 100000 in
set_option maxHeartbeats 1000000 in
theorem act_right (o x : Int) (a : Nat) (ha : a < 65536) (w : World) (ho : o = 1 ∧ x = 0 ∨ o = 2 ∨ o = 3 ∨ o = 4 ∨ o = 5) : Calls Try.prog 33 #[.agg #[.int .i64 o, .int .i64 a, .int .u32 x]] w fun e w' => e = .returned (.bool true) ∧ Upd [] w w' := by
  have h1 : decide ((0 : Int) ≤ (a : Int)) = true := by simp
  have h2 : decide ((a : Int) < 65536) = true := by simp; omega
  have H1 := Lib.hid ha
  clear ha
  rcases ho with ⟨rfl, rfl⟩ | rfl | rfl | rfl | rfl
  all_goals
    go_enter Try.func33, Try.ntmps33
    go_wp2
    go_ret
    exact ⟨rfl, (Upd.refl _ _).alloc _⟩

def DoPost (b g c : Nat) (W : World) (got : Int) (xs' : List Int) (e : Ending) (w' : World) : Prop := e = .returned (.tuple #[.int .u32 got, .bool true]) ∧ MemX w' b g (c + 1) xs' ∧ Upd [b, g] W w'

set_option maxRecDepth 100000 in
set_option maxHeartbeats 2000000 in
theorem do_any {W : World} {b g c : Nat} {xs : List Int} (o : Int) (a : Nat) (x got : Int) (xs' : List Int) (h : MemX W b g c xs) (hc : c < 100000) (hd : doC o a x xs = some (got, xs')) :
    Calls Try.prog 13 #[.pointer (some ⟨b, 0, none⟩), .pointer none, .agg #[.int .i64 o, .int .i64 a, .int .u32 x]] W (DoPost b g c W got xs') := by
  obtain ⟨lo, st, lo0, lo1, st0, st1, hm⟩ := h
  unfold doC at hd
  split at hd
  case isFalse => cases hd
  rename_i ha
  have hlen := hm.len
  have HD := Lib.hid lo0
  have HE := Lib.hid st0
  have HB := Lib.hid lo1
  have HC := Lib.hid st1
  have HA : a < 65536 := by omega
  split at hd
  · rename_i ho
    subst ho
    split at hd
    case isFalse => cases hd
    rename_i hx
    subst hx
    simp only [Option.some.injEq, Prod.mk.injEq] at hd
    obtain ⟨rfl, rfl⟩ := hd
    have HR := Lib.hid fun w => act_right 1 0 a HA w (by simp)
    have HOP := Lib.hid fun w (k : Upd [] W w) => load_any a (hm.keep k (by simp) (by simp)) ha lo0 (by omega)
    generalize xs[a]'ha = y at *
    clear hm ha HA hlen lo0 st0 lo1 st1 hc
    go_enter Try.func13, Try.ntmps13
    go_wp2_with (first
      | (go_at_call 33; refine (HR.out _).mono ?_; rintro e w1 ⟨rfl, hu1⟩; have hx := hu1.keepb (heap_alloc_new _ _) (by simp); have HU1 := Lib.hid (((Upd.refl [] W).alloc _).trans hu1); have x0 := cell_of_heap hx 0; have x1 := cell_of_heap hx 1; have x2 := cell_of_heap hx 2; simp at x0 x1 x2; clear hu1 hx)
      | (go_at_call 36; refine (HOP.out _ HU1.out).mono ?_; rintro e w2 ⟨rfl, hm2, hu2⟩; have HM2 := Lib.hid hm2; have HU2 := Lib.hid hu2; clear hm2 hu2))
    go_ret2
    exact ⟨rfl, ⟨_, _, by have := HD.out; omega, by have := HB.out; omega, by have := HE.out; omega, by have := HC.out; omega, HM2.out⟩, (HU1.out.mono (by simp)).trans (HU2.out.mono (by simp))⟩
  split at hd
  · rename_i ho
    subst ho
    simp only [Option.some.injEq, Prod.mk.injEq] at hd
    obtain ⟨rfl, rfl⟩ := hd
    have HR := Lib.hid fun w => act_right 2 x a HA w (by simp)
    have HOP := Lib.hid fun w (k : Upd [] W w) => store_any a x (hm.keep k (by simp) (by simp)) ha st0 (by omega)
    clear hm ha HA hlen lo0 st0 lo1 st1 hc
    go_enter Try.func13, Try.ntmps13
    go_wp2_with (first
      | (go_at_call 33; refine (HR.out _).mono ?_; rintro e w1 ⟨rfl, hu1⟩; have hx := hu1.keepb (heap_alloc_new _ _) (by simp); have HU1 := Lib.hid (((Upd.refl [] W).alloc _).trans hu1); have x0 := cell_of_heap hx 0; have x1 := cell_of_heap hx 1; have x2 := cell_of_heap hx 2; simp at x0 x1 x2; clear hu1 hx)
      | (go_at_call 37; refine (HOP.out _ HU1.out).mono ?_; rintro e w2 ⟨rfl, hm2, hu2⟩; have HM2 := Lib.hid hm2; have HU2 := Lib.hid hu2; clear hm2 hu2))
    go_ret2
    exact ⟨rfl, ⟨_, _, by have := HD.out; omega, by have := HB.out; omega, by have := HE.out; omega, by have := HC.out; omega, HM2.out⟩, (HU1.out.mono (by simp)).trans (HU2.out.mono (by simp))⟩
  split at hd
  · rename_i ho
    subst ho
    simp only [Option.some.injEq, Prod.mk.injEq] at hd
    obtain ⟨rfl, rfl⟩ := hd
    have HR := Lib.hid fun w => act_right 3 x a HA w (by simp)
    have HOP := Lib.hid fun w (k : Upd [] W w) => swap_any a x (hm.keep k (by simp) (by simp)) ha st0 (by omega) lo0 (by omega)
    generalize xs[a]'ha = y at *
    clear hm ha HA hlen lo0 st0 lo1 st1 hc
    go_enter Try.func13, Try.ntmps13
    go_wp2_with (first
      | (go_at_call 33; refine (HR.out _).mono ?_; rintro e w1 ⟨rfl, hu1⟩; have hx := hu1.keepb (heap_alloc_new _ _) (by simp); have HU1 := Lib.hid (((Upd.refl [] W).alloc _).trans hu1); have x0 := cell_of_heap hx 0; have x1 := cell_of_heap hx 1; have x2 := cell_of_heap hx 2; simp at x0 x1 x2; clear hu1 hx)
      | (go_at_call 34; refine (HOP.out _ HU1.out).mono ?_; rintro e w2 ⟨rfl, hm2, hu2⟩; have HM2 := Lib.hid hm2; have HU2 := Lib.hid hu2; clear hm2 hu2))
    go_ret2
    exact ⟨rfl, ⟨_, _, by have := HD.out; omega, by have := HB.out; omega, by have := HE.out; omega, by have := HC.out; omega, HM2.out⟩, (HU1.out.mono (by simp)).trans (HU2.out.mono (by simp))⟩
  split at hd
  · rename_i ho
    subst ho
    simp only [Option.some.injEq, Prod.mk.injEq] at hd
    obtain ⟨rfl, rfl⟩ := hd
    have HR := Lib.hid fun w => act_right 4 x a HA w (by simp)
    have HOP := Lib.hid fun w (k : Upd [] W w) => or_any a x (hm.keep k (by simp) (by simp)) ha st0 (by omega) lo0 (by omega)
    generalize xs[a]'ha = y at *
    clear hm ha HA hlen lo0 st0 lo1 st1 hc
    go_enter Try.func13, Try.ntmps13
    go_wp2_with (first
      | (go_at_call 33; refine (HR.out _).mono ?_; rintro e w1 ⟨rfl, hu1⟩; have hx := hu1.keepb (heap_alloc_new _ _) (by simp); have HU1 := Lib.hid (((Upd.refl [] W).alloc _).trans hu1); have x0 := cell_of_heap hx 0; have x1 := cell_of_heap hx 1; have x2 := cell_of_heap hx 2; simp at x0 x1 x2; clear hu1 hx)
      | (go_at_call 38; refine (HOP.out _ HU1.out).mono ?_; rintro e w2 ⟨rfl, hm2, hu2⟩; have HM2 := Lib.hid hm2; have HU2 := Lib.hid hu2; clear hm2 hu2))
    go_ret2
    exact ⟨rfl, ⟨_, _, by have := HD.out; omega, by have := HB.out; omega, by have := HE.out; omega, by have := HC.out; omega, HM2.out⟩, (HU1.out.mono (by simp)).trans (HU2.out.mono (by simp))⟩
  split at hd
  · rename_i ho
    subst ho
    simp only [Option.some.injEq, Prod.mk.injEq] at hd
    obtain ⟨rfl, rfl⟩ := hd
    have HR := Lib.hid fun w => act_right 5 x a HA w (by simp)
    have HOP := Lib.hid fun w (k : Upd [] W w) => and_any a x (hm.keep k (by simp) (by simp)) ha st0 (by omega) lo0 (by omega)
    generalize xs[a]'ha = y at *
    clear hm ha HA hlen lo0 st0 lo1 st1 hc
    go_enter Try.func13, Try.ntmps13
    go_wp2_with (first
      | (go_at_call 33; refine (HR.out _).mono ?_; rintro e w1 ⟨rfl, hu1⟩; have hx := hu1.keepb (heap_alloc_new _ _) (by simp); have HU1 := Lib.hid (((Upd.refl [] W).alloc _).trans hu1); have x0 := cell_of_heap hx 0; have x1 := cell_of_heap hx 1; have x2 := cell_of_heap hx 2; simp at x0 x1 x2; clear hu1 hx)
      | (go_at_call 39; refine (HOP.out _ HU1.out).mono ?_; rintro e w2 ⟨rfl, hm2, hu2⟩; have HM2 := Lib.hid hm2; have HU2 := Lib.hid hu2; clear hm2 hu2))
    go_ret2
    exact ⟨rfl, ⟨_, _, by have := HD.out; omega, by have := HB.out; omega, by have := HE.out; omega, by have := HC.out; omega, HM2.out⟩, (HU1.out.mono (by simp)).trans (HU2.out.mono (by simp))⟩
  · cases hd
end Go.Proofs.Ytnnakiojfpnphaa
