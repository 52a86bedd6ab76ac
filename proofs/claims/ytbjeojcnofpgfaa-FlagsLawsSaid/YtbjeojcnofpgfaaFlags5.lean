/- Package flags: what must come at any rate. -/
import Derived.Test.YtbjeojcnofpgfaaFlags4
import Derived.Test.YtbjeojcnofpgfaaResEq
set_option linter.unusedVariables false
set_option linter.unusedSimpArgs false
namespace Go.Proofs.Ytbjeojcnofpgfaa
open Go.RowKit

def flagWord (kind mask x : Int) : Int := if kind = 1 then bits .or .u32 x mask else if kind = 2 then bits .and .u32 x (notU mask) else x
def FlagAlonePost (w : World) (b g p c : Nat) (f v x' : Int) (e : Ending) (w' : World) : Prop :=
  e = .returned (.tuple #[.agg #[.int .i64 f, .int .u32 v, .int .u32 0, .int .u32 0, .int .u32 0], .int .i64 1, .bool true]) ∧ MemX w' b g (c + 1) [x'] ∧ Upd [b, g, p] w w'

theorem flag_alone {w : World} {b g p c : Nat} {kind mask x : Int} (f v x' : Int) (hm : MemX w b g c [x]) (hf0 : FlagAt w p 0 kind mask 0 0 true) (hb : b ≠ p) (hg : g ≠ p) (hc : c < 1000) (hk1 : 1 ≤ kind) (hk5 : kind ≤ 5)
    (hf' : (if holdsB kind x mask then 0 else 7) = f) (hv' : (if holdsB kind x mask then x else 0) = v) (hx' : flagWord kind mask x = x') :
    Calls Try.prog 39 #[.pointer (some ⟨b, 0, none⟩), .iface 133 (.pointer (some ⟨p, 0, none⟩)), .int .i64 9] w (FlagAlonePost w b g p c f v x') := by
  have hf : FlagAt w p ((0 : Nat) : Int) kind mask 0 0 true := hf0
  have hrun : Run (flagAct 0 kind mask) (flagTake kind mask) ⟨0, 0, true⟩ [x] 1 (flagTake kind mask ⟨0, 0, true⟩ x) [flagWord kind mask x] := by
    by_cases h1 : kind = 1
    · subst h1
      exact flag_run 0 1 mask 0 0 x [x] _ 4 mask (by simp [flagAct]) (by simp [doC, flagWord])
    · by_cases h2 : kind = 2
      · subst h2
        exact flag_run 0 2 mask 0 0 x [x] _ 5 (notU mask) (by simp [flagAct]) (by simp [doC, flagWord])
      · exact flag_run 0 kind mask 0 0 x [x] _ 1 0 (by simp [flagAct, h1, h2]) (by simp [doC, flagWord, h1, h2])
  have h := alone_any (flag_rou p 0 kind mask hk1 hk5) (s0 := ⟨0, 0, true⟩) (most := 9) hm hf (by simpa using hb) (by simpa using hg) (by omega) (by omega) (by omega) hrun
  subst hf' hv' hx'
  exact h.mono fun e w' ⟨he, _, hm', hu⟩ => ⟨by rw [he]; rfl, hm', hu⟩

theorem own_place {w : World} {base : Nat} {v : Value} (h : w.ownsRow base 66 5 v 1 (placeC 4 0 0 0 0)) : ∃ q cap, v = .slice (some ⟨q, 0, none⟩) 1 cap ∧ base ≤ q ∧ q < w.heap.size ∧ w.cell? ⟨q, 0, none⟩ = some (.int .i64 4) ∧ w.cell? ⟨q, 1, none⟩ = some (.int .i64 0) ∧ w.cell? ⟨q, 2, none⟩ = some (.int .i64 0) ∧ w.cell? ⟨q, 3, none⟩ = some (.int .i64 0) ∧ w.cell? ⟨q, 4, none⟩ = some (.int .i64 0) := by
  obtain ⟨q, cap, rfl, hb, hq⟩ := own_some h (by omega)
  obtain ⟨a, cap', e, _, hc⟩ := own_shape h
  obtain ⟨q', off, e', _, hc'⟩ := hc (by omega)
  cases e
  simp at e'
  obtain ⟨rfl, rfl⟩ := e'
  exact ⟨q, cap, rfl, hb, hq, hc' 0 _ rfl, hc' 1 _ rfl, hc' 2 _ rfl, hc' 3 _ rfl, hc' 4 _ rfl⟩
structure PlaceAt (w : World) (q : Nat) : Prop where
  lt : q < w.heap.size
  c0 : w.cell? ⟨q, 0, none⟩ = some (.int .i64 4)
  c1 : w.cell? ⟨q, 1, none⟩ = some (.int .i64 0)
  c2 : w.cell? ⟨q, 2, none⟩ = some (.int .i64 0)
  c3 : w.cell? ⟨q, 3, none⟩ = some (.int .i64 0)
  c4 : w.cell? ⟨q, 4, none⟩ = some (.int .i64 0)
theorem PlaceAt.keep {w w' : World} {q : Nat} (h : PlaceAt w q) {S : List Nat} (hu : Upd S w w') (hq : q ∉ S) : PlaceAt w' q :=
  ⟨Nat.lt_of_lt_of_le h.lt hu.size, (hu.cell (p := ⟨q, 0, none⟩) h.lt hq).trans h.c0, (hu.cell (p := ⟨q, 1, none⟩) h.lt hq).trans h.c1, (hu.cell (p := ⟨q, 2, none⟩) h.lt hq).trans h.c2, (hu.cell (p := ⟨q, 3, none⟩) h.lt hq).trans h.c3, (hu.cell (p := ⟨q, 4, none⟩) h.lt hq).trans h.c4⟩

def RAt (w : World) (r : Nat) (f v : Int) : Prop := w.heap[r]? = some (.cells #[.int .i64 f, .int .u32 v, .int .u32 0, .int .u32 0, .int .u32 0] 39 (0, 0))
theorem RAt.keep {w w' : World} {r : Nat} {f v : Int} (h : RAt w r f v) {S : List Nat} (hu : Upd S w w') (hr : r ∉ S) : RAt w' r f v := hu.keepb h hr

set_option maxRecDepth 100000 in
set_option maxHeartbeats 4000000 in
theorem alive15 (W : World) : Calls Try.prog 68 #[] W fun e w' => e = .returned (.bool true) ∧ Upd [] W w' := by
  have qE := eq_result
  go_enter Try.func68, Try.ntmps68
  go_wp2_with (go_at_call 66; refine (of_flags W.heap.size 1 _ (heap_alloc_new _ _)).mono ?_; rintro e w1 ⟨v, rfl, hown, hu1⟩; obtain ⟨q, cap, rfl, hq, lq, q0, q1, q2, q3, q4⟩ := own_place hown; have HQ := Lib.hid (⟨lq, q0, q1, q2, q3, q4⟩ : PlaceAt w1 q); have HU1 := Lib.hid (((Upd.refl [] W).alloc _).trans hu1); clear hown hu1 q0 q1 q2 q3 q4)
  have hq' : W.heap.size ≤ q := by simp at hq; omega
  have hr2 : Reads (w1.alloc (.cells #[.int .u32 5] 33)) (some ⟨w1.heap.size, 0, none⟩) 1 (u32s [5]) := ⟨rfl, fun _ => ⟨_, 0, rfl, by simp, fun j v hj => by
    rw [Nat.zero_add, cell_of_heap (heap_alloc_new _ _)]
    simpa [u32s] using hj⟩⟩
  have HRD := Lib.hid hr2
  have hsz := HU1.out.size
  clear hq hr2
  go_wp2_with (go_at_call 47; refine (of_any _ 1 [5] _ (by simp) HRD.out).mono ?_; rintro e w2 ⟨b, g, rfl, hb, hg, hm, hu2⟩; have HU2 := Lib.hid (((Upd.refl [] w1).alloc _).trans hu2); have HM2 := Lib.hid (show MemX w2 b g 0 [5] from ⟨0, 0, by simp, by simp, by simp, by simp, hm⟩); have HQ2 := Lib.hid (HQ.out.keep HU2.out (by simp)); obtain ⟨lq2, q0, q1, q2, q3, q4⟩ := HQ2.out; have hb' := hb; have hg' := hg; simp at hb' hg'; clear hm hu2 hb hg)
  have HBG := Lib.hid (show b ≠ q ∧ g ≠ q ∧ w1.heap.size ≤ b ∧ w1.heap.size ≤ g from ⟨by omega, by omega, by omega, by omega⟩)
  clear hb' hg'
  have HN := Lib.hid fun w => flag_new 0 4 6 w (by omega) (by omega)
  go_wp2_with (first
    | (go_at_call 67; refine (HN.out _).mono ?_; rintro e wn1 ⟨p1, rfl, hp1, hf, hu⟩; have HUn1 := Lib.hid (show Upd [] w2 wn1 from hu); have HF1 := Lib.hid hf; have HMn1 := Lib.hid (MemX.keep HM2.out hu (by simp) (by simp)); have HQn1 := Lib.hid (HQ2.out.keep hu (by simp)); have hs1 := hp1; clear hf hu HN hp1)
    | (go_at_call 39; refine (flag_alone 0 5 5 HMn1.out HF1.out (by have := MemX.lt HM2.out; omega) (by have := MemX.lt HM2.out; omega) (by omega) (by omega) (by omega) (by kernel_rfl) (by kernel_rfl) (by kernel_rfl)).mono ?_; rintro e wa1 ⟨rfl, hm, hu⟩; have HUa1 := Lib.hid (show Upd [b, g] w2 wa1 from (HUn1.out.mono (by simp)).then hu (fun k hk => by simp at hk ⊢; omega)); have HMa1 := Lib.hid hm; have hqa1 := HQn1.out.keep hu (by have := HQ2.out.lt; have := HBG.out; simp; omega); have HQa1 := Lib.hid hqa1; obtain ⟨lqa1, k0a1, k1a1, k2a1, k3a1, k4a1⟩ := hqa1; clear hm hu HF1))
  have HN := Lib.hid fun w => flag_new 0 5 6 w (by omega) (by omega)
  go_wp2_with (first
    | (go_at_call 67; refine (HN.out _).mono ?_; rintro e wn2 ⟨p2, rfl, hp2, hf, hu⟩; have HUn2 := Lib.hid (show Upd [] wa1 wn2 from (((Upd.refl [] _).alloc _).trans hu)); have HF2 := Lib.hid hf; have HMn2 := Lib.hid (MemX.keep HMa1.out (((Upd.refl [] _).alloc _).trans hu) (by simp) (by simp)); have HQn2 := Lib.hid (HQa1.out.keep (((Upd.refl [] _).alloc _).trans hu) (by simp)); have HRa1n2 := Lib.hid (show RAt wn2 wa1.heap.size _ _ from hu.keepb (heap_alloc_new _ _) (by simp)); have hs2 := hp2; simp only [World.size_alloc] at hs2; clear hf hu HN hp2)
    | (go_at_call 39; refine (flag_alone 7 0 5 HMn2.out HF2.out (by have := MemX.lt HMa1.out; omega) (by have := MemX.lt HMa1.out; omega) (by omega) (by omega) (by omega) (by kernel_rfl) (by kernel_rfl) (by kernel_rfl)).mono ?_; rintro e wa2 ⟨rfl, hm, hu⟩; have HUa2 := Lib.hid (show Upd [b, g] wa1 wa2 from (HUn2.out.mono (by simp)).then hu (fun k hk => by simp at hk ⊢; omega)); have HMa2 := Lib.hid hm; have hqa2 := HQn2.out.keep hu (by have := HQa1.out.lt; have := HBG.out; simp; omega); have HQa2 := Lib.hid hqa2; obtain ⟨lqa2, k0a2, k1a2, k2a2, k3a2, k4a2⟩ := hqa2; have HRa1a2 := Lib.hid (RAt.keep HRa1n2.out hu (by have := MemX.lt HMa1.out; simp; omega)); have lra1 := heap_lt HRa1a2.out; have za10 := cell_of_heap HRa1a2.out 0; have za11 := cell_of_heap HRa1a2.out 1; have za12 := cell_of_heap HRa1a2.out 2; have za13 := cell_of_heap HRa1a2.out 3; have za14 := cell_of_heap HRa1a2.out 4; simp at za10 za11 za12 za13 za14; clear hm hu HF2))
  go_ret
  have hbg := HBG.out
  exact ⟨rfl, (((HU1.out.trans HU2.out).then HUa1.out (fun k hk => by simp at hk; omega)).then HUa2.out (fun k hk => by simp at hk; omega)).alloc _⟩

end Go.Proofs.Ytbjeojcnofpgfaa
