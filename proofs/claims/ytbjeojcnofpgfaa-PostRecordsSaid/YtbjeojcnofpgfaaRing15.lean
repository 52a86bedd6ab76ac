/- Package ring: none, and one that nobody made; what must come at any rate; the law RingNone. -/
import Derived.Test.YtbjeojcnofpgfaaRing13
import Derived.Test.YtbjeojcnofpgfaaRing14
import Derived.Test.YtbjeojcnofpgfaaRing5
import Derived.Test.YtbjeojcnofpgfaaPlaceG
import Derived.Test.YtbjeojcnofpgfaaResEq
import Derived.Test.YtbjeojcnofpgfaaShape
set_option linter.unusedVariables false
set_option linter.unusedSimpArgs false
namespace Go.Proofs.Ytbjeojcnofpgfaa
open Go.RowKit

set_option maxRecDepth 100000 in
set_option maxHeartbeats 1000000 in
theorem idle_any {T : TypeId} {v : Value} {fA fR : Nat} (At : World → Prop) (mA : ∀ w, (method 346 T v "Act").run Try.prog w = .ok (fA, v) w) (mR : ∀ w, (method 346 T v "Result").run Try.prog w = .ok (fR, v) w)
    (cA : ∀ args w, (callFunc fA args).run Try.prog w = .ok (.enter fA args) w) (cR : ∀ args w, (callFunc fR args).run Try.prog w = .ok (.enter fR args) w)
    (hA : ∀ w, At w → Calls Try.prog fA #[v] w fun e w' => e = .returned (.tuple #[.agg #[.int .i64 0, .int .i64 0, .int .u32 0], .bool false]) ∧ Upd [] w w')
    (hR : ∀ w, At w → Calls Try.prog fR #[v] w fun e w' => e = .returned (.tuple #[.agg #[.int .i64 0, .int .u32 0, .int .u32 0, .int .u32 0, .int .u32 0], .bool false]) ∧ Upd [] w w')
    (keep : ∀ w w', At w → Upd [] w w' → At w') (W : World) (h : At W) :
    Calls Try.prog 44 #[.iface T v] W fun e w' => e = .returned (.bool true) ∧ Upd [] W w' := by
  have HA := Lib.hid hA
  have HR := Lib.hid hR
  have HK := Lib.hid keep
  have H := Lib.hid h
  clear hA hR keep h
  go_enter Try.func44, Try.ntmps44
  go_wp2_with (first
    | (refine (HA.out _ H.out).mono ?_; rintro e w1 ⟨rfl, hu1⟩; have HU1 := Lib.hid hu1; clear hu1)
    | (refine (HR.out _ (by first | exact HK.out _ _ H.out HU1.out | exact HK.out _ _ H.out (HU1.out.alloc _))).mono ?_; rintro e w2 ⟨rfl, hu2⟩; have HU2 := Lib.hid hu2; clear hu2))
  go_ret
  exact ⟨rfl, ((HU1.out.alloc _).trans HU2.out).alloc _⟩

theorem idle_push_nil (W : World) : Calls Try.prog 44 #[.iface 100 (.pointer none)] W fun e w' => e = .returned (.bool true) ∧ Upd [] W w' :=
  idle_any (fun _ => True) (fun _ => by kernel_rfl) (fun _ => by kernel_rfl) (fun _ _ => by kernel_rfl) (fun _ _ => by kernel_rfl) (fun w _ => push_act_nil w) (fun w _ => push_result_nil w) (fun _ _ _ _ => trivial) W trivial
theorem idle_push_zero {b : Nat} (W : World) (h : ZR W b 106) : Calls Try.prog 44 #[.iface 100 (.pointer (some ⟨b, 0, none⟩))] W fun e w' => e = .returned (.bool true) ∧ Upd [] W w' :=
  idle_any (fun w => ZR w b 106) (fun _ => by kernel_rfl) (fun _ => by kernel_rfl) (fun _ _ => by kernel_rfl) (fun _ _ => by kernel_rfl) (fun w h => push_act_zero h) (fun w h => push_result_zero h) (fun _ _ h hu => ⟨hu.keepb h.h (by simp)⟩) W h
theorem idle_pop_nil (W : World) : Calls Try.prog 44 #[.iface 98 (.pointer none)] W fun e w' => e = .returned (.bool true) ∧ Upd [] W w' :=
  idle_any (fun _ => True) (fun _ => by kernel_rfl) (fun _ => by kernel_rfl) (fun _ _ => by kernel_rfl) (fun _ _ => by kernel_rfl) (fun w _ => pop_act_nil w) (fun w _ => pop_result_nil w) (fun _ _ _ _ => trivial) W trivial
theorem idle_pop_zero {b : Nat} (W : World) (h : ZR W b 107) : Calls Try.prog 44 #[.iface 98 (.pointer (some ⟨b, 0, none⟩))] W fun e w' => e = .returned (.bool true) ∧ Upd [] W w' :=
  idle_any (fun w => ZR w b 107) (fun _ => by kernel_rfl) (fun _ => by kernel_rfl) (fun _ _ => by kernel_rfl) (fun _ _ => by kernel_rfl) (fun w h => pop_act_zero h) (fun w h => pop_result_zero h) (fun _ _ h hu => ⟨hu.keepb h.h (by simp)⟩) W h
def ring_putPost (w : World) (b g p c : Nat) (e : Ending) (w' : World) : Prop :=
  e = .returned (.tuple #[.agg #[.int .i64 0, .int .u32 0, .int .u32 0, .int .u32 0, .int .u32 0], .int .i64 4, .bool true]) ∧ MemX w' b g (c + 4) [0, 1, 5] ∧ Upd [b, g, p] w w'
theorem ring_put {w : World} {b g p c : Nat} (hc : c < 1000) (hm : MemX w b g c [0, 0, 0]) (hf : RG 1 1 w p 106 ({ ring0 with v0 := 5, v1 := 0, v2 := 0, v3 := 0 } : RgS)) (hb : b ≠ p) (hg : g ≠ p) :
    Calls Try.prog 39 #[.pointer (some ⟨b, 0, none⟩), .iface 100 (.pointer (some ⟨p, 0, none⟩)), .int .i64 9] w (ring_putPost w b g p c) := by
  have h := alone_any (pu_rou (cap := 1) (wd := 1) p (by unfold Cap5; omega) (by omega) (by omega)) (s0 := ({ ring0 with v0 := 5, v1 := 0, v2 := 0, v3 := 0 } : RgS)) (s' := (puTake 1 1 (puTake 1 1 (puTake 1 1 (puTake 1 1 ({ ring0 with v0 := 5, v1 := 0, v2 := 0, v3 := 0 } : RgS) 0) 0) 0) 0)) (most := 9) (K := 4) (xs' := [0, 1, 5]) hm ⟨fun _ => (by decide), hf⟩ (by simpa using hb) (by simpa using hg) (by omega) (by omega) (by omega)
    (.step _ [0, 0, 0] 1 1 0 0 [0, 0, 0] 3 _ _ (by kernel_rfl) (by kernel_rfl) (.step _ [0, 0, 0] 1 0 0 0 [0, 0, 0] 2 _ _ (by kernel_rfl) (by kernel_rfl) (.step _ [0, 0, 0] 2 2 5 0 [0, 0, 5] 1 _ _ (by kernel_rfl) (by kernel_rfl) (.step _ [0, 0, 5] 2 1 1 0 [0, 1, 5] 0 _ _ (by kernel_rfl) (by kernel_rfl) (.done _ _ (by kernel_rfl))))))
  exact h.mono fun e w' ⟨he, _, hm', hu⟩ => ⟨by rw [he]; kernel_rfl, hm', hu⟩

def ring_fullPost (w : World) (b g p c : Nat) (e : Ending) (w' : World) : Prop :=
  e = .returned (.tuple #[.agg #[.int .i64 6, .int .u32 0, .int .u32 0, .int .u32 0, .int .u32 0], .int .i64 2, .bool true]) ∧ MemX w' b g (c + 2) [0, 1, 5] ∧ Upd [b, g, p] w w'
theorem ring_full {w : World} {b g p c : Nat} (hc : c < 1000) (hm : MemX w b g c [0, 1, 5]) (hf : RG 1 1 w p 106 ({ ring0 with v0 := 6, v1 := 0, v2 := 0, v3 := 0 } : RgS)) (hb : b ≠ p) (hg : g ≠ p) :
    Calls Try.prog 39 #[.pointer (some ⟨b, 0, none⟩), .iface 100 (.pointer (some ⟨p, 0, none⟩)), .int .i64 9] w (ring_fullPost w b g p c) := by
  have h := alone_any (pu_rou (cap := 1) (wd := 1) p (by unfold Cap5; omega) (by omega) (by omega)) (s0 := ({ ring0 with v0 := 6, v1 := 0, v2 := 0, v3 := 0 } : RgS)) (s' := (puTake 1 1 (puTake 1 1 ({ ring0 with v0 := 6, v1 := 0, v2 := 0, v3 := 0 } : RgS) 1) 0)) (most := 9) (K := 2) (xs' := [0, 1, 5]) hm ⟨fun _ => (by decide), hf⟩ (by simpa using hb) (by simpa using hg) (by omega) (by omega) (by omega)
    (.step _ [0, 1, 5] 1 1 0 1 [0, 1, 5] 1 _ _ (by kernel_rfl) (by kernel_rfl) (.step _ [0, 1, 5] 1 0 0 0 [0, 1, 5] 0 _ _ (by kernel_rfl) (by kernel_rfl) (.done _ _ (by kernel_rfl))))
  exact h.mono fun e w' ⟨he, _, hm', hu⟩ => ⟨by rw [he]; kernel_rfl, hm', hu⟩

def ring_getPost (w : World) (b g p c : Nat) (e : Ending) (w' : World) : Prop :=
  e = .returned (.tuple #[.agg #[.int .i64 0, .int .u32 5, .int .u32 0, .int .u32 0, .int .u32 0], .int .i64 4, .bool true]) ∧ MemX w' b g (c + 4) [1, 1, 5] ∧ Upd [b, g, p] w w'
theorem ring_get {w : World} {b g p c : Nat} (hc : c < 1000) (hm : MemX w b g c [0, 1, 5]) (hf : RG 1 1 w p 107 ring0) (hb : b ≠ p) (hg : g ≠ p) :
    Calls Try.prog 39 #[.pointer (some ⟨b, 0, none⟩), .iface 98 (.pointer (some ⟨p, 0, none⟩)), .int .i64 9] w (ring_getPost w b g p c) := by
  have h := alone_any (po_rou (cap := 1) (wd := 1) p (by unfold Cap5; omega) (by omega) (by omega)) (s0 := ring0) (s' := (poTake 1 (poTake 1 (poTake 1 (poTake 1 ring0 0) 1) 5) 0)) (most := 9) (K := 4) (xs' := [1, 1, 5]) hm ⟨fun _ => (by decide), hf⟩ (by simpa using hb) (by simpa using hg) (by omega) (by omega) (by omega)
    (.step _ [0, 1, 5] 1 0 0 0 [0, 1, 5] 3 _ _ (by kernel_rfl) (by kernel_rfl) (.step _ [0, 1, 5] 1 1 0 1 [0, 1, 5] 2 _ _ (by kernel_rfl) (by kernel_rfl) (.step _ [0, 1, 5] 1 2 0 5 [0, 1, 5] 1 _ _ (by kernel_rfl) (by kernel_rfl) (.step _ [0, 1, 5] 2 0 1 0 [1, 1, 5] 0 _ _ (by kernel_rfl) (by kernel_rfl) (.done _ _ (by kernel_rfl))))))
  exact h.mono fun e w' ⟨he, _, hm', hu⟩ => ⟨by rw [he]; kernel_rfl, hm', hu⟩

def ring_emptyPost (w : World) (b g p c : Nat) (e : Ending) (w' : World) : Prop :=
  e = .returned (.tuple #[.agg #[.int .i64 7, .int .u32 0, .int .u32 0, .int .u32 0, .int .u32 0], .int .i64 2, .bool true]) ∧ MemX w' b g (c + 2) [1, 1, 5] ∧ Upd [b, g, p] w w'
theorem ring_empty {w : World} {b g p c : Nat} (hc : c < 1000) (hm : MemX w b g c [1, 1, 5]) (hf : RG 1 1 w p 107 ring0) (hb : b ≠ p) (hg : g ≠ p) :
    Calls Try.prog 39 #[.pointer (some ⟨b, 0, none⟩), .iface 98 (.pointer (some ⟨p, 0, none⟩)), .int .i64 9] w (ring_emptyPost w b g p c) := by
  have h := alone_any (po_rou (cap := 1) (wd := 1) p (by unfold Cap5; omega) (by omega) (by omega)) (s0 := ring0) (s' := (poTake 1 (poTake 1 ring0 1) 1)) (most := 9) (K := 2) (xs' := [1, 1, 5]) hm ⟨fun _ => (by decide), hf⟩ (by simpa using hb) (by simpa using hg) (by omega) (by omega) (by omega)
    (.step _ [1, 1, 5] 1 0 0 1 [1, 1, 5] 1 _ _ (by kernel_rfl) (by kernel_rfl) (.step _ [1, 1, 5] 1 1 0 1 [1, 1, 5] 0 _ _ (by kernel_rfl) (by kernel_rfl) (.done _ _ (by kernel_rfl))))
  exact h.mono fun e w' ⟨he, _, hm', hu⟩ => ⟨by rw [he]; kernel_rfl, hm', hu⟩

set_option maxRecDepth 100000 in
set_option maxHeartbeats 4000000 in
theorem alive12 (W : World) : Calls Try.prog 34 #[] W fun e w' => e = .returned (.bool true) ∧ Upd [] W w' := by
  have qE := eq_result
  go_enter Try.func34, Try.ntmps34
  go_wp2_with (go_at_call 66; refine (of_ring 1 1 (by unfold Cap5; omega) (by omega) (by omega) W.heap.size 1 _ (heap_alloc_new _ _)).mono ?_; rintro e w1 ⟨v, rfl, hown, hu1⟩; obtain ⟨q, cap, rfl, hq, hpl⟩ := own_placeG hown; have HQ := Lib.hid hpl; have lq := hpl.lt; have HU1 := Lib.hid (((Upd.refl [] W).alloc _).trans hu1); obtain ⟨lq', q0, q1, q2, q3, q4⟩ := hpl; clear hown hu1)
  have hq' : W.heap.size ≤ q := by simp at hq; omega
  have hsz := HU1.out.size
  clear hq
  refine (new_any 3 _ (by omega)).mono ?_
  rintro e w2 ⟨b, g, rfl, hb, hg, hm, hu2⟩
  have HU2 := Lib.hid hu2
  have HM2 := Lib.hid (show MemX w2 b g 0 [0, 0, 0] from ⟨0, 0, by simp, by simp, by simp, by simp, hm⟩)
  have HQ2 := Lib.hid (HQ.out.keep HU2.out (by simp))
  obtain ⟨lq2, j0, j1, j2, j3, j4⟩ := HQ2.out
  have hb' := hb
  have hg' := hg
  (try simp at hb' hg')
  clear hm hu2 hb hg
  have HBG := Lib.hid (show b ≠ q ∧ g ≠ q ∧ w1.heap.size ≤ b ∧ w1.heap.size ≤ g from ⟨by omega, by omega, by omega, by omega⟩)
  clear hb' hg'
  have HN := Lib.hid fun w => push_new 1 1 5 0 0 0 (by unfold Cap5; omega) (by omega) (by omega) w
  go_wp2_with (first
    | (go_at_call 41; refine (HN.out _).mono ?_; rintro e wn1 ⟨p1, rfl, hp1, hf, hu⟩; have HUn1 := Lib.hid (show Upd [] w2 wn1 from hu); have HF1 := Lib.hid hf; have HMn1 := Lib.hid (MemX.keep HM2.out hu (by simp) (by simp)); have HQn1 := Lib.hid (HQ2.out.keep hu (by simp)); have hs1 := hp1; clear hf hu HN hp1)
    | (go_at_call 39; refine (ring_put (by omega) HMn1.out HF1.out (by have := MemX.lt HM2.out; omega) (by have := MemX.lt HM2.out; omega)).mono ?_; rintro e wa1 ⟨rfl, hm, hu⟩; have HUa1 := Lib.hid (show Upd [b, g] w2 wa1 from (HUn1.out.mono (by simp)).then hu (fun k hk => by simp at hk ⊢; omega)); have HMa1 := Lib.hid hm; have hqa1 := HQn1.out.keep hu (by have := HQ2.out.lt; have := HBG.out; simp; omega); have HQa1 := Lib.hid hqa1; obtain ⟨lqa1, k0a1, k1a1, k2a1, k3a1, k4a1⟩ := hqa1; clear hm hu HF1))
  have HN := Lib.hid fun w => push_new 1 1 6 0 0 0 (by unfold Cap5; omega) (by omega) (by omega) w
  go_wp2_with (first
    | (go_at_call 41; refine (HN.out _).mono ?_; rintro e wn2 ⟨p2, rfl, hp2, hf, hu⟩; have HUn2 := Lib.hid (show Upd [] wa1 wn2 from (((Upd.refl [] _).alloc _).trans hu)); have HF2 := Lib.hid hf; have HMn2 := Lib.hid (MemX.keep HMa1.out (((Upd.refl [] _).alloc _).trans hu) (by simp) (by simp)); have HQn2 := Lib.hid (HQa1.out.keep (((Upd.refl [] _).alloc _).trans hu) (by simp)); have HRa1n2 := Lib.hid (show RAt wn2 wa1.heap.size _ _ from hu.keepb (heap_alloc_new _ _) (by simp)); have hs2 := hp2; simp only [World.size_alloc] at hs2; clear hf hu HN hp2)
    | (go_at_call 39; refine (ring_full (by omega) HMn2.out HF2.out (by have := MemX.lt HMa1.out; omega) (by have := MemX.lt HMa1.out; omega)).mono ?_; rintro e wa2 ⟨rfl, hm, hu⟩; have HUa2 := Lib.hid (show Upd [b, g] wa1 wa2 from (HUn2.out.mono (by simp)).then hu (fun k hk => by simp at hk ⊢; omega)); have HMa2 := Lib.hid hm; have hqa2 := HQn2.out.keep hu (by have := HQa1.out.lt; have := HBG.out; simp; omega); have HQa2 := Lib.hid hqa2; obtain ⟨lqa2, k0a2, k1a2, k2a2, k3a2, k4a2⟩ := hqa2; have HRa1a2 := Lib.hid (RAt.keep HRa1n2.out hu (by have := MemX.lt HMa1.out; simp; omega)); clear hm hu HF2))
  have HN := Lib.hid fun w => pop_new 1 1 (by unfold Cap5; omega) (by omega) (by omega) w
  go_wp2_with (first
    | (go_at_call 40; refine (HN.out _).mono ?_; rintro e wn3 ⟨p3, rfl, hp3, hf, hu⟩; have HUn3 := Lib.hid (show Upd [] wa2 wn3 from (((Upd.refl [] _).alloc _).trans hu)); have HF3 := Lib.hid hf; have HMn3 := Lib.hid (MemX.keep HMa2.out (((Upd.refl [] _).alloc _).trans hu) (by simp) (by simp)); have HQn3 := Lib.hid (HQa2.out.keep (((Upd.refl [] _).alloc _).trans hu) (by simp)); have HRa1n3 := Lib.hid (RAt.keep HRa1a2.out (((Upd.refl [] _).alloc _).trans hu) (by simp)); have HRa2n3 := Lib.hid (show RAt wn3 wa2.heap.size _ _ from hu.keepb (heap_alloc_new _ _) (by simp)); have hs3 := hp3; simp only [World.size_alloc] at hs3; clear hf hu HN hp3)
    | (go_at_call 39; refine (ring_get (by omega) HMn3.out HF3.out (by have := MemX.lt HMa2.out; omega) (by have := MemX.lt HMa2.out; omega)).mono ?_; rintro e wa3 ⟨rfl, hm, hu⟩; have HUa3 := Lib.hid (show Upd [b, g] wa2 wa3 from (HUn3.out.mono (by simp)).then hu (fun k hk => by simp at hk ⊢; omega)); have HMa3 := Lib.hid hm; have hqa3 := HQn3.out.keep hu (by have := HQa2.out.lt; have := HBG.out; simp; omega); have HQa3 := Lib.hid hqa3; obtain ⟨lqa3, k0a3, k1a3, k2a3, k3a3, k4a3⟩ := hqa3; have HRa1a3 := Lib.hid (RAt.keep HRa1n3.out hu (by have := MemX.lt HMa1.out; have := heap_lt HRa1a2.out; simp; omega)); have HRa2a3 := Lib.hid (RAt.keep HRa2n3.out hu (by have := MemX.lt HMa2.out; simp; omega)); clear hm hu HF3))
  have HN := Lib.hid fun w => pop_new 1 1 (by unfold Cap5; omega) (by omega) (by omega) w
  go_wp2_with (first
    | (go_at_call 40; refine (HN.out _).mono ?_; rintro e wn4 ⟨p4, rfl, hp4, hf, hu⟩; have HUn4 := Lib.hid (show Upd [] wa3 wn4 from (((Upd.refl [] _).alloc _).trans hu)); have HF4 := Lib.hid hf; have HMn4 := Lib.hid (MemX.keep HMa3.out (((Upd.refl [] _).alloc _).trans hu) (by simp) (by simp)); have HQn4 := Lib.hid (HQa3.out.keep (((Upd.refl [] _).alloc _).trans hu) (by simp)); have HRa1n4 := Lib.hid (RAt.keep HRa1a3.out (((Upd.refl [] _).alloc _).trans hu) (by simp)); have HRa2n4 := Lib.hid (RAt.keep HRa2a3.out (((Upd.refl [] _).alloc _).trans hu) (by simp)); have HRa3n4 := Lib.hid (show RAt wn4 wa3.heap.size _ _ from hu.keepb (heap_alloc_new _ _) (by simp)); have hs4 := hp4; simp only [World.size_alloc] at hs4; clear hf hu HN hp4)
    | (go_at_call 39; refine (ring_empty (by omega) HMn4.out HF4.out (by have := MemX.lt HMa3.out; omega) (by have := MemX.lt HMa3.out; omega)).mono ?_; rintro e wa4 ⟨rfl, hm, hu⟩; have HUa4 := Lib.hid (show Upd [b, g] wa3 wa4 from (HUn4.out.mono (by simp)).then hu (fun k hk => by simp at hk ⊢; omega)); have HMa4 := Lib.hid hm; have hqa4 := HQn4.out.keep hu (by have := HQa3.out.lt; have := HBG.out; simp; omega); have HQa4 := Lib.hid hqa4; obtain ⟨lqa4, k0a4, k1a4, k2a4, k3a4, k4a4⟩ := hqa4; have HRa1a4 := Lib.hid (RAt.keep HRa1n4.out hu (by have := MemX.lt HMa1.out; have := heap_lt HRa1a3.out; simp; omega)); have HRa2a4 := Lib.hid (RAt.keep HRa2n4.out hu (by have := MemX.lt HMa2.out; have := heap_lt HRa2a3.out; simp; omega)); have HRa3a4 := Lib.hid (RAt.keep HRa3n4.out hu (by have := MemX.lt HMa3.out; simp; omega)); have lra1 := heap_lt HRa1a4.out; have za10 := cell_of_heap HRa1a4.out 0; have za11 := cell_of_heap HRa1a4.out 1; have za12 := cell_of_heap HRa1a4.out 2; have za13 := cell_of_heap HRa1a4.out 3; have za14 := cell_of_heap HRa1a4.out 4; simp at za10 za11 za12 za13 za14; have lra2 := heap_lt HRa2a4.out; have za20 := cell_of_heap HRa2a4.out 0; have za21 := cell_of_heap HRa2a4.out 1; have za22 := cell_of_heap HRa2a4.out 2; have za23 := cell_of_heap HRa2a4.out 3; have za24 := cell_of_heap HRa2a4.out 4; simp at za20 za21 za22 za23 za24; have lra3 := heap_lt HRa3a4.out; have za30 := cell_of_heap HRa3a4.out 0; have za31 := cell_of_heap HRa3a4.out 1; have za32 := cell_of_heap HRa3a4.out 2; have za33 := cell_of_heap HRa3a4.out 3; have za34 := cell_of_heap HRa3a4.out 4; simp at za30 za31 za32 za33 za34; clear hm hu HF4))
  go_ret
  have hbg := HBG.out
  exact ⟨rfl, (((((HU1.out.trans HU2.out).then HUa1.out (fun k hk => by simp at hk; omega)).then HUa2.out (fun k hk => by simp at hk; omega)).then HUa3.out (fun k hk => by simp at hk; omega)).then HUa4.out (fun k hk => by simp at hk; omega)).alloc _⟩

set_option maxRecDepth 100000 in
set_option maxHeartbeats 2000000 in
theorem ringNone_any (W : World) (got : Int) : Calls Try.prog 7 #[.int .u32 got] W fun e w' => e = .returned (.bool true) ∧ Upd [] W w' := by
  have HZ := Lib.hid (show ZR ((W.alloc (.cells #[.int .i64 0, .int .i64 0, .int .i64 0, .int .i64 0, .int .i64 0, .int .i64 0, .int .u32 0, .int .u32 0, .int .u32 0, .int .u32 0, .int .u32 0, .int .u32 0, .int .i64 0, .int .u32 0, .int .u32 0, .int .u32 0, .int .u32 0, .bool false, .bool false] 106)).alloc (.cells #[.int .i64 0, .int .i64 0, .int .i64 0, .int .i64 0, .int .i64 0, .int .i64 0, .int .u32 0, .int .u32 0, .int .u32 0, .int .u32 0, .int .u32 0, .int .u32 0, .int .i64 0, .int .u32 0, .int .u32 0, .int .u32 0, .int .u32 0, .bool false, .bool false] 107)) W.heap.size 106 from ⟨heap_alloc' (heap_alloc_new _ _)⟩)
  have HW := Lib.hid (show ZR ((W.alloc (.cells #[.int .i64 0, .int .i64 0, .int .i64 0, .int .i64 0, .int .i64 0, .int .i64 0, .int .u32 0, .int .u32 0, .int .u32 0, .int .u32 0, .int .u32 0, .int .u32 0, .int .i64 0, .int .u32 0, .int .u32 0, .int .u32 0, .int .u32 0, .bool false, .bool false] 106)).alloc (.cells #[.int .i64 0, .int .i64 0, .int .i64 0, .int .i64 0, .int .i64 0, .int .i64 0, .int .u32 0, .int .u32 0, .int .u32 0, .int .u32 0, .int .u32 0, .int .u32 0, .int .i64 0, .int .u32 0, .int .u32 0, .int .u32 0, .int .u32 0, .bool false, .bool false] 107)) (W.heap.size + 1) 107 from ⟨heap_alloc_at _ (by simp)⟩)
  have HU := Lib.hid (show Upd [] W ((W.alloc (.cells #[.int .i64 0, .int .i64 0, .int .i64 0, .int .i64 0, .int .i64 0, .int .i64 0, .int .u32 0, .int .u32 0, .int .u32 0, .int .u32 0, .int .u32 0, .int .u32 0, .int .i64 0, .int .u32 0, .int .u32 0, .int .u32 0, .int .u32 0, .bool false, .bool false] 106)).alloc (.cells #[.int .i64 0, .int .i64 0, .int .i64 0, .int .i64 0, .int .i64 0, .int .i64 0, .int .u32 0, .int .u32 0, .int .u32 0, .int .u32 0, .int .u32 0, .int .u32 0, .int .i64 0, .int .u32 0, .int .u32 0, .int .u32 0, .int .u32 0, .bool false, .bool false] 107)) from ((Upd.refl _ _).alloc _).alloc _)
  go_enter Try.func7, Try.ntmps7
  go_wp2_with (first
    | (go_at_call_of 42 (Value.pointer none); refine (push_take_nil _ _).mono ?_; rintro e w0 ⟨rfl, rfl⟩)
    | (go_at_call_of 43 (Value.pointer none); refine (pop_take_nil _ _).mono ?_; rintro e w0 ⟨rfl, rfl⟩)
    | (go_at_call 42; refine (push_take_zero _ HZ.out).mono ?_; rintro e w0 ⟨rfl, rfl⟩)
    | (go_at_call 43; refine (pop_take_zero _ HW.out).mono ?_; rintro e w0 ⟨rfl, rfl⟩)
    | (go_at_call 44; (with_reducible refine (idle_push_nil _).mono ?_); rintro e w1 ⟨rfl, hu⟩; have HU1 := Lib.hid (HU.out.trans hu); have HZ1 := Lib.hid (show ZR w1 _ _ from ⟨hu.keepb HZ.out.h (by simp)⟩); have HW1 := Lib.hid (show ZR w1 _ _ from ⟨hu.keepb HW.out.h (by simp)⟩); clear hu)
    | (go_at_call 44; (with_reducible refine (idle_pop_nil _).mono ?_); rintro e w2 ⟨rfl, hu⟩; have HU2 := Lib.hid (HU1.out.trans hu); have HZ2 := Lib.hid (show ZR w2 _ _ from ⟨hu.keepb HZ1.out.h (by simp)⟩); have HW2 := Lib.hid (show ZR w2 _ _ from ⟨hu.keepb HW1.out.h (by simp)⟩); clear hu)
    | (go_at_call 44; (with_reducible refine (idle_push_zero _ HZ2.out).mono ?_); rintro e w3 ⟨rfl, hu⟩; have HU3 := Lib.hid (HU2.out.trans hu); have HW3 := Lib.hid (show ZR w3 _ _ from ⟨hu.keepb HW2.out.h (by simp)⟩); clear hu)
    | (go_at_call 44; (with_reducible refine (idle_pop_zero _ HW3.out).mono ?_); rintro e w4 ⟨rfl, hu⟩; have HU4 := Lib.hid (HU3.out.trans hu); clear hu)
    | (go_at_call 34; refine (alive12 _).mono ?_; rintro e w9 ⟨rfl, hu⟩; have HU9 := Lib.hid (HU4.out.trans hu); clear hu))
  go_ret
  exact ⟨rfl, HU9.out⟩
theorem ringNone_walk (W : World) (v0 : Value) (h0 : Sh.okV W (.int .u32) v0) :
    Calls Try.prog 7 #[v0] W fun e w' => e = .returned (.bool true) ∧ Upd [] W w' := by
  obtain ⟨n, hn, hw⟩ := h0
  obtain rfl : v0 = .int .u32 n := by simpa using hn
  exact ringNone_any W n
end Go.Proofs.Ytbjeojcnofpgfaa
