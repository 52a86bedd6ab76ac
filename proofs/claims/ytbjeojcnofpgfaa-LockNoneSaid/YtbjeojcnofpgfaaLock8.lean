/- Package lock: what must come at any rate; the law LockNone. -/
import Derived.Test.YtbjeojcnofpgfaaLock7
import Derived.Test.YtbjeojcnofpgfaaPlaceG
import Derived.Test.YtbjeojcnofpgfaaResEq
import Derived.Test.YtbjeojcnofpgfaaShape
set_option linter.unusedVariables false
set_option linter.unusedSimpArgs false
namespace Go.Proofs.Ytbjeojcnofpgfaa
open Go.RowKit

def lock_read1Post (w : World) (b g p c : Nat) (e : Ending) (w' : World) : Prop :=
  e = .returned (.tuple #[.agg #[.int .i64 8, .int .u32 0, .int .u32 0, .int .u32 0, .int .u32 0], .int .i64 2, .bool true]) ∧ MemX w' b g (c + 2) [3, 0] ∧ Upd [b, g, p] w w'
theorem lock_read1 {w : World} {b g p c : Nat} (hc : c < 1000) (hm : MemX w b g c [3, 0]) (hf : LW w p 129 [.int .i64 1, .int .i64 1] 0 0 0 0 0 true true) (hb : b ≠ p) (hg : g ≠ p) :
    Calls Try.prog 39 #[.pointer (some ⟨b, 0, none⟩), .iface 123 (.pointer (some ⟨p, 0, none⟩)), .int .i64 9] w (lock_read1Post w b g p c) := by
  have h := alone_any (lr_rou p) (s0 := (⟨0, 0, 0, 0, 0, true, 1, 1⟩ : LRS)) (s' := (lrTake (lrTake (⟨0, 0, 0, 0, 0, true, 1, 1⟩ : LRS) 3) 3)) (most := 9) (K := 2) (xs' := [3, 0]) hm (show lrAt p ⟨0, 0, 0, 0, 0, true, 1, 1⟩ w from ⟨fun _ => (by simp), hf⟩) (by simpa using hb) (by simpa using hg) (by omega) (by omega) (by omega)
    (.step _ [3, 0] 1 0 0 3 [3, 0] 1 _ _ (by kernel_rfl) (by kernel_rfl) (.step _ [3, 0] 1 0 0 3 [3, 0] 0 _ _ (by kernel_rfl) (by kernel_rfl) (.done _ _ (by kernel_rfl))))
  exact h.mono fun e w' ⟨he, _, hm', hu⟩ => ⟨by rw [he]; kernel_rfl, hm', hu⟩

def lock_writePost (w : World) (b g p c : Nat) (e : Ending) (w' : World) : Prop :=
  e = .returned (.tuple #[.agg #[.int .i64 0, .int .u32 0, .int .u32 0, .int .u32 0, .int .u32 0], .int .i64 4, .bool true]) ∧ MemX w' b g (c + 4) [4, 5] ∧ Upd [b, g, p] w w'
theorem lock_write {w : World} {b g p c : Nat} (hc : c < 1000) (hm : MemX w b g c [3, 0]) (hf : LW w p 127 [] 0 0 5 0 0 true true) (hb : b ≠ p) (hg : g ≠ p) :
    Calls Try.prog 39 #[.pointer (some ⟨b, 0, none⟩), .iface 122 (.pointer (some ⟨p, 0, none⟩)), .int .i64 9] w (lock_writePost w b g p c) := by
  have h := alone_any (lw_rou p 5) (s0 := (⟨0, 0⟩ : LWS)) (s' := (⟨4, 2⟩ : LWS)) (most := 9) (K := 4) (xs' := [4, 5]) hm (show (0 : Nat) ≤ 4 ∧ LW w p 127 [] ((0 : Nat) : Int) 0 5 0 0 true (decide ((0 : Nat) < 4)) from ⟨(by simp), hf⟩) (by simpa using hb) (by simpa using hg) (by omega) (by omega) (by omega)
    (.step _ [3, 0] 1 0 0 3 [3, 0] 3 _ _ (by kernel_rfl) (by kernel_rfl) (.step _ [3, 0] 2 0 3 0 [3, 0] 2 _ _ (by kernel_rfl) (by kernel_rfl) (.step _ [3, 0] 2 1 5 0 [3, 5] 1 _ _ (by kernel_rfl) (by kernel_rfl) (.step _ [3, 5] 2 0 4 0 [4, 5] 0 _ _ (by kernel_rfl) (by kernel_rfl) (.done _ _ (by kernel_rfl))))))
  exact h.mono fun e w' ⟨he, _, hm', hu⟩ => ⟨by rw [he]; kernel_rfl, hm', hu⟩

def lock_read0Post (w : World) (b g p c : Nat) (e : Ending) (w' : World) : Prop :=
  e = .returned (.tuple #[.agg #[.int .i64 0, .int .u32 5, .int .u32 0, .int .u32 0, .int .u32 0], .int .i64 3, .bool true]) ∧ MemX w' b g (c + 3) [4, 5] ∧ Upd [b, g, p] w w'
theorem lock_read0 {w : World} {b g p c : Nat} (hc : c < 1000) (hm : MemX w b g c [4, 5]) (hf : LW w p 129 [.int .i64 0, .int .i64 1] 0 0 0 0 0 true true) (hb : b ≠ p) (hg : g ≠ p) :
    Calls Try.prog 39 #[.pointer (some ⟨b, 0, none⟩), .iface 123 (.pointer (some ⟨p, 0, none⟩)), .int .i64 9] w (lock_read0Post w b g p c) := by
  have h := alone_any (lr_rou p) (s0 := (⟨0, 0, 0, 0, 0, true, 0, 1⟩ : LRS)) (s' := (⟨3, 4, 5, 0, 5, false, 0, 1⟩ : LRS)) (most := 9) (K := 3) (xs' := [4, 5]) hm (show lrAt p ⟨0, 0, 0, 0, 0, true, 0, 1⟩ w from ⟨fun _ => (by simp), hf⟩) (by simpa using hb) (by simpa using hg) (by omega) (by omega) (by omega)
    (.step _ [4, 5] 1 0 0 4 [4, 5] 2 _ _ (by kernel_rfl) (by kernel_rfl) (.step _ [4, 5] 1 1 0 5 [4, 5] 1 _ _ (by kernel_rfl) (by kernel_rfl) (.step _ [4, 5] 1 0 0 4 [4, 5] 0 _ _ (by kernel_rfl) (by kernel_rfl) (.done _ _ (by kernel_rfl)))))
  exact h.mono fun e w' ⟨he, _, hm', hu⟩ => ⟨by rw [he]; kernel_rfl, hm', hu⟩

set_option maxRecDepth 100000 in
set_option maxHeartbeats 4000000 in
theorem alive14 (W : World) : Calls Try.prog 65 #[] W fun e w' => e = .returned (.bool true) ∧ Upd [] W w' := by
  have qE := eq_result
  go_enter Try.func65, Try.ntmps65
  go_wp2_with (go_at_call 66; refine (of_lock W.heap.size 1 _ (heap_alloc_new _ _)).mono ?_; rintro e w1 ⟨v, rfl, hown, hu1⟩; obtain ⟨q, cap, rfl, hq, hpl⟩ := own_placeG hown; have HQ := Lib.hid hpl; have lq := hpl.lt; have HU1 := Lib.hid (((Upd.refl [] W).alloc _).trans hu1); clear hown hu1 hpl)
  have hq' : W.heap.size ≤ q := by simp at hq; omega
  have hr2 : Reads (w1.alloc (.cells #[.int .u32 3, .int .u32 0] 33)) (some ⟨w1.heap.size, 0, none⟩) 2 (u32s [3, 0]) := ⟨rfl, fun _ => ⟨_, 0, rfl, by simp, fun j v hj => by
    rw [Nat.zero_add, cell_of_heap (heap_alloc_new _ _)]
    simpa [u32s] using hj⟩⟩
  have HRD := Lib.hid hr2
  have hsz := HU1.out.size
  clear hq hr2
  go_wp2_with (go_at_call 47; refine (of_any _ 2 [3, 0] _ (by simp) HRD.out).mono ?_; rintro e w2 ⟨b, g, rfl, hb, hg, hm, hu2⟩; have HU2 := Lib.hid (((Upd.refl [] w1).alloc _).trans hu2); have HM2 := Lib.hid (show MemX w2 b g 0 [3, 0] from ⟨0, 0, by simp, by simp, by simp, by simp, hm⟩); have HQ2 := Lib.hid (HQ.out.keep HU2.out (by simp)); obtain ⟨lq2, q0, q1, q2, q3, q4⟩ := HQ2.out; have hb' := hb; have hg' := hg; simp at hb' hg'; clear hm hu2 hb hg)
  have HBG := Lib.hid (show b ≠ q ∧ g ≠ q ∧ w1.heap.size ≤ b ∧ w1.heap.size ≤ g from ⟨by omega, by omega, by omega, by omega⟩)
  clear hb' hg'
  have HN := Lib.hid fun w => lr_new 1 (by omega) (by omega) w
  go_wp2_with (first
    | (go_at_call 123; refine (HN.out _).mono ?_; rintro e wn1 ⟨p1, rfl, hp1, hf, hu⟩; have HUn1 := Lib.hid (show Upd [] w2 wn1 from hu); have HF1 := Lib.hid hf; have HMn1 := Lib.hid (MemX.keep HM2.out hu (by simp) (by simp)); have HQn1 := Lib.hid (HQ2.out.keep hu (by simp)); have hs1 := hp1; clear hf hu HN hp1)
    | (go_at_call 39; refine (lock_read1 (by omega) HMn1.out HF1.out (by have := MemX.lt HM2.out; omega) (by have := MemX.lt HM2.out; omega)).mono ?_; rintro e wa1 ⟨rfl, hm, hu⟩; have HUa1 := Lib.hid (show Upd [b, g] w2 wa1 from (HUn1.out.mono (by simp)).then hu (fun k hk => by simp at hk ⊢; omega)); have HMa1 := Lib.hid hm; have hqa1 := HQn1.out.keep hu (by have := HQ2.out.lt; have := HBG.out; simp; omega); have HQa1 := Lib.hid hqa1; obtain ⟨lqa1, k0a1, k1a1, k2a1, k3a1, k4a1⟩ := hqa1; clear hm hu HF1))
  have HN := Lib.hid fun w => lw_new 5 w
  go_wp2_with (first
    | (go_at_call 124; refine (HN.out _).mono ?_; rintro e wn2 ⟨p2, rfl, hp2, hf, hu⟩; have HUn2 := Lib.hid (show Upd [] wa1 wn2 from (((Upd.refl [] _).alloc _).trans hu)); have HF2 := Lib.hid hf; have HMn2 := Lib.hid (MemX.keep HMa1.out (((Upd.refl [] _).alloc _).trans hu) (by simp) (by simp)); have HQn2 := Lib.hid (HQa1.out.keep (((Upd.refl [] _).alloc _).trans hu) (by simp)); have HRa1n2 := Lib.hid (show RAt wn2 wa1.heap.size _ _ from hu.keepb (heap_alloc_new _ _) (by simp)); have hs2 := hp2; simp only [World.size_alloc] at hs2; clear hf hu HN hp2)
    | (go_at_call 39; refine (lock_write (by omega) HMn2.out HF2.out (by have := MemX.lt HMa1.out; omega) (by have := MemX.lt HMa1.out; omega)).mono ?_; rintro e wa2 ⟨rfl, hm, hu⟩; have HUa2 := Lib.hid (show Upd [b, g] wa1 wa2 from (HUn2.out.mono (by simp)).then hu (fun k hk => by simp at hk ⊢; omega)); have HMa2 := Lib.hid hm; have hqa2 := HQn2.out.keep hu (by have := HQa1.out.lt; have := HBG.out; simp; omega); have HQa2 := Lib.hid hqa2; obtain ⟨lqa2, k0a2, k1a2, k2a2, k3a2, k4a2⟩ := hqa2; have HRa1a2 := Lib.hid (RAt.keep HRa1n2.out hu (by have := MemX.lt HMa1.out; simp; omega)); clear hm hu HF2))
  have HN := Lib.hid fun w => lr_new 0 (by omega) (by omega) w
  go_wp2_with (first
    | (go_at_call 123; refine (HN.out _).mono ?_; rintro e wn3 ⟨p3, rfl, hp3, hf, hu⟩; have HUn3 := Lib.hid (show Upd [] wa2 wn3 from (((Upd.refl [] _).alloc _).trans hu)); have HF3 := Lib.hid hf; have HMn3 := Lib.hid (MemX.keep HMa2.out (((Upd.refl [] _).alloc _).trans hu) (by simp) (by simp)); have HQn3 := Lib.hid (HQa2.out.keep (((Upd.refl [] _).alloc _).trans hu) (by simp)); have HRa1n3 := Lib.hid (RAt.keep HRa1a2.out (((Upd.refl [] _).alloc _).trans hu) (by simp)); have HRa2n3 := Lib.hid (show RAt wn3 wa2.heap.size _ _ from hu.keepb (heap_alloc_new _ _) (by simp)); have hs3 := hp3; simp only [World.size_alloc] at hs3; clear hf hu HN hp3)
    | (go_at_call 39; refine (lock_read0 (by omega) HMn3.out HF3.out (by have := MemX.lt HMa2.out; omega) (by have := MemX.lt HMa2.out; omega)).mono ?_; rintro e wa3 ⟨rfl, hm, hu⟩; have HUa3 := Lib.hid (show Upd [b, g] wa2 wa3 from (HUn3.out.mono (by simp)).then hu (fun k hk => by simp at hk ⊢; omega)); have HMa3 := Lib.hid hm; have hqa3 := HQn3.out.keep hu (by have := HQa2.out.lt; have := HBG.out; simp; omega); have HQa3 := Lib.hid hqa3; obtain ⟨lqa3, k0a3, k1a3, k2a3, k3a3, k4a3⟩ := hqa3; have HRa1a3 := Lib.hid (RAt.keep HRa1n3.out hu (by have := MemX.lt HMa1.out; have := heap_lt HRa1a2.out; simp; omega)); have HRa2a3 := Lib.hid (RAt.keep HRa2n3.out hu (by have := MemX.lt HMa2.out; simp; omega)); have lra1 := heap_lt HRa1a3.out; have za10 := cell_of_heap HRa1a3.out 0; have za11 := cell_of_heap HRa1a3.out 1; have za12 := cell_of_heap HRa1a3.out 2; have za13 := cell_of_heap HRa1a3.out 3; have za14 := cell_of_heap HRa1a3.out 4; simp at za10 za11 za12 za13 za14; have lra2 := heap_lt HRa2a3.out; have za20 := cell_of_heap HRa2a3.out 0; have za21 := cell_of_heap HRa2a3.out 1; have za22 := cell_of_heap HRa2a3.out 2; have za23 := cell_of_heap HRa2a3.out 3; have za24 := cell_of_heap HRa2a3.out 4; simp at za20 za21 za22 za23 za24; clear hm hu HF3))
  go_ret
  have hbg := HBG.out
  exact ⟨rfl, ((((HU1.out.trans HU2.out).then HUa1.out (fun k hk => by simp at hk; omega)).then HUa2.out (fun k hk => by simp at hk; omega)).then HUa3.out (fun k hk => by simp at hk; omega)).alloc _⟩

theorem lw_act_z (w : World) {g : Nat} (hg : g = w.heap.size) : Calls Try.prog 60 #[.pointer (some ⟨g, 0, none⟩)] (w.alloc (.cells #[.int .i64 0, .int .i64 0, .int .i64 0, .int .i64 0, .int .i64 0, .int .i64 0, .int .u32 0, .int .u32 0, .int .u32 0, .int .u32 0, .int .u32 0, .int .i64 0, .int .u32 0, .int .u32 0, .int .u32 0, .int .u32 0, .bool false, .bool false] 127)) fun e w' => e = .returned (.tuple #[.agg #[.int .i64 0, .int .i64 0, .int .u32 0], .bool false]) ∧ Upd [] w w' :=
  (lw_act_zero (more := []) (heap_alloc_at _ hg)).mono fun _ _ ⟨h, hu⟩ => ⟨h, ((Upd.refl [] w).alloc _).trans hu⟩
theorem lr_result_z (w : World) {g : Nat} (hg : g = w.heap.size) : Calls Try.prog 63 #[.pointer (some ⟨g, 0, none⟩)] (w.alloc (.cells #[.int .i64 0, .int .i64 0, .int .i64 0, .int .i64 0, .int .i64 0, .int .i64 0, .int .u32 0, .int .u32 0, .int .u32 0, .int .u32 0, .int .u32 0, .int .i64 0, .int .u32 0, .int .u32 0, .int .u32 0, .int .u32 0, .bool false, .bool false, .int .i64 0, .int .i64 0] 129)) fun e w' => e = .returned (.tuple #[.agg #[.int .i64 0, .int .u32 0, .int .u32 0, .int .u32 0, .int .u32 0], .bool false]) ∧ Upd [] w w' :=
  (lr_result_zero (more := [.int .i64 0, .int .i64 0]) (heap_alloc_at _ hg)).mono fun _ _ ⟨h, hu⟩ => ⟨h, ((Upd.refl [] w).alloc _).trans hu⟩
set_option maxRecDepth 100000 in
set_option maxHeartbeats 2000000 in
theorem lockNone_any (W : World) (got : Int) : Calls Try.prog 9 #[.int .u32 got] W fun e w' => e = .returned (.bool true) ∧ Upd [] W w' := by
  go_enter Try.func9, Try.ntmps9
  go_wp2_with (first
    | (go_at_call 58; refine (lw_take_nil _ _).mono ?_; rintro e w0 ⟨rfl, rfl⟩)
    | (go_at_call 59; refine (lr_take_nil _ _).mono ?_; rintro e w1 ⟨rfl, hu⟩; have HU1 := Lib.hid hu; clear hu))
  go_wp2_with (go_at_call 60; refine (lw_act_nil _).mono ?_; rintro e w2 ⟨rfl, hu⟩; have HU2 := Lib.hid (HU1.out.trans hu); clear hu; refine Go.RowKit.Hid.out ?_)
  refine Lib.hid ?_
  go_wp2_with (first
    | (go_at_call 61; refine (lr_act_nil _).mono ?_; rintro e w3 ⟨rfl, hu⟩; have HU3 := Lib.hid ((HU2.out.alloc _).trans hu); clear hu)
    | (go_at_call 62; refine (lw_result_nil _).mono ?_; rintro e w4 ⟨rfl, hu⟩; have HU4 := Lib.hid ((HU3.out.alloc _).trans hu); clear hu)
    | (go_at_call 63; refine (lr_result_nil _).mono ?_; rintro e w5 ⟨rfl, hu⟩; have HU5 := Lib.hid ((HU4.out.alloc _).trans hu); clear hu; refine Go.RowKit.Hid.out ?_))
  refine Lib.hid ?_
  go_wp2_with (go_at_call 60; refine (lw_act_z _ (by simp)).mono ?_; rintro e w6 ⟨rfl, hu⟩; have HU6 := Lib.hid ((HU5.out.alloc _).trans hu); clear hu; refine Go.RowKit.Hid.out ?_)
  refine Lib.hid ?_
  go_wp2_with (first
    | (go_at_call 63; refine (lr_result_z _ (by simp)).mono ?_; rintro e w7 ⟨rfl, hu⟩; have HU7 := Lib.hid ((HU6.out.alloc _).trans hu); clear hu)
    | (go_at_call 64; refine (lr_tries_nil _).mono ?_; rintro e w8 ⟨rfl, rfl⟩)
    | (go_at_call 65; refine (alive14 _).mono ?_; rintro e w9 ⟨rfl, hu⟩; have HU9 := Lib.hid ((HU7.out.alloc _).trans hu); clear hu))
  go_ret
  exact ⟨rfl, HU9.out⟩
theorem lockNone_walk (W : World) (v0 : Value) (h0 : Sh.okV W (.int .u32) v0) :
    Calls Try.prog 9 #[v0] W fun e w' => e = .returned (.bool true) ∧ Upd [] W w' := by
  obtain ⟨n, hn, hw⟩ := h0
  obtain rfl : v0 = .int .u32 n := by simpa using hn
  exact lockNone_any W n
end Go.Proofs.Ytbjeojcnofpgfaa
