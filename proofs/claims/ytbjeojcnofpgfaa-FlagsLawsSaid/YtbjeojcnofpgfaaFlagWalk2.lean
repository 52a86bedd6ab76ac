/- The law FlagsLaws over whatever words come in. -/
import Derived.Test.YtbjeojcnofpgfaaFlagWalk
set_option linter.unusedVariables false
set_option linter.unusedSimpArgs false
namespace Go.Proofs.Ytbjeojcnofpgfaa
open Go.RowKit

set_option maxRecDepth 100000 in
set_option maxHeartbeats 4000000 in
theorem flagsLaws_any (W : World) (wd av bv y1 y2 : Int) (e1 : bits .or .u32 wd av = y1) (e2 : bits .andNot .u32 y1 bv = y2)
    (h1 : holdsB 1 wd av = true) (h2 : holdsB 5 y1 av = true) (h3 : holdsB 2 y1 bv = true) (h4 : holdsB 4 y2 bv = false) (h5 : holdsB 3 y2 bv = true)
    (x1 : flagWord 1 av wd = y1) (x2 : flagWord 5 av y1 = y1) (x3 : flagWord 2 bv y1 = y2) (x4 : flagWord 4 bv y2 = y2) (x5 : flagWord 3 bv y2 = y2) :
    Calls Try.prog 10 #[.int .u32 wd, .int .u32 av, .int .u32 bv] W fun e w' => e = .returned (.bool true) ∧ Upd [] W w' := by
  have HH1 := Lib.hid h1
  have HX1 := Lib.hid x1
  have HH2 := Lib.hid h2
  have HX2 := Lib.hid x2
  have HH3 := Lib.hid h3
  have HX3 := Lib.hid x3
  have HH4 := Lib.hid h4
  have HX4 := Lib.hid x4
  have HH5 := Lib.hid h5
  have HX5 := Lib.hid x5
  clear h1 h2 h3 h4 h5 x1 x2 x3 x4 x5
  have E1 := Lib.hid e1
  have E2 := Lib.hid e2
  clear e1 e2
  have qE := eq_result
  go_enter Try.func10, Try.ntmps10
  go_wp2_with (go_at_call 66; refine (of_flags W.heap.size 1 _ (heap_alloc_new _ _)).mono ?_; rintro e w1 ⟨v, rfl, hown, hu1⟩; obtain ⟨q, cap, rfl, hq, lq, q0, q1, q2, q3, q4⟩ := own_place hown; have HQ := Lib.hid (⟨lq, q0, q1, q2, q3, q4⟩ : PlaceAt w1 q); have HU1 := Lib.hid (((Upd.refl [] W).alloc _).trans hu1); clear hown hu1 q0 q1 q2 q3 q4)
  have hq' : W.heap.size ≤ q := by simp at hq; omega
  have hr2 : Reads (w1.alloc (.cells #[.int .u32 wd] 33)) (some ⟨w1.heap.size, 0, none⟩) 1 (u32s [wd]) := ⟨rfl, fun _ => ⟨_, 0, rfl, by simp, fun j v hj => by
    rw [Nat.zero_add, cell_of_heap (heap_alloc_new _ _)]
    simpa [u32s] using hj⟩⟩
  have HRD := Lib.hid hr2
  have hsz := HU1.out.size
  clear hq hr2
  go_wp2_with (go_at_call 47; refine (of_any _ 1 [wd] _ (by simp) HRD.out).mono ?_; rintro e w2 ⟨b, g, rfl, hb, hg, hm, hu2⟩; have HU2 := Lib.hid (((Upd.refl [] w1).alloc _).trans hu2); have HM2 := Lib.hid (show MemX w2 b g 0 [wd] from ⟨0, 0, by simp, by simp, by simp, by simp, hm⟩); have HQ2 := Lib.hid (HQ.out.keep HU2.out (by simp)); obtain ⟨lq2, q0, q1, q2, q3, q4⟩ := HQ2.out; have hb' := hb; have hg' := hg; simp at hb' hg'; clear hm hu2 hb hg)
  have HBG := Lib.hid (show b ≠ q ∧ g ≠ q ∧ w1.heap.size ≤ b ∧ w1.heap.size ≤ g from ⟨by omega, by omega, by omega, by omega⟩)
  clear hb' hg'
  have HN := Lib.hid fun w => flag_new 0 1 av w (by omega) (by omega)
  go_wp2_with (first
    | (go_at_call 67; refine (HN.out _).mono ?_; rintro e wn1 ⟨p1, rfl, hp1, hf, hu⟩; have HUn1 := Lib.hid (show Upd [] w2 wn1 from hu); have HF1 := Lib.hid hf; have HMn1 := Lib.hid (MemX.keep HM2.out hu (by simp) (by simp)); have HQn1 := Lib.hid (HQ2.out.keep hu (by simp)); have hs1 := hp1; clear hf hu HN hp1)
    | (go_at_call 39; refine (flag_alone 0 wd y1 HMn1.out HF1.out (by have := MemX.lt HM2.out; omega) (by have := MemX.lt HM2.out; omega) (by omega) (by omega) (by omega) (by rw [HH1.out]; rfl) (by rw [HH1.out]; rfl) HX1.out).mono ?_; rintro e wa1 ⟨rfl, hm, hu⟩; have HUa1 := Lib.hid (show Upd [b, g] w2 wa1 from (HUn1.out.mono (by simp)).then hu (fun k hk => by simp at hk ⊢; omega)); have HMa1 := Lib.hid hm; have hqa1 := HQn1.out.keep hu (by have := HQ2.out.lt; have := HBG.out; simp; omega); have HQa1 := Lib.hid hqa1; obtain ⟨lqa1, k0a1, k1a1, k2a1, k3a1, k4a1⟩ := hqa1; clear hm hu HF1))
  have HN := Lib.hid fun w => flag_new 0 5 av w (by omega) (by omega)
  go_wp2_with (first
    | (go_at_call 67; refine (HN.out _).mono ?_; rintro e wn2 ⟨p2, rfl, hp2, hf, hu⟩; have HUn2 := Lib.hid (show Upd [] wa1 wn2 from (((Upd.refl [] _).alloc _).trans hu)); have HF2 := Lib.hid hf; have HMn2 := Lib.hid (MemX.keep HMa1.out (((Upd.refl [] _).alloc _).trans hu) (by simp) (by simp)); have HQn2 := Lib.hid (HQa1.out.keep (((Upd.refl [] _).alloc _).trans hu) (by simp)); have HRa1n2 := Lib.hid (show RAt wn2 wa1.heap.size _ _ from hu.keepb (heap_alloc_new _ _) (by simp)); have hs2 := hp2; simp only [World.size_alloc] at hs2; clear hf hu HN hp2)
    | (go_at_call 39; refine (flag_alone 0 y1 y1 HMn2.out HF2.out (by have := MemX.lt HMa1.out; omega) (by have := MemX.lt HMa1.out; omega) (by omega) (by omega) (by omega) (by rw [HH2.out]; rfl) (by rw [HH2.out]; rfl) HX2.out).mono ?_; rintro e wa2 ⟨rfl, hm, hu⟩; have HUa2 := Lib.hid (show Upd [b, g] wa1 wa2 from (HUn2.out.mono (by simp)).then hu (fun k hk => by simp at hk ⊢; omega)); have HMa2 := Lib.hid hm; have hqa2 := HQn2.out.keep hu (by have := HQa1.out.lt; have := HBG.out; simp; omega); have HQa2 := Lib.hid hqa2; obtain ⟨lqa2, k0a2, k1a2, k2a2, k3a2, k4a2⟩ := hqa2; have HRa1a2 := Lib.hid (RAt.keep HRa1n2.out hu (by have := MemX.lt HMa1.out; simp; omega)); clear hm hu HF2))
  have HN := Lib.hid fun w => flag_new 0 2 bv w (by omega) (by omega)
  go_wp2_with (first
    | (go_at_call 67; refine (HN.out _).mono ?_; rintro e wn3 ⟨p3, rfl, hp3, hf, hu⟩; have HUn3 := Lib.hid (show Upd [] wa2 wn3 from (((Upd.refl [] _).alloc _).trans hu)); have HF3 := Lib.hid hf; have HMn3 := Lib.hid (MemX.keep HMa2.out (((Upd.refl [] _).alloc _).trans hu) (by simp) (by simp)); have HQn3 := Lib.hid (HQa2.out.keep (((Upd.refl [] _).alloc _).trans hu) (by simp)); have HRa1n3 := Lib.hid (RAt.keep HRa1a2.out (((Upd.refl [] _).alloc _).trans hu) (by simp)); have HRa2n3 := Lib.hid (show RAt wn3 wa2.heap.size _ _ from hu.keepb (heap_alloc_new _ _) (by simp)); have hs3 := hp3; simp only [World.size_alloc] at hs3; clear hf hu HN hp3)
    | (go_at_call 39; refine (flag_alone 0 y1 y2 HMn3.out HF3.out (by have := MemX.lt HMa2.out; omega) (by have := MemX.lt HMa2.out; omega) (by omega) (by omega) (by omega) (by rw [HH3.out]; rfl) (by rw [HH3.out]; rfl) HX3.out).mono ?_; rintro e wa3 ⟨rfl, hm, hu⟩; have HUa3 := Lib.hid (show Upd [b, g] wa2 wa3 from (HUn3.out.mono (by simp)).then hu (fun k hk => by simp at hk ⊢; omega)); have HMa3 := Lib.hid hm; have hqa3 := HQn3.out.keep hu (by have := HQa2.out.lt; have := HBG.out; simp; omega); have HQa3 := Lib.hid hqa3; obtain ⟨lqa3, k0a3, k1a3, k2a3, k3a3, k4a3⟩ := hqa3; have HRa1a3 := Lib.hid (RAt.keep HRa1n3.out hu (by have := MemX.lt HMa1.out; have := heap_lt HRa1a2.out; simp; omega)); have HRa2a3 := Lib.hid (RAt.keep HRa2n3.out hu (by have := MemX.lt HMa2.out; simp; omega)); clear hm hu HF3))
  have HN := Lib.hid fun w => flag_new 0 4 bv w (by omega) (by omega)
  go_wp2_with (first
    | (go_at_call 67; refine (HN.out _).mono ?_; rintro e wn4 ⟨p4, rfl, hp4, hf, hu⟩; have HUn4 := Lib.hid (show Upd [] wa3 wn4 from (((Upd.refl [] _).alloc _).trans hu)); have HF4 := Lib.hid hf; have HMn4 := Lib.hid (MemX.keep HMa3.out (((Upd.refl [] _).alloc _).trans hu) (by simp) (by simp)); have HQn4 := Lib.hid (HQa3.out.keep (((Upd.refl [] _).alloc _).trans hu) (by simp)); have HRa1n4 := Lib.hid (RAt.keep HRa1a3.out (((Upd.refl [] _).alloc _).trans hu) (by simp)); have HRa2n4 := Lib.hid (RAt.keep HRa2a3.out (((Upd.refl [] _).alloc _).trans hu) (by simp)); have HRa3n4 := Lib.hid (show RAt wn4 wa3.heap.size _ _ from hu.keepb (heap_alloc_new _ _) (by simp)); have hs4 := hp4; simp only [World.size_alloc] at hs4; clear hf hu HN hp4)
    | (go_at_call 39; refine (flag_alone 7 0 y2 HMn4.out HF4.out (by have := MemX.lt HMa3.out; omega) (by have := MemX.lt HMa3.out; omega) (by omega) (by omega) (by omega) (by rw [HH4.out]; rfl) (by rw [HH4.out]; rfl) HX4.out).mono ?_; rintro e wa4 ⟨rfl, hm, hu⟩; have HUa4 := Lib.hid (show Upd [b, g] wa3 wa4 from (HUn4.out.mono (by simp)).then hu (fun k hk => by simp at hk ⊢; omega)); have HMa4 := Lib.hid hm; have hqa4 := HQn4.out.keep hu (by have := HQa3.out.lt; have := HBG.out; simp; omega); have HQa4 := Lib.hid hqa4; obtain ⟨lqa4, k0a4, k1a4, k2a4, k3a4, k4a4⟩ := hqa4; have HRa1a4 := Lib.hid (RAt.keep HRa1n4.out hu (by have := MemX.lt HMa1.out; have := heap_lt HRa1a3.out; simp; omega)); have HRa2a4 := Lib.hid (RAt.keep HRa2n4.out hu (by have := MemX.lt HMa2.out; have := heap_lt HRa2a3.out; simp; omega)); have HRa3a4 := Lib.hid (RAt.keep HRa3n4.out hu (by have := MemX.lt HMa3.out; simp; omega)); clear hm hu HF4))
  have HN := Lib.hid fun w => flag_new 0 3 bv w (by omega) (by omega)
  go_wp2_with (first
    | (go_at_call 67; refine (HN.out _).mono ?_; rintro e wn5 ⟨p5, rfl, hp5, hf, hu⟩; have HUn5 := Lib.hid (show Upd [] wa4 wn5 from (((Upd.refl [] _).alloc _).trans hu)); have HF5 := Lib.hid hf; have HMn5 := Lib.hid (MemX.keep HMa4.out (((Upd.refl [] _).alloc _).trans hu) (by simp) (by simp)); have HQn5 := Lib.hid (HQa4.out.keep (((Upd.refl [] _).alloc _).trans hu) (by simp)); have HRa1n5 := Lib.hid (RAt.keep HRa1a4.out (((Upd.refl [] _).alloc _).trans hu) (by simp)); have HRa2n5 := Lib.hid (RAt.keep HRa2a4.out (((Upd.refl [] _).alloc _).trans hu) (by simp)); have HRa3n5 := Lib.hid (RAt.keep HRa3a4.out (((Upd.refl [] _).alloc _).trans hu) (by simp)); have HRa4n5 := Lib.hid (show RAt wn5 wa4.heap.size _ _ from hu.keepb (heap_alloc_new _ _) (by simp)); have hs5 := hp5; simp only [World.size_alloc] at hs5; clear hf hu HN hp5)
    | (go_at_call 39; refine (flag_alone 0 y2 y2 HMn5.out HF5.out (by have := MemX.lt HMa4.out; omega) (by have := MemX.lt HMa4.out; omega) (by omega) (by omega) (by omega) (by rw [HH5.out]; rfl) (by rw [HH5.out]; rfl) HX5.out).mono ?_; rintro e wa5 ⟨rfl, hm, hu⟩; have HUa5 := Lib.hid (show Upd [b, g] wa4 wa5 from (HUn5.out.mono (by simp)).then hu (fun k hk => by simp at hk ⊢; omega)); have HMa5 := Lib.hid hm; have hqa5 := HQn5.out.keep hu (by have := HQa4.out.lt; have := HBG.out; simp; omega); have HQa5 := Lib.hid hqa5; obtain ⟨lqa5, k0a5, k1a5, k2a5, k3a5, k4a5⟩ := hqa5; have HRa1a5 := Lib.hid (RAt.keep HRa1n5.out hu (by have := MemX.lt HMa1.out; have := heap_lt HRa1a4.out; simp; omega)); have HRa2a5 := Lib.hid (RAt.keep HRa2n5.out hu (by have := MemX.lt HMa2.out; have := heap_lt HRa2a4.out; simp; omega)); have HRa3a5 := Lib.hid (RAt.keep HRa3n5.out hu (by have := MemX.lt HMa3.out; have := heap_lt HRa3a4.out; simp; omega)); have HRa4a5 := Lib.hid (RAt.keep HRa4n5.out hu (by have := MemX.lt HMa4.out; simp; omega)); have lra1 := heap_lt HRa1a5.out; have za10 := cell_of_heap HRa1a5.out 0; have za11 := cell_of_heap HRa1a5.out 1; have za12 := cell_of_heap HRa1a5.out 2; have za13 := cell_of_heap HRa1a5.out 3; have za14 := cell_of_heap HRa1a5.out 4; simp at za10 za11 za12 za13 za14; have lra2 := heap_lt HRa2a5.out; have za20 := cell_of_heap HRa2a5.out 0; have za21 := cell_of_heap HRa2a5.out 1; have za22 := cell_of_heap HRa2a5.out 2; have za23 := cell_of_heap HRa2a5.out 3; have za24 := cell_of_heap HRa2a5.out 4; simp at za20 za21 za22 za23 za24; have lra3 := heap_lt HRa3a5.out; have za30 := cell_of_heap HRa3a5.out 0; have za31 := cell_of_heap HRa3a5.out 1; have za32 := cell_of_heap HRa3a5.out 2; have za33 := cell_of_heap HRa3a5.out 3; have za34 := cell_of_heap HRa3a5.out 4; simp at za30 za31 za32 za33 za34; have lra4 := heap_lt HRa4a5.out; have za40 := cell_of_heap HRa4a5.out 0; have za41 := cell_of_heap HRa4a5.out 1; have za42 := cell_of_heap HRa4a5.out 2; have za43 := cell_of_heap HRa4a5.out 3; have za44 := cell_of_heap HRa4a5.out 4; simp at za40 za41 za42 za43 za44; clear hm hu HF5; have e1 := E1.out; have e2 := E2.out)
    | (go_at_call 68; refine (alive15 _).mono ?_; rintro e w6 ⟨rfl, hu6⟩; have HU6 := Lib.hid hu6; clear hu6))
  go_ret
  have hbg := HBG.out
  exact ⟨rfl, ((((((HU1.out.trans HU2.out).then HUa1.out (fun k hk => by simp at hk; omega)).then HUa2.out (fun k hk => by simp at hk; omega)).then HUa3.out (fun k hk => by simp at hk; omega)).then HUa4.out (fun k hk => by simp at hk; omega)).then HUa5.out (fun k hk => by simp at hk; omega)).trans (((Upd.refl _ _).alloc _).trans HU6.out)⟩


theorem flagsLaws_walk (W : World) (v0 v1 v2 : Value) (h0 : Sh.okV W (.int .u32) v0) (h1 : Sh.okV W (.int .u32) v1) (h2 : Sh.okV W (.int .u32) v2) :
    Calls Try.prog 10 #[v0, v1, v2] W fun e w' => e = .returned (.bool true) ∧ Upd [] W w' := by
  obtain ⟨X, rfl⟩ := word_okV h0
  obtain ⟨A, rfl⟩ := word_okV h1
  obtain ⟨B, rfl⟩ := word_okV h2
  exact flagsLaws_any W _ _ _ (ofB (X ||| A)) (ofB ((X ||| A) &&& ~~~B)) (bits_or X A) (bits_andNot _ B) (holds1_true _ _) (holds5_or X A) (holds2_true _ _) (holds4_clear _ B) (holds3_any _ _)
    (by simp [flagWord, bits_or]) (by simp [flagWord]) (by simp [flagWord, bits_not, bits_and]) (by simp [flagWord]) (by simp [flagWord])
end Go.Proofs.Ytbjeojcnofpgfaa
