/- Package post: what must come at any rate. -/
import Derived.Test.YtbjeojcnofpgfaaPost6
import Derived.Test.YtbjeojcnofpgfaaPlaceG
set_option linter.unusedVariables false
set_option linter.unusedSimpArgs false
namespace Go.Proofs.Ytbjeojcnofpgfaa
open Go.RowKit

theorem cap1 : Cap5 1 := by unfold Cap5; omega
def hs (v n a b f r0 : Int) (on : Bool) : HdS := ⟨v, n, a, b, f, r0, on⟩
theorem act_is0 (v : Int) : ActIs 1 3 (hs v 0 0 0 0 0 true) 1 1 0 := fun w b h => hand_act_0 h rfl cap1 rfl
theorem act_is1 (v a : Int) : ActIs 1 3 (hs v 1 a 0 0 0 true) 1 0 0 := fun w b h => hand_act_1 h rfl cap1 rfl
theorem take_is0 (v g : Int) : TakeIs 1 3 (hs v 0 0 0 0 0 true) g (hs v 1 g 0 0 0 true) := fun w b h => hand_take_0 g h rfl rfl cap1
theorem take_is1 (v a g : Int) : TakeIs 1 3 (hs v 1 a 0 0 0 true) g (hs v 2 a g 0 0 true) := fun w b h => hand_take_1 g h rfl rfl cap1
theorem take_is2 (v a b' g : Int) : TakeIs 1 3 (hs v 2 a b' 0 0 true) g (hs v 3 a b' 0 g true) := fun w b h => hand_take_2 g h rfl rfl cap1
theorem nf (v n : Int) (r0 : Int) : handFull 1 (hs v n 0 0 0 r0 true) = false := by kernel_rfl
theorem yf (v n : Int) (r0 : Int) : handFull 1 (hs v n 1 0 0 r0 true) = true := by kernel_rfl
theorem act_word (v : Int) : ActIs 1 3 (hs v 2 0 0 0 0 true) 2 2 v := fun w b h => (hand_act_word h rfl cap1 rfl (nf _ _ _)).mono fun e w' ⟨he, hu⟩ => ⟨by rw [he]; kernel_rfl, hu⟩
theorem act_tail (v : Int) : ActIs 1 3 (hs v 3 0 0 0 0 true) 2 1 1 := fun w b h => (hand_act_tail h rfl cap1 rfl (nf _ _ _)).mono fun e w' ⟨he, hu⟩ => ⟨by rw [he]; kernel_rfl, hu⟩
theorem act_raise (v : Int) : ActIs 1 3 (hs v 4 0 0 0 0 true) 6 0 0 := fun w b h => hand_act_raise h rfl cap1 rfl (nf _ _ _)
theorem take_is3 (v : Int) : TakeIs 1 3 (hs v 3 0 0 0 0 true) 0 (hs v 4 0 0 0 0 true) := fun w b h => hand_take_3 0 h rfl rfl cap1 (nf _ _ _)
theorem take_last (v : Int) : TakeIs 1 3 (hs v 4 0 0 0 0 true) 0 (hs v 5 0 0 0 0 false) := fun w b h => hand_take_last 0 h rfl rfl cap1
theorem act_over2 (v : Int) : ActIs 1 3 (hs v 2 1 0 0 0 true) 1 3 0 := fun w b h => (hand_act_over2 h rfl cap1 rfl (yf _ _ _)).mono fun e w' ⟨he, hu⟩ => ⟨by rw [he]; rfl, hu⟩
theorem act_over3 (v : Int) : ActIs 1 3 (hs v 3 1 0 0 0 true) 2 3 1 := fun w b h => (hand_act_over3 h rfl cap1 rfl (yf _ _ _) rfl).mono fun e w' ⟨he, hu⟩ => ⟨by rw [he]; rfl, hu⟩
theorem take_full (v : Int) : TakeIs 1 3 (hs v 3 1 0 0 0 true) 0 (hs v 4 1 0 6 0 false) := fun w b h => hand_take_full 0 h rfl rfl cap1 (yf _ _ _)

theorem run_put (v : Int) : RunH 1 3 (hs v 0 0 0 0 0 true) [0, 0, 0, 0] 0 5 (hs v 5 0 0 0 0 false) [0, 1, v, 0] 1 :=
  .load _ _ _ 1 0 _ _ _ _ _ (act_is0 v) rfl (take_is0 v 0) (.load _ _ _ 0 0 _ _ _ _ _ (act_is1 v 0) rfl (take_is1 v 0 0)
    (.store _ _ _ 2 v _ _ _ _ _ (act_word v) (by simp) (take_is2 v 0 0 0) (.store _ _ _ 1 1 _ _ _ _ _ (act_tail v) (by simp) (take_is3 v)
      (.raise _ _ _ _ _ _ _ (act_raise v) (take_last v) (.done _ _ _ rfl)))))
theorem run_full (v u : Int) : RunH 1 3 (hs v 0 0 0 0 0 true) [0, 1, u, 0] 1 4 (hs v 4 1 0 6 0 false) [0, 1, u, 1] 1 :=
  .load _ _ _ 1 1 _ _ _ _ _ (act_is0 v) rfl (take_is0 v 1) (.load _ _ _ 0 0 _ _ _ _ _ (act_is1 v 1) rfl (take_is1 v 1 0)
    (.load _ _ _ 3 0 _ _ _ _ _ (act_over2 v) rfl (take_is2 v 1 0 0) (.store _ _ _ 3 1 _ _ _ _ _ (act_over3 v) (by simp) (take_full v) (.done _ _ _ rfl))))

set_option maxRecDepth 100000 in
set_option maxHeartbeats 4000000 in
theorem alive28 (W : World) : Calls Try.prog 33 #[] W fun e w' => e = .returned (.bool true) ∧ Upd [] W w' := by
  go_enter Try.func33, Try.ntmps33
  go_wp2_with fail
  refine (of_ring 1 1 cap1 (by omega) (by omega) W.heap.size 1 _ (heap_alloc_new _ _)).mono ?_
  rintro e w1 ⟨v, rfl, hown, hu1⟩
  obtain ⟨q, cap, rfl, hq, hpl⟩ := own_placeG hown
  have hu01 := ((Upd.refl [] W).alloc (.cells #[.int .i64 1, .int .i64 1, .int .i64 1, .int .i64 0, .int .i64 0, .int .i64 0, .int .u32 0, .int .u32 0, .int .u32 0, .int .u32 0] 68)).trans hu1
  have HU1 := Lib.hid hu01
  have HPL := Lib.hid hpl
  clear hown hu1 hpl hu01 hq
  go_wp2_with fail
  refine (new_any 4 _ (by omega)).mono ?_
  rintro e w2 ⟨b, g, rfl, hb, hg, hm, hu2⟩
  have HU2 := Lib.hid hu2
  have HM2 := Lib.hid (show MemX w2 b g 0 [0, 0, 0, 0] from ⟨0, 0, by simp, by simp, by simp, by simp, hm⟩)
  have HPL2 := Lib.hid (HPL.out.keep hu2 (by simp))
  clear hm hu2
  go_wp2_with fail
  refine (gate_new _).mono ?_
  rintro e w3 ⟨k, rfl, hk, hgt, hu3⟩
  have HG3 := Lib.hid hgt
  have HM3 := Lib.hid (HM2.out.keep hu3 (by simp) (by simp))
  have HU3 := Lib.hid hu3
  obtain ⟨lq, q0, q1, q2, q3, q4⟩ := HPL2.out.keep hu3 (by simp)
  have hlt2 := HM2.out.lt
  have HBG := Lib.hid (show k ≠ b ∧ k ≠ g ∧ b < w3.heap.size ∧ g < w3.heap.size ∧ k < w3.heap.size ∧ W.heap.size ≤ b ∧ W.heap.size ≤ g ∧ W.heap.size ≤ k ∧ W.heap.size ≤ w3.heap.size from by
    have h1 := hu3.size
    have h2 := HU1.out.size
    have h3 := HU2.out.size
    have h4 := heap_lt hgt.h
    omega)
  clear hgt hu3 hk hb hg hlt2
  go_wp2_with fail
  refine (put_new 1 3 7 cap1 (by omega) (by omega) _).mono ?_
  rintro e w4 ⟨p, rfl, hp, hh4, hu4⟩
  have hl4 := hu4.keepb (heap_alloc_new w3 _) (by simp)
  have HH4 := Lib.hid hh4
  have hbg := HBG.out
  simp only [World.size_alloc] at hp
  have hu34 := ((Upd.refl [] w3).alloc (.cells #[.int .i64 1, .int .i64 0, .int .i64 1, .int .i64 1, .int .i64 0, .int .i64 3] 75)).trans hu4
  have HM4 := Lib.hid (HM3.out.keep hu34 (by simp) (by simp))
  have HG4 := Lib.hid (HG3.out.keep hu34 (by simp))
  have HU34 := Lib.hid hu34
  have HL4 := Lib.hid hl4
  clear hh4 hu4 hl4 hu34 q0 q1 q2 q3 q4 lq
  go_wp2_with fail
  refine (done_any HM4.out HG4.out HH4.out (by omega) (K := 5) (by omega) (by omega) (run_put 7)).mono ?_
  rintro e w5 ⟨rfl, hm5, hg5, hu5⟩
  have HM5 := Lib.hid hm5
  have HG5 := Lib.hid hg5
  have HU5 := Lib.hid hu5
  have hl5 := hu5.keepb HL4.out (by simp; omega)
  have ll5 := heap_lt hl5
  have HL5 := Lib.hid hl5
  have k0 := cell_of_heap hl5 0
  have k1 := cell_of_heap hl5 1
  have k2 := cell_of_heap hl5 2
  have k3 := cell_of_heap hl5 3
  have k4 := cell_of_heap hl5 4
  have k5 := cell_of_heap hl5 5
  simp at k0 k1 k2 k3 k4 k5
  clear hm5 hg5 hu5 hl5
  unfold hs
  go_wp2_with fail
  refine (put_new 1 3 8 cap1 (by omega) (by omega) _).mono ?_
  rintro e w6 ⟨p2, rfl, hp2, hh6, hu6⟩
  have hu56 := ((Upd.refl [] w5).alloc (.cells #[.int .i64 0, .int .u32 0, .int .u32 0, .int .u32 0, .int .u32 0] 39)).trans hu6
  have hr6 := hu6.keepb (heap_alloc_new w5 _) (by simp)
  have HR6 := Lib.hid hr6
  have HH6 := Lib.hid hh6
  simp only [World.size_alloc] at hp2
  have hlt5 := HM5.out.lt
  have hltk := heap_lt HG5.out.h
  have HM6 := Lib.hid (HM5.out.keep hu56 (by simp) (by simp))
  have HG6 := Lib.hid (HG5.out.keep hu56 (by simp))
  have HU56 := Lib.hid hu56
  clear hh6 hu6 hu56 hr6 k0 k1 k2 k3 k4 k5
  go_wp2_with fail
  refine (done_any HM6.out HG6.out HH6.out (by omega) (K := 4) (by omega) (by omega) (run_full 8 7)).mono ?_
  rintro e w7 ⟨rfl, hm7, hg7, hu7⟩
  have HM7 := Lib.hid hm7
  have HG7 := Lib.hid hg7
  have HU7 := Lib.hid hu7
  have hr7 := hu7.keepb HR6.out (by simp; omega)
  have HR7 := Lib.hid hr7
  clear hm7 hg7 hu7 hr7
  unfold hs
  go_wp2_with fail
  have hr8 := ((Upd.refl [] w7).alloc (.cells #[.int .i64 6, .int .u32 0, .int .u32 0, .int .u32 0, .int .u32 0] 39)).keepb HR7.out (by simp)
  have HR8 := Lib.hid hr8
  obtain ⟨lo, st, lo0, lo1, st0, st1, hmm⟩ := HM7.out.keep ((Upd.refl [] w7).alloc (.cells #[.int .i64 6, .int .u32 0, .int .u32 0, .int .u32 0, .int .u32 0] 39)) (by simp) (by simp)
  refine (load_any 3 hmm (by simp) lo0 (by omega)).mono ?_
  rintro e w8 ⟨rfl, hm8, hu8⟩
  have HU8 := Lib.hid hu8
  have HG8 := Lib.hid ((HG7.out.keep ((Upd.refl [] w7).alloc (.cells #[.int .i64 6, .int .u32 0, .int .u32 0, .int .u32 0, .int .u32 0] 39)) (by simp)).keep hu8 (by simp; omega))
  have hlt7 := HM7.out.lt
  have hra := hu8.keepb HR8.out (by simp; omega)
  have hrb := hu8.keepb (heap_alloc_new w7 _) (by simp; omega)
  have a0 := cell_of_heap hra 0
  have c0 := cell_of_heap hrb 0
  simp at a0 c0
  have la := heap_lt hra
  have lb := heap_lt hrb
  clear hm8 hu8 hmm hra hrb hr8
  go_wp2_with (go_at_call 92; refine (gate_pending HG8.out).mono ?_; rintro e w9 ⟨rfl, rfl⟩)
  go_ret
  have u1 := ((HU1.out.trans HU2.out).trans HU3.out).trans HU34.out
  have u2 := u1.then HU5.out (fun i hi => .inr (by simp at hi; omega))
  have s5 := u2.size
  have u3 := (u2.trans HU56.out).then HU7.out (fun i hi => .inr (by simp at hi; omega))
  have u4 := (u3.alloc (.cells #[.int .i64 6, .int .u32 0, .int .u32 0, .int .u32 0, .int .u32 0] 39)).then HU8.out (fun i hi => .inr (by simp at hi; omega))
  exact ⟨rfl, u4⟩
end Go.Proofs.Ytbjeojcnofpgfaa
