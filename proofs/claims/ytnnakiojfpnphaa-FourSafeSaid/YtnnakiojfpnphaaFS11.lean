/- The law FourSafe: what comes at any rate. -/
import Derived.Test.YtnnakiojfpnphaaFS10
import Derived.Test.YtnnakiojfpnphaaResEq
set_option linter.unusedVariables false
set_option linter.unusedSimpArgs false
namespace Go.Proofs.Ytnnakiojfpnphaa
open Go.RowKit
def five : V4F := fun k => if k = 0 then 5 else 0
theorem run_w5 : Run (wActO 1) wTake ⟨0, 0, 0, five⟩ [0, 0, 0, 0, 0, 0, 0, 0] 5 ⟨5, 1, 1, five⟩ [1, 0, 0, 1, 0, 0, 0, 5] :=
  .step _ _ 1 1 0 0 _ 4 _ _ rfl rfl (.step _ _ 1 3 0 0 _ 3 _ _ rfl rfl (.step _ _ 2 7 5 0 _ 2 _ _ rfl rfl (.step _ _ 2 3 1 0 _ 1 _ _ rfl rfl (.step _ _ 2 0 1 0 _ 0 _ _ rfl rfl (.done _ _ rfl)))))
theorem run_r5 : Run (rActO 1) rTake ⟨0, 0, 0, fun _ => 0⟩ [1, 0, 0, 1, 0, 0, 0, 5] 4 ⟨4, 1, 1, upM (fun _ => 0) 0 5⟩ [1, 1, 0, 1, 0, 0, 0, 5] :=
  .step _ _ 1 0 0 1 _ 3 _ _ rfl rfl (.step _ _ 2 1 1 0 _ 2 _ _ rfl rfl (.step _ _ 1 3 0 1 _ 1 _ _ rfl rfl (.step _ _ 1 7 0 5 _ 0 _ _ rfl rfl (.done _ _ rfl))))
set_option maxRecDepth 100000 in
set_option maxHeartbeats 4000000 in
theorem alive13 (W : World) : Calls Try.prog 6 #[] W fun e w' => e = .returned (.bool true) ∧ Upd [] W w' := by
  have HO := Lib.hid fun (lb : Nat) (W : World) (hb : W.heap[lb]? = some (.cells #[.int .i64 2, .int .i64 0, .int .i64 1, .int .i64 0, .int .i64 0, .int .i64 0, .int .u32 0, .int .u32 0, .int .u32 0, .int .u32 0] 56 (0, 0))) => of4_c 1 (by omega) lb W hb
  have qe := eq_result
  go_enter Try.func6, Try.ntmps6
  go_wp2_with (go_at_call 21; refine Go.RowKit.Hid.out ?_)
  refine Lib.hid ?_
  refine (HO.out _ _ (by repeat (first | ((with_reducible refine heap_alloc_at _ ?_); (first | rfl | (simp; done))) | (with_reducible apply heap_drewE) | (with_reducible apply heap_grE) | (with_reducible apply heap_alloc')))).mono ?_
  rintro e w1 ⟨hu1, pb, po, pc, he, hpb, hc⟩
  obtain rfl : e = .returned (.tuple #[.slice (some ⟨pb, po, none⟩) 1 pc, .int .i64 8]) := he
  have HU1 := Lib.hid (Upd.trans (S := []) (a := W) (by repeat (first | (with_reducible exact Upd.refl _ _) | (with_reducible apply Upd.drew) | (with_reducible refine Upd.grE ?_ _) | (with_reducible refine Upd.alloc ?_ _))) hu1)
  have HC := Lib.hid hc
  clear hu1 hc
  go_wp2_with (go_at_call 24; refine Go.RowKit.Hid.out ?_)
  refine Lib.hid ?_
  refine (new_any 8 w1 (by omega)).mono ?_
  rintro e w2 ⟨mb, mg, rfl, hmb, hmg, hm, hu2⟩
  have HMB := Lib.hid (And.intro hmb hmg)
  have HM := Lib.hid (show MemX w2 mb mg 0 [0, 0, 0, 0, 0, 0, 0, 0] from ⟨0, 0, by omega, by omega, by omega, by omega, hm⟩)
  have HU2 := Lib.hid hu2
  have G := fun j v hj => (hu2.cell (p := ⟨pb, po + j, none⟩) hpb (by simp)).trans (HC.out j v hj)
  have g0 := G 0 _ rfl
  have g1 := G 1 _ rfl
  have g2 := G 2 _ rfl
  have g3 := G 3 _ rfl
  have g4 := G 4 _ rfl
  rw [Nat.add_zero] at g0
  clear hmb hmg hm hu2 G
  go_wp2_with (go_at_call 15; refine Go.RowKit.Hid.out ?_)
  refine Lib.hid ?_
  refine (fw_new 0 1 5 0 0 0 (by omega) _).mono ?_
  rintro e w3 ⟨b1, rfl, hb1, hf1, hu3⟩
  have HU3 := Lib.hid hu3
  have HB1 := Lib.hid hb1
  have HF1 := Lib.hid hf1
  clear hu3 hb1 hf1 g0 g1 g2 g3 g4
  go_wp2_with (go_at_call 25; refine Go.RowKit.Hid.out ?_)
  refine Lib.hid ?_
  have hml := HM.out.lt
  refine (alone_any (fw_rou 1 b1 (by omega)) (most := 9) (HM.out.keep HU3.out (by simp) (by simp)) (show wrAt 1 b1 ⟨0, 0, 0, five⟩ w3 from ⟨HF1.out, by simp, by simp, by simp⟩) (by have := HB1.out; simp; omega) (by have := HB1.out; simp; omega) (by omega) (by omega) (by omega) run_w5).mono ?_
  rintro e w4 ⟨he4, -, hm4, hu4⟩
  obtain rfl : e = .returned (.tuple #[.agg #[.int .i64 0, .int .u32 0, .int .u32 0, .int .u32 0, .int .u32 0], .int .i64 5, .bool true]) := he4
  have HM4 := Lib.hid hm4
  have HU4 := Lib.hid (show Upd [mb, mg] w2 w4 from (HU3.out.mono (by simp)).then hu4 (fun k hk => by have := HB1.out; simp at hk ⊢; omega))
  have G := fun j v hj => (HU4.out.cell (p := ⟨pb, po + j, none⟩) (Nat.lt_of_lt_of_le hpb HU2.out.size) (by have := HMB.out; simp; omega)).trans ((HU2.out.cell (p := ⟨pb, po + j, none⟩) hpb (by simp)).trans (HC.out j v hj))
  have g0 := G 0 _ rfl
  have g1 := G 1 _ rfl
  have g2 := G 2 _ rfl
  have g3 := G 3 _ rfl
  have g4 := G 4 _ rfl
  rw [Nat.add_zero] at g0
  have lp4 : pb < w4.heap.size := by have := HU2.out.size; have := HU4.out.size; omega
  clear hm4 hu4 G
  go_wp2_with (go_at_call 10; refine Go.RowKit.Hid.out ?_)
  refine Lib.hid ?_
  refine (fr_new 0 1 (by omega) _).mono ?_
  rintro e w5 ⟨b2, rfl, hb2, hf2, hu5⟩
  have HU5 := Lib.hid (((Upd.refl [] w4).alloc _).trans hu5)
  have HF2 := Lib.hid hf2
  have hb2' : w4.heap.size ≤ b2 := by simp at hb2; omega
  have HB2 := Lib.hid hb2'
  clear hu5 hb2 hb2' hf2 g0 g1 g2 g3 g4
  go_wp2_with (go_at_call 25; refine Go.RowKit.Hid.out ?_)
  refine Lib.hid ?_
  have hml4 := HM4.out.lt
  refine (alone_any (fr_rou 1 b2 (by omega)) (most := 9) (HM4.out.keep HU5.out (by simp) (by simp)) (show rdAt 1 b2 ⟨0, 0, 0, fun _ => 0⟩ w5 from ⟨HF2.out, by simp, by simp, by simp⟩) (by have := HB2.out; simp; omega) (by have := HB2.out; simp; omega) (by omega) (by omega) (by omega) run_r5).mono ?_
  rintro e w6 ⟨he6, -, hm6, hu6⟩
  obtain rfl : e = .returned (.tuple #[.agg #[.int .i64 0, .int .u32 5, .int .u32 0, .int .u32 0, .int .u32 0], .int .i64 4, .bool true]) := he6
  have HU6 := Lib.hid (show Upd [mb, mg] w4 w6 from (HU5.out.mono (by simp)).then hu6 (fun k hk => by have := HB2.out; simp at hk ⊢; omega))
  clear hm6 hu6
  go_wp2
  go_ret
  exact ⟨rfl, ((HU1.out.trans HU2.out).then (HU4.out.trans HU6.out) (fun k hk => by have := HMB.out; have := HU1.out.size; simp at hk; omega)).alloc _⟩
end Go.Proofs.Ytnnakiojfpnphaa
