/- The walk, part 24: FS10. -/
import Derived.Test.YtnnakiojfpnphaaZi23
import Derived.Test.YtnnakiojfpnphaaZi07
set_option linter.unusedVariables false
set_option linter.unusedSimpArgs false

namespace Go.Proofs.Ytnnakiojfpnphaa
open Go.RowKit
def rActO (wd : Nat) (r : RdS) : Option (Int × Nat × Int) := if r.n < wd + 3 then some (rAct wd r) else none
def wActO (wd : Nat) (x : WrS) : Option (Int × Nat × Int) := if x.n < wd + 4 then some (wAct wd x) else none
def rdAt (wd b : Nat) (r : RdS) (w : World) : Prop := FG 0 wd w b 84 (rdF wd r) ∧ r.n ≤ wd + 3 ∧ r.p < 2 ∧ r.i < 2
def wrAt (wd b : Nat) (x : WrS) (w : World) : Prop := FG 0 wd w b 95 (wrF wd x) ∧ x.n ≤ wd + 4 ∧ x.q < 2 ∧ x.j < 2
theorem rTake_ok {wd : Nat} {r : RdS} {g : Int} (h : r.n < wd + 3) (hp : r.p < 2) (hi : r.i < 2) : (rTake r g).n ≤ wd + 3 ∧ (rTake r g).p < 2 ∧ (rTake r g).i < 2 := by
  have := bitN_lt g
  unfold rTake
  by_cases h0 : r.n = 0
  · rw [if_pos h0]; simp only; omega
  by_cases h1 : r.n = 1
  · rw [if_neg h0, if_pos h1]; simp only; omega
  by_cases h2 : r.n = 2
  · rw [if_neg h0, if_neg h1, if_pos h2]; simp only; omega
  · rw [if_neg h0, if_neg h1, if_neg h2]; simp only; omega
theorem wTake_ok {wd : Nat} {r : WrS} {g : Int} (h : r.n < wd + 4) (hp : r.q < 2) (hi : r.j < 2) : (wTake r g).n ≤ wd + 4 ∧ (wTake r g).q < 2 ∧ (wTake r g).j < 2 := by
  have := bitN_lt g
  unfold wTake
  by_cases h0 : r.n = 0
  · rw [if_pos h0]; simp only; omega
  by_cases h1 : r.n = 1
  · rw [if_neg h0, if_pos h1]; simp only; omega
  · rw [if_neg h0, if_neg h1]; simp only; omega
theorem rd_off {wd : Nat} {r : RdS} (h : ¬ r.n < wd + 3) : (rdF wd r).on = false := by
  show decide ((r.n : Int) < wd + 3) = false
  simp; omega
theorem wr_off {wd : Nat} {w : WrS} (h : ¬ w.n < wd + 4) : (wrF wd w).on = false := by
  show decide ((w.n : Int) < wd + 4) = false
  simp; omega
theorem fr_rou (wd b : Nat) (hw : 1 ≤ wd ∧ wd ≤ 4) : Rou 38 (.pointer (some ⟨b, 0, none⟩)) [b] (rdAt wd b) (rActO wd) rTake (fun s => ⟨0, s.r 0, s.r 1, s.r 2, s.r 3⟩) 11 14 12 where
  mA := fun _ => by kernel_rfl
  mT := fun _ => by kernel_rfl
  mR := fun _ => by kernel_rfl
  cA := fun _ _ => by kernel_rfl
  cT := fun _ _ => by kernel_rfl
  cR := fun _ _ => by kernel_rfl
  keep := fun s w w' S' h hu hd => ⟨h.1.keep hu (fun hm => hd b hm (by simp)), h.2⟩
  lt := fun s w h k hk => by
    simp at hk
    subst hk
    exact heap_lt h.1.h
  more := fun s w o a x h ha => by
    unfold rActO at ha
    split at ha
    · rename_i hn
      have e := Option.some.inj ha
      have := rd_act s h.1 hw hn h.2.2.1 h.2.2.2
      rw [e] at this
      exact this
    · cases ha
  noAct := fun s w h ha => by
    unfold rActO at ha
    split at ha
    · cases ha
    · rename_i hn
      exact fr_done 0 wd h.1 (rd_off hn)
  took := fun s w o a x g h ha => by
    unfold rActO at ha
    split at ha
    · rename_i hn
      refine (rd_take s g h.1 hw hn).mono fun e w' he => ⟨he.1, ⟨he.2.1, rTake_ok hn h.2.2.1 h.2.2.2⟩, he.2.2⟩
    · cases ha
  ans := fun s w h ha => by
    unfold rActO at ha
    split at ha
    · cases ha
    · rename_i hn
      exact fr_result 0 wd h.1 (rd_off hn) rfl
theorem fw_rou (wd b : Nat) (hw : 1 ≤ wd ∧ wd ≤ 4) : Rou 37 (.pointer (some ⟨b, 0, none⟩)) [b] (wrAt wd b) (wActO wd) wTake (fun s => ⟨0, 0, 0, 0, 0⟩) 16 18 96 where
  mA := fun _ => by kernel_rfl
  mT := fun _ => by kernel_rfl
  mR := fun _ => by kernel_rfl
  cA := fun _ _ => by kernel_rfl
  cT := fun _ _ => by kernel_rfl
  cR := fun _ _ => by kernel_rfl
  keep := fun s w w' S' h hu hd => ⟨h.1.keep hu (fun hm => hd b hm (by simp)), h.2⟩
  lt := fun s w h k hk => by
    simp at hk
    subst hk
    exact heap_lt h.1.h
  more := fun s w o a x h ha => by
    unfold wActO at ha
    split at ha
    · rename_i hn
      have e := Option.some.inj ha
      have := wr_act s h.1 hw hn h.2.2.1 h.2.2.2
      rw [e] at this
      exact this
    · cases ha
  noAct := fun s w h ha => by
    unfold wActO at ha
    split at ha
    · cases ha
    · rename_i hn
      exact fw_done 0 wd h.1 (wr_off hn)
  took := fun s w o a x g h ha => by
    unfold wActO at ha
    split at ha
    · rename_i hn
      refine (wr_take s g h.1 hw hn).mono fun e w' he => ⟨he.1, ⟨he.2.1, wTake_ok hn h.2.2.1 h.2.2.2⟩, he.2.2⟩
    · cases ha
  ans := fun s w h ha => by
    unfold wActO at ha
    split at ha
    · cases ha
    · rename_i hn
      exact fw_result 0 wd h.1 (wr_off hn) rfl
set_option maxRecDepth 100000 in
set_option maxHeartbeats 2000000 in
theorem shared_c (o x : Int) (a : Nat) (ha : a < 65536) (w : World) (ho : o = 1 ∧ x = 0 ∨ o = 2) : Calls Try.prog 41 #[.agg #[.int .i64 o, .int .i64 a, .int .u32 x]] w fun e w' => e = .returned (.bool true) ∧ Upd [] w w' := by
  have HR := Lib.hid fun (w : World) => act_right o x a ha w (by omega)
  have q1 : (o == 0) = false := by simp; omega
  have q2 : (o == 6) = false := by simp; omega
  have q3 : (o != 0) = true := by simp; omega
  have q4 : (o != 6) = true := by simp; omega
  clear ha ho
  go_enter Try.func41, Try.ntmps41
  go_wp2_with (go_at_call 33; (with_reducible refine (HR.out _).mono ?_); rintro e w1 ⟨rfl, hu1⟩; obtain ⟨p1, rfl⟩ := hu1.grown; clear hu1)
  go_ret
  exact ⟨rfl, by repeat (first | (with_reducible exact Upd.refl _ _) | (with_reducible apply Upd.drew) | (with_reducible refine Upd.grE ?_ _) | (with_reducible refine Upd.alloc ?_ _))⟩
set_option maxRecDepth 100000 in
set_option maxHeartbeats 2000000 in
theorem clash_c (o x o' x' : Int) (a a' : Nat) (ha : a < 65536) (ha' : a' < 65536) (hne : a ≠ a') (w : World) (ho : o = 1 ∧ x = 0 ∨ o = 2) (ho' : o' = 1 ∧ x' = 0 ∨ o' = 2) : Calls Try.prog 17 #[.agg #[.int .i64 o, .int .i64 a, .int .u32 x], .agg #[.int .i64 o', .int .i64 a', .int .u32 x']] w fun e w' => e = .returned (.bool false) ∧ Upd [] w w' := by
  have HS := Lib.hid fun (w : World) => shared_c o x a ha w ho
  have HS' := Lib.hid fun (w : World) => shared_c o' x' a' ha' w ho'
  have q1 : ((a : Int) == (a' : Int)) = false := by simp; omega
  have q2 : (a == a') = false := by simpa using hne
  clear ha ha' hne ho ho'
  go_enter Try.func17, Try.ntmps17
  go_wp2_with (go_at_call 41; first | ((with_reducible refine (HS.out _).mono ?_); rintro e w1 ⟨rfl, hu1⟩; obtain ⟨p1, rfl⟩ := hu1.grown; clear hu1) | ((with_reducible refine (HS'.out _).mono ?_); rintro e w1 ⟨rfl, hu1⟩; obtain ⟨p1, rfl⟩ := hu1.grown; clear hu1))
  go_ret
  exact ⟨rfl, by repeat (first | (with_reducible exact Upd.refl _ _) | (with_reducible apply Upd.drew) | (with_reducible refine Upd.grE ?_ _) | (with_reducible refine Upd.alloc ?_ _))⟩
theorem size4 (wd : Nat) (hw : 1 ≤ wd ∧ wd ≤ 4) : sumS [⟨2, 0, wd, 0, 0, 0, 0, 0, 0, 0⟩] = ((4 + 4 * wd : Nat) : Int) ∧ pls 0 [⟨2, 0, wd, 0, 0, 0, 0, 0, 0, 0⟩] = [⟨2, 0, 0, wd, 0⟩] := by
  have hr := right4 (wd : Int) (by omega)
  constructor
  · simp only [sumS, OBJ.size, sizeP, hr, if_true, aheadP, roomsP]
    simp
  · simp [pls, plOf, hr]
/-- site.Of, of one register. -/
theorem of4_c (wd : Nat) (hw : 1 ≤ wd ∧ wd ≤ 4) (lb : Nat) (W : World) {ty : TypeId} (hb : W.heap[lb]? = some (.cells #[.int .i64 2, .int .i64 0, .int .i64 wd, .int .i64 0, .int .i64 0, .int .i64 0, .int .u32 0, .int .u32 0, .int .u32 0, .int .u32 0] ty (0, 0))) :
    Calls Try.prog 21 #[.slice (some ⟨lb, 0, none⟩) 1 1] W fun e w' => Upd [] W w' ∧ ∃ pb po pc, e = .returned (.tuple #[.slice (some ⟨pb, po, none⟩) 1 pc, .int .i64 ((4 + 4 * wd : Nat) : Int)]) ∧ pb < w'.heap.size ∧ (∀ j v, [Value.int .i64 2, .int .i64 0, .int .i64 0, .int .i64 wd, .int .i64 0][j]? = some v → w'.cell? ⟨pb, po + j, none⟩ = some v) := by
  have h := sof_c (W := W) (oa := some ⟨lb, 0, none⟩) (l := [⟨2, 0, wd, 0, 0, 0, 0, 0, 0, 0⟩]) 1 (fun _ => ⟨lb, 0, rfl, heap_lt hb, fun i hi j v hv => by
    obtain rfl : i = 0 := by simpa using hi
    rw [cell_of_heap hb]
    simpa [OBJ.cells, obA] using hv⟩) (by simp)
  rw [(size4 wd hw).1, (size4 wd hw).2] at h
  refine h.mono fun e w' ⟨hu, va, vc, he, hel⟩ => ⟨hu, ?_⟩
  obtain ⟨pb, po, rfl, hpb, hc⟩ := hel (by simp)
  refine ⟨pb, po, vc, he, hpb, fun j v hj => ?_⟩
  have := hc 0 (by simp) j v hj
  simpa using this
set_option maxRecDepth 100000 in
set_option maxHeartbeats 2000000 in
theorem place13 (wd : Nat) (hw : 1 ≤ wd ∧ wd ≤ 4) (w : World) : Calls Try.prog 7 #[.int .i64 wd] w fun e w' => e = .returned (.tuple #[.agg #[.int .i64 2, .int .i64 0, .int .i64 0, .int .i64 wd, .int .i64 0], .int .i64 ((4 + 4 * wd : Nat) : Int)]) ∧ Upd [] w w' := by
  have HO := Lib.hid fun (lb : Nat) (W : World) (hb : W.heap[lb]? = some (.cells #[.int .i64 2, .int .i64 0, .int .i64 wd, .int .i64 0, .int .i64 0, .int .i64 0, .int .u32 0, .int .u32 0, .int .u32 0, .int .u32 0] 56 (0, 0))) => of4_c wd hw lb W hb
  clear hw
  generalize ((4 + 4 * wd : Nat) : Int) = N at *
  go_enter Try.func7, Try.ntmps7
  go_wp2_with (go_at_call 21; refine Go.RowKit.Hid.out ?_)
  refine Lib.hid ?_
  refine (HO.out _ _ (by repeat (first | ((with_reducible refine heap_alloc_at _ ?_); (first | rfl | (simp; done))) | (with_reducible apply heap_drewE) | (with_reducible apply heap_grE) | (with_reducible apply heap_alloc')))).mono ?_
  rintro e w1 ⟨hu1, pb, po, pc, rfl, hpb, hc⟩
  have g0 := hc 0 _ rfl
  have g1 := hc 1 _ rfl
  have g2 := hc 2 _ rfl
  have g3 := hc 3 _ rfl
  have g4 := hc 4 _ rfl
  rw [Nat.add_zero] at g0
  have hz := hu1.keepb (k := w.heap.size) (o := .cells #[.int .i64 0, .int .i64 0, .int .i64 0, .int .i64 0, .int .i64 0] 27 (0, 0)) (by repeat (first | ((with_reducible refine heap_alloc_at _ ?_); (first | rfl | (simp; done))) | (with_reducible apply heap_drewE) | (with_reducible apply heap_grE) | (with_reducible apply heap_alloc'))) (by simp)
  have HZ := Lib.hid hz
  obtain ⟨z0, z1, z2, z3, z4⟩ := cells5p hz
  have zf := frozen_of_heap hz
  have zl := heap_lt hz
  have HU1 := Lib.hid (Upd.trans (S := []) (a := w) (by repeat (first | (with_reducible exact Upd.refl _ _) | (with_reducible apply Upd.drew) | (with_reducible refine Upd.grE ?_ _) | (with_reducible refine Upd.alloc ?_ _))) hu1)
  clear hu1 hc hz
  go_wp2
  refine bodyPost_ret (results_cell_tmp rfl _ _ w.heap.size 27 #[.int .i64 2, .int .i64 0, .int .i64 0, .int .i64 wd, .int .i64 0] (0, 0) _ (.int .i64 N) rfl rfl (heap_set2c (heap_set2c (heap_set2c (heap_set2c (heap_set2c HZ.out rfl) rfl) rfl) rfl) rfl) Try.underlying27 rfl (by kernel_rfl)) rfl ?_
  exact ⟨rfl, HU1.out.then (S' := [w.heap.size]) (by repeat (first | (with_reducible exact Upd.refl _ _) | (with_reducible refine Upd.setB ?_ (.inl (by simp))))) (by simp)⟩
end Go.Proofs.Ytnnakiojfpnphaa
