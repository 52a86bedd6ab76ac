/- The walk, part 23: FS9. -/
import Derived.Test.YtnnakiojfpnphaaZi22
set_option linter.unusedVariables false
set_option linter.unusedSimpArgs false

namespace Go.Proofs.Ytnnakiojfpnphaa
open Go.RowKit
theorem eq_int9 (n : Nat) (w : World) (x y : Int) : (Op.equalIn (n + 1) 3 (.int .i64 x) (.int .i64 y)).run Try.prog w = .ok (x == y) w := run_equalIn_int w n _ .i64 .i64 x y Try.underlying3
theorem eqin_part (w : World) (a b c a' b' c' : Int) : (Op.equalIn 10000 108 (.agg #[.int .i64 a, .int .i64 b, .int .i64 c]) (.agg #[.int .i64 a', .int .i64 b', .int .i64 c'])).run Try.prog w = .ok ((a == a') && ((b == b') && ((c == c') && true))) w :=
  eqIn_struct (by kernel_rfl) (by kernel_rfl) (l := [("Part", 3, 0), ("I", 3, 1), ("W", 3, 2)]) (by kernel_rfl) (.cons rfl (by kernel_rfl) (by kernel_rfl) (eq_int9 _ _ _ _) (.cons rfl (by kernel_rfl) (by kernel_rfl) (eq_int9 _ _ _ _) (.cons rfl (by kernel_rfl) (by kernel_rfl) (eq_int9 _ _ _ _) .nil)))
theorem eq_part (w : World) (a b c a' b' c' : Int) : (binOp .eql 108 (.agg #[.int .i64 a, .int .i64 b, .int .i64 c]) (.agg #[.int .i64 a', .int .i64 b', .int .i64 c'])).run Try.prog w = .ok (.bool ((a == a') && ((b == b') && ((c == c') && true)))) w := eql_struct (eqin_part ..)
theorem robj_c (k a cap wd rt : Int) (w : World) : Calls Try.prog 53 #[.agg #[.int .i64 k, .int .i64 a, .int .i64 cap, .int .i64 wd, .int .i64 rt]] w fun e w' => e = .returned (.agg #[.int .i64 k, .int .i64 cap, .int .i64 wd, .int .i64 rt, .int .i64 0, .int .i64 0, .int .u32 0, .int .u32 0, .int .u32 0, .int .u32 0]) ∧ Upd [] w w' := by
  go_enter Try.func53, Try.ntmps53
  go_wp2
  refine bodyPost_ret (v := .agg #[.int .i64 k, .int .i64 cap, .int .i64 wd, .int .i64 rt, .int .i64 0, .int .i64 0, .int .u32 0, .int .u32 0, .int .u32 0, .int .u32 0]) (by simp [results, Try.results53, go_sem]) rfl ?_
  exact ⟨rfl, by repeat (first | (with_reducible exact Upd.refl _ _) | (with_reducible apply Upd.drew) | (with_reducible refine Upd.alloc ?_ _))⟩
theorem part_ne {x y : Int × Int × Int} (h : x ≠ y) : ((x.1 == y.1) && ((x.2.1 == y.2.1) && ((x.2.2 == y.2.2) && true))) = false := by
  obtain ⟨a, b, c⟩ := x
  obtain ⟨a', b', c'⟩ := y
  simp only [ne_eq, Prod.mk.injEq] at h
  by_cases h1 : a = a' <;> by_cases h2 : b = b' <;> by_cases h3 : c = c' <;> simp_all
section
variable (wd : Nat) (k : Nat) (W : World)
set_option maxRecDepth 100000 in
set_option maxHeartbeats 4000000 in
theorem rcell_latest (hw : 1 ≤ wd ∧ wd ≤ 4) (hk : (parts4 wd)[k]? = some (4, 0, 0)) (hno : ∀ j, j < k → (parts4 wd)[j]? ≠ some (4, 0, 0)) : Calls Try.prog 27 #[.agg #[.int .i64 2, .int .i64 0, .int .i64 0, .int .i64 wd, .int .i64 0], .int .i64 4, .int .i64 0, .int .i64 0] W fun e w' => e = .returned (.int .i64 k) ∧ Upd [] W w' := by
  (
      have HP := Lib.hid fun (w : World) => parts4_c wd w hw
      have HO := Lib.hid fun (w : World) => robj_c 2 0 0 wd 0 w
      have HW := Lib.hid hw
      have HKT := Lib.hid hk
      have HNO := Lib.hid hno
      have qe := eq_part
      have hpl : (parts4 wd).length ≤ 20 := by rw [parts4_len]; omega
      have HPL := Lib.hid hpl
      have hkl : k < (parts4 wd).length := (List.getElem?_eq_some_iff.1 hk).1
      have HKL := Lib.hid hkl
      clear hw hk hno hpl hkl
      go_enter Try.func27, Try.ntmps27
      go_wp2_with (first
        | (go_at_call 53; (with_reducible refine (HO.out _).mono ?_); rintro e w1 ⟨rfl, hu1⟩; obtain ⟨p1, rfl⟩ := hu1.grown; clear hu1)
        | (go_at_call 52; refine Go.RowKit.Hid.out ?_))
      refine Lib.hid ?_
      refine (HP.out _).mono ?_
      rintro e w1 ⟨hu1, va, vc, rfl, hel⟩
      have HE := Lib.hid hel
      have HC := Lib.hid (hu1.keepb (k := W.heap.size) (o := .cells #[.int .i64 2, .int .i64 0, .int .i64 0, .int .i64 wd, .int .i64 0] 36 (0, 0)) (by repeat (first | ((with_reducible refine heap_alloc_at _ ?_); (first | rfl | (simp; done))) | (with_reducible apply heap_drewE) | (with_reducible apply heap_grE) | (with_reducible apply heap_alloc'))) (by simp))
      have HU1 := Lib.hid (Upd.trans (S := []) (a := W) (by repeat (first | (with_reducible exact Upd.refl _ _) | (with_reducible apply Upd.drew) | (with_reducible refine Upd.grE ?_ _) | (with_reducible refine Upd.alloc ?_ _))) hu1)
      clear hu1 hel
      go_wp2
      go_loopg [10] (k + 1) (fun n s10 wr => ∃ j : Nat, n + j = k + 1 ∧ j ≤ k ∧ s10 = .int .i64 j ∧ Upd [] w1 wr)
      case atStart => exact ⟨0, by omega, by omega, rfl, Upd.refl _ _⟩
      case round =>
        obtain ⟨j, hj, hjk, rfl, hu⟩ := hrel
        have HJ := Lib.hid hj
        have HU := Lib.hid hu
        have hlt : j < (parts4 wd).length := by have := HKL.out; omega
        obtain ⟨b, off, rfl, hb, hc⟩ := els_at HE.out hlt
        have G := fun m v hm => (HU.out.cell (p := ⟨b, off + j * 3 + m, none⟩) hb (by simp)).trans (hc m v hm)
        have g0 := G 0 _ rfl
        have g1 := G 1 _ rfl
        have g2 := G 2 _ rfl
        rw [Nat.add_zero] at g0
        obtain ⟨c0, c1, -, -, -⟩ := cells5p (HU.out.keepb HC.out (by simp))
        have i1 : (0 : Int) ≤ (j : Int) := by omega
        have i2 : (j : Int) < ((parts4 wd).length : Int) := by omega
        have HWJ := Lib.hid (show wrap64 ((j : Int) + 1) = ((j + 1 : Nat) : Int) from wrap_next (l := (parts4 wd).length) (by have := HPL.out; omega) hlt)
        have hwk : wrap64 (0 + (j : Int)) = (j : Int) := by unfold wrap64; have := HPL.out; omega
        have hwk2 : wrap64 (j : Int) = (j : Int) := by unfold wrap64; have := HPL.out; omega
        have HJK := Lib.hid hjk
        by_cases e : j = k
        · have hx : (parts4 wd)[j] = (4, 0, 0) := by
            subst e
            have := HKT.out
            rw [List.getElem?_eq_getElem hlt] at this
            exact Option.some.inj this
          rw [hx] at g0 g1 g2
          subst e
          clear hj hu hlt hc G hx hb hjk
          go_wp2
          go_ret
          exact ⟨rfl, HU1.out.trans HU.out⟩
        · have hx : (parts4 wd)[j] ≠ (4, 0, 0) := fun h => HNO.out j (by omega) (by rw [List.getElem?_eq_getElem hlt, h])
          have hne := part_ne hx
          have HEJ := Lib.hid e
          generalize (parts4 wd)[j] = z at *
          obtain ⟨z1, z2, z3⟩ := z
          simp only at g0 g1 g2 hne
          generalize hq : ((z1 == 4) && ((z2 == 0) && ((z3 == 0) && true))) = q at hne
          have qe2 := fun w => eq_part w z1 z2 z3 4 0 0
          simp only [hq, hne] at qe2
          clear qe hj hu hlt hc G hx hb hjk e hne hq
          go_wp2
          go_roundg (k + 1 - (j + 1))
          case rel => exact ⟨j + 1, by have := HJK.out; have := HEJ.out; omega, by have := HJK.out; have := HEJ.out; omega, by first | (rw [HWJ.out]; done) | (simp; done), HU.out⟩
          case measure => have := HJ.out; have := HJK.out; omega)
set_option maxRecDepth 100000 in
set_option maxHeartbeats 4000000 in
theorem rcell_slot (x : Int) (hw : 1 ≤ wd ∧ wd ≤ 4) (hk : (parts4 wd)[k]? = some (6, x, 0)) (hno : ∀ j, j < k → (parts4 wd)[j]? ≠ some (6, x, 0)) : Calls Try.prog 27 #[.agg #[.int .i64 2, .int .i64 0, .int .i64 0, .int .i64 wd, .int .i64 0], .int .i64 6, .int .i64 x, .int .i64 0] W fun e w' => e = .returned (.int .i64 k) ∧ Upd [] W w' := by
  (
      have HP := Lib.hid fun (w : World) => parts4_c wd w hw
      have HO := Lib.hid fun (w : World) => robj_c 2 0 0 wd 0 w
      have HW := Lib.hid hw
      have HKT := Lib.hid hk
      have HNO := Lib.hid hno
      have qe := eq_part
      have hpl : (parts4 wd).length ≤ 20 := by rw [parts4_len]; omega
      have HPL := Lib.hid hpl
      have hkl : k < (parts4 wd).length := (List.getElem?_eq_some_iff.1 hk).1
      have HKL := Lib.hid hkl
      clear hw hk hno hpl hkl
      go_enter Try.func27, Try.ntmps27
      go_wp2_with (first
        | (go_at_call 53; (with_reducible refine (HO.out _).mono ?_); rintro e w1 ⟨rfl, hu1⟩; obtain ⟨p1, rfl⟩ := hu1.grown; clear hu1)
        | (go_at_call 52; refine Go.RowKit.Hid.out ?_))
      refine Lib.hid ?_
      refine (HP.out _).mono ?_
      rintro e w1 ⟨hu1, va, vc, rfl, hel⟩
      have HE := Lib.hid hel
      have HC := Lib.hid (hu1.keepb (k := W.heap.size) (o := .cells #[.int .i64 2, .int .i64 0, .int .i64 0, .int .i64 wd, .int .i64 0] 36 (0, 0)) (by repeat (first | ((with_reducible refine heap_alloc_at _ ?_); (first | rfl | (simp; done))) | (with_reducible apply heap_drewE) | (with_reducible apply heap_grE) | (with_reducible apply heap_alloc'))) (by simp))
      have HU1 := Lib.hid (Upd.trans (S := []) (a := W) (by repeat (first | (with_reducible exact Upd.refl _ _) | (with_reducible apply Upd.drew) | (with_reducible refine Upd.grE ?_ _) | (with_reducible refine Upd.alloc ?_ _))) hu1)
      clear hu1 hel
      go_wp2
      go_loopg [10] (k + 1) (fun n s10 wr => ∃ j : Nat, n + j = k + 1 ∧ j ≤ k ∧ s10 = .int .i64 j ∧ Upd [] w1 wr)
      case atStart => exact ⟨0, by omega, by omega, rfl, Upd.refl _ _⟩
      case round =>
        obtain ⟨j, hj, hjk, rfl, hu⟩ := hrel
        have HJ := Lib.hid hj
        have HU := Lib.hid hu
        have hlt : j < (parts4 wd).length := by have := HKL.out; omega
        obtain ⟨b, off, rfl, hb, hc⟩ := els_at HE.out hlt
        have G := fun m v hm => (HU.out.cell (p := ⟨b, off + j * 3 + m, none⟩) hb (by simp)).trans (hc m v hm)
        have g0 := G 0 _ rfl
        have g1 := G 1 _ rfl
        have g2 := G 2 _ rfl
        rw [Nat.add_zero] at g0
        obtain ⟨c0, c1, -, -, -⟩ := cells5p (HU.out.keepb HC.out (by simp))
        have i1 : (0 : Int) ≤ (j : Int) := by omega
        have i2 : (j : Int) < ((parts4 wd).length : Int) := by omega
        have HWJ := Lib.hid (show wrap64 ((j : Int) + 1) = ((j + 1 : Nat) : Int) from wrap_next (l := (parts4 wd).length) (by have := HPL.out; omega) hlt)
        have hwk : wrap64 (0 + (j : Int)) = (j : Int) := by unfold wrap64; have := HPL.out; omega
        have hwk2 : wrap64 (j : Int) = (j : Int) := by unfold wrap64; have := HPL.out; omega
        have HJK := Lib.hid hjk
        by_cases e : j = k
        · have hx : (parts4 wd)[j] = (6, x, 0) := by
            subst e
            have := HKT.out
            rw [List.getElem?_eq_getElem hlt] at this
            exact Option.some.inj this
          rw [hx] at g0 g1 g2
          subst e
          clear hj hu hlt hc G hx hb hjk
          go_wp2
          go_ret
          exact ⟨rfl, HU1.out.trans HU.out⟩
        · have hx : (parts4 wd)[j] ≠ (6, x, 0) := fun h => HNO.out j (by omega) (by rw [List.getElem?_eq_getElem hlt, h])
          have hne := part_ne hx
          have HEJ := Lib.hid e
          generalize (parts4 wd)[j] = z at *
          obtain ⟨z1, z2, z3⟩ := z
          simp only at g0 g1 g2 hne
          generalize hq : ((z1 == 6) && ((z2 == x) && ((z3 == 0) && true))) = q at hne
          have qe2 := fun w => eq_part w z1 z2 z3 6 x 0
          simp only [hq, hne] at qe2
          clear qe hj hu hlt hc G hx hb hjk e hne hq
          go_wp2
          go_roundg (k + 1 - (j + 1))
          case rel => exact ⟨j + 1, by have := HJK.out; have := HEJ.out; omega, by have := HJK.out; have := HEJ.out; omega, by first | (rw [HWJ.out]; done) | (simp; done), HU.out⟩
          case measure => have := HJ.out; have := HJK.out; omega)
set_option maxRecDepth 100000 in
set_option maxHeartbeats 4000000 in
theorem rcell_data (x v : Int) (hw : 1 ≤ wd ∧ wd ≤ 4) (hk : (parts4 wd)[k]? = some (3, x, v)) (hno : ∀ j, j < k → (parts4 wd)[j]? ≠ some (3, x, v)) : Calls Try.prog 27 #[.agg #[.int .i64 2, .int .i64 0, .int .i64 0, .int .i64 wd, .int .i64 0], .int .i64 3, .int .i64 x, .int .i64 v] W fun e w' => e = .returned (.int .i64 k) ∧ Upd [] W w' := by
  (
      have HP := Lib.hid fun (w : World) => parts4_c wd w hw
      have HO := Lib.hid fun (w : World) => robj_c 2 0 0 wd 0 w
      have HW := Lib.hid hw
      have HKT := Lib.hid hk
      have HNO := Lib.hid hno
      have qe := eq_part
      have hpl : (parts4 wd).length ≤ 20 := by rw [parts4_len]; omega
      have HPL := Lib.hid hpl
      have hkl : k < (parts4 wd).length := (List.getElem?_eq_some_iff.1 hk).1
      have HKL := Lib.hid hkl
      clear hw hk hno hpl hkl
      go_enter Try.func27, Try.ntmps27
      go_wp2_with (first
        | (go_at_call 53; (with_reducible refine (HO.out _).mono ?_); rintro e w1 ⟨rfl, hu1⟩; obtain ⟨p1, rfl⟩ := hu1.grown; clear hu1)
        | (go_at_call 52; refine Go.RowKit.Hid.out ?_))
      refine Lib.hid ?_
      refine (HP.out _).mono ?_
      rintro e w1 ⟨hu1, va, vc, rfl, hel⟩
      have HE := Lib.hid hel
      have HC := Lib.hid (hu1.keepb (k := W.heap.size) (o := .cells #[.int .i64 2, .int .i64 0, .int .i64 0, .int .i64 wd, .int .i64 0] 36 (0, 0)) (by repeat (first | ((with_reducible refine heap_alloc_at _ ?_); (first | rfl | (simp; done))) | (with_reducible apply heap_drewE) | (with_reducible apply heap_grE) | (with_reducible apply heap_alloc'))) (by simp))
      have HU1 := Lib.hid (Upd.trans (S := []) (a := W) (by repeat (first | (with_reducible exact Upd.refl _ _) | (with_reducible apply Upd.drew) | (with_reducible refine Upd.grE ?_ _) | (with_reducible refine Upd.alloc ?_ _))) hu1)
      clear hu1 hel
      go_wp2
      go_loopg [10] (k + 1) (fun n s10 wr => ∃ j : Nat, n + j = k + 1 ∧ j ≤ k ∧ s10 = .int .i64 j ∧ Upd [] w1 wr)
      case atStart => exact ⟨0, by omega, by omega, rfl, Upd.refl _ _⟩
      case round =>
        obtain ⟨j, hj, hjk, rfl, hu⟩ := hrel
        have HJ := Lib.hid hj
        have HU := Lib.hid hu
        have hlt : j < (parts4 wd).length := by have := HKL.out; omega
        obtain ⟨b, off, rfl, hb, hc⟩ := els_at HE.out hlt
        have G := fun m v hm => (HU.out.cell (p := ⟨b, off + j * 3 + m, none⟩) hb (by simp)).trans (hc m v hm)
        have g0 := G 0 _ rfl
        have g1 := G 1 _ rfl
        have g2 := G 2 _ rfl
        rw [Nat.add_zero] at g0
        obtain ⟨c0, c1, -, -, -⟩ := cells5p (HU.out.keepb HC.out (by simp))
        have i1 : (0 : Int) ≤ (j : Int) := by omega
        have i2 : (j : Int) < ((parts4 wd).length : Int) := by omega
        have HWJ := Lib.hid (show wrap64 ((j : Int) + 1) = ((j + 1 : Nat) : Int) from wrap_next (l := (parts4 wd).length) (by have := HPL.out; omega) hlt)
        have hwk : wrap64 (0 + (j : Int)) = (j : Int) := by unfold wrap64; have := HPL.out; omega
        have hwk2 : wrap64 (j : Int) = (j : Int) := by unfold wrap64; have := HPL.out; omega
        have HJK := Lib.hid hjk
        by_cases e : j = k
        · have hx : (parts4 wd)[j] = (3, x, v) := by
            subst e
            have := HKT.out
            rw [List.getElem?_eq_getElem hlt] at this
            exact Option.some.inj this
          rw [hx] at g0 g1 g2
          subst e
          clear hj hu hlt hc G hx hb hjk
          go_wp2
          go_ret
          exact ⟨rfl, HU1.out.trans HU.out⟩
        · have hx : (parts4 wd)[j] ≠ (3, x, v) := fun h => HNO.out j (by omega) (by rw [List.getElem?_eq_getElem hlt, h])
          have hne := part_ne hx
          have HEJ := Lib.hid e
          generalize (parts4 wd)[j] = z at *
          obtain ⟨z1, z2, z3⟩ := z
          simp only at g0 g1 g2 hne
          generalize hq : ((z1 == 3) && ((z2 == x) && ((z3 == v) && true))) = q at hne
          have qe2 := fun w => eq_part w z1 z2 z3 3 x v
          simp only [hq, hne] at qe2
          clear qe hj hu hlt hc G hx hb hjk e hne hq
          go_wp2
          go_roundg (k + 1 - (j + 1))
          case rel => exact ⟨j + 1, by have := HJK.out; have := HEJ.out; omega, by have := HJK.out; have := HEJ.out; omega, by first | (rw [HWJ.out]; done) | (simp; done), HU.out⟩
          case measure => have := HJ.out; have := HJK.out; omega)
end
def firstAt (l : List (Int × Int × Int)) (k : Nat) (t : Int × Int × Int) : Bool := (l[k]? == some t) && (l.take k).all fun y => y != t
theorem firstAt_spec {l : List (Int × Int × Int)} {k : Nat} {t : Int × Int × Int} (h : firstAt l k t = true) : l[k]? = some t ∧ ∀ j, j < k → l[j]? ≠ some t := by
  unfold firstAt at h
  simp only [Bool.and_eq_true, beq_iff_eq, List.all_eq_true] at h
  refine ⟨h.1, fun j hj he => ?_⟩
  have hm : t ∈ l.take k := by
    obtain ⟨hl, rfl⟩ := List.getElem?_eq_some_iff.1 he
    exact List.mem_take_iff_getElem.2 ⟨j, by omega, rfl⟩
  have := h.2 t hm
  simp at this
theorem parts4_latest (wd : Nat) : firstAt (parts4 wd) 0 (4, 0, 0) = true := rfl
theorem parts4_slot (wd x : Nat) (hx : x < 2) : firstAt (parts4 wd) (2 + x) (6, (x : Int), 0) = true := by
  have hc : x = 0 ∨ x = 1 := by omega
  rcases hc with rfl | rfl <;> rfl
theorem parts4_data (wd x v : Nat) (hw : 1 ≤ wd ∧ wd ≤ 4) (hx : x < 4) (hv : v < wd) : firstAt (parts4 wd) (4 + x * wd + v) (3, (x : Int), (v : Int)) = true := by
  have key : ∀ x : Fin 4, (∀ v : Fin 1, firstAt (parts4 1) (4 + x.val * 1 + v.val) (3, (x.val : Int), (v.val : Int)) = true) ∧ (∀ v : Fin 2, firstAt (parts4 2) (4 + x.val * 2 + v.val) (3, (x.val : Int), (v.val : Int)) = true) ∧ (∀ v : Fin 3, firstAt (parts4 3) (4 + x.val * 3 + v.val) (3, (x.val : Int), (v.val : Int)) = true) ∧ (∀ v : Fin 4, firstAt (parts4 4) (4 + x.val * 4 + v.val) (3, (x.val : Int), (v.val : Int)) = true) := by decide
  have h := key ⟨x, hx⟩
  have hc : wd = 1 ∨ wd = 2 ∨ wd = 3 ∨ wd = 4 := by omega
  rcases hc with rfl | rfl | rfl | rfl
  · exact h.1 ⟨v, hv⟩
  · exact h.2.1 ⟨v, hv⟩
  · exact h.2.2.1 ⟨v, hv⟩
  · exact h.2.2.2 ⟨v, hv⟩
/-- What lies in the slot that is told to be the latest. -/
def nowV (wd : Nat) (xs : List Int) (k : Nat) : Int := slotV wd (fun k => xs.getD k 0) (bitN (xs.getD 0 0)) (sBit (fun k => xs.getD k 0) (bitN (xs.getD 0 0))) k
theorem rbit_c (g : Int) (hg : 0 ≤ g) (w : World) : Calls Try.prog 26 #[.int .u32 g] w fun e w' => e = .returned (.int .i64 (bitN g)) ∧ w = w' := by
  go_enter Try.func26, Try.ntmps26
  go_wp2
  go_ret
  exact ⟨congrArg (fun x => Ending.returned (.int .i64 x)) (by unfold bitN; omega), rfl⟩
def cutV (w : Nat) (f : Nat → Int) (k : Nat) : Int := if k < w then f k else 0
def val4 (f : Nat → Int) : Value := .agg #[.int .u32 (f 0), .int .u32 (f 1), .int .u32 (f 2), .int .u32 (f 3)]
theorem info_val4 (a b c d : Value) : (Try.prog.info? 34).map (·.size) = some (#[a, b, c, d] : Array Value).size := by kernel_rfl
set_option maxRecDepth 100000 in
set_option maxHeartbeats 4000000 in
theorem rnow_c (wd : Nat) (la : Option Addr) (lc : Nat) (xs : List Int) (W : World) (hw : 1 ≤ wd ∧ wd ≤ 4) (hx : xs.length = 4 + 4 * wd) (hr : Reads W la xs.length (u32s xs)) (hp : ∀ x ∈ xs, 0 ≤ x) :
    Calls Try.prog 9 #[.agg #[.int .i64 2, .int .i64 0, .int .i64 0, .int .i64 wd, .int .i64 0], .slice la xs.length lc] W fun e w' => e = .returned (val4 (nowV wd xs)) ∧ Upd [] W w' := by
  obtain ⟨lb, lo, rfl, hlb, hlc⟩ := hr.2 (by omega)
  have hxc : ∀ k, k < xs.length → ∀ w', Upd [] W w' → w'.cell? ⟨lb, lo + k, none⟩ = some (.int .u32 (xs.getD k 0)) := fun k hk w' hu => (hu.cell (p := ⟨lb, lo + k, none⟩) hlb (by simp)).trans (hlc k _ (by simp [u32s, List.getD_eq_getElem?_getD, List.getElem?_eq_getElem hk]))
  have hnn : ∀ k, 0 ≤ xs.getD k 0 := fun k => by
    rw [List.getD_eq_getElem?_getD]
    by_cases hk : k < xs.length
    · rw [List.getElem?_eq_getElem hk]; exact hp _ (List.getElem_mem hk)
    · rw [List.getElem?_eq_none (by omega)]; exact Int.le_refl _
  have HXC := Lib.hid hxc
  have HP0 := Lib.hid (fun (w : World) => (show Calls Try.prog 27 #[.agg #[.int .i64 2, .int .i64 0, .int .i64 0, .int .i64 wd, .int .i64 0], .int .i64 4, .int .i64 0, .int .i64 0] w fun e w' => e = .returned (.int .i64 0) ∧ Upd [] w w' from rcell_latest wd 0 w hw (firstAt_spec (parts4_latest wd)).1 (firstAt_spec (parts4_latest wd)).2))
  have HB0 := Lib.hid (fun (w : World) => rbit_c (xs.getD 0 0) (hnn 0) w)
  have hpl := bitN_lt (xs.getD 0 0)
  have hnw : ∀ k, nowV wd xs k = cutV wd (fun k => xs.getD (fidx wd (bitN (xs.getD 0 0)) (bitN (xs.getD (2 + bitN (xs.getD 0 0)) 0)) k) 0) k := fun k => rfl
  generalize bitN (xs.getD 0 0) = p at *
  have HP1 := Lib.hid (fun (w : World) => rcell_slot wd (2 + p) w p hw (firstAt_spec (parts4_slot wd p hpl)).1 (firstAt_spec (parts4_slot wd p hpl)).2)
  have HB1 := Lib.hid (fun (w : World) => rbit_c (xs.getD (2 + p) 0) (hnn _) w)
  have hil := bitN_lt (xs.getD (2 + p) 0)
  generalize bitN (xs.getD (2 + p) 0) = i at *
  have HP2 := Lib.hid (fun (w : World) (k : Nat) (hk : k < wd) => rcell_data wd (4 + (2 * p + i) * wd + k) w ((2 * p + i : Nat) : Int) k hw (firstAt_spec (parts4_data wd (2 * p + i) k hw (by omega) hk)).1 (firstAt_spec (parts4_data wd (2 * p + i) k hw (by omega) hk)).2)
  have hfl : ∀ k, k < wd → fidx wd p i k < xs.length := fun k hk => by rw [hx]; exact fidx_lt hpl hil hk
  have hfe : ∀ k, 4 + (2 * p + i) * wd + k = fidx wd p i k := fun k => rfl
  simp only [hfe] at HP2
  have w1 : wrap64 (2 * (p : Int)) = 2 * (p : Int) := by unfold wrap64; omega
  have w2 : wrap64 (2 * (p : Int) + i) = ((2 * p + i : Nat) : Int) := by unfold wrap64; omega
  have HFL := Lib.hid hfl
  have HN := Lib.hid hnw
  have HW := Lib.hid hw
  have HX := Lib.hid hx
  have z0 := hxc 0 (by omega) W (Upd.refl _ _)
  rw [Nat.add_zero] at z0
  have b0 : (0 : Int) < (xs.length : Int) := by omega
  have b1 : (2 : Int) + (p : Int) < (xs.length : Int) := by omega
  have e2 : ((2 + p : Nat) : Int) = 2 + (p : Int) := by omega
  have HZ1 := Lib.hid (hxc (2 + p) (by omega))
  generalize fidx wd p i = F at *
  generalize hD : (fun k => xs.getD (F k) 0) = D at *
  have HD := Lib.hid (fun (k : Nat) (hk : k < wd) (w' : World) (hu : Upd [] W w') => (show w'.cell? ⟨lb, lo + F k, none⟩ = some (.int .u32 (D k)) by rw [← hD]; exact hxc (F k) (hfl k hk) w' hu))
  generalize xs.getD 0 0 = y0 at *
  generalize xs.getD (2 + p) 0 = y1 at *
  clear hr hp hlc hxc hnn hpl hil hfe hfl hnw hw hx HXC hD
  go_enter Try.func9, Try.ntmps9
  go_wp2_with (first
    | (go_at_call 26; first | ((with_reducible refine (HB0.out _).mono ?_); rintro e w2 ⟨rfl, rfl⟩) | ((with_reducible refine (HB1.out _).mono ?_); rintro e w2 ⟨rfl, rfl⟩))
    | (go_at_call 27; first | ((with_reducible refine (HP0.out _).mono ?_); rintro e w3 ⟨rfl, hu3⟩; obtain ⟨p3, rfl⟩ := hu3.grown; clear hu3) | ((with_reducible refine (HP1.out _).mono ?_); rintro e w4 ⟨rfl, hu4⟩; obtain ⟨p4, rfl⟩ := hu4.grown; clear hu4; rw [e2]; have z1 := HZ1.out W (Upd.refl _ _))))
  have HB0' := Lib.hid (show ((gr ((W.alloc (.cells #[.int .i64 2, .int .i64 0, .int .i64 0, .int .i64 wd, .int .i64 0] 36)).alloc (.cells #[.int .u32 0, .int .u32 0, .int .u32 0, .int .u32 0] 34)) ⟨p4.d, p3.os ++ p4.os⟩).alloc (.cells #[.int .u32 0, .int .u32 0, .int .u32 0, .int .u32 0] 34)).heap[W.heap.size]? = some (.cells #[.int .i64 2, .int .i64 0, .int .i64 0, .int .i64 wd, .int .i64 0] 36 (0, 0)) from heap_alloc' (heap_grE (heap_alloc' (heap_alloc_new _ _))))
  have HB1' := Lib.hid (show ((gr ((W.alloc (.cells #[.int .i64 2, .int .i64 0, .int .i64 0, .int .i64 wd, .int .i64 0] 36)).alloc (.cells #[.int .u32 0, .int .u32 0, .int .u32 0, .int .u32 0] 34)) ⟨p4.d, p3.os ++ p4.os⟩).alloc (.cells #[.int .u32 0, .int .u32 0, .int .u32 0, .int .u32 0] 34)).heap[W.heap.size + 1]? = some (.cells #[.int .u32 0, .int .u32 0, .int .u32 0, .int .u32 0] 34 (0, 0)) from heap_alloc' (heap_grE (heap_alloc_at _ (by simp))))
  have HBV := Lib.hid (show ((gr ((W.alloc (.cells #[.int .i64 2, .int .i64 0, .int .i64 0, .int .i64 wd, .int .i64 0] 36)).alloc (.cells #[.int .u32 0, .int .u32 0, .int .u32 0, .int .u32 0] 34)) ⟨p4.d, p3.os ++ p4.os⟩).alloc (.cells #[.int .u32 0, .int .u32 0, .int .u32 0, .int .u32 0] 34)).heap[W.heap.size + 1 + 1 + (p3.os.size + p4.os.size)]? = some (.cells #[.int .u32 (cutV 0 D 0), .int .u32 (cutV 0 D 1), .int .u32 (cutV 0 D 2), .int .u32 (cutV 0 D 3)] 34 (0, 0)) from heap_alloc_at _ (by simp))
  have HUW := Lib.hid (show Upd [] W ((gr ((W.alloc (.cells #[.int .i64 2, .int .i64 0, .int .i64 0, .int .i64 wd, .int .i64 0] 36)).alloc (.cells #[.int .u32 0, .int .u32 0, .int .u32 0, .int .u32 0] 34)) ⟨p4.d, p3.os ++ p4.os⟩).alloc (.cells #[.int .u32 0, .int .u32 0, .int .u32 0, .int .u32 0] 34)) from ((((Upd.refl [] W).alloc _).alloc _).grE _).alloc _)
  have HV := Lib.hid (show W.heap.size + 1 < W.heap.size + 1 + 1 + (p3.os.size + p4.os.size) by omega)
  generalize (gr ((W.alloc (.cells #[.int .i64 2, .int .i64 0, .int .i64 0, .int .i64 wd, .int .i64 0] 36)).alloc (.cells #[.int .u32 0, .int .u32 0, .int .u32 0, .int .u32 0] 34)) ⟨p4.d, p3.os ++ p4.os⟩).alloc (.cells #[.int .u32 0, .int .u32 0, .int .u32 0, .int .u32 0] 34) = w0 at *
  generalize W.heap.size + 1 + 1 + (p3.os.size + p4.os.size) = V at *
  go_loopg [8] wd (fun n s8 wr => ∃ m : Nat, n + m = wd ∧ s8 = .int .i64 m ∧ wr.heap[V]? = some (.cells #[.int .u32 (cutV m D 0), .int .u32 (cutV m D 1), .int .u32 (cutV m D 2), .int .u32 (cutV m D 3)] 34 (0, 0)) ∧ Upd [V] w0 wr)
  case atStart => exact ⟨0, by omega, rfl, HBV.out, Upd.refl _ _⟩
  case round =>
    obtain ⟨m, hm, rfl, hv, hu⟩ := hrel
    have HM := Lib.hid hm
    have HVV := Lib.hid hv
    have HU := Lib.hid hu
    have hnv1 : W.heap.size ∉ [V] := by have := HV.out; simp; omega
    have hnv2 : W.heap.size + 1 ∉ [V] := by have := HV.out; simp; omega
    obtain ⟨c0, c1, c2, c3, c4⟩ := cells5p (hu.keepb HB0'.out hnv1)
    have lv := heap_lt hv
    have vf := frozen_of_heap hv
    have v0 : wr.cell? ⟨V, 0, none⟩ = some (.int .u32 (cutV m D 0)) := by rw [cell_of_heap hv]; rfl
    have v1 : wr.cell? ⟨V, 1, none⟩ = some (.int .u32 (cutV m D 1)) := by rw [cell_of_heap hv]; rfl
    have v2 : wr.cell? ⟨V, 2, none⟩ = some (.int .u32 (cutV m D 2)) := by rw [cell_of_heap hv]; rfl
    have v3 : wr.cell? ⟨V, 3, none⟩ = some (.int .u32 (cutV m D 3)) := by rw [cell_of_heap hv]; rfl
    by_cases hlt : m < wd
    · have HLT := Lib.hid hlt
      have h1 : (m : Int) < (wd : Int) := by omega
      have HC := Lib.hid (fun (w : World) => HP2.out w m hlt)
      have hlbv : lb ∉ [V] := by have := HV.out; simp; omega
      have hd : wr.cell? ⟨lb, lo + F m, none⟩ = some (.int .u32 (D m)) := (hu.cell (p := ⟨lb, lo + F m, none⟩) (by have := HUW.out.size; simp; omega) hlbv).trans (HD.out m hlt w0 HUW.out)
      have hlr : lb < wr.heap.size := by have := HUW.out.size; have := hu.size; omega
      have f1 : ((F m : Nat) : Int) < (xs.length : Int) := by have := HFL.out m hlt; omega
      have hmw : m = 0 ∨ m = 1 ∨ m = 2 ∨ m = 3 := by have := HW.out; omega
      clear hm hv hu hlt
      rcases hmw with rfl | rfl | rfl | rfl
      · go_wp2_with (go_at_call 27; (refine (HC.out _).mono ?_); rintro e w5 ⟨rfl, hu5⟩; obtain ⟨p5, rfl⟩ := hu5.grown; clear hu5)
        go_roundg (wd - (0 + 1))
        case rel => exact ⟨0 + 1, by have := HLT.out; omega, rfl, by repeat (first | (with_reducible refine heap_set2c HVV.out (by simp [cutV])) | (with_reducible apply heap_grE)), by repeat (first | (with_reducible exact HU.out) | (with_reducible refine Upd.grE ?_ _) | (with_reducible refine Upd.setB ?_ (.inl (by simp))))⟩
        case measure => have := HLT.out; have := HM.out; omega
      · go_wp2_with (go_at_call 27; (refine (HC.out _).mono ?_); rintro e w5 ⟨rfl, hu5⟩; obtain ⟨p5, rfl⟩ := hu5.grown; clear hu5)
        go_roundg (wd - (1 + 1))
        case rel => exact ⟨1 + 1, by have := HLT.out; omega, rfl, by repeat (first | (with_reducible refine heap_set2c HVV.out (by simp [cutV])) | (with_reducible apply heap_grE)), by repeat (first | (with_reducible exact HU.out) | (with_reducible refine Upd.grE ?_ _) | (with_reducible refine Upd.setB ?_ (.inl (by simp))))⟩
        case measure => have := HLT.out; have := HM.out; omega
      · go_wp2_with (go_at_call 27; (refine (HC.out _).mono ?_); rintro e w5 ⟨rfl, hu5⟩; obtain ⟨p5, rfl⟩ := hu5.grown; clear hu5)
        go_roundg (wd - (2 + 1))
        case rel => exact ⟨2 + 1, by have := HLT.out; omega, rfl, by repeat (first | (with_reducible refine heap_set2c HVV.out (by simp [cutV])) | (with_reducible apply heap_grE)), by repeat (first | (with_reducible exact HU.out) | (with_reducible refine Upd.grE ?_ _) | (with_reducible refine Upd.setB ?_ (.inl (by simp))))⟩
        case measure => have := HLT.out; have := HM.out; omega
      · go_wp2_with (go_at_call 27; (refine (HC.out _).mono ?_); rintro e w5 ⟨rfl, hu5⟩; obtain ⟨p5, rfl⟩ := hu5.grown; clear hu5)
        go_roundg (wd - (3 + 1))
        case rel => exact ⟨3 + 1, by have := HLT.out; omega, rfl, by repeat (first | (with_reducible refine heap_set2c HVV.out (by simp [cutV])) | (with_reducible apply heap_grE)), by repeat (first | (with_reducible exact HU.out) | (with_reducible refine Upd.grE ?_ _) | (with_reducible refine Upd.setB ?_ (.inl (by simp))))⟩
        case measure => have := HLT.out; have := HM.out; omega
    · obtain rfl : m = wd := by have := HM.out; omega
      have hr1 := hu.keepb HB1'.out hnv2
      have r0 : wr.cell? ⟨W.heap.size + 1, 0, none⟩ = some (.int .u32 0) := by rw [cell_of_heap hr1]; rfl
      have r1 : wr.cell? ⟨W.heap.size + 1, 1, none⟩ = some (.int .u32 0) := by rw [cell_of_heap hr1]; rfl
      have r2 : wr.cell? ⟨W.heap.size + 1, 2, none⟩ = some (.int .u32 0) := by rw [cell_of_heap hr1]; rfl
      have r3 : wr.cell? ⟨W.heap.size + 1, 3, none⟩ = some (.int .u32 0) := by rw [cell_of_heap hr1]; rfl
      have rf := frozen_of_heap hr1
      have rl := heap_lt hr1
      have HR1 := Lib.hid hr1
      clear hm hv hu hlt hr1
      go_wp2
      refine bodyPost_ret (v := .agg #[.int .u32 (cutV m D 0), .int .u32 (cutV m D 1), .int .u32 (cutV m D 2), .int .u32 (cutV m D 3)]) (results_cell_row rfl _ _ (W.heap.size + 1) 34 _ (0, 0) _ rfl (heap_set2c (heap_set2c (heap_set2c (heap_set2c HR1.out rfl) rfl) rfl) rfl) Try.underlying34 rfl (info_val4 _ _ _ _)) rfl ?_
      refine ⟨?_, ?_⟩
      · unfold val4
        rw [HN.out, HN.out, HN.out, HN.out]
      · refine (HUW.out.then HU.out (by have := HV.out; simp; omega)).then (S' := [W.heap.size + 1]) ?_ (by simp)
        repeat (first | (with_reducible exact Upd.refl _ _) | (with_reducible refine Upd.setB ?_ (.inl (by simp))))
end Go.Proofs.Ytnnakiojfpnphaa
