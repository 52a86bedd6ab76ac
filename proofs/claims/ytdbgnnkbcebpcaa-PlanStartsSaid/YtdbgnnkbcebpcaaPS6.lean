/- Package site: Start. (printed by genct.py out of PS6.base) -/
import Derived.Test.YtdbgnnkbcebpcaaPS5
set_option linter.unusedVariables false
set_option linter.unusedSimpArgs false
namespace Go.Proofs.Ytdbgnnkbcebpcaa
open Go.RowKit
def putC (a v : Int) (xs : List Int) : List Int := if 0 ≤ a ∧ a < xs.length then xs.set a.toNat v else xs
theorem putC_len (a v : Int) (xs : List Int) : (putC a v xs).length = xs.length := by unfold putC; split <;> simp
def OBJ.init (o : OBJ) (n : Nat) : Int := [o.i0, o.i1, o.i2, o.i3].getD n 0
def dataP (p : PL) (o : OBJ) (xs : List Int) : Nat → List Int
  | 0 => xs
  | n + 1 => putC (cellD p n) (o.init n) (dataP p o xs n)
theorem dataP_len (p : PL) (o : OBJ) (xs : List Int) (n : Nat) : (dataP p o xs n).length = xs.length := by
  induction n with
  | zero => rfl
  | succ n ih => rw [dataP, putC_len, ih]
def objP (p : PL) (o : OBJ) (xs : List Int) : List Int := if p.k = 1 then xs else putC (cellW p) o.i0 (dataP p o xs 4)
theorem objP_len (p : PL) (o : OBJ) (xs : List Int) : (objP p o xs).length = xs.length := by
  unfold objP; split
  · rfl
  · rw [putC_len, dataP_len]
def startGo (l : List OBJ) : Nat → List Int
  | 0 => List.replicate (sumS l).toNat 0
  | n + 1 => objP ((pls 0 l).getD n ⟨0, 0, 0, 0, 0⟩) (l.getD n ⟨0, 0, 0, 0, 0, 0, 0, 0, 0, 0⟩) (startGo l n)
def startP (l : List OBJ) : List Int := startGo l l.length
theorem startGo_len (l : List OBJ) (n : Nat) : (startGo l n).length = (sumS l).toNat := by
  induction n with
  | zero => simp [startGo]
  | succ n ih => rw [startGo, objP_len, ih]
theorem startP_len (l : List OBJ) : (startP l).length = (sumS l).toNat := startGo_len l _
theorem pls_get (n : Int) (l : List OBJ) (j : Nat) (h : j < l.length) : (pls n l)[j]? = some (plOf (n + sumS (l.take j)) l[j]) := by
  induction l generalizing n j with
  | nil => simp at h
  | cons o l ih =>
    cases j with
    | zero => simp [pls, sumS]
    | succ j =>
      simp only [List.length_cons] at h
      simp only [pls, List.getElem?_cons_succ, List.getElem_cons_succ, List.take_succ_cons, sumS]
      rw [ih _ j (by omega), Int.add_assoc]
theorem store_c {w : World} {b g : Nat} {lo st : Int} {xs : List Int} (a v : Int) (h : Mem w b g lo st xs) (hst0 : 0 ≤ st) (hst : st < 1000000) :
    Calls Try.prog 65 #[.pointer (some ⟨b, 0, none⟩), .int .i64 a, .int .u32 v] w fun e w' => ∃ (bo : Bool) (st' : Int), e = .returned (.bool bo) ∧ Mem w' b g lo st' (putC a v xs) ∧ Upd [b, g] w w' ∧ st ≤ st' ∧ st' ≤ st + 1 := by
  unfold putC
  by_cases hc : 0 ≤ a ∧ a < xs.length
  · rw [if_pos hc]
    obtain ⟨i, rfl⟩ := Int.eq_ofNat_of_zero_le hc.1
    refine (store_any i v h (by omega) hst0 hst).mono ?_
    rintro e w' ⟨rfl, hm, hu⟩
    exact ⟨true, st + 1, rfl, by simpa using hm, hu, by omega, by omega⟩
  · rw [if_neg hc]
    refine (store_out a v h (by omega)).mono ?_
    rintro e w' ⟨rfl, rfl⟩
    exact ⟨false, st, rfl, h, Upd.refl _ _, by omega, by omega⟩
theorem cells5p {w : World} {k : Nat} {a b c d e : Value} {t : TypeId} {fr : Nat × Nat} (hh : w.heap[k]? = some (.cells #[a, b, c, d, e] t fr)) :
    w.cell? ⟨k, 0, none⟩ = some a ∧ w.cell? ⟨k, 1, none⟩ = some b ∧ w.cell? ⟨k, 2, none⟩ = some c ∧ w.cell? ⟨k, 3, none⟩ = some d ∧ w.cell? ⟨k, 4, none⟩ = some e :=
  ⟨by rw [cell_of_heap hh]; rfl, by rw [cell_of_heap hh]; rfl, by rw [cell_of_heap hh]; rfl, by rw [cell_of_heap hh]; rfl, by rw [cell_of_heap hh]; rfl⟩
section
variable {W : World} {oa : Option Addr} {l : List OBJ}
set_option maxRecDepth 100000 in
set_option maxHeartbeats 8000000 in
theorem sstart_c (oc : Nat) (h : Els W oa 10 (l.map OBJ.cells)) (hn : l.length ≤ 16) (hr : ∀ o ∈ l, rightB o.k o.cap o.wd o.rt = true) :
    Calls Try.prog 40 #[.slice oa l.length oc] W fun e w' => Upd [] W w' ∧ ∃ b g, e = .returned (.pointer (some ⟨b, 0, none⟩)) ∧ W.heap.size ≤ b ∧ W.heap.size ≤ g ∧ Mem w' b g 0 0 (startP l) := by
  have HE := Lib.hid h
  have HL := Lib.hid hn
  have HRT := Lib.hid hr
  have HSUM := Lib.hid (show 0 ≤ sumS l ∧ sumS l ≤ 4160 by have := sumS_bounds l; omega)
  have HOF := Lib.hid (sof_c (W := W) oc h (by omega))
  clear h hn hr
  go_enter Try.func40, Try.ntmps40
  go_wp2
  go_step3
  go_wp2_with fail
  refine HOF.out.mono ?_
  rintro e w1 ⟨hu1, va, vc, rfl, hpl⟩
  have HU1 := Lib.hid hu1
  have HPL := Lib.hid hpl
  obtain ⟨sn, hsn⟩ : ∃ sn : Nat, sumS l = (sn : Int) := ⟨(sumS l).toNat, by have := HSUM.out; omega⟩
  have HSN := Lib.hid hsn
  rw [hsn]
  clear hu1 hpl hsn
  go_wp2_with fail
  refine (new_any sn w1 (by have := HSUM.out; have := HSN.out; omega)).mono ?_
  rintro e w2 ⟨b, g, rfl, hb, hg, hm, hu2⟩
  have HB := Lib.hid (And.intro hb hg)
  have HM := Lib.hid hm
  have HU2 := Lib.hid hu2
  have HST := Lib.hid (show startGo l 0 = List.replicate sn 0 by rw [startGo, HSN.out]; rfl)
  clear hb hg hm hu2
  go_wp2
  go_step3
  go_wp2
  go_loopg [19] l.length (fun n s19 wr => ∃ (j : Nat) (st : Int), n + j = l.length ∧ s19 = .int .i64 j ∧ Mem wr b g 0 st (startGo l j) ∧ 0 ≤ st ∧ st ≤ 5 * j ∧ Upd [b, g] w1 wr)
  case atStart => exact ⟨0, 0, by omega, rfl, by rw [HST.out]; exact HM.out, by omega, by omega, HU2.out.mono (by simp)⟩
  case round =>
    rename World => wo
    obtain ⟨j, st, hj, rfl, hm, hst0, hst1, hu⟩ := hrel
    have HJ := Lib.hid hj
    have HMR := Lib.hid hm
    have HS := Lib.hid (And.intro hst0 hst1)
    have HU := Lib.hid hu
    clear hj hm hst0 hst1 hu
    have hl0 := HL.out
    by_cases hlt : j < l.length
    · obtain ⟨vb, voff, rfl, hvb, hvc⟩ := els_at HPL.out (show j < (pls 0 l).length by rw [pls_len]; exact hlt)
      obtain ⟨ob, oo, rfl, hob, hoc⟩ := els_at HE.out hlt
      have HLT := Lib.hid hlt
      have hpg := pls_get 0 l j hlt
      have hpj : (pls 0 l)[j]'(by rw [pls_len]; exact hlt) = plOf (sumS (l.take j)) l[j] := by
        rw [List.getElem?_eq_getElem (by rw [pls_len]; exact hlt), Int.zero_add] at hpg
        exact Option.some.inj hpg
      have hsb : 0 ≤ sumS (l.take j) ∧ sumS (l.take j) ≤ 4160 := by
        have h1 := sumS_bounds (l.take j)
        have h2 : (l.take j).length ≤ 16 := by simp; omega
        omega
      have hrj := HRT.out l[j] (List.getElem_mem hlt)
      have hnext : startGo l (j + 1) = objP (plOf (sumS (l.take j)) l[j]) l[j] (startGo l j) := by
        rw [startGo, List.getD_eq_getElem?_getD, List.getD_eq_getElem?_getD, hpg, List.getElem?_eq_getElem hlt, Int.zero_add]
        rfl
      rw [hpj] at hvc
      have NB : b ≠ vb ∧ g ≠ vb := by have := HB.out; omega
      have lw := HU1.out.size
      have NO : b ≠ ob ∧ g ≠ ob := by have := HB.out; omega
      have hvr : vb < wo.heap.size := Nat.lt_of_lt_of_le hvb HU.out.size
      have hor : ob < wo.heap.size := by have := HU.out.size; omega
      generalize hz : l[j] = z at *
      obtain ⟨k, cap, wd, rt, f, t, i0, i1, i2, i3⟩ := z
      simp only at hrj
      have hpo : plOf (sumS (l.take j)) ⟨k, cap, wd, rt, f, t, i0, i1, i2, i3⟩ = ⟨k, sumS (l.take j), cap, wd, rt⟩ := by simp [plOf, hrj]
      rw [hpo] at hvc hnext
      generalize sumS (l.take j) = a at *
      have HNEXT := Lib.hid hnext
      have HRJ := Lib.hid hrj
      have HA := Lib.hid hsb
      have G := fun m v hm => (HU.out.cell (p := ⟨vb, voff + j * 5 + m, none⟩) hvb (by simp; omega)).trans (hvc m v hm)
      have g0 := G 0 _ rfl
      have g1 := G 1 _ rfl
      have g2 := G 2 _ rfl
      have g3 := G 3 _ rfl
      have g4 := G 4 _ rfl
      rw [Nat.add_zero] at g0
      have O := fun m v hm => (HU.out.cell (p := ⟨ob, oo + j * 10 + m, none⟩) (Nat.lt_of_lt_of_le hob lw) (by simp; omega)).trans ((HU1.out.cell (p := ⟨ob, oo + j * 10 + m, none⟩) hob (by simp)).trans (hoc m v hm))
      have o6 := O 6 _ rfl
      have o7 := O 7 _ rfl
      have o8 := O 8 _ rfl
      have o9 := O 9 _ rfl
      have b1 : (0 : Int) ≤ (j : Int) := by omega
      have b2 : (j : Int) < (l.length : Int) := by omega
      have e0 : (pls 0 l).length = l.length := pls_len 0 l
      have HW := Lib.hid (show wrap64 ((j : Int) + 1) = ((j + 1 : Nat) : Int) from wrap_next (by omega) hlt)
      clear hlt hpg hpj hsb hrj hnext hz hpo G O hvc hoc lw e0
      by_cases hk : k = 1
      · subst hk
        go_wp2
        go_roundg (l.length - (j + 1))
        case rel => exact ⟨j + 1, st, by have := HLT.out; omega, by first | (rw [HW.out]; done) | (simp; done), by rw [HNEXT.out]; exact HMR.out.keep ((Upd.refl [] _).alloc _) (by simp) (by simp), HS.out.1, by have := HS.out.2; omega, HU.out.alloc _⟩
        case measure => have := HLT.out; have := HJ.out; omega
      · have qk : (k == 1) = false := by simpa using hk
        have hxp := heap_alloc_new wo (.cells #[.int .i64 k, .int .i64 a, .int .i64 cap, .int .i64 wd, .int .i64 rt] 107)
        have HX := Lib.hid hxp
        have HCD := Lib.hid (fun (v : Int) (hv : 0 ≤ v ∧ v < 4) (w : World) => cellD_c ⟨k, a, cap, wd, rt⟩ v w HRJ.out hk hv (by have := HA.out; simp only; omega))
        have HCW := Lib.hid (fun (w : World) => cellW_c ⟨k, a, cap, wd, rt⟩ w HRJ.out hk)
        have HK := Lib.hid hk
        unfold PL.A at HCD HCW
        simp only at HCD HCW
        have HD0 := Lib.hid (HCD.out 0 (by omega))
        have HD1 := Lib.hid (HCD.out 1 (by omega))
        have HD2 := Lib.hid (HCD.out 2 (by omega))
        have HD3 := Lib.hid (HCD.out 3 (by omega))
        have hxl : wo.heap.size ≠ b ∧ wo.heap.size ≠ g := by have h1 := heap_lt HMR.out.hb; have h2 := heap_lt HMR.out.hg; omega
        clear hk hxp
        go_wp2
        have HU9 := Lib.hid (HU.out.alloc (.cells #[.int .i64 k, .int .i64 a, .int .i64 cap, .int .i64 wd, .int .i64 rt] 107))
        have HM9 := Lib.hid (HMR.out.keep ((Upd.refl [] wo).alloc (.cells #[.int .i64 k, .int .i64 a, .int .i64 cap, .int .i64 wd, .int .i64 rt] 107)) (by simp) (by simp))
        generalize hwx : wo.alloc (.cells #[.int .i64 k, .int .i64 a, .int .i64 cap, .int .i64 wd, .int .i64 rt] 107) = wx at *
        have HOB := Lib.hid (show wx.cell? ⟨ob, oo + j * 10 + 6, none⟩ = some (.int .u32 i0) by rw [← hwx]; exact cell_allocE o6)
        have hol : ob < wx.heap.size := by rw [← hwx]; simp; omega
        clear hwx g0 g1 g2 g3 g4 o6 o7 o8 o9
        have I0 : ∀ w, (Instr.index 26 (.agg #[.int .u32 i0, .int .u32 i1, .int .u32 i2, .int .u32 i3]) (.int .i64 0)).run Try.prog w = .ok (.int .u32 i0) w := fun _ => by kernel_rfl
        have I1 : ∀ w, (Instr.index 26 (.agg #[.int .u32 i0, .int .u32 i1, .int .u32 i2, .int .u32 i3]) (.int .i64 1)).run Try.prog w = .ok (.int .u32 i1) w := fun _ => by kernel_rfl
        have I2 : ∀ w, (Instr.index 26 (.agg #[.int .u32 i0, .int .u32 i1, .int .u32 i2, .int .u32 i3]) (.int .i64 2)).run Try.prog w = .ok (.int .u32 i2) w := fun _ => by kernel_rfl
        have I3 : ∀ w, (Instr.index 26 (.agg #[.int .u32 i0, .int .u32 i1, .int .u32 i2, .int .u32 i3]) (.int .i64 3)).run Try.prog w = .ok (.int .u32 i3) w := fun _ => by kernel_rfl
        go_loopg [32] 4 (fun n s32 wr => ∃ (m : Nat) (st2 : Int), n + m = 4 ∧ s32 = .int .i64 m ∧ Mem wr b g 0 st2 (dataP ⟨k, a, cap, wd, rt⟩ ⟨k, cap, wd, rt, f, t, i0, i1, i2, i3⟩ (startGo l j) m) ∧ 0 ≤ st2 ∧ st2 ≤ 5 * j + m ∧ Upd [b, g] wx wr)
        case atStart => exact ⟨0, st, by omega, rfl, HM9.out, HS.out.1, by have := HS.out.2; omega, Upd.refl _ _⟩
        case round =>
          obtain ⟨m, st2, hm, rfl, hmem, hs0, hs1, hu⟩ := hrel
          have HM2 := Lib.hid hmem
          have HS2 := Lib.hid (And.intro hs0 hs1)
          have HU2 := Lib.hid hu
          have HMN := Lib.hid hm
          have HXI := Lib.hid (hu.keepb HX.out (by have := hxl; simp; omega))
          obtain ⟨x0, x1, x2, x3, x4⟩ := cells5p HXI.out
          have hmc : m = 0 ∨ m = 1 ∨ m = 2 ∨ m = 3 ∨ m = 4 := by omega
          clear hm hmem hs0 hs1 hu
          rcases hmc with rfl | rfl | rfl | rfl | rfl
          · go_wp2_with (first
              | (go_at_call 66; (with_reducible refine (HD0.out _).mono ?_); rintro e w5 ⟨rfl, hu5⟩; have HU5 := Lib.hid hu5; clear hu5)
              | (go_at_call 65; refine Go.RowKit.Hid.out ?_))
            (
                          refine Lib.hid ?_
                          refine (store_c (cellD ⟨k, a, cap, wd, rt⟩ 0) i0 (HM2.out.keep HU5.out (by simp) (by simp)) HS2.out.1 (by have := HS2.out.2; have := HLT.out; omega)).mono ?_
                          rintro e w6 ⟨bo, st3, rfl, hm6, hu6, hs6⟩
                          have HU6 := Lib.hid (HU2.out.trans ((HU5.out.mono (by simp)).trans hu6))
                          have HM6 := Lib.hid hm6
                          have HS6 := Lib.hid hs6
                          clear hm6 hu6 hs6
                          go_wp2
                          go_roundg (4 - (0 + 1))
                          case rel => exact ⟨0 + 1, st3, by omega, by simp, HM6.out, by have := HS2.out.1; have := HS6.out.1; omega, by have := HS2.out.2; have := HS6.out.2; omega, HU6.out⟩
                          case measure => have := HMN.out; omega)
          · go_wp2_with (first
              | (go_at_call 66; (with_reducible refine (HD1.out _).mono ?_); rintro e w5 ⟨rfl, hu5⟩; have HU5 := Lib.hid hu5; clear hu5)
              | (go_at_call 65; refine Go.RowKit.Hid.out ?_))
            (
                          refine Lib.hid ?_
                          refine (store_c (cellD ⟨k, a, cap, wd, rt⟩ 1) i1 (HM2.out.keep HU5.out (by simp) (by simp)) HS2.out.1 (by have := HS2.out.2; have := HLT.out; omega)).mono ?_
                          rintro e w6 ⟨bo, st3, rfl, hm6, hu6, hs6⟩
                          have HU6 := Lib.hid (HU2.out.trans ((HU5.out.mono (by simp)).trans hu6))
                          have HM6 := Lib.hid hm6
                          have HS6 := Lib.hid hs6
                          clear hm6 hu6 hs6
                          go_wp2
                          go_roundg (4 - (1 + 1))
                          case rel => exact ⟨1 + 1, st3, by omega, by simp, HM6.out, by have := HS2.out.1; have := HS6.out.1; omega, by have := HS2.out.2; have := HS6.out.2; omega, HU6.out⟩
                          case measure => have := HMN.out; omega)
          · go_wp2_with (first
              | (go_at_call 66; (with_reducible refine (HD2.out _).mono ?_); rintro e w5 ⟨rfl, hu5⟩; have HU5 := Lib.hid hu5; clear hu5)
              | (go_at_call 65; refine Go.RowKit.Hid.out ?_))
            (
                          refine Lib.hid ?_
                          refine (store_c (cellD ⟨k, a, cap, wd, rt⟩ 2) i2 (HM2.out.keep HU5.out (by simp) (by simp)) HS2.out.1 (by have := HS2.out.2; have := HLT.out; omega)).mono ?_
                          rintro e w6 ⟨bo, st3, rfl, hm6, hu6, hs6⟩
                          have HU6 := Lib.hid (HU2.out.trans ((HU5.out.mono (by simp)).trans hu6))
                          have HM6 := Lib.hid hm6
                          have HS6 := Lib.hid hs6
                          clear hm6 hu6 hs6
                          go_wp2
                          go_roundg (4 - (2 + 1))
                          case rel => exact ⟨2 + 1, st3, by omega, by simp, HM6.out, by have := HS2.out.1; have := HS6.out.1; omega, by have := HS2.out.2; have := HS6.out.2; omega, HU6.out⟩
                          case measure => have := HMN.out; omega)
          · go_wp2_with (first
              | (go_at_call 66; (with_reducible refine (HD3.out _).mono ?_); rintro e w5 ⟨rfl, hu5⟩; have HU5 := Lib.hid hu5; clear hu5)
              | (go_at_call 65; refine Go.RowKit.Hid.out ?_))
            (
                          refine Lib.hid ?_
                          refine (store_c (cellD ⟨k, a, cap, wd, rt⟩ 3) i3 (HM2.out.keep HU5.out (by simp) (by simp)) HS2.out.1 (by have := HS2.out.2; have := HLT.out; omega)).mono ?_
                          rintro e w6 ⟨bo, st3, rfl, hm6, hu6, hs6⟩
                          have HU6 := Lib.hid (HU2.out.trans ((HU5.out.mono (by simp)).trans hu6))
                          have HM6 := Lib.hid hm6
                          have HS6 := Lib.hid hs6
                          clear hm6 hu6 hs6
                          go_wp2
                          go_roundg (4 - (3 + 1))
                          case rel => exact ⟨3 + 1, st3, by omega, by simp, HM6.out, by have := HS2.out.1; have := HS6.out.1; omega, by have := HS2.out.2; have := HS6.out.2; omega, HU6.out⟩
                          case measure => have := HMN.out; omega)
          · have y6 := (HU2.out.cell (p := ⟨ob, oo + j * 10 + 6, none⟩) hol (by have := NO; simp; omega)).trans HOB.out
            have XL : wo.heap.size < wr.heap.size := heap_lt HXI.out
            have OL : ob < wr.heap.size := Nat.lt_of_lt_of_le hol HU2.out.size
            go_wp2
            have R0 : ∀ w1 : World, Upd [b, g] wr w1 → w1.cell? ⟨wo.heap.size, 0, none⟩ = some (.int .i64 k) := fun w1 h => (h.cell (p := ⟨wo.heap.size, 0, none⟩) XL (by have := hxl; simp; omega)).trans x0
            have R1 : ∀ w1 : World, Upd [b, g] wr w1 → w1.cell? ⟨wo.heap.size, 1, none⟩ = some (.int .i64 a) := fun w1 h => (h.cell (p := ⟨wo.heap.size, 1, none⟩) XL (by have := hxl; simp; omega)).trans x1
            have R2 : ∀ w1 : World, Upd [b, g] wr w1 → w1.cell? ⟨wo.heap.size, 2, none⟩ = some (.int .i64 cap) := fun w1 h => (h.cell (p := ⟨wo.heap.size, 2, none⟩) XL (by have := hxl; simp; omega)).trans x2
            have R3 : ∀ w1 : World, Upd [b, g] wr w1 → w1.cell? ⟨wo.heap.size, 3, none⟩ = some (.int .i64 wd) := fun w1 h => (h.cell (p := ⟨wo.heap.size, 3, none⟩) XL (by have := hxl; simp; omega)).trans x3
            have R4 : ∀ w1 : World, Upd [b, g] wr w1 → w1.cell? ⟨wo.heap.size, 4, none⟩ = some (.int .i64 rt) := fun w1 h => (h.cell (p := ⟨wo.heap.size, 4, none⟩) XL (by have := hxl; simp; omega)).trans x4
            have R5 : ∀ w1 : World, Upd [b, g] wr w1 → w1.cell? ⟨ob, oo + j * 10 + 6, none⟩ = some (.int .u32 i0) := fun w1 h => (h.cell (p := ⟨ob, oo + j * 10 + 6, none⟩) OL (by have := NO; simp; omega)).trans y6
            refine wp_region_held_drew (S := fun w1 => Upd [b, g] wr w1) (by kernel_rfl) ?_ (fun hHeld => ?_)
            · exact (Upd.refl [b, g] wr).drew
            refine wpAnyH_take (i := 0) (oi := { dst := some 43, op := Op.move (Operand.tmp 5), type := 99, pos := "site.go:140", after := #[], guard := none }) (v := .pointer (some ⟨b, 0, none⟩)) rfl (by kernel_rfl) (by kernel_rfl) (by kernel_rfl) (fun _ _ _ h => h) (Or.inl ⟨by rfl, ?_⟩) hHeld ?_
            · intro w1 hSw
              (try dsimp only at hSw)
              go_simp
            (try simp only [Act.put, List.setIfInBounds_toArray, List.set_cons_zero, List.set_cons_succ])
            refine wpAnyH_take (i := 1) (oi := { dst := some 44, op := Op.load 107 (Operand.tmp 7), type := 107, pos := "site.go:140", after := #[], guard := none }) (v := .agg #[.int .i64 k, .int .i64 a, .int .i64 cap, .int .i64 wd, .int .i64 rt]) rfl (by kernel_rfl) (by kernel_rfl) (by kernel_rfl) (fun _ _ _ h => h) (Or.inl ⟨by rfl, ?_⟩) hHeld ?_
            · intro w1 hSw
              (try dsimp only at hSw)
              go_simp
            (try simp only [Act.put, List.setIfInBounds_toArray, List.set_cons_zero, List.set_cons_succ])
            refine wpAnyH_take (i := 3) (oi := { dst := some 46, op := Op.move (Operand.tmp 0), type := 22, pos := "site.go:140", after := #[], guard := none }) (v := .slice (some ⟨ob, oo, none⟩) l.length oc) rfl (by kernel_rfl) (by kernel_rfl) (by kernel_rfl) (fun _ _ _ h => h) (Or.inl ⟨by rfl, ?_⟩) hHeld ?_
            · intro w1 hSw
              (try dsimp only at hSw)
              go_simp
            (try simp only [Act.put, List.setIfInBounds_toArray, List.set_cons_zero, List.set_cons_succ])
            refine wpAnyH_take (i := 4) (oi := { dst := some 47, op := Op.move (Operand.tmp 6), type := 3, pos := "site.go:140", after := #[], guard := none }) (v := .int .i64 j) rfl (by kernel_rfl) (by kernel_rfl) (by kernel_rfl) (fun _ _ _ h => h) (Or.inl ⟨by rfl, ?_⟩) hHeld ?_
            · intro w1 hSw
              (try dsimp only at hSw)
              go_simp
            (try simp only [Act.put, List.setIfInBounds_toArray, List.set_cons_zero, List.set_cons_succ])
            refine wpAnyH_take (i := 5) (oi := { dst := some 48, op := Op.indexAddr 22 (Operand.tmp 46) (Operand.tmp 47), type := 0, pos := "site.go:140", after := #[{ on := 3, ground := Ground.data }, { on := 4, ground := Ground.data }], guard := none }) (v := .pointer (some ⟨ob, oo + j * 10, none⟩)) rfl (by kernel_rfl) (by kernel_rfl) (by kernel_rfl) (fun _ _ _ h => h) (Or.inl ⟨by rfl, ?_⟩) hHeld ?_
            · intro w1 hSw
              (try dsimp only at hSw)
              go_simp
            (try simp only [Act.put, List.setIfInBounds_toArray, List.set_cons_zero, List.set_cons_succ])
            refine wpAnyH_take (i := 6) (oi := { dst := some 49, op := Op.fieldAddr 109 (Operand.tmp 48) 6, type := 0, pos := "site.go:140", after := #[{ on := 5, ground := Ground.data }], guard := none }) (v := .pointer (some ⟨ob, oo + j * 10 + 6, none⟩)) rfl (by kernel_rfl) (by kernel_rfl) (by kernel_rfl) (fun _ _ _ h => h) (Or.inl ⟨by rfl, ?_⟩) hHeld ?_
            · intro w1 hSw
              (try dsimp only at hSw)
              go_simp
            (try simp only [Act.put, List.setIfInBounds_toArray, List.set_cons_zero, List.set_cons_succ])
            refine wpAnyH_take (i := 7) (oi := { dst := some 50, op := Op.indexAddr 26 (Operand.tmp 49) (Operand.const (Value.int IntKind.i64 0)), type := 0, pos := "site.go:140", after := #[{ on := 6, ground := Ground.data }], guard := none }) (v := .pointer (some ⟨ob, oo + j * 10 + 6, none⟩)) rfl (by kernel_rfl) (by kernel_rfl) (by kernel_rfl) (fun _ _ _ h => h) (Or.inl ⟨by rfl, ?_⟩) hHeld ?_
            · intro w1 hSw
              (try dsimp only at hSw)
              go_simp
            (try simp only [Act.put, List.setIfInBounds_toArray, List.set_cons_zero, List.set_cons_succ])
            refine wpAnyH_take (i := 8) (oi := { dst := some 51, op := Op.load 24 (Operand.tmp 50), type := 24, pos := "site.go:140", after := #[{ on := 7, ground := Ground.data }], guard := none }) (v := .int .u32 i0) rfl (by kernel_rfl) (by kernel_rfl) (by kernel_rfl) (fun _ _ _ h => h) (Or.inl ⟨by rfl, ?_⟩) hHeld ?_
            · intro w1 hSw
              (try dsimp only at hSw)
              go_simp
            (try simp only [Act.put, List.setIfInBounds_toArray, List.set_cons_zero, List.set_cons_succ])
            refine wpAnyH_ready (rs := [2]) (by kernel_rfl) (by simp) ?_
            refine AllReadyH.cons (o := { dst := some 45, op := Op.call { callee := Callee.value (Operand.func 66), args := #[Operand.tmp 44, Operand.const (Value.int IntKind.i64 8), Operand.const (Value.int IntKind.i64 0), Operand.const (Value.int IntKind.i64 0)], argTypes := #[107, 3, 3, 3] }, type := 3, pos := "site.go:140", after := #[{ on := 1, ground := Ground.data }], guard := none }) rfl (fun K hK => ?_) AllReadyH.nil
            go_simp
            (with_reducible refine (HCW.out _).mono ?_)
            rintro e w5 ⟨rfl, hu5⟩
            obtain ⟨p5, rfl⟩ := hu5.grown
            clear hu5
            refine hK.out _ _ (by repeat (first | (with_reducible exact Upd.refl _ _) | (with_reducible exact hHeld) | (with_reducible apply Upd.drew) | (with_reducible refine Upd.grE ?_ _) | (with_reducible refine Upd.alloc ?_ _))) (fun hHeld => ?_)
            clear hK K
            (try simp only [Act.put, List.setIfInBounds_toArray, List.set_cons_zero, List.set_cons_succ])
            refine wpAnyH_ready (rs := [9]) (by kernel_rfl) (by simp) ?_
            refine AllReadyH.cons (o := { dst := some 52, op := Op.call { callee := Callee.value (Operand.func 65), args := #[Operand.tmp 43, Operand.tmp 45, Operand.tmp 51], argTypes := #[99, 3, 24] }, type := 4, pos := "site.go:140", after := #[{ on := 0, ground := Ground.data }, { on := 2, ground := Ground.data }, { on := 8, ground := Ground.data }, { on := 2, ground := Ground.chain }], guard := none }) rfl (fun K hK => ?_) AllReadyH.nil
            go_simp
            refine (store_c (cellW ⟨k, a, cap, wd, rt⟩) i0 (HM2.out.keep (S := []) (by repeat (first | (with_reducible exact Upd.refl _ _) | (with_reducible apply Upd.drew) | (with_reducible refine Upd.grE ?_ _))) (by simp) (by simp)) HS2.out.1 (by have := HS2.out.2; have := HLT.out; omega)).mono ?_
            rintro e w6 ⟨bo, st3, rfl, hm6, hu6, hs6⟩
            have HU6 := Lib.hid (Upd.trans (S := [b, g]) (a := wx) (by repeat (first | (with_reducible exact HU2.out) | (with_reducible apply Upd.drew) | (with_reducible refine Upd.grE ?_ _))) hu6)
            have HM6 := Lib.hid hm6
            have HS6 := Lib.hid hs6
            have hHeld := Upd.trans (S := [b, g]) (a := wr) (by repeat (first | (with_reducible exact Upd.refl _ _) | (with_reducible exact hHeld) | (with_reducible apply Upd.drew) | (with_reducible refine Upd.grE ?_ _))) hu6
            clear hm6 hu6 hs6
            refine hK.out _ _ (by repeat (first | (with_reducible exact Upd.refl _ _) | (with_reducible exact hHeld) | (with_reducible apply Upd.drew) | (with_reducible refine Upd.grE ?_ _) | (with_reducible refine Upd.alloc ?_ _))) (fun hHeld => ?_)
            clear hK K
            (try simp only [Act.put, List.setIfInBounds_toArray, List.set_cons_zero, List.set_cons_succ])
            refine wpAnyH_done (by kernel_rfl) ?_ _
            clear R0 R1 R2 R3 R4 R5
            clear hHeld
            go_wp2
            go_roundg (l.length - (j + 1))
            case rel => exact ⟨j + 1, st3, by have := HLT.out; omega, by first | (rw [HW.out]; done) | (simp; done), by rw [HNEXT.out]; unfold objP; rw [if_neg HK.out]; exact HM6.out, by have := HS2.out.1; have := HS6.out.1; omega, by have := HS2.out.2; have := HS6.out.2; omega, HU9.out.trans HU6.out⟩
            case measure => have := HLT.out; have := HJ.out; omega
    · obtain rfl : j = l.length := by have := HJ.out; omega
      have e0 : (pls 0 l).length = l.length := pls_len 0 l
      clear hlt
      have HL2 := Lib.hid (show (startP l).length ≤ 65536 by rw [startP_len]; have := HSUM.out; omega)
      go_wp2_with fail
      refine (all_any HMR.out).mono ?_
      rintro e w5 ⟨g5, rfl, hg5, hh5, hu5⟩
      have HU5 := Lib.hid (show Upd [] W w5 from (HU1.out.then HU.out (by have := HB.out; have := HU1.out.size; simp; omega)).trans hu5)
      have HH5 := Lib.hid hh5
      clear hg5 hh5 hu5
      go_wp2_with fail
      refine (of_any _ _ (startP l) w5 HL2.out ⟨by simp [u32s], fun _ => ⟨g5, 0, rfl, heap_lt HH5.out, fun i v hv => by rw [Nat.zero_add]; exact cell_of_list HH5.out _ _ hv⟩⟩).mono ?_
      rintro e w6 ⟨b6, g6, rfl, hb6, hg6, hm6, hu6⟩
      have HU6 := Lib.hid hu6
      have HM6 := Lib.hid hm6
      have HB6 := Lib.hid (And.intro hb6 hg6)
      clear hb6 hg6 hm6 hu6
      go_wp2
      rw [Exit.noGoto_ret]
      go_ret
      exact ⟨HU5.out.trans HU6.out, b6, g6, rfl, Nat.le_trans HU5.out.size HB6.out.1, Nat.le_trans HU5.out.size HB6.out.2, HM6.out⟩
end
end Go.Proofs.Ytdbgnnkbcebpcaa
