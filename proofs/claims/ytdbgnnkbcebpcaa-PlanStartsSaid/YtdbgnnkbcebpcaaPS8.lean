/- Package plan: Of, walked for a valid configuration. (printed by genct.py out of PS8.base) -/
import Derived.Test.YtdbgnnkbcebpcaaPS7
import Derived.Deep.MidRow
import Derived.Deep.CutRange
set_option linter.unusedVariables false
set_option linter.unusedSimpArgs false
namespace Go.Proofs.Ytdbgnnkbcebpcaa
open Go.RowKit
theorem info_ln : (Try.prog.info? 135).map (fun i => (i.zero, i.size, i.bytes)) = some (some (.agg #[.int .i64 0, .int .i64 0, .int .i64 0, .int .i64 0, .int .i64 0, .int .i64 0]), 6, 48) := by kernel_rfl
theorem info_int1 : (Try.prog.info? 3).map (fun i => (i.zero, i.size, i.bytes)) = some (some (.int .i64 0), 1, 8) := by kernel_rfl
theorem info_plan5 (a b c d e : Value) : (Try.prog.info? 96).map (·.size) = some (#[a, b, c, d, e] : Array Value).size := by kernel_rfl
theorem info_pl5 (a b c d e : Value) : (Try.prog.info? 107).map (·.size) = some (#[a, b, c, d, e] : Array Value).size := by kernel_rfl
theorem pl_one (a b c : Int) : (#[.int .i64 1, .int .i64 a, .int .i64 b, .int .i64 1, .int .i64 c] : Array Value).all Value.oneCell' = true := by simp [Value.oneCell']
theorem heap_setE {w : World} {b k i : Nat} {v : Value} {o : Obj} (h : b ≠ k) (hk : w.heap[k]? = some o) : (w.setCell ⟨b, i, none⟩ v).heap[k]? = some o := by rw [heap_set_other w i v (fun e => h e.symm)]; exact hk
theorem updR {S : List Nat} {w w' : World} {g : Nat} {cs : Array Value} (h : Upd S w w') (hg : g ∈ S ∨ w.heap.size ≤ g) : Upd S w (w'.setRow g cs) := h.then (upd_setRow w' g cs) (fun i hi => by simp at hi; subst hi; exact hg)
theorem ptake_h (n m : Int) (x0 x1 x2 x3 : Value) (pb : Nat) (w : World) (hn0 : 0 ≤ n) (hn : n < 1000000) (hm0 : 0 ≤ m) (hm : m < 1000) {ty : TypeId} (hb : w.heap[pb]? = some (.cells #[x0, x1, x2, x3, .int .i64 n] ty (0, 0))) :
    Calls Try.prog 61 #[.int .i64 m, .pointer (some ⟨pb, 0, none⟩)] w fun e w' => e = .returned (.int .i64 n) ∧ w.setCell ⟨pb, 4, none⟩ (.int .i64 (n + m)) = w' :=
  ptake_c n m pb w hn0 hn hm0 hm (by rw [cell_of_heap hb]; rfl) (frozen_of_heap hb 4)
theorem list_srcP {w : World} {g : Nat} {xs : List Value} {t : TypeId} {f : Nat × Nat} (h : w.heap[g]? = some (.cells xs.toArray t f)) : ∀ j u, xs[j]? = some u → w.cell? ⟨g, 0 + j, none⟩ = some u := fun j u hj => by rw [Nat.zero_add]; exact cell_of_list h _ _ hj
section
variable {W : World} {ta la oa : Option Addr} {c : CF}
set_option maxRecDepth 100000 in
set_option maxHeartbeats 8000000 in
theorem planOf_c (tc lc oc : Nat) (h : CFR W ta la oa c) (hv : c.bad = (0, 0, 0)) :
    Calls Try.prog 38 #[.agg (cfA ta c.ts.length tc la c.ls.length lc oa c.os.length oc c.tk)] W fun e w' => Upd [] W w' ∧ ∃ va vc na nc ka kc, e = .returned (.tuple #[.agg #[.slice va c.os.length vc, .slice na c.ls.length nc, .int .i64 (sumS c.os + sumL (c.ls.map (·.r))), .slice ka c.ts.length kc, .int .i64 (sumS c.os + sumL (c.ls.map (·.r)) + 1 + c.ts.length)], .bool true]) ∧
      Els w' va 5 ((pls 0 c.os).map PL.cells) ∧ Els w' na 6 ((lns (sumS c.os) (c.ls.map (·.r))).map LN.cells) ∧ Reads w' ka c.ts.length (asks (sumS c.os + sumL (c.ls.map (·.r)) + 1) c.ts.length) := by
  obtain ⟨v1, v2, v3, -⟩ := bad_valid hv
  have HCH := Lib.hid fun (w' : World) (hu : Upd [] W w') => check_c tc lc oc (h.upd hu)
  simp only [hv] at HCH
  unfold badV at HCH
  have HEL := Lib.hid h.l
  have HOF := Lib.hid fun (w' : World) (hu : Upd [] W w') => sof_o (W := w') oc (h.o.upd hu (by simp)) (by omega)
  have hS := sumS_bounds c.os
  have hLb : ∀ j : Nat, 0 ≤ sumL ((c.ls.map (·.r)).take j) ∧ sumL ((c.ls.map (·.r)).take j) ≤ 8091 := fun j => by
    have h1 := sumL_bounds ((c.ls.map (·.r)).take j)
    have h2 : ((c.ls.map (·.r)).take j).length ≤ 31 := by simp; omega
    omega
  have HLB := Lib.hid hLb
  have hLg : ∀ j (hj : j < c.ls.length), (c.ls.map (·.r))[j]? = some (c.ls[j].r) := fun j hj => by simp [List.getElem?_eq_getElem hj]
  have HLG := Lib.hid hLg
  have hLl : (c.ls.map (·.r)).length = c.ls.length := by simp
  have HLL := Lib.hid hLl
  generalize c.ls.map (·.r) = L at *
  obtain ⟨ts, ls, os, tk⟩ := c
  simp only at *
  generalize sumS os = N at *
  have HN := Lib.hid (show 0 ≤ N ∧ N ≤ 4160 by omega)
  have HV := Lib.hid (And.intro v1 (And.intro v2 v3))
  have qe := neq_bad
  have hmf : ∀ (fn : Fn) (first cap : Array Value) (w : World), (Instr.makeFunc fn first cap).run Try.prog w = .ok (.func fn first cap) w := fun _ _ _ _ => rfl
  obtain ⟨ip, hip, hz0, hz1, hz2⟩ := info_parts info_ln
  have HIP := Lib.hid (And.intro hip (And.intro hz0 (And.intro hz1 hz2)))
  obtain ⟨iq, hiq, hy0, hy1, hy2⟩ := info_parts info_int1
  have HIQ := Lib.hid (And.intro hiq (And.intro hy0 (And.intro hy1 hy2)))
  clear h hv v1 v2 v3 hS hLb hLg hLl hip hz0 hz1 hz2 hiq hy0 hy1 hy2
  unfold cfA at *
  go_enter Try.func38, Try.ntmps38
  go_wp2_with (first
    | (go_at_call 59; (with_reducible refine (HCH.out _ (by repeat (first | (with_reducible exact Upd.refl _ _) | (with_reducible apply Upd.drew) | (with_reducible refine Upd.alloc ?_ _)))).mono ?_); rintro e w1 ⟨rfl, hu1⟩; obtain ⟨p1, rfl⟩ := hu1.grown; clear hu1)
    | (go_at_call 60; refine Go.RowKit.Hid.out ?_))
  refine Lib.hid ?_
  refine (HOF.out _ (by repeat (first | (with_reducible exact Upd.refl _ _) | (with_reducible apply Upd.drew) | (with_reducible refine Upd.grE ?_ _) | (with_reducible refine Upd.alloc ?_ _)))).mono ?_
  rintro e w1 ⟨hu1, va, vc, rfl, -, hpl⟩
  have HPL := Lib.hid hpl
  have hpb := hu1.keepb (k := W.heap.size + 1) (o := .cells #[.slice none 0 0, .slice none 0 0, .int .i64 0, .slice none 0 0, .int .i64 0] 96 (0, 0)) (by repeat (first | ((with_reducible refine heap_alloc_at _ ?_); (simp; done)) | (with_reducible apply heap_drewE) | (with_reducible apply heap_grE) | (with_reducible apply heap_alloc'))) (by simp)
  have hcb := hu1.keepb (k := W.heap.size) (o := .cells #[.slice ta ts.length tc, .slice la ls.length lc, .slice oa os.length oc, .int .i64 tk] 91 (0, 0)) (by repeat (first | ((with_reducible refine heap_alloc_at _ ?_); (first | rfl | (simp; done))) | (with_reducible apply heap_drewE) | (with_reducible apply heap_grE) | (with_reducible apply heap_alloc'))) (by simp)
  have HU1 := Lib.hid (Upd.trans (S := []) (a := W) (by repeat (first | (with_reducible exact Upd.refl _ _) | (with_reducible apply Upd.drew) | (with_reducible refine Upd.grE ?_ _) | (with_reducible refine Upd.alloc ?_ _))) hu1)
  have HPB := Lib.hid hpb
  have HCB := Lib.hid hcb
  obtain ⟨b0, b1, b2, b3, b4⟩ := cells5p hpb
  have bf := frozen_of_heap hpb
  have bl := heap_lt hpb
  clear hu1 hpl hpb hcb
  have HPB1 := Lib.hid (show ((w1.setCell ⟨W.heap.size + 1, 0, none⟩ (.slice va os.length vc)).setCell ⟨W.heap.size + 1, 4, none⟩ (.int .i64 N)).heap[W.heap.size + 1]? = some (.cells #[.slice va os.length vc, .slice none 0 0, .int .i64 0, .slice none 0 0, .int .i64 N] 96 (0, 0)) from heap_set2c (heap_set2c HPB.out rfl) rfl)
  have k1 : w1.cell? ⟨W.heap.size, 1, none⟩ = some (.slice la ls.length lc) := by rw [cell_of_heap HCB.out]; rfl
  have k0 : w1.cell? ⟨W.heap.size, 0, none⟩ = some (.slice ta ts.length tc) := by rw [cell_of_heap HCB.out]; rfl
  go_wp2
  go_loopg [26] ls.length (fun n s26 wr => ∃ (j : Nat) (lv : Value), n + j = ls.length ∧ s26 = .int .i64 j ∧ wr.ownsRow w1.heap.size 135 6 lv j ((lns N (L.take j)).flatMap LN.cells) ∧ wr.heap[W.heap.size + 1]? = some (.cells #[.slice va os.length vc, lv, .int .i64 0, .slice none 0 0, .int .i64 (N + sumL (L.take j))] 96 (0, 0)) ∧ Upd [W.heap.size + 1] w1 wr)
  case atStart => exact ⟨0, _, by omega, rfl, own_none, by simpa [sumL] using HPB1.out, by repeat (first | (with_reducible exact Upd.refl _ _) | (with_reducible refine Upd.setB ?_ (by simp)))⟩
  case round =>
    obtain ⟨j, lv, hj, rfl, hown, hpb, hu⟩ := hrel
    rename World => wo
    have HJ := Lib.hid hj
    have HOWN := Lib.hid hown
    have HPBR := Lib.hid hpb
    have HU := Lib.hid hu
    clear hj hown hpb hu b0 b1 b2 b3 b4 bf
    obtain ⟨b0, b1, b2, b3, b4⟩ := cells5p HPBR.out
    have bf := frozen_of_heap HPBR.out
    have brl := heap_lt HPBR.out
    obtain ⟨na, nc, rfl, hna, -⟩ := own_shape HOWN.out
    by_cases hlt : j < ls.length
    · obtain ⟨lb, lo, rfl, hlb, hlc⟩ := els_at HEL.out hlt
      have HLT := Lib.hid hlt
      have htk : lns N (L.take (j + 1)) = lns N (L.take j) ++ [lnOf (N + sumL (L.take j)) ls[j].r] := by rw [List.take_succ_eq_append_getElem (by rw [HLL.out]; exact hlt), lns_snoc]; congr; have := HLG.out j hlt; rw [List.getElem?_eq_getElem (by rw [HLL.out]; exact hlt)] at this; exact Option.some.inj this
      have hts : sumL (L.take (j + 1)) = sumL (L.take j) + (lsize ls[j].r + 1) := by rw [List.take_succ_eq_append_getElem (by rw [HLL.out]; exact hlt), sumL_snoc]; congr; have := HLG.out j hlt; rw [List.getElem?_eq_getElem (by rw [HLL.out]; exact hlt)] at this; exact Option.some.inj this
      have hnb := HLB.out j
      have hl1 : lb < w1.heap.size := Nat.lt_of_lt_of_le hlb HU1.out.size
      have hl2 : lb < wo.heap.size := Nat.lt_of_lt_of_le hl1 HU.out.size
      have hlne : lb ≠ W.heap.size + 1 := by omega
      generalize ls[j] = z at *
      obtain ⟨r, xa, xn, xc⟩ := z
      simp only at htk hts
      generalize hA : N + sumL (L.take j) = A at *
      have G := fun m v hm => (HU.out.cell (p := ⟨lb, lo + j * 2 + m, none⟩) hl1 (by simp; omega)).trans ((HU1.out.cell (p := ⟨lb, lo + j * 2 + m, none⟩) hlb (by simp)).trans (hlc m v hm))
      have g0 := G 0 _ rfl
      have g1 := G 1 _ rfl
      rw [Nat.add_zero] at g0
      have HTK := Lib.hid htk
      have HTS := Lib.hid hts
      have HA := Lib.hid (show 0 ≤ A ∧ A ≤ 13000 by have := HN.out; omega)
      have HAE := Lib.hid hA
      have i1 : (0 : Int) ≤ (j : Int) := by omega
      have i2 : (j : Int) < (ls.length : Int) := by omega
      have HW := Lib.hid (show wrap64 ((j : Int) + 1) = ((j + 1 : Nat) : Int) from wrap_next (by have := HV.out; omega) hlt)
      have HSZ := Lib.hid fun (w : World) => osize_c 1 r 1 0 0 0 0 0 0 0 w
      unfold obA at HSZ
      have e1 : sizeP 1 r 1 0 = lsize r := rfl
      have hcl : (lnOf A r).cells = [.int .i64 1, .int .i64 A, .int .i64 r, .int .i64 1, .int .i64 0, .int .i64 (A + lsize r)] := rfl
      simp only [e1] at HSZ
      have hlz := lsize_bounds r
      generalize lsize r = M at *
      have HCL := Lib.hid hcl
      clear hcl
      have HM := Lib.hid hlz
      clear hlt htk hts hnb hlc G e1 hA hlz
      go_wp2
      have HX := Lib.hid (show ((wo.alloc (.cells #[.int .i64 r, .slice xa xn xc] 133)).alloc (.cells #[.int .i64 1, .int .i64 r, .int .i64 1, .int .i64 0, .int .i64 0, .int .i64 0, .int .u32 0, .int .u32 0, .int .u32 0, .int .u32 0] 109)).heap[wo.heap.size + 1]? = some _ from heap_alloc_at _ (by simp))
      have HPX := Lib.hid (show ((wo.alloc (.cells #[.int .i64 r, .slice xa xn xc] 133)).alloc (.cells #[.int .i64 1, .int .i64 r, .int .i64 1, .int .i64 0, .int .i64 0, .int .i64 0, .int .u32 0, .int .u32 0, .int .u32 0, .int .u32 0] 109)).heap[W.heap.size + 1]? = some _ from heap_alloc' (heap_alloc' HPBR.out))
      have HUX := Lib.hid (show Upd [] wo ((wo.alloc (.cells #[.int .i64 r, .slice xa xn xc] 133)).alloc (.cells #[.int .i64 1, .int .i64 r, .int .i64 1, .int .i64 0, .int .i64 0, .int .i64 0, .int .u32 0, .int .u32 0, .int .u32 0, .int .u32 0] 109)) from ((Upd.refl _ _).alloc _).alloc _)
      generalize (wo.alloc (.cells #[.int .i64 r, .slice xa xn xc] 133)).alloc (.cells #[.int .i64 1, .int .i64 r, .int .i64 1, .int .i64 0, .int .i64 0, .int .i64 0, .int .u32 0, .int .u32 0, .int .u32 0, .int .u32 0] 109) = wx at *
      have lx := heap_lt HX.out
      have lpx := heap_lt HPX.out
      obtain ⟨x0, x1, x2, -, -, -, -, -, -, -⟩ := cells10p HX.out
      have hne : wo.heap.size + 1 ∉ [W.heap.size + 1] := by simp; omega
      have R0 : ∀ w1 : World, Upd [W.heap.size + 1] wx w1 → w1.cell? ⟨wo.heap.size + 1, 0, none⟩ = some (.int .i64 1) := fun w1 h => (h.cell (p := ⟨wo.heap.size + 1, 0, none⟩) lx hne).trans x0
      have R1 : ∀ w1 : World, Upd [W.heap.size + 1] wx w1 → w1.cell? ⟨wo.heap.size + 1, 1, none⟩ = some (.int .i64 r) := fun w1 h => (h.cell (p := ⟨wo.heap.size + 1, 1, none⟩) lx hne).trans x1
      have R2 : ∀ w1 : World, Upd [W.heap.size + 1] wx w1 → w1.cell? ⟨wo.heap.size + 1, 2, none⟩ = some (.int .i64 1) := fun w1 h => (h.cell (p := ⟨wo.heap.size + 1, 2, none⟩) lx hne).trans x2
      have HRG := Lib.hid (show ∀ w1 : World, Upd [W.heap.size + 1] wx w1 → w1.rangeAt (wo.heap.size + 1) 0 [.int .i64 1, .int .i64 r, .int .i64 1, .int .i64 0, .int .i64 0, .int .i64 0, .int .u32 0, .int .u32 0, .int .u32 0, .int .u32 0] from fun w1 h m v hm => by
        rw [Nat.zero_add]
        exact (h.cell (p := ⟨wo.heap.size + 1, m, none⟩) lx hne).trans (by rw [cell_of_heap HX.out]; simpa using hm))
      clear x0 x1 x2
      go_cut [8] from 33 to 43 (fun s8 w => ∃ q, s8 = .pointer (some ⟨q, 0, none⟩) ∧ w.heap[q]? = some (.cells #[.int .i64 1, .int .i64 A, .int .i64 r, .int .i64 1, .int .i64 0] 107 (0, 0)) ∧ w.heap[W.heap.size + 1]? = some (.cells #[.slice va os.length vc, .slice na j nc, .int .i64 0, .slice none 0 0, .int .i64 (A + M)] 96 (0, 0)) ∧ Upd [W.heap.size + 1] wo w ∧ q ≠ W.heap.size + 1)
      case first =>
        refine wp_region_held_drew (S := fun w1 => Upd [W.heap.size + 1] wx w1) (by kernel_rfl) ?_ (fun hHeld => ?_)
        · exact (Upd.refl _ wx).drew
        refine wpAnyH_take (i := 0) (oi := { dst := some 33, op := Op.fieldAddr 109 (Operand.tmp 7) 0, type := 0, pos := "plan.go:44", after := #[], guard := none }) (v := .pointer (some ⟨wo.heap.size + 1, 0, none⟩)) rfl (by kernel_rfl) (by kernel_rfl) (by kernel_rfl) (fun _ _ _ h => h) (Or.inl ⟨by rfl, ?_⟩) hHeld ?_
        · intro w1 hSw
          (try dsimp only at hSw)
          go_simp
        (try simp only [Act.put, List.setIfInBounds_toArray, List.set_cons_zero, List.set_cons_succ])
        refine wpAnyH_take (i := 1) (oi := { dst := some 34, op := Op.load 3 (Operand.tmp 33), type := 3, pos := "plan.go:44", after := #[{ on := 0, ground := Ground.data }], guard := none }) (v := .int .i64 1) rfl (by kernel_rfl) (by kernel_rfl) (by kernel_rfl) (fun _ _ _ h => h) (Or.inl ⟨by rfl, ?_⟩) hHeld ?_
        · intro w1 hSw
          (try dsimp only at hSw)
          go_simp
        (try simp only [Act.put, List.setIfInBounds_toArray, List.set_cons_zero, List.set_cons_succ])
        refine wpAnyH_take (i := 2) (oi := { dst := some 35, op := Op.move (Operand.tmp 4), type := 116, pos := "plan.go:44", after := #[], guard := none }) (v := .func (.func 61) #[] #[.pointer (some ⟨W.heap.size + 1, 0, none⟩)]) rfl (by kernel_rfl) (by kernel_rfl) (by kernel_rfl) (fun _ _ _ h => h) (Or.inl ⟨by rfl, ?_⟩) hHeld ?_
        · intro w1 hSw
          (try dsimp only at hSw)
          go_simp
        (try simp only [Act.put, List.setIfInBounds_toArray, List.set_cons_zero, List.set_cons_succ])
        refine wpAnyH_take (i := 3) (oi := { dst := some 36, op := Op.load 109 (Operand.tmp 7), type := 109, pos := "plan.go:44", after := #[], guard := none }) (v := .agg #[.int .i64 1, .int .i64 r, .int .i64 1, .int .i64 0, .int .i64 0, .int .i64 0, .int .u32 0, .int .u32 0, .int .u32 0, .int .u32 0]) rfl (by kernel_rfl) (by kernel_rfl) (by kernel_rfl) (fun _ _ _ h => h) (yieldsIf_load_mid (by rfl) 109 _ rfl (wo.heap.size + 1) (0) rfl [.int .i64 1, .int .i64 r, .int .i64 1, .int .i64 0, .int .i64 0, .int .i64 0, .int .u32 0, .int .u32 0, .int .u32 0, .int .u32 0] _ (HRG.out) Try.underlying109 rfl (info_obL _ _ _ _ _ _ _ _ _ _)) hHeld ?_
        (try simp only [Act.put, List.setIfInBounds_toArray, List.set_cons_zero, List.set_cons_succ])
        refine wpAnyH_take (i := 6) (oi := { dst := some 39, op := Op.fieldAddr 109 (Operand.tmp 7) 1, type := 0, pos := "plan.go:44", after := #[], guard := none }) (v := .pointer (some ⟨wo.heap.size + 1, 1, none⟩)) rfl (by kernel_rfl) (by kernel_rfl) (by kernel_rfl) (fun _ _ _ h => h) (Or.inl ⟨by rfl, ?_⟩) hHeld ?_
        · intro w1 hSw
          (try dsimp only at hSw)
          go_simp
        (try simp only [Act.put, List.setIfInBounds_toArray, List.set_cons_zero, List.set_cons_succ])
        refine wpAnyH_take (i := 7) (oi := { dst := some 40, op := Op.load 3 (Operand.tmp 39), type := 3, pos := "plan.go:44", after := #[{ on := 6, ground := Ground.data }], guard := none }) (v := .int .i64 r) rfl (by kernel_rfl) (by kernel_rfl) (by kernel_rfl) (fun _ _ _ h => h) (Or.inl ⟨by rfl, ?_⟩) hHeld ?_
        · intro w1 hSw
          (try dsimp only at hSw)
          go_simp
        (try simp only [Act.put, List.setIfInBounds_toArray, List.set_cons_zero, List.set_cons_succ])
        refine wpAnyH_take (i := 8) (oi := { dst := some 41, op := Op.fieldAddr 109 (Operand.tmp 7) 2, type := 0, pos := "plan.go:44", after := #[], guard := none }) (v := .pointer (some ⟨wo.heap.size + 1, 2, none⟩)) rfl (by kernel_rfl) (by kernel_rfl) (by kernel_rfl) (fun _ _ _ h => h) (Or.inl ⟨by rfl, ?_⟩) hHeld ?_
        · intro w1 hSw
          (try dsimp only at hSw)
          go_simp
        (try simp only [Act.put, List.setIfInBounds_toArray, List.set_cons_zero, List.set_cons_succ])
        refine wpAnyH_take (i := 9) (oi := { dst := some 42, op := Op.load 3 (Operand.tmp 41), type := 3, pos := "plan.go:44", after := #[{ on := 8, ground := Ground.data }], guard := none }) (v := .int .i64 1) rfl (by kernel_rfl) (by kernel_rfl) (by kernel_rfl) (fun _ _ _ h => h) (Or.inl ⟨by rfl, ?_⟩) hHeld ?_
        · intro w1 hSw
          (try dsimp only at hSw)
          go_simp
        (try simp only [Act.put, List.setIfInBounds_toArray, List.set_cons_zero, List.set_cons_succ])
        refine wpAnyH_ready (rs := [4, 11]) (by kernel_rfl) (by simp) ?_
        refine AllReadyH.cons (o := { dst := some 37, op := Op.call { callee := Callee.value (Operand.func 62), args := #[Operand.tmp 36], argTypes := #[109] }, type := 3, pos := "plan.go:44", after := #[{ on := 3, ground := Ground.data }], guard := none }) rfl (fun K hK => ?_) (AllReadyH.cons (o := { dst := some 8, op := Op.alloc 107, type := 0, pos := "plan.go:44", after := #[], guard := none }) rfl (fun K hK => ?_) AllReadyH.nil)
        · go_simp
          (with_reducible refine (HSZ.out _).mono ?_)
          rintro e w5 ⟨rfl, hu5⟩
          obtain ⟨p5, rfl⟩ := hu5.grown
          clear hu5
          refine hK.out _ _ (by repeat (first | (with_reducible exact Upd.refl _ _) | (with_reducible exact hHeld) | (with_reducible apply Upd.drew) | (with_reducible refine Upd.grE ?_ _) | (with_reducible refine Upd.alloc ?_ _) | (with_reducible refine Upd.setB ?_ (by simp)) | (with_reducible refine updR ?_ (.inr (by first | omega | (simp [size_setCell]; done) | (simp [size_setCell]; omega)))))) (fun hHeld => ?_)
          clear hK K
          (try simp only [Act.put, List.setIfInBounds_toArray, List.set_cons_zero, List.set_cons_succ])
          refine wpAnyH_ready (rs := [5, 11]) (by kernel_rfl) (by simp) ?_
          refine AllReadyH.cons (o := { dst := some 38, op := Op.call { callee := Callee.value (Operand.tmp 35), args := #[Operand.tmp 37], argTypes := #[3] }, type := 3, pos := "plan.go:44", after := #[{ on := 2, ground := Ground.data }, { on := 4, ground := Ground.data }, { on := 4, ground := Ground.chain }], guard := none }) rfl (fun K hK => ?_) (AllReadyH.cons (o := { dst := some 8, op := Op.alloc 107, type := 0, pos := "plan.go:44", after := #[], guard := none }) rfl (fun K hK => ?_) AllReadyH.nil)
          · go_simp
            refine (ptake_h A M _ _ _ _ (W.heap.size + 1) _ HA.out.1 (by have := HA.out.2; omega) HM.out.1 (by have := HM.out.2; omega) (by repeat (first | (with_reducible exact HPX.out) | (with_reducible apply heap_drewE) | (with_reducible apply heap_grE) | (with_reducible apply heap_alloc')))).mono ?_
            rintro e w6 ⟨rfl, rfl⟩
            refine hK.out _ _ (by repeat (first | (with_reducible exact Upd.refl _ _) | (with_reducible exact hHeld) | (with_reducible apply Upd.drew) | (with_reducible refine Upd.grE ?_ _) | (with_reducible refine Upd.alloc ?_ _) | (with_reducible refine Upd.setB ?_ (by simp)) | (with_reducible refine updR ?_ (.inr (by first | omega | (simp [size_setCell]; done) | (simp [size_setCell]; omega)))))) (fun hHeld => ?_)
            clear hK K
            (try simp only [Act.put, List.setIfInBounds_toArray, List.set_cons_zero, List.set_cons_succ])
            refine wpAnyH_take (i := 10) (oi := { dst := some 43, op := Op.build 107 #[(0, Operand.tmp 34), (1, Operand.tmp 38), (2, Operand.tmp 40), (3, Operand.tmp 42)], type := 107, pos := "plan.go:44", after := #[{ on := 1, ground := Ground.data }, { on := 5, ground := Ground.data }, { on := 7, ground := Ground.data }, { on := 9, ground := Ground.data }], guard := none }) (v := .agg #[.int .i64 1, .int .i64 A, .int .i64 r, .int .i64 1, .int .i64 0]) rfl (by kernel_rfl) (by kernel_rfl) (by kernel_rfl) (fun _ _ _ h => h) (Or.inl ⟨by rfl, ?_⟩) hHeld ?_
            · intro w1 hSw
              (try dsimp only at hSw)
              go_simp
            (try simp only [Act.put, List.setIfInBounds_toArray, List.set_cons_zero, List.set_cons_succ])
            refine wpAnyH_ready (rs := [11]) (by kernel_rfl) (by simp) ?_
            refine AllReadyH.cons (o := { dst := some 8, op := Op.alloc 107, type := 0, pos := "plan.go:44", after := #[], guard := none }) rfl (fun K hK => ?_) AllReadyH.nil
            go_simp
            refine hK.out _ _ (by repeat (first | (with_reducible exact Upd.refl _ _) | (with_reducible exact hHeld) | (with_reducible apply Upd.drew) | (with_reducible refine Upd.grE ?_ _) | (with_reducible refine Upd.alloc ?_ _) | (with_reducible refine Upd.setB ?_ (by simp)) | (with_reducible refine updR ?_ (.inr (by first | omega | (simp [size_setCell]; done) | (simp [size_setCell]; omega)))))) (fun hHeld => ?_)
            clear hK K
            (try simp only [Act.put, List.setIfInBounds_toArray, List.set_cons_zero, List.set_cons_succ])
            refine wpAnyH_ready (rs := [12]) (by kernel_rfl) (by simp) ?_
            refine AllReadyH.cons (o := { dst := none, op := Op.store 107 (Operand.tmp 8) (Operand.tmp 43), type := 0, pos := "plan.go:44", after := #[{ on := 11, ground := Ground.data }, { on := 10, ground := Ground.data }, { on := 5, ground := Ground.chain }, { on := 0, ground := Ground.phase }, { on := 1, ground := Ground.phase }, { on := 2, ground := Ground.phase }, { on := 3, ground := Ground.phase }, { on := 4, ground := Ground.phase }, { on := 5, ground := Ground.phase }, { on := 6, ground := Ground.phase }, { on := 7, ground := Ground.phase }, { on := 8, ground := Ground.phase }, { on := 9, ground := Ground.phase }, { on := 10, ground := Ground.phase }, { on := 11, ground := Ground.phase }], guard := none }) rfl (fun K hK => ?_) AllReadyH.nil
            rw [if_pos (by rfl)]
            refine wp_store_row 107 _ _ rfl _ #[.int .i64 1, .int .i64 A, .int .i64 r, .int .i64 1, .int .i64 0] rfl rfl 107 #[.int .i64 0, .int .i64 0, .int .i64 0, .int .i64 0, .int .i64 0] (by repeat (first | ((with_reducible refine heap_alloc_at _ ?_); (first | rfl | (simp [size_setCell]; done) | (simp [size_setCell]; omega))) | (with_reducible refine heap_setE (by first | omega | (simp; omega)) ?_) | (with_reducible apply heap_drewE) | (with_reducible apply heap_grE) | (with_reducible apply heap_alloc'))) (info_pl5 _ _ _ _ _) rfl (pl_one _ _ _) ?_
            refine hK.out _ _ (by repeat (first | (with_reducible exact Upd.refl _ _) | (with_reducible exact hHeld) | (with_reducible apply Upd.drew) | (with_reducible refine Upd.grE ?_ _) | (with_reducible refine Upd.alloc ?_ _) | (with_reducible refine Upd.setB ?_ (by simp)) | (with_reducible refine updR ?_ (.inr (by first | omega | (simp [size_setCell]; done) | (simp [size_setCell]; omega)))))) (fun hHeld => ?_)
            clear hK K
            (try simp only [Act.put, List.setIfInBounds_toArray, List.set_cons_zero, List.set_cons_succ])
            refine wpAnyH_done (by kernel_rfl) ?_ _
            go_wp2_with fail
            go_meet
            case rel =>
              refine ⟨_, rfl, ?h1, ?h2, HUX.out.mono (by simp) |>.trans hHeld, ?h3⟩
              case h1 => exact setRow_heap _ _ #[.int .i64 0, .int .i64 0, .int .i64 0, .int .i64 0, .int .i64 0] _ 107 (0, 0) (by repeat (first | ((with_reducible refine heap_alloc_at _ ?_); (first | rfl | (simp [size_setCell]; done) | (simp [size_setCell]; omega))) | (with_reducible refine heap_setE (by first | omega | (simp; omega)) ?_) | (with_reducible apply heap_drewE) | (with_reducible apply heap_grE) | (with_reducible apply heap_alloc')))
              case h2 => refine (setRow_other _ _ _ _ (by first | omega | (simp [size_setCell]; omega))).trans ?_; repeat (first | (with_reducible refine heap_set2c HPX.out rfl) | (with_reducible apply heap_drewE) | (with_reducible apply heap_grE) | (with_reducible apply heap_alloc') | exact heap_set2c (heap_alloc' (heap_grE HPX.out)) rfl | exact heap_set2c (heap_grE (heap_alloc' HPX.out)) rfl)
              case h3 => first | omega | (simp [size_setCell]; omega)
          · go_simp
            refine hK.out _ _ (by repeat (first | (with_reducible exact Upd.refl _ _) | (with_reducible exact hHeld) | (with_reducible apply Upd.drew) | (with_reducible refine Upd.grE ?_ _) | (with_reducible refine Upd.alloc ?_ _) | (with_reducible refine Upd.setB ?_ (by simp)) | (with_reducible refine updR ?_ (.inr (by first | omega | (simp [size_setCell]; done) | (simp [size_setCell]; omega)))))) (fun hHeld => ?_)
            clear hK K
            (try simp only [Act.put, List.setIfInBounds_toArray, List.set_cons_zero, List.set_cons_succ])
            refine wpAnyH_ready (rs := [5]) (by kernel_rfl) (by simp) ?_
            refine AllReadyH.cons (o := { dst := some 38, op := Op.call { callee := Callee.value (Operand.tmp 35), args := #[Operand.tmp 37], argTypes := #[3] }, type := 3, pos := "plan.go:44", after := #[{ on := 2, ground := Ground.data }, { on := 4, ground := Ground.data }, { on := 4, ground := Ground.chain }], guard := none }) rfl (fun K hK => ?_) AllReadyH.nil
            go_simp
            refine (ptake_h A M _ _ _ _ (W.heap.size + 1) _ HA.out.1 (by have := HA.out.2; omega) HM.out.1 (by have := HM.out.2; omega) (by repeat (first | (with_reducible exact HPX.out) | (with_reducible apply heap_drewE) | (with_reducible apply heap_grE) | (with_reducible apply heap_alloc')))).mono ?_
            rintro e w6 ⟨rfl, rfl⟩
            refine hK.out _ _ (by repeat (first | (with_reducible exact Upd.refl _ _) | (with_reducible exact hHeld) | (with_reducible apply Upd.drew) | (with_reducible refine Upd.grE ?_ _) | (with_reducible refine Upd.alloc ?_ _) | (with_reducible refine Upd.setB ?_ (by simp)) | (with_reducible refine updR ?_ (.inr (by first | omega | (simp [size_setCell]; done) | (simp [size_setCell]; omega)))))) (fun hHeld => ?_)
            clear hK K
            (try simp only [Act.put, List.setIfInBounds_toArray, List.set_cons_zero, List.set_cons_succ])
            refine wpAnyH_take (i := 10) (oi := { dst := some 43, op := Op.build 107 #[(0, Operand.tmp 34), (1, Operand.tmp 38), (2, Operand.tmp 40), (3, Operand.tmp 42)], type := 107, pos := "plan.go:44", after := #[{ on := 1, ground := Ground.data }, { on := 5, ground := Ground.data }, { on := 7, ground := Ground.data }, { on := 9, ground := Ground.data }], guard := none }) (v := .agg #[.int .i64 1, .int .i64 A, .int .i64 r, .int .i64 1, .int .i64 0]) rfl (by kernel_rfl) (by kernel_rfl) (by kernel_rfl) (fun _ _ _ h => h) (Or.inl ⟨by rfl, ?_⟩) hHeld ?_
            · intro w1 hSw
              (try dsimp only at hSw)
              go_simp
            (try simp only [Act.put, List.setIfInBounds_toArray, List.set_cons_zero, List.set_cons_succ])
            refine wpAnyH_ready (rs := [12]) (by kernel_rfl) (by simp) ?_
            refine AllReadyH.cons (o := { dst := none, op := Op.store 107 (Operand.tmp 8) (Operand.tmp 43), type := 0, pos := "plan.go:44", after := #[{ on := 11, ground := Ground.data }, { on := 10, ground := Ground.data }, { on := 5, ground := Ground.chain }, { on := 0, ground := Ground.phase }, { on := 1, ground := Ground.phase }, { on := 2, ground := Ground.phase }, { on := 3, ground := Ground.phase }, { on := 4, ground := Ground.phase }, { on := 5, ground := Ground.phase }, { on := 6, ground := Ground.phase }, { on := 7, ground := Ground.phase }, { on := 8, ground := Ground.phase }, { on := 9, ground := Ground.phase }, { on := 10, ground := Ground.phase }, { on := 11, ground := Ground.phase }], guard := none }) rfl (fun K hK => ?_) AllReadyH.nil
            rw [if_pos (by rfl)]
            refine wp_store_row 107 _ _ rfl _ #[.int .i64 1, .int .i64 A, .int .i64 r, .int .i64 1, .int .i64 0] rfl rfl 107 #[.int .i64 0, .int .i64 0, .int .i64 0, .int .i64 0, .int .i64 0] (by repeat (first | ((with_reducible refine heap_alloc_at _ ?_); (first | rfl | (simp [size_setCell]; done) | (simp [size_setCell]; omega))) | (with_reducible refine heap_setE (by first | omega | (simp; omega)) ?_) | (with_reducible apply heap_drewE) | (with_reducible apply heap_grE) | (with_reducible apply heap_alloc'))) (info_pl5 _ _ _ _ _) rfl (pl_one _ _ _) ?_
            refine hK.out _ _ (by repeat (first | (with_reducible exact Upd.refl _ _) | (with_reducible exact hHeld) | (with_reducible apply Upd.drew) | (with_reducible refine Upd.grE ?_ _) | (with_reducible refine Upd.alloc ?_ _) | (with_reducible refine Upd.setB ?_ (by simp)) | (with_reducible refine updR ?_ (.inr (by first | omega | (simp [size_setCell]; done) | (simp [size_setCell]; omega)))))) (fun hHeld => ?_)
            clear hK K
            (try simp only [Act.put, List.setIfInBounds_toArray, List.set_cons_zero, List.set_cons_succ])
            refine wpAnyH_done (by kernel_rfl) ?_ _
            go_wp2_with fail
            go_meet
            case rel =>
              refine ⟨_, rfl, ?h1, ?h2, HUX.out.mono (by simp) |>.trans hHeld, ?h3⟩
              case h1 => exact setRow_heap _ _ #[.int .i64 0, .int .i64 0, .int .i64 0, .int .i64 0, .int .i64 0] _ 107 (0, 0) (by repeat (first | ((with_reducible refine heap_alloc_at _ ?_); (first | rfl | (simp [size_setCell]; done) | (simp [size_setCell]; omega))) | (with_reducible refine heap_setE (by first | omega | (simp; omega)) ?_) | (with_reducible apply heap_drewE) | (with_reducible apply heap_grE) | (with_reducible apply heap_alloc')))
              case h2 => refine (setRow_other _ _ _ _ (by first | omega | (simp [size_setCell]; omega))).trans ?_; repeat (first | (with_reducible refine heap_set2c HPX.out rfl) | (with_reducible apply heap_drewE) | (with_reducible apply heap_grE) | (with_reducible apply heap_alloc') | exact heap_set2c (heap_alloc' (heap_grE HPX.out)) rfl | exact heap_set2c (heap_grE (heap_alloc' HPX.out)) rfl)
              case h3 => first | omega | (simp [size_setCell]; omega)
        · go_simp
          refine hK.out _ _ (by repeat (first | (with_reducible exact Upd.refl _ _) | (with_reducible exact hHeld) | (with_reducible apply Upd.drew) | (with_reducible refine Upd.grE ?_ _) | (with_reducible refine Upd.alloc ?_ _) | (with_reducible refine Upd.setB ?_ (by simp)) | (with_reducible refine updR ?_ (.inr (by first | omega | (simp [size_setCell]; done) | (simp [size_setCell]; omega)))))) (fun hHeld => ?_)
          clear hK K
          (try simp only [Act.put, List.setIfInBounds_toArray, List.set_cons_zero, List.set_cons_succ])
          refine wpAnyH_ready (rs := [4]) (by kernel_rfl) (by simp) ?_
          refine AllReadyH.cons (o := { dst := some 37, op := Op.call { callee := Callee.value (Operand.func 62), args := #[Operand.tmp 36], argTypes := #[109] }, type := 3, pos := "plan.go:44", after := #[{ on := 3, ground := Ground.data }], guard := none }) rfl (fun K hK => ?_) AllReadyH.nil
          go_simp
          (with_reducible refine (HSZ.out _).mono ?_)
          rintro e w5 ⟨rfl, hu5⟩
          obtain ⟨p5, rfl⟩ := hu5.grown
          clear hu5
          refine hK.out _ _ (by repeat (first | (with_reducible exact Upd.refl _ _) | (with_reducible exact hHeld) | (with_reducible apply Upd.drew) | (with_reducible refine Upd.grE ?_ _) | (with_reducible refine Upd.alloc ?_ _) | (with_reducible refine Upd.setB ?_ (by simp)) | (with_reducible refine updR ?_ (.inr (by first | omega | (simp [size_setCell]; done) | (simp [size_setCell]; omega)))))) (fun hHeld => ?_)
          clear hK K
          (try simp only [Act.put, List.setIfInBounds_toArray, List.set_cons_zero, List.set_cons_succ])
          refine wpAnyH_ready (rs := [5]) (by kernel_rfl) (by simp) ?_
          refine AllReadyH.cons (o := { dst := some 38, op := Op.call { callee := Callee.value (Operand.tmp 35), args := #[Operand.tmp 37], argTypes := #[3] }, type := 3, pos := "plan.go:44", after := #[{ on := 2, ground := Ground.data }, { on := 4, ground := Ground.data }, { on := 4, ground := Ground.chain }], guard := none }) rfl (fun K hK => ?_) AllReadyH.nil
          go_simp
          refine (ptake_h A M _ _ _ _ (W.heap.size + 1) _ HA.out.1 (by have := HA.out.2; omega) HM.out.1 (by have := HM.out.2; omega) (by repeat (first | (with_reducible exact HPX.out) | (with_reducible apply heap_drewE) | (with_reducible apply heap_grE) | (with_reducible apply heap_alloc')))).mono ?_
          rintro e w6 ⟨rfl, rfl⟩
          refine hK.out _ _ (by repeat (first | (with_reducible exact Upd.refl _ _) | (with_reducible exact hHeld) | (with_reducible apply Upd.drew) | (with_reducible refine Upd.grE ?_ _) | (with_reducible refine Upd.alloc ?_ _) | (with_reducible refine Upd.setB ?_ (by simp)) | (with_reducible refine updR ?_ (.inr (by first | omega | (simp [size_setCell]; done) | (simp [size_setCell]; omega)))))) (fun hHeld => ?_)
          clear hK K
          (try simp only [Act.put, List.setIfInBounds_toArray, List.set_cons_zero, List.set_cons_succ])
          refine wpAnyH_take (i := 10) (oi := { dst := some 43, op := Op.build 107 #[(0, Operand.tmp 34), (1, Operand.tmp 38), (2, Operand.tmp 40), (3, Operand.tmp 42)], type := 107, pos := "plan.go:44", after := #[{ on := 1, ground := Ground.data }, { on := 5, ground := Ground.data }, { on := 7, ground := Ground.data }, { on := 9, ground := Ground.data }], guard := none }) (v := .agg #[.int .i64 1, .int .i64 A, .int .i64 r, .int .i64 1, .int .i64 0]) rfl (by kernel_rfl) (by kernel_rfl) (by kernel_rfl) (fun _ _ _ h => h) (Or.inl ⟨by rfl, ?_⟩) hHeld ?_
          · intro w1 hSw
            (try dsimp only at hSw)
            go_simp
          (try simp only [Act.put, List.setIfInBounds_toArray, List.set_cons_zero, List.set_cons_succ])
          refine wpAnyH_ready (rs := [12]) (by kernel_rfl) (by simp) ?_
          refine AllReadyH.cons (o := { dst := none, op := Op.store 107 (Operand.tmp 8) (Operand.tmp 43), type := 0, pos := "plan.go:44", after := #[{ on := 11, ground := Ground.data }, { on := 10, ground := Ground.data }, { on := 5, ground := Ground.chain }, { on := 0, ground := Ground.phase }, { on := 1, ground := Ground.phase }, { on := 2, ground := Ground.phase }, { on := 3, ground := Ground.phase }, { on := 4, ground := Ground.phase }, { on := 5, ground := Ground.phase }, { on := 6, ground := Ground.phase }, { on := 7, ground := Ground.phase }, { on := 8, ground := Ground.phase }, { on := 9, ground := Ground.phase }, { on := 10, ground := Ground.phase }, { on := 11, ground := Ground.phase }], guard := none }) rfl (fun K hK => ?_) AllReadyH.nil
          rw [if_pos (by rfl)]
          refine wp_store_row 107 _ _ rfl _ #[.int .i64 1, .int .i64 A, .int .i64 r, .int .i64 1, .int .i64 0] rfl rfl 107 #[.int .i64 0, .int .i64 0, .int .i64 0, .int .i64 0, .int .i64 0] (by repeat (first | ((with_reducible refine heap_alloc_at _ ?_); (first | rfl | (simp [size_setCell]; done) | (simp [size_setCell]; omega))) | (with_reducible refine heap_setE (by first | omega | (simp; omega)) ?_) | (with_reducible apply heap_drewE) | (with_reducible apply heap_grE) | (with_reducible apply heap_alloc'))) (info_pl5 _ _ _ _ _) rfl (pl_one _ _ _) ?_
          refine hK.out _ _ (by repeat (first | (with_reducible exact Upd.refl _ _) | (with_reducible exact hHeld) | (with_reducible apply Upd.drew) | (with_reducible refine Upd.grE ?_ _) | (with_reducible refine Upd.alloc ?_ _) | (with_reducible refine Upd.setB ?_ (by simp)) | (with_reducible refine updR ?_ (.inr (by first | omega | (simp [size_setCell]; done) | (simp [size_setCell]; omega)))))) (fun hHeld => ?_)
          clear hK K
          (try simp only [Act.put, List.setIfInBounds_toArray, List.set_cons_zero, List.set_cons_succ])
          refine wpAnyH_done (by kernel_rfl) ?_ _
          go_wp2_with fail
          go_meet
          case rel =>
            refine ⟨_, rfl, ?h1, ?h2, HUX.out.mono (by simp) |>.trans hHeld, ?h3⟩
            case h1 => exact setRow_heap _ _ #[.int .i64 0, .int .i64 0, .int .i64 0, .int .i64 0, .int .i64 0] _ 107 (0, 0) (by repeat (first | ((with_reducible refine heap_alloc_at _ ?_); (first | rfl | (simp [size_setCell]; done) | (simp [size_setCell]; omega))) | (with_reducible refine heap_setE (by first | omega | (simp; omega)) ?_) | (with_reducible apply heap_drewE) | (with_reducible apply heap_grE) | (with_reducible apply heap_alloc')))
            case h2 => refine (setRow_other _ _ _ _ (by first | omega | (simp [size_setCell]; omega))).trans ?_; repeat (first | (with_reducible refine heap_set2c HPX.out rfl) | (with_reducible apply heap_drewE) | (with_reducible apply heap_grE) | (with_reducible apply heap_alloc') | exact heap_set2c (heap_alloc' (heap_grE HPX.out)) rfl | exact heap_set2c (heap_grE (heap_alloc' HPX.out)) rfl)
            case h3 => first | omega | (simp [size_setCell]; omega)
      case rest =>
        obtain ⟨q, rfl, hq, hp, hu, hqn⟩ := hcut
        clear R0 R1 R2 hne lpx lx bf b0 b1 b2 b3 b4
        have HP := Lib.hid hp
        have HQ := Lib.hid hq
        have HUC := Lib.hid hu
        obtain ⟨b0, b1, b2, b3, b4⟩ := cells5p hp
        obtain ⟨q0, q1, q2, q3, q4⟩ := cells5p hq
        have bf := frozen_of_heap hp
        have pl := heap_lt hp
        have ql := heap_lt hq
        have HOWN2 := Lib.hid (own_upd HOWN.out hu (fun k hk hm => by have := own_base HOWN.out k hk; simp at hm; omega))
        have hqo := own_ne HOWN2.out hq (by decide)
        have hpo : (Value.slice na j nc).ownBlock ≠ some (W.heap.size + 1) := fun e => by have := own_base HOWN2.out _ e; omega
        have HQO := Lib.hid (And.intro hqo hpo)
        have hbase := hu.size
        have HBS := Lib.hid (show w1.heap.size ≤ wc.heap.size from Nat.le_trans HU.out.size hu.size)
        clear hq hp hu hqo hpo
        go_upto_region 10 with (fail)
        refine wp_region_held_drew (S := fun w1 => w1.cell? ⟨q, 0, none⟩ = some (.int .i64 1) ∧ w1.cell? ⟨q, 1, none⟩ = some (.int .i64 A) ∧ w1.cell? ⟨q, 2, none⟩ = some (.int .i64 r) ∧ w1.cell? ⟨q, 3, none⟩ = some (.int .i64 1) ∧ w1.cell? ⟨q, 4, none⟩ = some (.int .i64 0)) (by kernel_rfl) ?_ (fun hHeld => ?_)
        · exact ⟨q0, q1, q2, q3, q4⟩
        refine wpAnyH_take (i := 0) (oi := { dst := some 44, op := Op.fieldAddr 96 (Operand.tmp 2) 1, type := 0, pos := "plan.go:45", after := #[], guard := none }) (v := .pointer (some ⟨W.heap.size + 1, 1, none⟩)) rfl (by kernel_rfl) (by kernel_rfl) (by kernel_rfl) (fun _ _ _ h => h) (Or.inl ⟨by rfl, ?_⟩) hHeld ?_
        · intro w1 hSw
          (try dsimp only at hSw)
          go_simp
        (try simp only [Act.put, List.setIfInBounds_toArray, List.set_cons_zero, List.set_cons_succ])
        refine wpAnyH_take (i := 2) (oi := { dst := some 46, op := Op.load 107 (Operand.tmp 8), type := 107, pos := "plan.go:45", after := #[], guard := none }) (v := .agg #[.int .i64 1, .int .i64 A, .int .i64 r, .int .i64 1, .int .i64 0]) rfl (by kernel_rfl) (by kernel_rfl) (by kernel_rfl) (fun _ _ _ h => h) (Or.inl ⟨by rfl, ?_⟩) hHeld ?_
        · intro w1 hSw
          (try dsimp only at hSw)
          go_simp
          (skip)
        (try simp only [Act.put, List.setIfInBounds_toArray, List.set_cons_zero, List.set_cons_succ])
        refine wpAnyH_take (i := 3) (oi := { dst := some 47, op := Op.move (Operand.tmp 4), type := 116, pos := "plan.go:45", after := #[], guard := none }) (v := .func (.func 61) #[] #[.pointer (some ⟨W.heap.size + 1, 0, none⟩)]) rfl (by kernel_rfl) (by kernel_rfl) (by kernel_rfl) (fun _ _ _ h => h) (Or.inl ⟨by rfl, ?_⟩) hHeld ?_
        · intro w1 hSw
          (try dsimp only at hSw)
          go_simp
        (try simp only [Act.put, List.setIfInBounds_toArray, List.set_cons_zero, List.set_cons_succ])
        refine wpAnyH_ready (rs := [1, 4]) (by kernel_rfl) (by simp) ?_
        refine AllReadyH.cons (o := { dst := some 45, op := Op.load 94 (Operand.tmp 44), type := 94, pos := "plan.go:45", after := #[{ on := 0, ground := Ground.data }], guard := none }) rfl (fun K hK => ?_) (AllReadyH.cons (o := { dst := some 48, op := Op.call { callee := Callee.value (Operand.tmp 47), args := #[Operand.const (Value.int IntKind.i64 1)], argTypes := #[3] }, type := 3, pos := "plan.go:45", after := #[{ on := 3, ground := Ground.data }], guard := none }) rfl (fun K hK => ?_) AllReadyH.nil)
        · go_simp
          refine hK.out _ _ (by (try dsimp only); (repeat' apply And.intro) <;> (repeat (first | (with_reducible assumption) | (with_reducible exact hHeld.1) | (with_reducible exact hHeld.2.1) | (with_reducible exact hHeld.2.2.1) | (with_reducible exact hHeld.2.2.2.1) | (with_reducible exact hHeld.2.2.2.2) | (with_reducible apply cell_grE) | (with_reducible apply cell_allocE) | (with_reducible apply cell_drewE) | (with_reducible refine cell_setE (by omega) ?_)))) (fun hHeld => ?_)
          clear hK K
          (try simp only [Act.put, List.setIfInBounds_toArray, List.set_cons_zero, List.set_cons_succ])
          refine wpAnyH_ready (rs := [4]) (by kernel_rfl) (by simp) ?_
          refine AllReadyH.cons (o := { dst := some 48, op := Op.call { callee := Callee.value (Operand.tmp 47), args := #[Operand.const (Value.int IntKind.i64 1)], argTypes := #[3] }, type := 3, pos := "plan.go:45", after := #[{ on := 3, ground := Ground.data }], guard := none }) rfl (fun K hK => ?_) AllReadyH.nil
          go_simp
          refine (ptake_h (A + M) 1 _ _ _ _ (W.heap.size + 1) _ (by have := HA.out.1; have := HM.out.1; omega) (by have := HA.out.2; have := HM.out.2; omega) (by decide) (by decide) (by repeat (first | (with_reducible exact HP.out) | (with_reducible apply heap_drewE) | (with_reducible apply heap_grE) | (with_reducible apply heap_alloc')))).mono ?_
          rintro e w6 ⟨rfl, rfl⟩
          refine hK.out _ _ (by (try dsimp only); (repeat' apply And.intro) <;> (repeat (first | (with_reducible assumption) | (with_reducible exact hHeld.1) | (with_reducible exact hHeld.2.1) | (with_reducible exact hHeld.2.2.1) | (with_reducible exact hHeld.2.2.2.1) | (with_reducible exact hHeld.2.2.2.2) | (with_reducible apply cell_grE) | (with_reducible apply cell_allocE) | (with_reducible apply cell_drewE) | (with_reducible refine cell_setE (by omega) ?_)))) (fun hHeld => ?_)
          clear hK K
          (try simp only [Act.put, List.setIfInBounds_toArray, List.set_cons_zero, List.set_cons_succ])
          refine wpAnyH_take (i := 5) (oi := { dst := some 49, op := Op.build 135 #[(0, Operand.tmp 46), (1, Operand.tmp 48)], type := 135, pos := "plan.go:45", after := #[{ on := 2, ground := Ground.data }, { on := 4, ground := Ground.data }], guard := none }) (v := .agg #[.int .i64 1, .int .i64 A, .int .i64 r, .int .i64 1, .int .i64 0, .int .i64 (A + M)]) rfl (by kernel_rfl) (by kernel_rfl) (by kernel_rfl) (fun _ _ _ h => h) (Or.inl ⟨by rfl, ?_⟩) hHeld ?_
          · intro w1 hSw
            (try dsimp only at hSw)
            go_simp
          (try simp only [Act.put, List.setIfInBounds_toArray, List.set_cons_zero, List.set_cons_succ])
          refine wpAnyH_ready (rs := [6]) (by kernel_rfl) (by simp) ?_
          refine AllReadyH.cons (o := { dst := some 50, op := Op.buildSlice 94 1 #[(0, Operand.tmp 49)], type := 94, pos := "plan.go:45", after := #[{ on := 5, ground := Ground.data }], guard := none }) rfl (fun K hK => ?_) AllReadyH.nil
          go_simp
          refine hK.out _ _ (by (try dsimp only); (repeat' apply And.intro) <;> (repeat (first | (with_reducible assumption) | (with_reducible exact hHeld.1) | (with_reducible exact hHeld.2.1) | (with_reducible exact hHeld.2.2.1) | (with_reducible exact hHeld.2.2.2.1) | (with_reducible exact hHeld.2.2.2.2) | (with_reducible apply cell_grE) | (with_reducible apply cell_allocE) | (with_reducible apply cell_drewE) | (with_reducible refine cell_setE (by omega) ?_)))) (fun hHeld => ?_)
          clear hK K
          (try simp only [Act.put, List.setIfInBounds_toArray, List.set_cons_zero, List.set_cons_succ])
          refine wpAnyH_ready (rs := [7]) (by kernel_rfl) (by simp) ?_
          refine AllReadyH.cons (o := { dst := some 51, op := Op.call { callee := Callee.builtin Builtin.append, args := #[Operand.tmp 45, Operand.tmp 50], argTypes := #[94, 94] }, type := 94, pos := "plan.go:45", after := #[{ on := 1, ground := Ground.data }, { on := 6, ground := Ground.data }, { on := 4, ground := Ground.chain }], guard := none }) rfl (fun K hK => ?_) AllReadyH.nil
          refine step_append_reads rfl (.tmp 45) (.tmp 50) 94 rfl w1.heap.size 135 ip _ 6 48 Try.underlying94 HIP.out.1 HIP.out.2.1 HIP.out.2.2.1 HIP.out.2.2.2 rfl (by decide) (.slice na j nc) j ((lns N (L.take j)).flatMap LN.cells) rfl (own_upd (S := [W.heap.size + 1]) HOWN2.out (by repeat (first | (with_reducible exact Upd.refl _ _) | (with_reducible apply Upd.drew) | (with_reducible refine Upd.grE ?_ _) | (with_reducible refine Upd.alloc ?_ _) | (with_reducible refine Upd.setB ?_ (.inl (by simp))))) (fun k hk hm => by have := own_base HOWN2.out k hk; simp at hm; omega)) _ 1 1 [.int .i64 1, .int .i64 A, .int .i64 r, .int .i64 1, .int .i64 0, .int .i64 (A + M)] rfl rfl (fun _ => ⟨_, 0, rfl, list_srcP (heap_alloc_at _ (by first | rfl | (simp [size_setCell]; done) | (simp [size_setCell]; omega)))⟩) (fun h => by cases h) (fun u hu => by simp at hu; rcases hu with rfl | rfl | rfl | rfl | rfl | rfl <;> rfl) (by have := HV.out; have := HLT.out; simp only [maxLen]; omega) (by have := HV.out; have := HLT.out; omega) (by have := HBS.out; simp [size_setCell]; omega) ?_
          intro p4 c4 w4 hp4 hown4 hgrow4
          have hU4 := upd_grown hgrow4
          have HUW := Lib.hid (Upd.trans (S := (W.heap.size + 1) :: (Value.slice na j nc).ownBlock.toList) (a := wc) (by repeat (first | (with_reducible exact Upd.refl _ _) | (with_reducible apply Upd.drew) | (with_reducible refine Upd.grE ?_ _) | (with_reducible refine Upd.alloc ?_ _) | (with_reducible refine Upd.setB ?_ (.inl (by simp))))) (hU4.mono (fun k hk _ => by simp at hk ⊢; exact .inr hk)))
          have HOWN4 := Lib.hid hown4
          have HPB4 := Lib.hid (hU4.keepb (k := W.heap.size + 1) (o := .cells #[.slice va os.length vc, .slice na j nc, .int .i64 0, .slice none 0 0, .int .i64 (A + M + 1)] 96 (0, 0)) (by repeat (first | (with_reducible refine heap_set2c HP.out rfl) | (with_reducible apply heap_drewE) | (with_reducible apply heap_grE) | (with_reducible apply heap_alloc'))) (by simp; exact HQO.out.2))
          have HQ4 := Lib.hid (HUW.out.keepb HQ.out (by simp; exact ⟨hqn, HQO.out.1⟩))
          obtain ⟨q0, q1, q2, q3, q4⟩ := cells5p HQ4.out
          obtain ⟨b0, b1, b2, b3, b4⟩ := cells5p HPB4.out
          have bf := frozen_of_heap HPB4.out
          have pl := heap_lt HPB4.out
          clear hown4 hgrow4 hU4
          refine hK.out _ _ (by (try dsimp only); (repeat' apply And.intro) <;> (repeat (first | (with_reducible assumption) | (with_reducible exact hHeld.1) | (with_reducible exact hHeld.2.1) | (with_reducible exact hHeld.2.2.1) | (with_reducible exact hHeld.2.2.2.1) | (with_reducible exact hHeld.2.2.2.2) | (with_reducible apply cell_grE) | (with_reducible apply cell_allocE) | (with_reducible apply cell_drewE) | (with_reducible refine cell_setE (by omega) ?_)))) (fun hHeld => ?_)
          clear hK K
          (try simp only [Act.put, List.setIfInBounds_toArray, List.set_cons_zero, List.set_cons_succ])
          refine wpAnyH_take (i := 8) (oi := { dst := some 52, op := Op.fieldAddr 96 (Operand.tmp 2) 1, type := 0, pos := "plan.go:45", after := #[{ on := 0, ground := Ground.phase }, { on := 1, ground := Ground.phase }, { on := 2, ground := Ground.phase }, { on := 3, ground := Ground.phase }, { on := 4, ground := Ground.phase }, { on := 5, ground := Ground.phase }, { on := 6, ground := Ground.phase }, { on := 7, ground := Ground.phase }], guard := none }) (v := .pointer (some ⟨W.heap.size + 1, 1, none⟩)) rfl (by kernel_rfl) (by kernel_rfl) (by kernel_rfl) (fun _ _ _ h => h) (Or.inl ⟨by rfl, ?_⟩) hHeld ?_
          · intro w1 hSw
            (try dsimp only at hSw)
            go_simp
          (try simp only [Act.put, List.setIfInBounds_toArray, List.set_cons_zero, List.set_cons_succ])
          refine wpAnyH_ready (rs := [9]) (by kernel_rfl) (by simp) ?_
          refine AllReadyH.cons (o := { dst := none, op := Op.store 94 (Operand.tmp 52) (Operand.tmp 51), type := 0, pos := "plan.go:45", after := #[{ on := 8, ground := Ground.data }, { on := 7, ground := Ground.data }, { on := 7, ground := Ground.chain }, { on := 0, ground := Ground.phase }, { on := 1, ground := Ground.phase }, { on := 2, ground := Ground.phase }, { on := 3, ground := Ground.phase }, { on := 4, ground := Ground.phase }, { on := 5, ground := Ground.phase }, { on := 6, ground := Ground.phase }, { on := 7, ground := Ground.phase }], guard := none }) rfl (fun K hK => ?_) AllReadyH.nil
          go_simp
          refine hK.out _ _ (by (try dsimp only); (repeat' apply And.intro) <;> (repeat (first | (with_reducible assumption) | (with_reducible exact hHeld.1) | (with_reducible exact hHeld.2.1) | (with_reducible exact hHeld.2.2.1) | (with_reducible exact hHeld.2.2.2.1) | (with_reducible exact hHeld.2.2.2.2) | (with_reducible apply cell_grE) | (with_reducible apply cell_allocE) | (with_reducible apply cell_drewE) | (with_reducible refine cell_setE (by omega) ?_)))) (fun hHeld => ?_)
          clear hK K
          (try simp only [Act.put, List.setIfInBounds_toArray, List.set_cons_zero, List.set_cons_succ])
          refine wpAnyH_done (by kernel_rfl) ?_ _
          clear hHeld
          go_wp2
          go_roundg (ls.length - (j + 1))
          case rel =>
            have hown5 := own_upd HOWN4.out (show Upd [W.heap.size + 1] w4 (w4.setCell ⟨W.heap.size + 1, 1, none⟩ (.slice p4 (j + 1) c4)) from (Upd.refl _ _).setB (by simp)) (fun k hk hm => by have := own_base HOWN4.out k hk; simp at hm; omega)
            refine ⟨j + 1, .slice p4 (j + 1) c4, by have := HLT.out; omega, by first | (rw [HW.out]; done) | (simp; done), ?_, ?_, ?_⟩
            · rw [HTK.out, List.flatMap_append, List.flatMap_cons, List.flatMap_nil, List.append_nil, HCL.out]
              exact hown5
            · rw [show N + sumL (L.take (j + 1)) = A + M + 1 by rw [HTS.out]; have := HAE.out; omega]
              exact heap_set2c HPB4.out rfl
            · exact ((HU.out.trans HUC.out).then HUW.out (fun k hk => by simp at hk ⊢; rcases hk with hk | hk; exact .inl hk; exact .inr (own_base HOWN2.out k hk))).setB (by simp)
          case measure => have := HLT.out; have := HJ.out; omega
        · go_simp
          refine (ptake_h (A + M) 1 _ _ _ _ (W.heap.size + 1) _ (by have := HA.out.1; have := HM.out.1; omega) (by have := HA.out.2; have := HM.out.2; omega) (by decide) (by decide) (by repeat (first | (with_reducible exact HP.out) | (with_reducible apply heap_drewE) | (with_reducible apply heap_grE) | (with_reducible apply heap_alloc')))).mono ?_
          rintro e w6 ⟨rfl, rfl⟩
          refine hK.out _ _ (by (try dsimp only); (repeat' apply And.intro) <;> (repeat (first | (with_reducible assumption) | (with_reducible exact hHeld.1) | (with_reducible exact hHeld.2.1) | (with_reducible exact hHeld.2.2.1) | (with_reducible exact hHeld.2.2.2.1) | (with_reducible exact hHeld.2.2.2.2) | (with_reducible apply cell_grE) | (with_reducible apply cell_allocE) | (with_reducible apply cell_drewE) | (with_reducible refine cell_setE (by omega) ?_)))) (fun hHeld => ?_)
          clear hK K
          (try simp only [Act.put, List.setIfInBounds_toArray, List.set_cons_zero, List.set_cons_succ])
          refine wpAnyH_take (i := 5) (oi := { dst := some 49, op := Op.build 135 #[(0, Operand.tmp 46), (1, Operand.tmp 48)], type := 135, pos := "plan.go:45", after := #[{ on := 2, ground := Ground.data }, { on := 4, ground := Ground.data }], guard := none }) (v := .agg #[.int .i64 1, .int .i64 A, .int .i64 r, .int .i64 1, .int .i64 0, .int .i64 (A + M)]) rfl (by kernel_rfl) (by kernel_rfl) (by kernel_rfl) (fun _ _ _ h => h) (Or.inl ⟨by rfl, ?_⟩) hHeld ?_
          · intro w1 hSw
            (try dsimp only at hSw)
            go_simp
          (try simp only [Act.put, List.setIfInBounds_toArray, List.set_cons_zero, List.set_cons_succ])
          refine wpAnyH_ready (rs := [1, 6]) (by kernel_rfl) (by simp) ?_
          refine AllReadyH.cons (o := { dst := some 45, op := Op.load 94 (Operand.tmp 44), type := 94, pos := "plan.go:45", after := #[{ on := 0, ground := Ground.data }], guard := none }) rfl (fun K hK => ?_) (AllReadyH.cons (o := { dst := some 50, op := Op.buildSlice 94 1 #[(0, Operand.tmp 49)], type := 94, pos := "plan.go:45", after := #[{ on := 5, ground := Ground.data }], guard := none }) rfl (fun K hK => ?_) AllReadyH.nil)
          · go_simp
            refine hK.out _ _ (by (try dsimp only); (repeat' apply And.intro) <;> (repeat (first | (with_reducible assumption) | (with_reducible exact hHeld.1) | (with_reducible exact hHeld.2.1) | (with_reducible exact hHeld.2.2.1) | (with_reducible exact hHeld.2.2.2.1) | (with_reducible exact hHeld.2.2.2.2) | (with_reducible apply cell_grE) | (with_reducible apply cell_allocE) | (with_reducible apply cell_drewE) | (with_reducible refine cell_setE (by omega) ?_)))) (fun hHeld => ?_)
            clear hK K
            (try simp only [Act.put, List.setIfInBounds_toArray, List.set_cons_zero, List.set_cons_succ])
            refine wpAnyH_ready (rs := [6]) (by kernel_rfl) (by simp) ?_
            refine AllReadyH.cons (o := { dst := some 50, op := Op.buildSlice 94 1 #[(0, Operand.tmp 49)], type := 94, pos := "plan.go:45", after := #[{ on := 5, ground := Ground.data }], guard := none }) rfl (fun K hK => ?_) AllReadyH.nil
            go_simp
            refine hK.out _ _ (by (try dsimp only); (repeat' apply And.intro) <;> (repeat (first | (with_reducible assumption) | (with_reducible exact hHeld.1) | (with_reducible exact hHeld.2.1) | (with_reducible exact hHeld.2.2.1) | (with_reducible exact hHeld.2.2.2.1) | (with_reducible exact hHeld.2.2.2.2) | (with_reducible apply cell_grE) | (with_reducible apply cell_allocE) | (with_reducible apply cell_drewE) | (with_reducible refine cell_setE (by omega) ?_)))) (fun hHeld => ?_)
            clear hK K
            (try simp only [Act.put, List.setIfInBounds_toArray, List.set_cons_zero, List.set_cons_succ])
            refine wpAnyH_ready (rs := [7]) (by kernel_rfl) (by simp) ?_
            refine AllReadyH.cons (o := { dst := some 51, op := Op.call { callee := Callee.builtin Builtin.append, args := #[Operand.tmp 45, Operand.tmp 50], argTypes := #[94, 94] }, type := 94, pos := "plan.go:45", after := #[{ on := 1, ground := Ground.data }, { on := 6, ground := Ground.data }, { on := 4, ground := Ground.chain }], guard := none }) rfl (fun K hK => ?_) AllReadyH.nil
            refine step_append_reads rfl (.tmp 45) (.tmp 50) 94 rfl w1.heap.size 135 ip _ 6 48 Try.underlying94 HIP.out.1 HIP.out.2.1 HIP.out.2.2.1 HIP.out.2.2.2 rfl (by decide) (.slice na j nc) j ((lns N (L.take j)).flatMap LN.cells) rfl (own_upd (S := [W.heap.size + 1]) HOWN2.out (by repeat (first | (with_reducible exact Upd.refl _ _) | (with_reducible apply Upd.drew) | (with_reducible refine Upd.grE ?_ _) | (with_reducible refine Upd.alloc ?_ _) | (with_reducible refine Upd.setB ?_ (.inl (by simp))))) (fun k hk hm => by have := own_base HOWN2.out k hk; simp at hm; omega)) _ 1 1 [.int .i64 1, .int .i64 A, .int .i64 r, .int .i64 1, .int .i64 0, .int .i64 (A + M)] rfl rfl (fun _ => ⟨_, 0, rfl, list_srcP (heap_alloc_at _ (by first | rfl | (simp [size_setCell]; done) | (simp [size_setCell]; omega)))⟩) (fun h => by cases h) (fun u hu => by simp at hu; rcases hu with rfl | rfl | rfl | rfl | rfl | rfl <;> rfl) (by have := HV.out; have := HLT.out; simp only [maxLen]; omega) (by have := HV.out; have := HLT.out; omega) (by have := HBS.out; simp [size_setCell]; omega) ?_
            intro p4 c4 w4 hp4 hown4 hgrow4
            have hU4 := upd_grown hgrow4
            have HUW := Lib.hid (Upd.trans (S := (W.heap.size + 1) :: (Value.slice na j nc).ownBlock.toList) (a := wc) (by repeat (first | (with_reducible exact Upd.refl _ _) | (with_reducible apply Upd.drew) | (with_reducible refine Upd.grE ?_ _) | (with_reducible refine Upd.alloc ?_ _) | (with_reducible refine Upd.setB ?_ (.inl (by simp))))) (hU4.mono (fun k hk _ => by simp at hk ⊢; exact .inr hk)))
            have HOWN4 := Lib.hid hown4
            have HPB4 := Lib.hid (hU4.keepb (k := W.heap.size + 1) (o := .cells #[.slice va os.length vc, .slice na j nc, .int .i64 0, .slice none 0 0, .int .i64 (A + M + 1)] 96 (0, 0)) (by repeat (first | (with_reducible refine heap_set2c HP.out rfl) | (with_reducible apply heap_drewE) | (with_reducible apply heap_grE) | (with_reducible apply heap_alloc'))) (by simp; exact HQO.out.2))
            have HQ4 := Lib.hid (HUW.out.keepb HQ.out (by simp; exact ⟨hqn, HQO.out.1⟩))
            obtain ⟨q0, q1, q2, q3, q4⟩ := cells5p HQ4.out
            obtain ⟨b0, b1, b2, b3, b4⟩ := cells5p HPB4.out
            have bf := frozen_of_heap HPB4.out
            have pl := heap_lt HPB4.out
            clear hown4 hgrow4 hU4
            refine hK.out _ _ (by (try dsimp only); (repeat' apply And.intro) <;> (repeat (first | (with_reducible assumption) | (with_reducible exact hHeld.1) | (with_reducible exact hHeld.2.1) | (with_reducible exact hHeld.2.2.1) | (with_reducible exact hHeld.2.2.2.1) | (with_reducible exact hHeld.2.2.2.2) | (with_reducible apply cell_grE) | (with_reducible apply cell_allocE) | (with_reducible apply cell_drewE) | (with_reducible refine cell_setE (by omega) ?_)))) (fun hHeld => ?_)
            clear hK K
            (try simp only [Act.put, List.setIfInBounds_toArray, List.set_cons_zero, List.set_cons_succ])
            refine wpAnyH_take (i := 8) (oi := { dst := some 52, op := Op.fieldAddr 96 (Operand.tmp 2) 1, type := 0, pos := "plan.go:45", after := #[{ on := 0, ground := Ground.phase }, { on := 1, ground := Ground.phase }, { on := 2, ground := Ground.phase }, { on := 3, ground := Ground.phase }, { on := 4, ground := Ground.phase }, { on := 5, ground := Ground.phase }, { on := 6, ground := Ground.phase }, { on := 7, ground := Ground.phase }], guard := none }) (v := .pointer (some ⟨W.heap.size + 1, 1, none⟩)) rfl (by kernel_rfl) (by kernel_rfl) (by kernel_rfl) (fun _ _ _ h => h) (Or.inl ⟨by rfl, ?_⟩) hHeld ?_
            · intro w1 hSw
              (try dsimp only at hSw)
              go_simp
            (try simp only [Act.put, List.setIfInBounds_toArray, List.set_cons_zero, List.set_cons_succ])
            refine wpAnyH_ready (rs := [9]) (by kernel_rfl) (by simp) ?_
            refine AllReadyH.cons (o := { dst := none, op := Op.store 94 (Operand.tmp 52) (Operand.tmp 51), type := 0, pos := "plan.go:45", after := #[{ on := 8, ground := Ground.data }, { on := 7, ground := Ground.data }, { on := 7, ground := Ground.chain }, { on := 0, ground := Ground.phase }, { on := 1, ground := Ground.phase }, { on := 2, ground := Ground.phase }, { on := 3, ground := Ground.phase }, { on := 4, ground := Ground.phase }, { on := 5, ground := Ground.phase }, { on := 6, ground := Ground.phase }, { on := 7, ground := Ground.phase }], guard := none }) rfl (fun K hK => ?_) AllReadyH.nil
            go_simp
            refine hK.out _ _ (by (try dsimp only); (repeat' apply And.intro) <;> (repeat (first | (with_reducible assumption) | (with_reducible exact hHeld.1) | (with_reducible exact hHeld.2.1) | (with_reducible exact hHeld.2.2.1) | (with_reducible exact hHeld.2.2.2.1) | (with_reducible exact hHeld.2.2.2.2) | (with_reducible apply cell_grE) | (with_reducible apply cell_allocE) | (with_reducible apply cell_drewE) | (with_reducible refine cell_setE (by omega) ?_)))) (fun hHeld => ?_)
            clear hK K
            (try simp only [Act.put, List.setIfInBounds_toArray, List.set_cons_zero, List.set_cons_succ])
            refine wpAnyH_done (by kernel_rfl) ?_ _
            clear hHeld
            go_wp2
            go_roundg (ls.length - (j + 1))
            case rel =>
              have hown5 := own_upd HOWN4.out (show Upd [W.heap.size + 1] w4 (w4.setCell ⟨W.heap.size + 1, 1, none⟩ (.slice p4 (j + 1) c4)) from (Upd.refl _ _).setB (by simp)) (fun k hk hm => by have := own_base HOWN4.out k hk; simp at hm; omega)
              refine ⟨j + 1, .slice p4 (j + 1) c4, by have := HLT.out; omega, by first | (rw [HW.out]; done) | (simp; done), ?_, ?_, ?_⟩
              · rw [HTK.out, List.flatMap_append, List.flatMap_cons, List.flatMap_nil, List.append_nil, HCL.out]
                exact hown5
              · rw [show N + sumL (L.take (j + 1)) = A + M + 1 by rw [HTS.out]; have := HAE.out; omega]
                exact heap_set2c HPB4.out rfl
              · exact ((HU.out.trans HUC.out).then HUW.out (fun k hk => by simp at hk ⊢; rcases hk with hk | hk; exact .inl hk; exact .inr (own_base HOWN2.out k hk))).setB (by simp)
            case measure => have := HLT.out; have := HJ.out; omega
          · go_simp
            refine hK.out _ _ (by (try dsimp only); (repeat' apply And.intro) <;> (repeat (first | (with_reducible assumption) | (with_reducible exact hHeld.1) | (with_reducible exact hHeld.2.1) | (with_reducible exact hHeld.2.2.1) | (with_reducible exact hHeld.2.2.2.1) | (with_reducible exact hHeld.2.2.2.2) | (with_reducible apply cell_grE) | (with_reducible apply cell_allocE) | (with_reducible apply cell_drewE) | (with_reducible refine cell_setE (by omega) ?_)))) (fun hHeld => ?_)
            clear hK K
            (try simp only [Act.put, List.setIfInBounds_toArray, List.set_cons_zero, List.set_cons_succ])
            refine wpAnyH_ready (rs := [1]) (by kernel_rfl) (by simp) ?_
            refine AllReadyH.cons (o := { dst := some 45, op := Op.load 94 (Operand.tmp 44), type := 94, pos := "plan.go:45", after := #[{ on := 0, ground := Ground.data }], guard := none }) rfl (fun K hK => ?_) AllReadyH.nil
            go_simp
            refine hK.out _ _ (by (try dsimp only); (repeat' apply And.intro) <;> (repeat (first | (with_reducible assumption) | (with_reducible exact hHeld.1) | (with_reducible exact hHeld.2.1) | (with_reducible exact hHeld.2.2.1) | (with_reducible exact hHeld.2.2.2.1) | (with_reducible exact hHeld.2.2.2.2) | (with_reducible apply cell_grE) | (with_reducible apply cell_allocE) | (with_reducible apply cell_drewE) | (with_reducible refine cell_setE (by omega) ?_)))) (fun hHeld => ?_)
            clear hK K
            (try simp only [Act.put, List.setIfInBounds_toArray, List.set_cons_zero, List.set_cons_succ])
            refine wpAnyH_ready (rs := [7]) (by kernel_rfl) (by simp) ?_
            refine AllReadyH.cons (o := { dst := some 51, op := Op.call { callee := Callee.builtin Builtin.append, args := #[Operand.tmp 45, Operand.tmp 50], argTypes := #[94, 94] }, type := 94, pos := "plan.go:45", after := #[{ on := 1, ground := Ground.data }, { on := 6, ground := Ground.data }, { on := 4, ground := Ground.chain }], guard := none }) rfl (fun K hK => ?_) AllReadyH.nil
            refine step_append_reads rfl (.tmp 45) (.tmp 50) 94 rfl w1.heap.size 135 ip _ 6 48 Try.underlying94 HIP.out.1 HIP.out.2.1 HIP.out.2.2.1 HIP.out.2.2.2 rfl (by decide) (.slice na j nc) j ((lns N (L.take j)).flatMap LN.cells) rfl (own_upd (S := [W.heap.size + 1]) HOWN2.out (by repeat (first | (with_reducible exact Upd.refl _ _) | (with_reducible apply Upd.drew) | (with_reducible refine Upd.grE ?_ _) | (with_reducible refine Upd.alloc ?_ _) | (with_reducible refine Upd.setB ?_ (.inl (by simp))))) (fun k hk hm => by have := own_base HOWN2.out k hk; simp at hm; omega)) _ 1 1 [.int .i64 1, .int .i64 A, .int .i64 r, .int .i64 1, .int .i64 0, .int .i64 (A + M)] rfl rfl (fun _ => ⟨_, 0, rfl, list_srcP (heap_alloc_at _ (by first | rfl | (simp [size_setCell]; done) | (simp [size_setCell]; omega)))⟩) (fun h => by cases h) (fun u hu => by simp at hu; rcases hu with rfl | rfl | rfl | rfl | rfl | rfl <;> rfl) (by have := HV.out; have := HLT.out; simp only [maxLen]; omega) (by have := HV.out; have := HLT.out; omega) (by have := HBS.out; simp [size_setCell]; omega) ?_
            intro p4 c4 w4 hp4 hown4 hgrow4
            have hU4 := upd_grown hgrow4
            have HUW := Lib.hid (Upd.trans (S := (W.heap.size + 1) :: (Value.slice na j nc).ownBlock.toList) (a := wc) (by repeat (first | (with_reducible exact Upd.refl _ _) | (with_reducible apply Upd.drew) | (with_reducible refine Upd.grE ?_ _) | (with_reducible refine Upd.alloc ?_ _) | (with_reducible refine Upd.setB ?_ (.inl (by simp))))) (hU4.mono (fun k hk _ => by simp at hk ⊢; exact .inr hk)))
            have HOWN4 := Lib.hid hown4
            have HPB4 := Lib.hid (hU4.keepb (k := W.heap.size + 1) (o := .cells #[.slice va os.length vc, .slice na j nc, .int .i64 0, .slice none 0 0, .int .i64 (A + M + 1)] 96 (0, 0)) (by repeat (first | (with_reducible refine heap_set2c HP.out rfl) | (with_reducible apply heap_drewE) | (with_reducible apply heap_grE) | (with_reducible apply heap_alloc'))) (by simp; exact HQO.out.2))
            have HQ4 := Lib.hid (HUW.out.keepb HQ.out (by simp; exact ⟨hqn, HQO.out.1⟩))
            obtain ⟨q0, q1, q2, q3, q4⟩ := cells5p HQ4.out
            obtain ⟨b0, b1, b2, b3, b4⟩ := cells5p HPB4.out
            have bf := frozen_of_heap HPB4.out
            have pl := heap_lt HPB4.out
            clear hown4 hgrow4 hU4
            refine hK.out _ _ (by (try dsimp only); (repeat' apply And.intro) <;> (repeat (first | (with_reducible assumption) | (with_reducible exact hHeld.1) | (with_reducible exact hHeld.2.1) | (with_reducible exact hHeld.2.2.1) | (with_reducible exact hHeld.2.2.2.1) | (with_reducible exact hHeld.2.2.2.2) | (with_reducible apply cell_grE) | (with_reducible apply cell_allocE) | (with_reducible apply cell_drewE) | (with_reducible refine cell_setE (by omega) ?_)))) (fun hHeld => ?_)
            clear hK K
            (try simp only [Act.put, List.setIfInBounds_toArray, List.set_cons_zero, List.set_cons_succ])
            refine wpAnyH_take (i := 8) (oi := { dst := some 52, op := Op.fieldAddr 96 (Operand.tmp 2) 1, type := 0, pos := "plan.go:45", after := #[{ on := 0, ground := Ground.phase }, { on := 1, ground := Ground.phase }, { on := 2, ground := Ground.phase }, { on := 3, ground := Ground.phase }, { on := 4, ground := Ground.phase }, { on := 5, ground := Ground.phase }, { on := 6, ground := Ground.phase }, { on := 7, ground := Ground.phase }], guard := none }) (v := .pointer (some ⟨W.heap.size + 1, 1, none⟩)) rfl (by kernel_rfl) (by kernel_rfl) (by kernel_rfl) (fun _ _ _ h => h) (Or.inl ⟨by rfl, ?_⟩) hHeld ?_
            · intro w1 hSw
              (try dsimp only at hSw)
              go_simp
            (try simp only [Act.put, List.setIfInBounds_toArray, List.set_cons_zero, List.set_cons_succ])
            refine wpAnyH_ready (rs := [9]) (by kernel_rfl) (by simp) ?_
            refine AllReadyH.cons (o := { dst := none, op := Op.store 94 (Operand.tmp 52) (Operand.tmp 51), type := 0, pos := "plan.go:45", after := #[{ on := 8, ground := Ground.data }, { on := 7, ground := Ground.data }, { on := 7, ground := Ground.chain }, { on := 0, ground := Ground.phase }, { on := 1, ground := Ground.phase }, { on := 2, ground := Ground.phase }, { on := 3, ground := Ground.phase }, { on := 4, ground := Ground.phase }, { on := 5, ground := Ground.phase }, { on := 6, ground := Ground.phase }, { on := 7, ground := Ground.phase }], guard := none }) rfl (fun K hK => ?_) AllReadyH.nil
            go_simp
            refine hK.out _ _ (by (try dsimp only); (repeat' apply And.intro) <;> (repeat (first | (with_reducible assumption) | (with_reducible exact hHeld.1) | (with_reducible exact hHeld.2.1) | (with_reducible exact hHeld.2.2.1) | (with_reducible exact hHeld.2.2.2.1) | (with_reducible exact hHeld.2.2.2.2) | (with_reducible apply cell_grE) | (with_reducible apply cell_allocE) | (with_reducible apply cell_drewE) | (with_reducible refine cell_setE (by omega) ?_)))) (fun hHeld => ?_)
            clear hK K
            (try simp only [Act.put, List.setIfInBounds_toArray, List.set_cons_zero, List.set_cons_succ])
            refine wpAnyH_done (by kernel_rfl) ?_ _
            clear hHeld
            go_wp2
            go_roundg (ls.length - (j + 1))
            case rel =>
              have hown5 := own_upd HOWN4.out (show Upd [W.heap.size + 1] w4 (w4.setCell ⟨W.heap.size + 1, 1, none⟩ (.slice p4 (j + 1) c4)) from (Upd.refl _ _).setB (by simp)) (fun k hk hm => by have := own_base HOWN4.out k hk; simp at hm; omega)
              refine ⟨j + 1, .slice p4 (j + 1) c4, by have := HLT.out; omega, by first | (rw [HW.out]; done) | (simp; done), ?_, ?_, ?_⟩
              · rw [HTK.out, List.flatMap_append, List.flatMap_cons, List.flatMap_nil, List.append_nil, HCL.out]
                exact hown5
              · rw [show N + sumL (L.take (j + 1)) = A + M + 1 by rw [HTS.out]; have := HAE.out; omega]
                exact heap_set2c HPB4.out rfl
              · exact ((HU.out.trans HUC.out).then HUW.out (fun k hk => by simp at hk ⊢; rcases hk with hk | hk; exact .inl hk; exact .inr (own_base HOWN2.out k hk))).setB (by simp)
            case measure => have := HLT.out; have := HJ.out; omega
    · obtain rfl : j = ls.length := by have := HJ.out; omega
      have BW := heap_lt HPBR.out
      have htk : L.take ls.length = L := by rw [← HLL.out, List.take_length]
      have hA := HLB.out ls.length
      rw [htk] at hA HOWN HPBR b4
      generalize hAE : N + sumL L = A at *
      have HA := Lib.hid (show 0 ≤ A ∧ A ≤ 13000 by have := HN.out; omega)
      have HLNS := Lib.hid (flat_own LN.cells ln_len HOWN.out (by rw [lns_len, HLL.out]))
      have k0' : wo.cell? ⟨W.heap.size, 0, none⟩ = some (.slice ta ts.length tc) := (HU.out.cell (p := ⟨W.heap.size, 0, none⟩) (by have := HU1.out.size; have := heap_lt HCB.out; simpa using this) (by simp)).trans k0
      have HAE2 := Lib.hid hAE
      clear hA hAE hlt htk
      have HP1 := Lib.hid (show ((wo.setCell ⟨W.heap.size + 1, 4, none⟩ (.int .i64 (A + 1))).setCell ⟨W.heap.size + 1, 2, none⟩ (.int .i64 A)).heap[W.heap.size + 1]? = some (.cells #[.slice va os.length vc, .slice na ls.length nc, .int .i64 A, .slice none 0 0, .int .i64 (A + 1)] 96 (0, 0)) from heap_set2c (heap_set2c HPBR.out rfl) rfl)
      go_wp2_with (go_at_call 61; (refine (ptake_h A 1 _ _ _ _ (W.heap.size + 1) _ HA.out.1 (by have := HA.out.2; omega) (by decide) (by decide) HPBR.out).mono ?_); rintro e w6 ⟨rfl, rfl⟩)
      have HUS := Lib.hid (show Upd [W.heap.size + 1] wo ((wo.setCell ⟨W.heap.size + 1, 4, none⟩ (.int .i64 (A + 1))).setCell ⟨W.heap.size + 1, 2, none⟩ (.int .i64 A)) from ((Upd.refl _ _).setB (by simp)).setB (by simp))
      go_loopg [60] ts.length (fun n s60 wr => ∃ (i : Nat) (kv : Value), n + i = ts.length ∧ s60 = .int .i64 i ∧ wr.ownsRow wo.heap.size 3 1 kv i (asks (A + 1) i) ∧ wr.heap[W.heap.size + 1]? = some (.cells #[.slice va os.length vc, .slice na ls.length nc, .int .i64 A, kv, .int .i64 (A + 1 + i)] 96 (0, 0)) ∧ Upd [W.heap.size + 1] wo wr)
      case atStart => exact ⟨0, _, by omega, rfl, own_none, by simpa using HP1.out, HUS.out⟩
      case round =>
        obtain ⟨i, kv, hi, rfl, hown, hpb, hu⟩ := hrel
        have HI := Lib.hid hi
        have HOWK := Lib.hid hown
        have HPK := Lib.hid hpb
        have HUK := Lib.hid hu
        clear hi hown hpb hu b0 b1 b2 b3 b4 bf brl
        obtain ⟨b0, b1, b2, b3, b4⟩ := cells5p HPK.out
        have bf := frozen_of_heap HPK.out
        have brl := heap_lt HPK.out
        obtain ⟨ka, kc, rfl, hka, -⟩ := own_shape HOWK.out
        by_cases hit : i < ts.length
        · have HIT := Lib.hid hit
          have i1 : (0 : Int) ≤ (i : Int) := by omega
          have i2 : (i : Int) < (ts.length : Int) := by omega
          have HW := Lib.hid (show wrap64 ((i : Int) + 1) = ((i + 1 : Nat) : Int) from wrap_next (by have := HV.out; omega) hit)
          clear hit
          go_upto_region 15 with (fail)
          refine wp_region_held_drew (S := fun w1 => True) (by kernel_rfl) ?_ (fun hHeld => ?_)
          · trivial
          refine wpAnyH_take (i := 0) (oi := { dst := some 62, op := Op.fieldAddr 96 (Operand.tmp 2) 3, type := 0, pos := "plan.go:49", after := #[], guard := none }) (v := .pointer (some ⟨W.heap.size + 1, 3, none⟩)) rfl (by kernel_rfl) (by kernel_rfl) (by kernel_rfl) (fun _ _ _ h => h) (Or.inl ⟨by rfl, ?_⟩) hHeld ?_
          · intro w1 hSw
            (try dsimp only at hSw)
            go_simp
          (try simp only [Act.put, List.setIfInBounds_toArray, List.set_cons_zero, List.set_cons_succ])
          refine wpAnyH_take (i := 2) (oi := { dst := some 64, op := Op.move (Operand.tmp 4), type := 116, pos := "plan.go:49", after := #[], guard := none }) (v := .func (.func 61) #[] #[.pointer (some ⟨W.heap.size + 1, 0, none⟩)]) rfl (by kernel_rfl) (by kernel_rfl) (by kernel_rfl) (fun _ _ _ h => h) (Or.inl ⟨by rfl, ?_⟩) hHeld ?_
          · intro w1 hSw
            (try dsimp only at hSw)
            go_simp
          (try simp only [Act.put, List.setIfInBounds_toArray, List.set_cons_zero, List.set_cons_succ])
          refine wpAnyH_ready (rs := [1, 3]) (by kernel_rfl) (by simp) ?_
          refine AllReadyH.cons (o := { dst := some 63, op := Op.load 80 (Operand.tmp 62), type := 80, pos := "plan.go:49", after := #[{ on := 0, ground := Ground.data }], guard := none }) rfl (fun K hK => ?_) (AllReadyH.cons (o := { dst := some 65, op := Op.call { callee := Callee.value (Operand.tmp 64), args := #[Operand.const (Value.int IntKind.i64 1)], argTypes := #[3] }, type := 3, pos := "plan.go:49", after := #[{ on := 2, ground := Ground.data }], guard := none }) rfl (fun K hK => ?_) AllReadyH.nil)
          · go_simp
            refine hK.out _ _ trivial (fun hHeld => ?_)
            clear hK K
            (try simp only [Act.put, List.setIfInBounds_toArray, List.set_cons_zero, List.set_cons_succ])
            refine wpAnyH_ready (rs := [3]) (by kernel_rfl) (by simp) ?_
            refine AllReadyH.cons (o := { dst := some 65, op := Op.call { callee := Callee.value (Operand.tmp 64), args := #[Operand.const (Value.int IntKind.i64 1)], argTypes := #[3] }, type := 3, pos := "plan.go:49", after := #[{ on := 2, ground := Ground.data }], guard := none }) rfl (fun K hK => ?_) AllReadyH.nil
            go_simp
            refine (ptake_h (A + 1 + i) 1 _ _ _ _ (W.heap.size + 1) _ (by have := HA.out.1; omega) (by have := HA.out.2; have := HV.out.1; have := HIT.out; omega) (by decide) (by decide) (by repeat (first | (with_reducible exact HPK.out) | (with_reducible apply heap_drewE) | (with_reducible apply heap_grE) | (with_reducible apply heap_alloc')))).mono ?_
            rintro e w6 ⟨rfl, rfl⟩
            refine hK.out _ _ trivial (fun hHeld => ?_)
            clear hK K
            (try simp only [Act.put, List.setIfInBounds_toArray, List.set_cons_zero, List.set_cons_succ])
            refine wpAnyH_ready (rs := [4]) (by kernel_rfl) (by simp) ?_
            refine AllReadyH.cons (o := { dst := some 66, op := Op.buildSlice 80 1 #[(0, Operand.tmp 65)], type := 80, pos := "plan.go:49", after := #[{ on := 3, ground := Ground.data }], guard := none }) rfl (fun K hK => ?_) AllReadyH.nil
            go_simp
            refine hK.out _ _ trivial (fun hHeld => ?_)
            clear hK K
            (try simp only [Act.put, List.setIfInBounds_toArray, List.set_cons_zero, List.set_cons_succ])
            refine wpAnyH_ready (rs := [5]) (by kernel_rfl) (by simp) ?_
            refine AllReadyH.cons (o := { dst := some 67, op := Op.call { callee := Callee.builtin Builtin.append, args := #[Operand.tmp 63, Operand.tmp 66], argTypes := #[80, 80] }, type := 80, pos := "plan.go:49", after := #[{ on := 1, ground := Ground.data }, { on := 4, ground := Ground.data }, { on := 3, ground := Ground.chain }], guard := none }) rfl (fun K hK => ?_) AllReadyH.nil
            refine step_append_reads rfl (.tmp 63) (.tmp 66) 80 rfl wo.heap.size 3 iq _ 1 8 Try.underlying80 HIQ.out.1 HIQ.out.2.1 HIQ.out.2.2.1 HIQ.out.2.2.2 rfl (by decide) (.slice ka i kc) i (asks (A + 1) i) rfl (own_upd (S := [W.heap.size + 1]) HOWK.out (by repeat (first | (with_reducible exact Upd.refl _ _) | (with_reducible apply Upd.drew) | (with_reducible refine Upd.grE ?_ _) | (with_reducible refine Upd.alloc ?_ _) | (with_reducible refine Upd.setB ?_ (.inl (by simp))))) (fun k hk hm => by have := own_base HOWK.out k hk; simp at hm; omega)) _ 1 1 [.int .i64 (A + 1 + i)] rfl rfl (fun _ => ⟨_, 0, rfl, list_srcP (heap_alloc_at _ (by first | rfl | (simp [size_setCell]; done) | (simp [size_setCell]; omega)))⟩) (fun h => by cases h) (fun u hu => by simp at hu; subst hu; rfl) (by have := HV.out; have := HIT.out; simp only [maxLen]; omega) (by have := HV.out; have := HIT.out; omega) (by have := HUK.out.size; simp [size_setCell]; omega) ?_
            intro p4 c4 w4 hp4 hown4 hgrow4
            have hU4 := upd_grown hgrow4
            have HUW := Lib.hid (Upd.trans (S := (W.heap.size + 1) :: (Value.slice ka i kc).ownBlock.toList) (a := wr) (by repeat (first | (with_reducible exact Upd.refl _ _) | (with_reducible apply Upd.drew) | (with_reducible refine Upd.grE ?_ _) | (with_reducible refine Upd.alloc ?_ _) | (with_reducible refine Upd.setB ?_ (.inl (by simp))))) (hU4.mono (fun k hk _ => by simp at hk ⊢; exact .inr hk)))
            have HOWN4 := Lib.hid hown4
            have HPB4 := Lib.hid (hU4.keepb (k := W.heap.size + 1) (o := .cells #[.slice va os.length vc, .slice na ls.length nc, .int .i64 A, .slice ka i kc, .int .i64 (A + 1 + i + 1)] 96 (0, 0)) (by repeat (first | (with_reducible refine heap_set2c HPK.out rfl) | (with_reducible apply heap_drewE) | (with_reducible apply heap_grE) | (with_reducible apply heap_alloc'))) (fun hm => by have := own_base HOWK.out (W.heap.size + 1) (by simpa using hm); omega))
            obtain ⟨b0, b1, b2, b3, b4⟩ := cells5p HPB4.out
            have bf := frozen_of_heap HPB4.out
            have pl := heap_lt HPB4.out
            clear hown4 hgrow4 hU4
            refine hK.out _ _ trivial (fun hHeld => ?_)
            clear hK K
            (try simp only [Act.put, List.setIfInBounds_toArray, List.set_cons_zero, List.set_cons_succ])
            refine wpAnyH_take (i := 6) (oi := { dst := some 68, op := Op.fieldAddr 96 (Operand.tmp 2) 3, type := 0, pos := "plan.go:49", after := #[{ on := 0, ground := Ground.phase }, { on := 1, ground := Ground.phase }, { on := 2, ground := Ground.phase }, { on := 3, ground := Ground.phase }, { on := 4, ground := Ground.phase }, { on := 5, ground := Ground.phase }], guard := none }) (v := .pointer (some ⟨W.heap.size + 1, 3, none⟩)) rfl (by kernel_rfl) (by kernel_rfl) (by kernel_rfl) (fun _ _ _ h => h) (Or.inl ⟨by rfl, ?_⟩) hHeld ?_
            · intro w1 hSw
              (try dsimp only at hSw)
              go_simp
            (try simp only [Act.put, List.setIfInBounds_toArray, List.set_cons_zero, List.set_cons_succ])
            refine wpAnyH_ready (rs := [7]) (by kernel_rfl) (by simp) ?_
            refine AllReadyH.cons (o := { dst := none, op := Op.store 80 (Operand.tmp 68) (Operand.tmp 67), type := 0, pos := "plan.go:49", after := #[{ on := 6, ground := Ground.data }, { on := 5, ground := Ground.data }, { on := 5, ground := Ground.chain }, { on := 0, ground := Ground.phase }, { on := 1, ground := Ground.phase }, { on := 2, ground := Ground.phase }, { on := 3, ground := Ground.phase }, { on := 4, ground := Ground.phase }, { on := 5, ground := Ground.phase }], guard := none }) rfl (fun K hK => ?_) AllReadyH.nil
            go_simp
            refine hK.out _ _ trivial (fun hHeld => ?_)
            clear hK K
            (try simp only [Act.put, List.setIfInBounds_toArray, List.set_cons_zero, List.set_cons_succ])
            refine wpAnyH_done (by kernel_rfl) ?_ _
            clear hHeld
            go_wp2
            go_roundg (ts.length - (i + 1))
            case rel =>
              have hown5 := own_upd HOWN4.out (show Upd [W.heap.size + 1] w4 (w4.setCell ⟨W.heap.size + 1, 3, none⟩ (.slice p4 (i + 1) c4)) from (Upd.refl _ _).setB (by simp)) (fun k hk hm => by have := own_base HOWN4.out k hk; simp at hm; omega)
              refine ⟨i + 1, .slice p4 (i + 1) c4, by have := HIT.out; omega, by first | (rw [HW.out]; done) | (simp; done), ?_, ?_, ?_⟩
              · rw [asks_succ]
                exact hown5
              · rw [show A + 1 + ((i + 1 : Nat) : Int) = A + 1 + i + 1 by omega]
                exact heap_set2c HPB4.out rfl
              · exact (HUK.out.then HUW.out (fun k hk => by simp at hk ⊢; rcases hk with hk | hk; exact .inl hk; exact .inr (own_base HOWK.out k hk))).setB (by simp)
            case measure => have := HIT.out; have := HI.out; omega
          · go_simp
            refine (ptake_h (A + 1 + i) 1 _ _ _ _ (W.heap.size + 1) _ (by have := HA.out.1; omega) (by have := HA.out.2; have := HV.out.1; have := HIT.out; omega) (by decide) (by decide) (by repeat (first | (with_reducible exact HPK.out) | (with_reducible apply heap_drewE) | (with_reducible apply heap_grE) | (with_reducible apply heap_alloc')))).mono ?_
            rintro e w6 ⟨rfl, rfl⟩
            refine hK.out _ _ trivial (fun hHeld => ?_)
            clear hK K
            (try simp only [Act.put, List.setIfInBounds_toArray, List.set_cons_zero, List.set_cons_succ])
            refine wpAnyH_ready (rs := [1, 4]) (by kernel_rfl) (by simp) ?_
            refine AllReadyH.cons (o := { dst := some 63, op := Op.load 80 (Operand.tmp 62), type := 80, pos := "plan.go:49", after := #[{ on := 0, ground := Ground.data }], guard := none }) rfl (fun K hK => ?_) (AllReadyH.cons (o := { dst := some 66, op := Op.buildSlice 80 1 #[(0, Operand.tmp 65)], type := 80, pos := "plan.go:49", after := #[{ on := 3, ground := Ground.data }], guard := none }) rfl (fun K hK => ?_) AllReadyH.nil)
            · go_simp
              refine hK.out _ _ trivial (fun hHeld => ?_)
              clear hK K
              (try simp only [Act.put, List.setIfInBounds_toArray, List.set_cons_zero, List.set_cons_succ])
              refine wpAnyH_ready (rs := [4]) (by kernel_rfl) (by simp) ?_
              refine AllReadyH.cons (o := { dst := some 66, op := Op.buildSlice 80 1 #[(0, Operand.tmp 65)], type := 80, pos := "plan.go:49", after := #[{ on := 3, ground := Ground.data }], guard := none }) rfl (fun K hK => ?_) AllReadyH.nil
              go_simp
              refine hK.out _ _ trivial (fun hHeld => ?_)
              clear hK K
              (try simp only [Act.put, List.setIfInBounds_toArray, List.set_cons_zero, List.set_cons_succ])
              refine wpAnyH_ready (rs := [5]) (by kernel_rfl) (by simp) ?_
              refine AllReadyH.cons (o := { dst := some 67, op := Op.call { callee := Callee.builtin Builtin.append, args := #[Operand.tmp 63, Operand.tmp 66], argTypes := #[80, 80] }, type := 80, pos := "plan.go:49", after := #[{ on := 1, ground := Ground.data }, { on := 4, ground := Ground.data }, { on := 3, ground := Ground.chain }], guard := none }) rfl (fun K hK => ?_) AllReadyH.nil
              refine step_append_reads rfl (.tmp 63) (.tmp 66) 80 rfl wo.heap.size 3 iq _ 1 8 Try.underlying80 HIQ.out.1 HIQ.out.2.1 HIQ.out.2.2.1 HIQ.out.2.2.2 rfl (by decide) (.slice ka i kc) i (asks (A + 1) i) rfl (own_upd (S := [W.heap.size + 1]) HOWK.out (by repeat (first | (with_reducible exact Upd.refl _ _) | (with_reducible apply Upd.drew) | (with_reducible refine Upd.grE ?_ _) | (with_reducible refine Upd.alloc ?_ _) | (with_reducible refine Upd.setB ?_ (.inl (by simp))))) (fun k hk hm => by have := own_base HOWK.out k hk; simp at hm; omega)) _ 1 1 [.int .i64 (A + 1 + i)] rfl rfl (fun _ => ⟨_, 0, rfl, list_srcP (heap_alloc_at _ (by first | rfl | (simp [size_setCell]; done) | (simp [size_setCell]; omega)))⟩) (fun h => by cases h) (fun u hu => by simp at hu; subst hu; rfl) (by have := HV.out; have := HIT.out; simp only [maxLen]; omega) (by have := HV.out; have := HIT.out; omega) (by have := HUK.out.size; simp [size_setCell]; omega) ?_
              intro p4 c4 w4 hp4 hown4 hgrow4
              have hU4 := upd_grown hgrow4
              have HUW := Lib.hid (Upd.trans (S := (W.heap.size + 1) :: (Value.slice ka i kc).ownBlock.toList) (a := wr) (by repeat (first | (with_reducible exact Upd.refl _ _) | (with_reducible apply Upd.drew) | (with_reducible refine Upd.grE ?_ _) | (with_reducible refine Upd.alloc ?_ _) | (with_reducible refine Upd.setB ?_ (.inl (by simp))))) (hU4.mono (fun k hk _ => by simp at hk ⊢; exact .inr hk)))
              have HOWN4 := Lib.hid hown4
              have HPB4 := Lib.hid (hU4.keepb (k := W.heap.size + 1) (o := .cells #[.slice va os.length vc, .slice na ls.length nc, .int .i64 A, .slice ka i kc, .int .i64 (A + 1 + i + 1)] 96 (0, 0)) (by repeat (first | (with_reducible refine heap_set2c HPK.out rfl) | (with_reducible apply heap_drewE) | (with_reducible apply heap_grE) | (with_reducible apply heap_alloc'))) (fun hm => by have := own_base HOWK.out (W.heap.size + 1) (by simpa using hm); omega))
              obtain ⟨b0, b1, b2, b3, b4⟩ := cells5p HPB4.out
              have bf := frozen_of_heap HPB4.out
              have pl := heap_lt HPB4.out
              clear hown4 hgrow4 hU4
              refine hK.out _ _ trivial (fun hHeld => ?_)
              clear hK K
              (try simp only [Act.put, List.setIfInBounds_toArray, List.set_cons_zero, List.set_cons_succ])
              refine wpAnyH_take (i := 6) (oi := { dst := some 68, op := Op.fieldAddr 96 (Operand.tmp 2) 3, type := 0, pos := "plan.go:49", after := #[{ on := 0, ground := Ground.phase }, { on := 1, ground := Ground.phase }, { on := 2, ground := Ground.phase }, { on := 3, ground := Ground.phase }, { on := 4, ground := Ground.phase }, { on := 5, ground := Ground.phase }], guard := none }) (v := .pointer (some ⟨W.heap.size + 1, 3, none⟩)) rfl (by kernel_rfl) (by kernel_rfl) (by kernel_rfl) (fun _ _ _ h => h) (Or.inl ⟨by rfl, ?_⟩) hHeld ?_
              · intro w1 hSw
                (try dsimp only at hSw)
                go_simp
              (try simp only [Act.put, List.setIfInBounds_toArray, List.set_cons_zero, List.set_cons_succ])
              refine wpAnyH_ready (rs := [7]) (by kernel_rfl) (by simp) ?_
              refine AllReadyH.cons (o := { dst := none, op := Op.store 80 (Operand.tmp 68) (Operand.tmp 67), type := 0, pos := "plan.go:49", after := #[{ on := 6, ground := Ground.data }, { on := 5, ground := Ground.data }, { on := 5, ground := Ground.chain }, { on := 0, ground := Ground.phase }, { on := 1, ground := Ground.phase }, { on := 2, ground := Ground.phase }, { on := 3, ground := Ground.phase }, { on := 4, ground := Ground.phase }, { on := 5, ground := Ground.phase }], guard := none }) rfl (fun K hK => ?_) AllReadyH.nil
              go_simp
              refine hK.out _ _ trivial (fun hHeld => ?_)
              clear hK K
              (try simp only [Act.put, List.setIfInBounds_toArray, List.set_cons_zero, List.set_cons_succ])
              refine wpAnyH_done (by kernel_rfl) ?_ _
              clear hHeld
              go_wp2
              go_roundg (ts.length - (i + 1))
              case rel =>
                have hown5 := own_upd HOWN4.out (show Upd [W.heap.size + 1] w4 (w4.setCell ⟨W.heap.size + 1, 3, none⟩ (.slice p4 (i + 1) c4)) from (Upd.refl _ _).setB (by simp)) (fun k hk hm => by have := own_base HOWN4.out k hk; simp at hm; omega)
                refine ⟨i + 1, .slice p4 (i + 1) c4, by have := HIT.out; omega, by first | (rw [HW.out]; done) | (simp; done), ?_, ?_, ?_⟩
                · rw [asks_succ]
                  exact hown5
                · rw [show A + 1 + ((i + 1 : Nat) : Int) = A + 1 + i + 1 by omega]
                  exact heap_set2c HPB4.out rfl
                · exact (HUK.out.then HUW.out (fun k hk => by simp at hk ⊢; rcases hk with hk | hk; exact .inl hk; exact .inr (own_base HOWK.out k hk))).setB (by simp)
              case measure => have := HIT.out; have := HI.out; omega
            · go_simp
              refine hK.out _ _ trivial (fun hHeld => ?_)
              clear hK K
              (try simp only [Act.put, List.setIfInBounds_toArray, List.set_cons_zero, List.set_cons_succ])
              refine wpAnyH_ready (rs := [1]) (by kernel_rfl) (by simp) ?_
              refine AllReadyH.cons (o := { dst := some 63, op := Op.load 80 (Operand.tmp 62), type := 80, pos := "plan.go:49", after := #[{ on := 0, ground := Ground.data }], guard := none }) rfl (fun K hK => ?_) AllReadyH.nil
              go_simp
              refine hK.out _ _ trivial (fun hHeld => ?_)
              clear hK K
              (try simp only [Act.put, List.setIfInBounds_toArray, List.set_cons_zero, List.set_cons_succ])
              refine wpAnyH_ready (rs := [5]) (by kernel_rfl) (by simp) ?_
              refine AllReadyH.cons (o := { dst := some 67, op := Op.call { callee := Callee.builtin Builtin.append, args := #[Operand.tmp 63, Operand.tmp 66], argTypes := #[80, 80] }, type := 80, pos := "plan.go:49", after := #[{ on := 1, ground := Ground.data }, { on := 4, ground := Ground.data }, { on := 3, ground := Ground.chain }], guard := none }) rfl (fun K hK => ?_) AllReadyH.nil
              refine step_append_reads rfl (.tmp 63) (.tmp 66) 80 rfl wo.heap.size 3 iq _ 1 8 Try.underlying80 HIQ.out.1 HIQ.out.2.1 HIQ.out.2.2.1 HIQ.out.2.2.2 rfl (by decide) (.slice ka i kc) i (asks (A + 1) i) rfl (own_upd (S := [W.heap.size + 1]) HOWK.out (by repeat (first | (with_reducible exact Upd.refl _ _) | (with_reducible apply Upd.drew) | (with_reducible refine Upd.grE ?_ _) | (with_reducible refine Upd.alloc ?_ _) | (with_reducible refine Upd.setB ?_ (.inl (by simp))))) (fun k hk hm => by have := own_base HOWK.out k hk; simp at hm; omega)) _ 1 1 [.int .i64 (A + 1 + i)] rfl rfl (fun _ => ⟨_, 0, rfl, list_srcP (heap_alloc_at _ (by first | rfl | (simp [size_setCell]; done) | (simp [size_setCell]; omega)))⟩) (fun h => by cases h) (fun u hu => by simp at hu; subst hu; rfl) (by have := HV.out; have := HIT.out; simp only [maxLen]; omega) (by have := HV.out; have := HIT.out; omega) (by have := HUK.out.size; simp [size_setCell]; omega) ?_
              intro p4 c4 w4 hp4 hown4 hgrow4
              have hU4 := upd_grown hgrow4
              have HUW := Lib.hid (Upd.trans (S := (W.heap.size + 1) :: (Value.slice ka i kc).ownBlock.toList) (a := wr) (by repeat (first | (with_reducible exact Upd.refl _ _) | (with_reducible apply Upd.drew) | (with_reducible refine Upd.grE ?_ _) | (with_reducible refine Upd.alloc ?_ _) | (with_reducible refine Upd.setB ?_ (.inl (by simp))))) (hU4.mono (fun k hk _ => by simp at hk ⊢; exact .inr hk)))
              have HOWN4 := Lib.hid hown4
              have HPB4 := Lib.hid (hU4.keepb (k := W.heap.size + 1) (o := .cells #[.slice va os.length vc, .slice na ls.length nc, .int .i64 A, .slice ka i kc, .int .i64 (A + 1 + i + 1)] 96 (0, 0)) (by repeat (first | (with_reducible refine heap_set2c HPK.out rfl) | (with_reducible apply heap_drewE) | (with_reducible apply heap_grE) | (with_reducible apply heap_alloc'))) (fun hm => by have := own_base HOWK.out (W.heap.size + 1) (by simpa using hm); omega))
              obtain ⟨b0, b1, b2, b3, b4⟩ := cells5p HPB4.out
              have bf := frozen_of_heap HPB4.out
              have pl := heap_lt HPB4.out
              clear hown4 hgrow4 hU4
              refine hK.out _ _ trivial (fun hHeld => ?_)
              clear hK K
              (try simp only [Act.put, List.setIfInBounds_toArray, List.set_cons_zero, List.set_cons_succ])
              refine wpAnyH_take (i := 6) (oi := { dst := some 68, op := Op.fieldAddr 96 (Operand.tmp 2) 3, type := 0, pos := "plan.go:49", after := #[{ on := 0, ground := Ground.phase }, { on := 1, ground := Ground.phase }, { on := 2, ground := Ground.phase }, { on := 3, ground := Ground.phase }, { on := 4, ground := Ground.phase }, { on := 5, ground := Ground.phase }], guard := none }) (v := .pointer (some ⟨W.heap.size + 1, 3, none⟩)) rfl (by kernel_rfl) (by kernel_rfl) (by kernel_rfl) (fun _ _ _ h => h) (Or.inl ⟨by rfl, ?_⟩) hHeld ?_
              · intro w1 hSw
                (try dsimp only at hSw)
                go_simp
              (try simp only [Act.put, List.setIfInBounds_toArray, List.set_cons_zero, List.set_cons_succ])
              refine wpAnyH_ready (rs := [7]) (by kernel_rfl) (by simp) ?_
              refine AllReadyH.cons (o := { dst := none, op := Op.store 80 (Operand.tmp 68) (Operand.tmp 67), type := 0, pos := "plan.go:49", after := #[{ on := 6, ground := Ground.data }, { on := 5, ground := Ground.data }, { on := 5, ground := Ground.chain }, { on := 0, ground := Ground.phase }, { on := 1, ground := Ground.phase }, { on := 2, ground := Ground.phase }, { on := 3, ground := Ground.phase }, { on := 4, ground := Ground.phase }, { on := 5, ground := Ground.phase }], guard := none }) rfl (fun K hK => ?_) AllReadyH.nil
              go_simp
              refine hK.out _ _ trivial (fun hHeld => ?_)
              clear hK K
              (try simp only [Act.put, List.setIfInBounds_toArray, List.set_cons_zero, List.set_cons_succ])
              refine wpAnyH_done (by kernel_rfl) ?_ _
              clear hHeld
              go_wp2
              go_roundg (ts.length - (i + 1))
              case rel =>
                have hown5 := own_upd HOWN4.out (show Upd [W.heap.size + 1] w4 (w4.setCell ⟨W.heap.size + 1, 3, none⟩ (.slice p4 (i + 1) c4)) from (Upd.refl _ _).setB (by simp)) (fun k hk hm => by have := own_base HOWN4.out k hk; simp at hm; omega)
                refine ⟨i + 1, .slice p4 (i + 1) c4, by have := HIT.out; omega, by first | (rw [HW.out]; done) | (simp; done), ?_, ?_, ?_⟩
                · rw [asks_succ]
                  exact hown5
                · rw [show A + 1 + ((i + 1 : Nat) : Int) = A + 1 + i + 1 by omega]
                  exact heap_set2c HPB4.out rfl
                · exact (HUK.out.then HUW.out (fun k hk => by simp at hk ⊢; rcases hk with hk | hk; exact .inl hk; exact .inr (own_base HOWK.out k hk))).setB (by simp)
              case measure => have := HIT.out; have := HI.out; omega
        · obtain rfl : i = ts.length := by have := HI.out; omega
          clear hit
          go_wp2
          refine bodyPost_ret (results_cell_tmp rfl _ _ (W.heap.size + 1) 96 #[.slice va os.length vc, .slice na ls.length nc, .int .i64 A, .slice ka ts.length kc, .int .i64 (A + 1 + ts.length)] (0, 0) _ (.bool true) rfl rfl (by repeat (first | (with_reducible exact HPK.out) | (with_reducible apply heap_set2c) | rfl)) Try.underlying96 rfl (info_plan5 _ _ _ _ _)) rfl ?_
          have hS : Upd [W.heap.size + 1] wr (((((wr.setCell ⟨W.heap.size + 1, 0, none⟩ (.slice va os.length vc)).setCell ⟨W.heap.size + 1, 1, none⟩ (.slice na ls.length nc)).setCell ⟨W.heap.size + 1, 2, none⟩ (.int .i64 A)).setCell ⟨W.heap.size + 1, 3, none⟩ (.slice ka ts.length kc)).setCell ⟨W.heap.size + 1, 4, none⟩ (.int .i64 (A + 1 + ts.length))) := by
            repeat (first | (with_reducible exact Upd.refl _ _) | (with_reducible refine Upd.setB ?_ (.inl (by simp))))
          have hS2 := (HU.out.trans HUK.out).trans hS
          have hS3 := HUK.out.trans hS
          rw [HAE2.out]
          refine ⟨HU1.out.then hS2 (fun i hi => .inr (by simp at hi; omega)), va, vc, na, nc, ka, kc, rfl, ?_, ?_, ?_⟩
          · have ho := own_upd HPL.out hS2 (fun q hq hm => by have := own_base HPL.out q hq; simp at hm; subst hm; simp at this; omega)
            obtain ⟨a, c, e, _, he⟩ := flat_own PL.cells pl_len ho (pls_len 0 os).symm
            simp only [Value.slice.injEq] at e
            obtain ⟨rfl, -, rfl⟩ := e
            exact he
          · have ho := own_upd HOWN.out hS3 (fun q hq hm => by have := own_base HOWN.out q hq; simp at hm; omega)
            obtain ⟨a, c, e, _, he⟩ := flat_own LN.cells ln_len ho (by rw [lns_len, HLL.out])
            simp only [Value.slice.injEq] at e
            obtain ⟨rfl, -, rfl⟩ := e
            exact he
          · have ho := own_upd HOWK.out hS (fun q hq hm => by have := own_base HOWK.out q hq; simp at hm; omega)
            obtain ⟨a, c, e, hr⟩ := own_reads ho
            simp only [Value.slice.injEq] at e
            obtain ⟨rfl, -, rfl⟩ := e
            exact hr
end
end Go.Proofs.Ytdbgnnkbcebpcaa
