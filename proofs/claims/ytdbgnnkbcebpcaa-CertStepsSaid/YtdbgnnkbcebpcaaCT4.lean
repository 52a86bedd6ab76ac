/- Package cert: Check (printed by genct.py out of CT4.base). -/
import Derived.Test.YtdbgnnkbcebpcaaCT3
set_option linter.unusedVariables false
set_option linter.unusedSimpArgs false
namespace Go.Proofs.Ytdbgnnkbcebpcaa
open Go.RowKit
theorem alloc_setRow (w : World) (cs ds : Array Value) (t : TypeId) : (w.alloc (.cells cs t)).setRow w.heap.size ds = w.alloc (.cells ds t) := by
  unfold World.setRow World.alloc
  simp only [World.mk.injEq, and_true]
  apply Array.ext_getElem?
  intro k
  rw [Array.getElem?_modify, Array.getElem?_push, Array.getElem?_push]
  by_cases h : k = w.heap.size
  · subst h; simp
  · rw [if_neg h, if_neg (fun e => h e.symm), if_neg h]
theorem drew_setRow (w : World) (cs ds : Array Value) (t : TypeId) : (w.alloc (.cells cs t)).drew.setRow w.heap.size ds = w.drew.alloc (.cells ds t) := alloc_setRow w.drew cs ds t
theorem drew_upd {S : List Nat} {a b : World} (h : Upd S a.drew b) : Upd S a b := ⟨h.os, h.tape, h.output, h.size, h.block⟩
theorem op_one (z0 z1 z2 z3 z4 z5 z6 z7 z8 z9 z10 z11 z12 z13 z15 z16 : Int) (zd : Bool) : (#[.int .i64 z0, .int .i64 z1, .int .i64 z2, .int .i64 z3, .int .u32 z4, .int .u32 z5, .int .u32 z6, .int .u32 z7, .int .u32 z8, .int .i64 z9, .int .u32 z10, .int .u32 z11, .int .u32 z12, .int .u32 z13, .bool zd, .int .i64 z15, .int .i64 z16] : Array Value).all (·.oneCell') = true := by simp [Value.oneCell']
section
variable {w : World} {ba la oa : Option Addr} {objs : List OBJ} {l : List OP} {order : List Int}
set_option maxRecDepth 100000 in
set_option maxHeartbeats 8000000 in
theorem check_c (bc lc oc : Nat) (hb : Els w ba 10 (objs.map OBJ.cells)) (hl : Els w la 17 (l.map OP.cells)) (ho : Els w oa 1 (order.map numC)) (hbn : objs.length ≤ 1000) (hn : l.length ≤ 1000) (hm : order.length ≤ 1000) (hoc : order.length ≤ oc) :
    Calls Try.prog 33 #[.slice ba objs.length bc, .slice la l.length lc, .slice oa order.length oc] w fun e w' => e = .returned (.tuple #[.int .i64 (checkP objs l order).1, .int .i64 (checkP objs l order).2]) ∧ Upd [] w w' := by
  have hmf : ∀ (fn : Fn) (first cap : Array Value) (w : World), (Instr.makeFunc fn first cap).run Try.prog w = .ok (.func fn first cap) w := fun _ _ _ _ => rfl
  have HLE := Lib.hid hl
  have HOE := Lib.hid ho
  have HL := Lib.hid (And.intro hbn (And.intro hn (And.intro hm hoc)))
  have HWH := Lib.hid fun (w1 : World) (hu : Upd [] w w1) => whole_c (w := w1) lc oc (hl.upd hu (by simp)) (ho.upd hu (by simp)) hn hm
  have HST := Lib.hid fun (w1 : World) (hu : Upd [] w w1) => start_c (w := w1) bc (hb.upd hu (by simp)) hbn
  clear hb hl ho hbn hn hm hoc
  unfold checkP
  cases hwp : wholeP l order
  · rw [hwp] at HWH
    rw [if_neg (by simp)]
    clear hwp
    go_enter Try.func33, Try.ntmps33
    go_wp2
    refine wp_scope_ghost 0 (fun n a' w' => False) rfl ?_ ?_
    · intro n a w h
      exact h.elim
    · intro _
      go_wp2_with (go_at_call 34; (with_reducible refine (HWH.out _ (by repeat (first | (with_reducible exact Upd.refl _ _) | (with_reducible refine Upd.alloc ?_ _)))).mono ?_); rintro e w2 ⟨rfl, hu2⟩; obtain ⟨p2, rfl⟩ := hu2.grown; clear hu2)
      simp only [Exit.jump]
      go_ret2
      exact ⟨rfl, by repeat (first | (with_reducible exact Upd.refl _ _) | (with_reducible refine Upd.grE ?_ _) | (with_reducible refine Upd.alloc ?_ _))⟩
  rw [hwp] at HWH
  rw [if_pos rfl]
  have HIN := Lib.hid (wholeP_in hwp)
  clear hwp
  obtain ⟨res, hres⟩ : ∃ res, res = checkGo l order order.length 0 (objs.map itemP) := ⟨_, rfl⟩
  have HRES := Lib.hid hres
  rw [← hres]
  clear hres
  go_enter Try.func33, Try.ntmps33
  go_wp2
  refine wp_scope_ghost 0 (CJ w ba la oa bc lc oc objs l order) rfl ?_ ?_
  · rintro n a' w' ⟨ga, m, sn, sc, sa, _, _, _, _, _, _, _, _, _, _, _, _, _, _, _, _, _, _, _, _, _, _, _, _, _, _, _, _, _, _, _, _, _, _, _, _, _, _, _, _, _, _, _, _, _, _, _, _, _, _, _, _, _, _, _, rfl, hck⟩
    obtain ⟨hnm, hbl, hbo, hga, hlg, hu, rs, s, hs, hrs, rfl, hsl, hrow, hgo⟩ := hck
    have HNM := Lib.hid hnm
    have HBL := Lib.hid hbl
    have HBO := Lib.hid hbo
    have HGA := Lib.hid hga
    have HU := Lib.hid hu
    have HS := Lib.hid hs
    have HRS := Lib.hid hrs
    have HSL := Lib.hid hsl
    have HROW := Lib.hid hrow
    have HLG := Lib.hid hlg
    have c0 : w'.cell? ⟨w.heap.size, 0, none⟩ = some (.slice la l.length lc) := by rw [cell_of_heap hbl]; rfl
    have c1 : w'.cell? ⟨w.heap.size + 1, 0, none⟩ = some (.slice oa order.length oc) := by rw [cell_of_heap hbo]; rfl
    have c2 : w'.cell? ⟨ga, 0, none⟩ = some (.int .i64 m) := by rw [cell_of_heap hga]; rfl
    have zf := frozen_of_heap hga 0
    have l2 := heap_lt hga
    have l0 := heap_lt hbl
    have l1 := heap_lt hbo
    have ng : ga ≠ w'.heap.size := by omega
    have C0 := Lib.hid c0
    have C1 := Lib.hid c1
    have C2 := Lib.hid c2
    by_cases hlt : m < order.length
    · obtain ⟨n, rfl⟩ : ∃ n', n = n' + 1 := ⟨n - 1, by omega⟩
      obtain ⟨ob, oo, rfl, hob, hoc⟩ := els_at HOE.out hlt
      have hk := HIN.out order[m] (List.getElem_mem hlt)
      obtain ⟨kn, hkn⟩ : ∃ kn : Nat, order[m] = kn := ⟨order[m].toNat, by omega⟩
      have hkl : kn < l.length := by omega
      obtain ⟨lb, lo, rfl, hlb, hlc⟩ := els_at HLE.out hkl
      have EG := Lib.hid (show w'.cell? ⟨ob, oo + m, none⟩ = some (.int .i64 kn) from (hu.cell (p := ⟨ob, oo + m, none⟩) hob (by simp)).trans (by have := hoc 0 _ rfl; rw [hkn] at this; simpa using this))
      have hstep : checkGo l order (n + 1) m s = if lateP l (order.take m) l[kn] then ((m : Int), 15)
          else if l[kn].done then (if (allowsR s l[kn].ck l[kn].co l[kn].cv (l[kn].rf, l[kn].rv)).2 then checkGo l order n (m + 1) (allowsR s l[kn].ck l[kn].co l[kn].cv (l[kn].rf, l[kn].rv)).1 else ((m : Int), 2))
          else checkGo l order n (m + 1) (doR s l[kn].ck l[kn].co l[kn].cv).1 := by
        rw [checkGo, List.getElem?_eq_getElem hlt]
        simp only [hkn, Int.toNat_natCast]
        rw [List.getElem?_eq_getElem hkl]
      have HLATE := Lib.hid fun (w1 : World) (hu1 : Upd [] w' w1) => late_c (w := w1) (tl := 79) (tq := 80) (ta := 3) lc oc l[kn] m w.heap.size (w.heap.size + 1) ga (HLE.out.upd (hu.trans hu1) (by simp)) (HOE.out.upd (hu.trans hu1) (by simp)) HIN.out (by omega) HL.out.2.1 HL.out.2.2.1 HL.out.2.2.2 (hu1.keepb hbo (by simp)) (hu1.keepb hga (by simp)) (hu1.keepb hbl (by simp))
      have hrl : rs.length ≤ 1000 := by have := HL.out.1; have h2 : s.length = rs.length := by rw [← hrs]; simp
                                        omega
      have hrr : ∀ r ∈ rs, r.x.row.length ≤ 64 := fun r hr => hrow r.x (by rw [← hrs]; exact List.mem_map_of_mem hr)
      have HA := Lib.hid fun (w1 : World) (hu1 : Upd [] w' w1) => allows_c (w := w1) sc l[kn].ck l[kn].co l[kn].cn l[kn].cv (l[kn].rf, l[kn].rv) (hs.upd hu1) hrl hrr
      have HD := Lib.hid fun (w1 : World) (hu1 : Upd [] w' w1) => do_c (w := w1) sc l[kn].ck l[kn].co l[kn].cn l[kn].cv (hs.upd hu1) hrl hrr
      rw [hrs] at HA HD
      have HSR := Lib.hid (show ∀ s', s' = (allowsR s l[kn].ck l[kn].co l[kn].cv (l[kn].rf, l[kn].rv)).1 ∨ s' = (doR s l[kn].ck l[kn].co l[kn].cv).1 → s'.length = objs.length ∧ ∀ x ∈ s', x.row.length ≤ 64 from fun s' h => by
        rcases h with rfl | rfl
        · exact ⟨(allowsR_len _ _ _ _ _).trans HSL.out, allowsR_rows _ _ _ _ _ HROW.out⟩
        · exact ⟨(doR_len _ _ _ _).trans HSL.out, doR_rows _ _ _ _ HROW.out⟩)
      rw [hgo] at hstep
      have HR := Lib.hid (HRES.out.trans hstep)
      have HLT := Lib.hid hlt
      have E := fun q v hq => (hu.cell (p := ⟨lb, lo + kn * 17 + q, none⟩) hlb (by simp)).trans (hlc q v hq)
      have hl0 : (order.length : Int) ≤ 1000 := by have := HL.out; omega
      have b1 : (0 : Int) ≤ (kn : Int) := by omega
      have b2 : (kn : Int) < (l.length : Int) := by omega
      have b3 : (0 : Int) ≤ (m : Int) := by omega
      have b4 : (m : Int) < (order.length : Int) := by omega
      have b5 : decide ((m : Int) < (order.length : Int)) = true := by simp; omega
      have HW := Lib.hid (show wrap64 ((m : Int) + 1) = ((m + 1 : Nat) : Int) from wrap_next (by have := HL.out; omega) hlt)
      clear hstep hgo hnm hbl hbo hga hs hrs hsl hrow hu hoc hrl hrr
      generalize hz : l[kn] = z at *
      clear hz hk hkn hob
      obtain ⟨z0, z1, z2, z3, ⟨z4, z5, z6, z7⟩, z8, z9, ⟨z10, z11, z12, z13⟩, zd, z15, z16⟩ := z
      have EL := Lib.hid (show ∀ j v, ([.int .i64 z0, .int .i64 z1, .int .i64 z2, .int .i64 z3, .int .u32 z4, .int .u32 z5, .int .u32 z6, .int .u32 z7, .int .u32 z8, .int .i64 z9, .int .u32 z10, .int .u32 z11, .int .u32 z12, .int .u32 z13, .bool zd, .int .i64 z15, .int .i64 z16] : List Value)[j]? = some v → w'.cell? ⟨lb, lo + kn * 17 + j, none⟩ = some v from E)
      have lob := World.block_lt_of_cell? _ _ EG.out
      have llb := World.block_lt_of_cell? _ _ (EL.out 0 _ rfl)
      clear E hlc hlb hkl hlt
      unfold OP.A at HLATE
      unfold caV resV resA at HA
      unfold caV at HD
      simp only at HLATE HA HD HR HSR
      go_wp2_with fail
      have R0 : ∀ w1 : World, Upd [] w' w1 → w1.cell? ⟨w.heap.size, 0, none⟩ = some (.slice (some ⟨lb, lo, none⟩) l.length lc) := fun w1 h => (h.cell (p := ⟨w.heap.size, 0, none⟩) l0 (by simp)).trans C0.out
      have R1 : ∀ w1 : World, Upd [] w' w1 → w1.cell? ⟨w.heap.size + 1, 0, none⟩ = some (.slice (some ⟨ob, oo, none⟩) order.length oc) := fun w1 h => (h.cell (p := ⟨w.heap.size + 1, 0, none⟩) l1 (by simp)).trans C1.out
      have R2 : ∀ w1 : World, Upd [] w' w1 → w1.cell? ⟨ga, 0, none⟩ = some (.int .i64 m) := fun w1 h => (h.cell (p := ⟨ga, 0, none⟩) l2 (by simp)).trans C2.out
      have R3 : ∀ w1 : World, Upd [] w' w1 → w1.cell? ⟨ob, oo + m, none⟩ = some (.int .i64 kn) := fun w1 h => (h.cell (p := ⟨ob, oo + m, none⟩) lob (by simp)).trans EG.out
      refine wp_region_held_drew (S := fun w1 => Upd [] w' w1) (by kernel_rfl) ?_ (fun hHeld => ?_)
      · exact (Upd.refl [] w').drew
      refine wpAnyH_take (i := 0) (oi := { dst := some 25, op := Op.load 79 (Operand.tmp 4), type := 79, pos := "cert.go:48", after := #[], guard := none }) (v := .slice (some ⟨lb, lo, none⟩) l.length lc) rfl (by kernel_rfl) (by kernel_rfl) (by kernel_rfl) (fun _ _ _ h => h) (Or.inl ⟨by rfl, ?_⟩) hHeld ?_
      · intro w1 hSw
        (try dsimp only at hSw)
        go_simp
      (try simp only [Act.put, List.setIfInBounds_toArray, List.set_cons_zero, List.set_cons_succ])
      refine wpAnyH_take (i := 1) (oi := { dst := some 26, op := Op.load 80 (Operand.tmp 5), type := 80, pos := "cert.go:48", after := #[], guard := none }) (v := .slice (some ⟨ob, oo, none⟩) order.length oc) rfl (by kernel_rfl) (by kernel_rfl) (by kernel_rfl) (fun _ _ _ h => h) (Or.inl ⟨by rfl, ?_⟩) hHeld ?_
      · intro w1 hSw
        (try dsimp only at hSw)
        go_simp
      (try simp only [Act.put, List.setIfInBounds_toArray, List.set_cons_zero, List.set_cons_succ])
      refine wpAnyH_take (i := 2) (oi := { dst := some 27, op := Op.load 3 (Operand.tmp 9), type := 3, pos := "cert.go:48", after := #[], guard := none }) (v := .int .i64 m) rfl (by kernel_rfl) (by kernel_rfl) (by kernel_rfl) (fun _ _ _ h => h) (Or.inl ⟨by rfl, ?_⟩) hHeld ?_
      · intro w1 hSw
        (try dsimp only at hSw)
        go_simp
      (try simp only [Act.put, List.setIfInBounds_toArray, List.set_cons_zero, List.set_cons_succ])
      refine wpAnyH_take (i := 3) (oi := { dst := some 28, op := Op.indexAddr 80 (Operand.tmp 26) (Operand.tmp 27), type := 0, pos := "cert.go:48", after := #[{ on := 1, ground := Ground.data }, { on := 2, ground := Ground.data }], guard := none }) (v := .pointer (some ⟨ob, oo + m, none⟩)) rfl (by kernel_rfl) (by kernel_rfl) (by kernel_rfl) (fun _ _ _ h => h) (Or.inl ⟨by rfl, ?_⟩) hHeld ?_
      · intro w1 hSw
        (try dsimp only at hSw)
        go_simp
      (try simp only [Act.put, List.setIfInBounds_toArray, List.set_cons_zero, List.set_cons_succ])
      refine wpAnyH_take (i := 4) (oi := { dst := some 29, op := Op.load 3 (Operand.tmp 28), type := 3, pos := "cert.go:48", after := #[{ on := 3, ground := Ground.data }], guard := none }) (v := .int .i64 kn) rfl (by kernel_rfl) (by kernel_rfl) (by kernel_rfl) (fun _ _ _ h => h) (Or.inl ⟨by rfl, ?_⟩) hHeld ?_
      · intro w1 hSw
        (try dsimp only at hSw)
        go_simp
      (try simp only [Act.put, List.setIfInBounds_toArray, List.set_cons_zero, List.set_cons_succ])
      refine wpAnyH_take (i := 5) (oi := { dst := some 30, op := Op.indexAddr 79 (Operand.tmp 25) (Operand.tmp 29), type := 0, pos := "cert.go:48", after := #[{ on := 0, ground := Ground.data }, { on := 4, ground := Ground.data }], guard := none }) (v := .pointer (some ⟨lb, lo + kn * 17, none⟩)) rfl (by kernel_rfl) (by kernel_rfl) (by kernel_rfl) (fun _ _ _ h => h) (Or.inl ⟨by rfl, ?_⟩) hHeld ?_
      · intro w1 hSw
        (try dsimp only at hSw)
        go_simp
      (try simp only [Act.put, List.setIfInBounds_toArray, List.set_cons_zero, List.set_cons_succ])
      refine wpAnyH_take (i := 6) (oi := { dst := some 31, op := Op.load 86 (Operand.tmp 30), type := 86, pos := "cert.go:48", after := #[{ on := 5, ground := Ground.data }], guard := none }) (v := .agg ([.int .i64 z0, .int .i64 z1, .int .i64 z2, .int .i64 z3, .int .u32 z4, .int .u32 z5, .int .u32 z6, .int .u32 z7, .int .u32 z8, .int .i64 z9, .int .u32 z10, .int .u32 z11, .int .u32 z12, .int .u32 z13, .bool zd, .int .i64 z15, .int .i64 z16] : List Value).toArray) rfl (by kernel_rfl) (by kernel_rfl) (by kernel_rfl) (fun _ _ _ h => h) (yieldsIf_load_mid (by rfl) 86 _ rfl lb (lo + kn * 17) rfl [.int .i64 z0, .int .i64 z1, .int .i64 z2, .int .i64 z3, .int .u32 z4, .int .u32 z5, .int .u32 z6, .int .u32 z7, .int .u32 z8, .int .i64 z9, .int .u32 z10, .int .u32 z11, .int .u32 z12, .int .u32 z13, .bool zd, .int .i64 z15, .int .i64 z16] _ (fun w1 h j v hj => (h.cell (p := ⟨lb, lo + kn * 17 + j, none⟩) llb (by simp)).trans (EL.out j v hj)) Try.underlying86 rfl (info_op _ _ _ _ _ _ _ _ _ _ _ _ _ _ _ _ _)) hHeld ?_
      (try simp only [Act.put, List.setIfInBounds_toArray, List.set_cons_zero, List.set_cons_succ])
      refine wpAnyH_ready (rs := [7]) (by kernel_rfl) (by simp) ?_
      refine AllReadyH.cons (o := { dst := some 11, op := Op.alloc 86, type := 0, pos := "cert.go:48", after := #[], guard := none }) rfl (fun K hK => ?_) AllReadyH.nil
      go_simp
      refine hK.out _ _ (by repeat (first | (with_reducible exact Upd.refl _ _) | (with_reducible exact hHeld) | (with_reducible apply Upd.drew) | (with_reducible refine Upd.grE ?_ _) | (with_reducible refine Upd.alloc ?_ _))) (fun hHeld => ?_)
      clear hK K
      (try simp only [Act.put, List.setIfInBounds_toArray, List.set_cons_zero, List.set_cons_succ])
      refine wpAnyH_ready (rs := [8]) (by kernel_rfl) (by simp) ?_
      refine AllReadyH.cons (o := { dst := none, op := Op.store 86 (Operand.tmp 11) (Operand.tmp 31), type := 0, pos := "cert.go:48", after := #[{ on := 7, ground := Ground.data }, { on := 6, ground := Ground.data }, { on := 0, ground := Ground.phase }, { on := 1, ground := Ground.phase }, { on := 2, ground := Ground.phase }, { on := 3, ground := Ground.phase }, { on := 4, ground := Ground.phase }, { on := 5, ground := Ground.phase }, { on := 6, ground := Ground.phase }, { on := 7, ground := Ground.phase }], guard := none }) rfl (fun K hK => ?_) AllReadyH.nil
      rw [if_pos (by rfl)]
      refine wp_store_row 86 _ _ rfl w'.heap.size #[.int .i64 z0, .int .i64 z1, .int .i64 z2, .int .i64 z3, .int .u32 z4, .int .u32 z5, .int .u32 z6, .int .u32 z7, .int .u32 z8, .int .i64 z9, .int .u32 z10, .int .u32 z11, .int .u32 z12, .int .u32 z13, .bool zd, .int .i64 z15, .int .i64 z16] rfl rfl 86 _ (heap_alloc_new w'.drew _) (info_op17 _ _ _ _ _ _ _ _ _ _ _ _ _ _ _ _ _) rfl (op_one _ _ _ _ _ _ _ _ _ _ _ _ _ _ _ _ _) ?_
      rw [drew_setRow]
      refine hK.out _ _ (by repeat (first | (with_reducible exact Upd.refl _ _) | (with_reducible exact hHeld) | (with_reducible apply Upd.drew) | (with_reducible refine Upd.grE ?_ _) | (with_reducible refine Upd.alloc ?_ _))) (fun hHeld => ?_)
      clear hK K
      (try simp only [Act.put, List.setIfInBounds_toArray, List.set_cons_zero, List.set_cons_succ])
      refine wpAnyH_done (by kernel_rfl) ?_ _
      clear R0 R1 R2 R3
      go_step
      go_step
      refine check_rest (w' := w'.drew) bc lc oc ga m n sc sa s rs res _ _ _ _ _ _ _ _ _ _ _ _ _ _ _ _ _ _ _ _ _ _ _ _ _ _ _ _ _ _ _ _ _ _ _ _ _ _ _ _ _ _ _ _ _ _ _ _ _ _ _ _ _ _ _ _ _ _ _ _ _ _ _ _ _ _ _ _ _ _ _ _ HNM.out HBL.out HBO.out HGA.out HLG.out HU.out.drew HL.out.2.2.1 HRES.out (fun w1 h => HLATE.out w1 (drew_upd h)) (fun w1 h => HA.out w1 (drew_upd h)) (fun w1 h => HD.out w1 (drew_upd h)) HR.out HSR.out ?_ ?_
      · intro a w1 h1 h2 h3 h4
        simp (config := { zetaDelta := true }) only [Exit.then, Exit.jump]
        refine bodyPost_ret (fn := Try.f33) (results_tmp2 rfl _ _ _) h1 ?_
        rw [h2, h3]
        exact ⟨rfl, h4⟩
      · intro a w1 h
        exact ⟨rfl, n, by omega, h⟩
    · obtain rfl : n = 0 := by omega
      have hmm : m = order.length := by omega
      have hd : decide ((m : Int) < (order.length : Int)) = false := by simp; omega
      have HGO := Lib.hid (hgo.symm.trans (show checkGo l order 0 m s = (0, 0) from rfl))
      clear hnm hbl hbo hga hs hrs hsl hrow hgo hu
      go_wp2
      simp only [Exit.jump]
      go_ret2
      refine ⟨?_, HU.out⟩
      rw [HRES.out, HGO.out]
      rfl
  · intro HP
    go_wp2_with (first
      | (go_at_call 34; (with_reducible refine (HWH.out _ (by repeat (first | (with_reducible exact Upd.refl _ _) | (with_reducible refine Upd.alloc ?_ _)))).mono ?_); rintro e w2 ⟨rfl, hu2⟩; obtain ⟨p2, rfl⟩ := hu2.grown; clear hu2)
      | (go_at_call 8; (with_reducible refine (HST.out _ (by repeat (first | (with_reducible exact Upd.refl _ _) | (with_reducible refine Upd.grE ?_ _) | (with_reducible refine Upd.alloc ?_ _)))).mono ?_); rintro e w2 ⟨hu2, sa, sc, rfl, hs2⟩; obtain ⟨p3, rfl⟩ := hu2.grown; have HS2 := Lib.hid hs2; clear hu2 hs2))
    go_step3
    go_step
    go_step
    refine HP.out order.length _ _ ⟨_, 0, _, _, _, _, _, _, _, _, _, _, _, _, _, _, _, _, _, _, _, _, _, _, _, _, _, _, _, _, _, _, _, _, _, _, _, _, _, _, _, _, _, _, _, _, _, _, _, _, _, _, _, _, _, _, _, _, _, _, rfl, ⟨rfl, ?_, ?_, ?_, ?_, ?_, ?_⟩⟩
    · repeat (first | ((with_reducible refine heap_alloc_at _ ?_); (first | (simp; done) | (simp; omega))) | (with_reducible apply heap_grE) | (with_reducible apply heap_alloc'))
    · repeat (first | ((with_reducible refine heap_alloc_at _ ?_); (first | (simp; done) | (simp; omega))) | (with_reducible apply heap_grE) | (with_reducible apply heap_alloc'))
    · rw [show ((0 : Nat) : Int) = 0 from rfl]
      repeat (first | ((with_reducible refine heap_alloc_at _ ?_); (first | (simp; done) | (simp; omega))) | (with_reducible apply heap_grE) | (with_reducible apply heap_alloc'))
    · simp; try omega
    · repeat (first | (with_reducible exact Upd.refl _ _) | (with_reducible refine Upd.grE ?_ _) | (with_reducible refine Upd.alloc ?_ _))
    · refine ⟨_, objs.map itemP, (by have hs := HS2.out; (try simp only [gr_gr] at hs); exact hs.upd ((Upd.refl _ _).alloc _)), by simp [IL.new, Function.comp_def], by simp, by simp, ?_, rfl⟩
      intro x hx
      obtain ⟨o, _, rfl⟩ := List.mem_map.1 hx
      simp [itemP]
end
end Go.Proofs.Ytdbgnnkbcebpcaa
