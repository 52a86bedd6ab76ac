/- Package post: a hand that is done on a memory and a gate. -/
import Derived.Test.YtbjeojcnofpgfaaPost5
import Derived.Test.YtbjeojcnofpgfaaRou
import Derived.Test.YtbjeojcnofpgfaaRing15
set_option linter.unusedVariables false
set_option linter.unusedSimpArgs false
namespace Go.Proofs.Ytbjeojcnofpgfaa
open Go.RowKit

def ActIs (cap ov : Int) (s : HdS) (o : Int) (a : Nat) (x : Int) : Prop := ∀ w b, HD cap ov w b s → Calls Try.prog 30 #[.pointer (some ⟨b, 0, none⟩)] w fun e w' => e = .returned (.tuple #[.agg #[.int .i64 o, .int .i64 a, .int .u32 x], .bool true]) ∧ Upd [] w w'
def TakeIs (cap ov : Int) (s : HdS) (g : Int) (s1 : HdS) : Prop := ∀ w b, HD cap ov w b s → Calls Try.prog 29 #[.pointer (some ⟨b, 0, none⟩), .int .u32 g] w fun e w' => e = .returned (.tuple #[]) ∧ HD cap ov w' b s1 ∧ Upd [b] w w'
/-- What a hand does alone, act by act. -/
inductive RunH (cap ov : Int) : HdS → List Int → Int → Nat → HdS → List Int → Int → Prop
  | done (s : HdS) (xs : List Int) (bt : Int) : s.on = false → RunH cap ov s xs bt 0 s xs bt
  | load (s : HdS) (xs : List Int) (bt : Int) (a : Nat) (g : Int) (s1 : HdS) (k : Nat) (s' : HdS) (xs' : List Int) (bt' : Int) : ActIs cap ov s 1 a 0 → xs[a]? = some g → TakeIs cap ov s g s1 → RunH cap ov s1 xs bt k s' xs' bt' → RunH cap ov s xs bt (k + 1) s' xs' bt'
  | store (s : HdS) (xs : List Int) (bt : Int) (a : Nat) (x : Int) (s1 : HdS) (k : Nat) (s' : HdS) (xs' : List Int) (bt' : Int) : ActIs cap ov s 2 a x → a < xs.length → TakeIs cap ov s 0 s1 → RunH cap ov s1 (xs.set a x) bt k s' xs' bt' → RunH cap ov s xs bt (k + 1) s' xs' bt'
  | raise (s : HdS) (xs : List Int) (s1 : HdS) (k : Nat) (s' : HdS) (xs' : List Int) (bt' : Int) : ActIs cap ov s 6 0 0 → TakeIs cap ov s 0 s1 → RunH cap ov s1 xs 1 k s' xs' bt' → RunH cap ov s xs 0 (k + 1) s' xs' bt'

structure HW (cap ov : Int) (W wr : World) (b g q p c : Nat) (s : HdS) (xs : List Int) (bt : Int) : Prop where
  hand : HD cap ov wr p s
  mem : MemX wr b g c xs
  gate : GA wr q bt bt
  upd : Upd [b, g, q, p] W wr
  res : ResBlk wr W.heap.size

set_option maxRecDepth 100000 in
set_option maxHeartbeats 4000000 in
theorem done_any {cap ov : Int} {W : World} {b g q p c K : Nat} {s0 s' : HdS} {xs0 xs' : List Int} {bt0 bt' : Int} (hm : MemX W b g c xs0) (hq : GA W q bt0 bt0) (hs : HD cap ov W p s0)
    (hne : b ≠ p ∧ g ≠ p ∧ q ≠ p ∧ q ≠ b ∧ q ≠ g) (hc : c + K < 10000) (hK : K < 20) (hrun : RunH cap ov s0 xs0 bt0 K s' xs' bt') :
    Calls Try.prog 89 #[.pointer (some ⟨b, 0, none⟩), .pointer (some ⟨q, 0, none⟩), .pointer (some ⟨p, 0, none⟩)] W fun e w' => e = .returned (.tuple #[.agg #[.int .i64 s'.f, .int .u32 s'.r0, .int .u32 0, .int .u32 0, .int .u32 0], .int .i64 K, .bool true]) ∧ MemX w' b g (c + K) xs' ∧ GA w' q bt' bt' ∧ Upd [b, g, q, p] W w' := by
  have hlt : b < W.heap.size ∧ g < W.heap.size ∧ q < W.heap.size ∧ p < W.heap.size := ⟨hm.lt.1, hm.lt.2, heap_lt hq.h, heap_lt hs.h⟩
  have HLT := Lib.hid hlt
  have HNE := Lib.hid hne
  have u0 : Upd [] W (W.alloc (.cells #[.int .i64 0, .int .u32 0, .int .u32 0, .int .u32 0, .int .u32 0] 39)) := (Upd.refl _ _).alloc _
  have HST := Lib.hid (show HW cap ov W (W.alloc (.cells #[.int .i64 0, .int .u32 0, .int .u32 0, .int .u32 0, .int .u32 0] 39)) b g q p c s0 xs0 bt0 from ⟨hs.keep u0 (by simp), hm.keep u0 (by simp) (by simp), hq.keep u0 (by simp), u0.mono (by simp), heap_alloc_new _ _⟩)
  have HRUN := Lib.hid hrun
  have HC := Lib.hid hc
  have HK := Lib.hid hK
  clear hm hq hs hlt hne hc hK hrun u0
  go_enter Try.func89, Try.ntmps89
  go_wp2
  go_loopg [9] K (fun n i wr => ∃ j : Nat, n + j = K ∧ i = .int .i64 j ∧ ∃ s xs bt, HW cap ov W wr b g q p (c + j) s xs bt ∧ RunH cap ov s xs bt n s' xs' bt')
  case atStart => exact ⟨0, rfl, rfl, s0, xs0, bt0, HST.out, HRUN.out⟩
  case round =>
    obtain ⟨j, hj, rfl, s, xs, bt, hw, hru⟩ := hrel
    have b1 : decide ((j : Int) < 20) = true := by have := HK.out; simp; omega
    have HWH := Lib.hid hw
    have HJ := Lib.hid hj
    have hcj : c + j < 100000 := by have := HC.out; have := HK.out; omega
    have HCJ := Lib.hid hcj
    have HLTR := Lib.hid (show b < wr.heap.size ∧ g < wr.heap.size ∧ q < wr.heap.size ∧ p < wr.heap.size from ⟨hw.mem.lt.1, hw.mem.lt.2, heap_lt hw.gate.h, heap_lt hw.hand.h⟩)
    clear hw hj hcj
    cases hru with
    | done _ _ _ hon =>
      have HON := Lib.hid hon
      obtain rfl : j = K := by have := HJ.out; omega
      clear hon
      go_wp2_with (first
        | (go_at_call 30; refine (hand_act_done HWH.out.hand HON.out).mono ?_; rintro e w1 ⟨rfl, hu1⟩; have HU1 := Lib.hid (hu1.alloc (.cells #[.int .i64 0, .int .i64 0, .int .u32 0] 80)); clear hu1)
        | (go_at_call 31; refine (hand_result (HWH.out.hand.keep HU1.out (by simp)) HON.out).mono ?_; rintro e w2 ⟨rfl, hu2⟩; have HU2 := Lib.hid hu2; have hb2 := hu2.keepb (HU1.out.keepb HWH.out.res (by simp)) (by simp); have HB2 := Lib.hid hb2; have lb2 := heap_lt hb2; have zf := fun j => frozen_of_heap hb2 j; have z0 := cell_of_heap hb2 0; have z1 := cell_of_heap hb2 1; have z2 := cell_of_heap hb2 2; have z3 := cell_of_heap hb2 3; have z4 := cell_of_heap hb2 4; simp at z0 z1 z2 z3 z4; clear hb2 hu2))
      refine ret_result2 rfl (g := W.heap.size) (t := 39) (fr := (0, 0)) (x0 := .int .i64 s'.f) (x1 := .int .u32 s'.r0) (x2 := .int .u32 0) (x3 := .int .u32 0) (x4 := .int .u32 0) rfl rfl rfl rfl (hg := ?hg) ?_
      case hg =>
        with_reducible apply heap_alloc'
        repeat (with_reducible apply heap_set2)
        · exact HB2.out
        all_goals rfl
      suffices hsuf : ∀ wf, Upd [W.heap.size] w2 wf → MemX wf b g (c + j) xs' ∧ GA wf q bt' bt' ∧ Upd [b, g, q, p] W wf from
        ⟨rfl, hsuf _ (by
          refine Upd.alloc ?_ _
          repeat (with_reducible refine Upd.setCell ?_ (by simp) _)
          exact Upd.refl _ _)⟩
      intro wf huf
      have hall : Upd [W.heap.size] wr wf := ((HU1.out.trans HU2.out).mono (by simp)).trans huf
      have h1 := HLT.out
      exact ⟨HWH.out.mem.keep hall (by simp; omega) (by simp; omega), HWH.out.gate.keep hall (by simp; omega), HWH.out.upd.then hall (fun i hi => .inr (by simp at hi; omega))⟩
    | load _ _ _ a g1 s1 k _ _ _ hact hload htake hnext =>
      obtain ⟨hla, hle⟩ := List.getElem?_eq_some_iff.1 hload
      have HACT := Lib.hid hact
      have HDO := Lib.hid (show ∀ (W' : World) (gv : Value), MemX W' b g (c + j) xs → Calls Try.prog 52 #[.pointer (some ⟨b, 0, none⟩), gv, .agg #[.int .i64 1, .int .i64 a, .int .u32 0]] W' (DoPost b g (c + j) W' g1 xs) from fun W' gv hm => by
        have h := do_load_g gv a hm HCJ.out hla
        rw [hle] at h
        exact h)
      have HTAKE := Lib.hid htake
      have HNEXT := Lib.hid hnext
      clear hact hload htake hnext hla hle
      have hne := HNE.out
      go_wp2_with (first
        | (go_at_call 30; refine (HACT.out _ _ HWH.out.hand).mono ?_; rintro e w1 ⟨rfl, hu1⟩; have HU1 := Lib.hid (hu1.alloc (.cells #[.int .i64 1, .int .i64 a, .int .u32 0] 80)); clear hu1)
        | (go_at_call 52; refine (HDO.out _ _ (HWH.out.mem.keep HU1.out (by simp) (by simp))).mono ?_; rintro e w2 ⟨rfl, hm2, hu2⟩; have HM2 := Lib.hid hm2; have HU2 := Lib.hid hu2; clear hm2 hu2)
        | (go_at_call 29; refine (HTAKE.out _ _ ((HWH.out.hand.keep HU1.out (by simp)).keep HU2.out (by simp; omega))).mono ?_; rintro e w3 ⟨rfl, hh3, hu3⟩; have HH3 := Lib.hid hh3; have HU3 := Lib.hid hu3; clear hh3 hu3))
      have hall : Upd [b, g, q, p] wr w3 := ((HU1.out.mono (by simp)).trans (HU2.out.mono (by simp))).trans (HU3.out.mono (by simp))
      have h1 := HLT.out
      have hw : wrap64 ((j : Int) + 1) = ((j + 1 : Nat) : Int) := by have := HK.out; have := HJ.out; unfold wrap64; omega
      go_roundg k
      case rel => exact ⟨j + 1, by have := HJ.out; omega, by rw [hw], _, _, _, ⟨HH3.out, (HM2.out.keep HU3.out (by simp; omega) (by simp; omega)), ((HWH.out.gate.keep HU1.out (by simp)).keep HU2.out (by simp; omega)).keep HU3.out (by simp; omega), HWH.out.upd.trans hall, hall.keepb HWH.out.res (by simp; omega)⟩, HNEXT.out⟩
      case measure => omega
    | store _ _ _ a x s1 k _ _ _ hact hla htake hnext =>
      have HACT := Lib.hid hact
      have HLA := Lib.hid hla
      have HTAKE := Lib.hid htake
      have HNEXT := Lib.hid hnext
      clear hact htake hnext hla
      have hne := HNE.out
      go_wp2_with (first
        | (go_at_call 30; refine (HACT.out _ _ HWH.out.hand).mono ?_; rintro e w1 ⟨rfl, hu1⟩; have HU1 := Lib.hid (hu1.alloc (.cells #[.int .i64 2, .int .i64 a, .int .u32 x] 80)); clear hu1)
        | (go_at_call 52; refine (do_store_g _ a x (HWH.out.mem.keep HU1.out (by simp) (by simp)) HCJ.out HLA.out).mono ?_; rintro e w2 ⟨rfl, hm2, hu2⟩; have HM2 := Lib.hid hm2; have HU2 := Lib.hid hu2; clear hm2 hu2)
        | (go_at_call 29; refine (HTAKE.out _ _ ((HWH.out.hand.keep HU1.out (by simp)).keep HU2.out (by simp; omega))).mono ?_; rintro e w3 ⟨rfl, hh3, hu3⟩; have HH3 := Lib.hid hh3; have HU3 := Lib.hid hu3; clear hh3 hu3))
      have hall : Upd [b, g, q, p] wr w3 := ((HU1.out.mono (by simp)).trans (HU2.out.mono (by simp))).trans (HU3.out.mono (by simp))
      have h1 := HLT.out
      have hw : wrap64 ((j : Int) + 1) = ((j + 1 : Nat) : Int) := by have := HK.out; have := HJ.out; unfold wrap64; omega
      go_roundg k
      case rel => exact ⟨j + 1, by have := HJ.out; omega, by rw [hw], _, _, _, ⟨HH3.out, (HM2.out.keep HU3.out (by simp; omega) (by simp; omega)), ((HWH.out.gate.keep HU1.out (by simp)).keep HU2.out (by simp; omega)).keep HU3.out (by simp; omega), HWH.out.upd.trans hall, hall.keepb HWH.out.res (by simp; omega)⟩, HNEXT.out⟩
      case measure => omega
    | raise _ _ s1 k _ _ _ hact htake hnext =>
      have HACT := Lib.hid hact
      have HTAKE := Lib.hid htake
      have HNEXT := Lib.hid hnext
      clear hact htake hnext
      have hne := HNE.out
      go_wp2_with (first
        | (go_at_call 30; refine (HACT.out _ _ HWH.out.hand).mono ?_; rintro e w1 ⟨rfl, hu1⟩; have HU1 := Lib.hid (hu1.alloc (.cells #[.int .i64 6, .int .i64 0, .int .u32 0] 80)); clear hu1)
        | (go_at_call 52; refine (do_raise _ (HWH.out.gate.keep HU1.out (by simp))).mono ?_; rintro e w2 ⟨rfl, hg2, hu2⟩; have HG2 := Lib.hid hg2; have HU2 := Lib.hid hu2; clear hg2 hu2)
        | (go_at_call 29; refine (HTAKE.out _ _ ((HWH.out.hand.keep HU1.out (by simp)).keep HU2.out (by simp; omega))).mono ?_; rintro e w3 ⟨rfl, hh3, hu3⟩; have HH3 := Lib.hid hh3; have HU3 := Lib.hid hu3; clear hh3 hu3))
      have hall : Upd [b, g, q, p] wr w3 := ((HU1.out.mono (by simp)).trans (HU2.out.mono (by simp))).trans (HU3.out.mono (by simp))
      have h1 := HLT.out
      have hw : wrap64 ((j : Int) + 1) = ((j + 1 : Nat) : Int) := by have := HK.out; have := HJ.out; unfold wrap64; omega
      go_roundg k
      case rel => exact ⟨j + 1, by have := HJ.out; omega, by rw [hw], _, _, _, ⟨HH3.out, (((HWH.out.mem.keep HU1.out (by simp) (by simp)).keep HU2.out (by simp; omega) (by simp; omega)).keep HU3.out (by simp; omega) (by simp; omega)).mono (by omega), HG2.out.keep HU3.out (by simp; omega), HWH.out.upd.trans hall, hall.keepb HWH.out.res (by simp; omega)⟩, HNEXT.out⟩
      case measure => omega
end Go.Proofs.Ytbjeojcnofpgfaa
