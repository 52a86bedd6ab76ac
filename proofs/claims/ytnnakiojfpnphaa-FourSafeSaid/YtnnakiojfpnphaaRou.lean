/- A routine that is done alone on a memory: what any type behind the interface does, by its states. -/
import Derived.Test.YtnnakiojfpnphaaDo
import Derived.Test.YtnnakiojfpnphaaRet
import Derived.Deep.RegionHeld3
set_option linter.unusedVariables false
set_option linter.unusedSimpArgs false
namespace Go.Proofs.Ytnnakiojfpnphaa
open Go.RowKit

/-- An answer, by its cells. -/
structure Ans where
  f : Int
  a : Int
  b : Int
  c : Int
  d : Int
def Ans.v (x : Ans) : Value := .agg #[.int .i64 x.f, .int .u32 x.a, .int .u32 x.b, .int .u32 x.c, .int .u32 x.d]

/-- What a routine of a type does, by its states: its next act, what is taken, its answer; S: its own blocks. -/
structure Rou {σ : Type} (T : TypeId) (v : Value) (S : List Nat) (At : σ → World → Prop) (act : σ → Option (Int × Nat × Int)) (take : σ → Int → σ) (res : σ → Ans) (fA fT fR : Nat) : Prop where
  mA : ∀ w, (method 275 T v "Act").run Try.prog w = .ok (fA, v) w
  mT : ∀ w, (method 275 T v "Take").run Try.prog w = .ok (fT, v) w
  mR : ∀ w, (method 275 T v "Result").run Try.prog w = .ok (fR, v) w
  cA : ∀ args w, (callFunc fA args).run Try.prog w = .ok (.enter fA args) w
  cT : ∀ args w, (callFunc fT args).run Try.prog w = .ok (.enter fT args) w
  cR : ∀ args w, (callFunc fR args).run Try.prog w = .ok (.enter fR args) w
  keep : ∀ s w w' S', At s w → Upd S' w w' → (∀ k, k ∈ S' → k ∉ S) → At s w'
  lt : ∀ s w, At s w → ∀ k, k ∈ S → k < w.heap.size
  more : ∀ s w o a x, At s w → act s = some (o, a, x) → Calls Try.prog fA #[v] w fun e w' => e = .returned (.tuple #[.agg #[.int .i64 o, .int .i64 a, .int .u32 x], .bool true]) ∧ Upd [] w w'
  noAct : ∀ s w, At s w → act s = none → Calls Try.prog fA #[v] w fun e w' => e = .returned (.tuple #[.agg #[.int .i64 0, .int .i64 0, .int .u32 0], .bool false]) ∧ Upd [] w w'
  took : ∀ s w o a x g, At s w → act s = some (o, a, x) → Calls Try.prog fT #[v, .int .u32 g] w fun e w' => e = .returned (.tuple #[]) ∧ At (take s g) w' ∧ Upd S w w'
  ans : ∀ s w, At s w → act s = none → Calls Try.prog fR #[v] w fun e w' => e = .returned (.tuple #[(res s).v, .bool true]) ∧ Upd [] w w'

/-- What is done alone: from a state and words, so many acts, to a state without an act and words. -/
inductive Run {σ : Type} (act : σ → Option (Int × Nat × Int)) (take : σ → Int → σ) : σ → List Int → Nat → σ → List Int → Prop
  | done (s : σ) (xs : List Int) : act s = none → Run act take s xs 0 s xs
  | step (s : σ) (xs : List Int) (o : Int) (a : Nat) (x g : Int) (xs' : List Int) (k : Nat) (s' : σ) (xs'' : List Int) : act s = some (o, a, x) → doC o a x xs = some (g, xs') → Run act take (take s g) xs' k s' xs'' → Run act take s xs (k + 1) s' xs''

def ResBlk (w : World) (q : Nat) : Prop := w.heap[q]? = some (.cells #[.int .i64 0, .int .u32 0, .int .u32 0, .int .u32 0, .int .u32 0] 46 (0, 0))

set_option maxRecDepth 100000 in
set_option maxHeartbeats 2000000 in
theorem alone_any {σ : Type} {T : TypeId} {v : Value} {S : List Nat} {At : σ → World → Prop} {act : σ → Option (Int × Nat × Int)} {take : σ → Int → σ} {res : σ → Ans} {fA fT fR : Nat} (R : Rou T v S At act take res fA fT fR)
    {W : World} {b g c K most : Nat} {s0 s' : σ} {xs0 xs' : List Int} (hm : MemX W b g c xs0) (hs : At s0 W) (hb : b ∉ S) (hg : g ∉ S) (hc : c + K < 100000) (hK : K ≤ most) (hmost : most < 100000) (hrun : Run act take s0 xs0 K s' xs') :
    Calls Try.prog 25 #[.pointer (some ⟨b, 0, none⟩), .iface T v, .int .i64 most] W fun e w' => e = .returned (.tuple #[(res s').v, .int .i64 K, .bool true]) ∧ At s' w' ∧ MemX w' b g (c + K) xs' ∧ Upd (b :: g :: S) W w' := by
  have qA := R.mA
  have qT := R.mT
  have qR := R.mR
  have cA := R.cA
  have cT := R.cT
  have cR := R.cR
  have hlt := R.lt _ _ hs
  have hml := hm.lt
  have HLT := Lib.hid hlt
  have HML := Lib.hid hml
  have HR := Lib.hid R
  have HM := Lib.hid hm
  have HS := Lib.hid hs
  have HRUN := Lib.hid hrun
  have HC := Lib.hid hc
  have HK := Lib.hid hK
  have HMO := Lib.hid hmost
  clear hlt hml hm hs hrun hc hK hmost R
  go_enter Try.func25, Try.ntmps25
  go_wp2
  go_loopg [9] K (fun n i wr => ∃ j : Nat, n + j = K ∧ i = .int .i64 j ∧ ∃ s xs, At s wr ∧ MemX wr b g (c + j) xs ∧ Run act take s xs n s' xs' ∧ Upd (b :: g :: S) W wr ∧ ResBlk wr W.heap.size)
  case atStart => exact ⟨0, rfl, rfl, s0, xs0, HR.out.keep _ _ _ [] HS.out ((Upd.refl _ _).alloc _) (by simp), HM.out.keep (S := []) ((Upd.refl _ _).alloc _) (by simp) (by simp), HRUN.out, (Upd.refl _ _).alloc _, heap_alloc_new _ _⟩
  case round =>
    obtain ⟨j, hj, rfl, s, xs, hat, hmx, hru, hu, hblk⟩ := hrel
    have q2 : j ≤ most := by have := HK.out; omega
    have q1 : decide (j ≤ most) = true := by simp; exact q2
    have HAT := Lib.hid hat
    have HMX := Lib.hid hmx
    have HRU := Lib.hid hru
    have HU := Lib.hid hu
    have HBLK := Lib.hid hblk
    have HJ := Lib.hid hj
    clear hat hmx hru hu hblk hj
    rcases hac : act s with _ | ⟨o, a, x⟩
    · have HAC := Lib.hid hac
      obtain ⟨rfl, rfl, rfl⟩ : gk = 0 ∧ s = s' ∧ xs = xs' := by
        cases HRU.out with
        | done _ _ _ => exact ⟨rfl, rfl, rfl⟩
        | step _ _ _ _ _ _ _ _ _ _ h1 _ _ => rw [hac] at h1; cases h1
      obtain rfl : j = K := by have := HJ.out; omega
      clear hac
      go_wp2_with (first
        | (refine (HR.out.noAct s _ HAT.out HAC.out).mono ?_; rintro e w1 ⟨rfl, hu1⟩; have HU1 := Lib.hid hu1; have HAT1 := Lib.hid (HR.out.keep _ _ _ [] HAT.out (hu1.alloc (.cells #[.int .i64 0, .int .i64 0, .int .u32 0] 41)) (by simp)); have HB1 := Lib.hid (((hu1.alloc (.cells #[.int .i64 0, .int .i64 0, .int .u32 0] 41))).keepb HBLK.out (by simp)); clear hu1)
        | (refine (HR.out.ans s _ HAT1.out HAC.out).mono ?_; rintro e w2 ⟨rfl, hu2⟩; have HU2 := Lib.hid hu2; have hb2 := hu2.keepb HB1.out (by simp); have HB2 := Lib.hid hb2; have lb2 := heap_lt hb2; have zf := fun j => frozen_of_heap hb2 j; have z0 := cell_of_heap hb2 0; have z1 := cell_of_heap hb2 1; have z2 := cell_of_heap hb2 2; have z3 := cell_of_heap hb2 3; have z4 := cell_of_heap hb2 4; simp at z0 z1 z2 z3 z4; clear hb2 hu2 HAT1; unfold Ans.v))
      refine ret_result2 rfl (g := W.heap.size) (t := 46) (fr := (0, 0)) (x0 := .int .i64 (res s).f) (x1 := .int .u32 (res s).a) (x2 := .int .u32 (res s).b) (x3 := .int .u32 (res s).c) (x4 := .int .u32 (res s).d) rfl rfl rfl rfl (hg := ?hg) ?_
      case hg =>
        with_reducible apply heap_alloc'
        repeat (with_reducible apply heap_set2)
        · exact HB2.out
        all_goals rfl
      suffices hsuf : ∀ wf, Upd [W.heap.size] w2 wf → At s wf ∧ MemX wf b g (c + j) xs ∧ Upd (b :: g :: S) W wf from
        ⟨rfl, hsuf _ (by
          refine Upd.alloc ?_ _
          repeat (with_reducible refine Upd.setCell ?_ (by simp) _)
          exact Upd.refl _ _)⟩
      intro wf huf
      have hall : Upd [W.heap.size] wr wf := ((((HU1.out.alloc _).trans HU2.out)).mono (by simp)).trans huf
      have hb1 := HML.out.1
      have hg1 := HML.out.2
      refine ⟨HR.out.keep _ _ _ _ HAT.out hall (fun k hk hk' => ?_), HMX.out.keep hall (by simp; omega) (by simp; omega), HU.out.then hall (fun i hi => .inr (by simp at hi; omega))⟩
      have := HLT.out k hk'
      simp at hk
      omega
    · obtain ⟨k, g1, xs1, rfl, hd, hnext⟩ : ∃ k g1 xs1, gk = k + 1 ∧ doC o a x xs = some (g1, xs1) ∧ Run act take (take s g1) xs1 k s' xs' := by
        cases HRU.out with
        | done _ _ h1 => rw [hac] at h1; cases h1
        | step _ _ o1 a1 x1 g1 xs1 k _ _ h1 h2 h3 =>
          rw [hac] at h1
          cases h1
          exact ⟨k, g1, xs1, rfl, h2, h3⟩
      have HAC := Lib.hid hac
      have HD := Lib.hid hd
      have HN := Lib.hid hnext
      clear hac hd hnext
      have hb1 := HML.out.1
      have hg1 := HML.out.2
      have HBN := Lib.hid hb
      have HGN := Lib.hid hg
      have hcj : c + j < 100000 := by have := HC.out; have := HJ.out; omega
      have HCJ := Lib.hid hcj
      clear hcj
      go_wp2_with (first
        | (refine (HR.out.more s _ o a x HAT.out HAC.out).mono ?_; rintro e w1 ⟨rfl, hu1⟩; have HU1 := Lib.hid (hu1.alloc (.cells #[.int .i64 o, .int .i64 a, .int .u32 x] 41)); clear hu1)
        | (go_at_call 13; refine (do_any o a x g1 xs1 (HMX.out.keep HU1.out (by simp) (by simp)) HCJ.out HD.out).mono ?_; rintro e w2 ⟨rfl, hm2, hu2⟩; have HM2 := Lib.hid hm2; have HU2 := Lib.hid hu2; clear hm2 hu2)
        | (refine (HR.out.took s _ o a x g1 (HR.out.keep _ _ _ _ HAT.out ((HU1.out.mono (by simp)).trans HU2.out) (by simp; exact ⟨HBN.out, HGN.out⟩)) HAC.out).mono ?_; rintro e w3 ⟨rfl, hat3, hu3⟩; have HAT3 := Lib.hid hat3; have HU3 := Lib.hid hu3; clear hat3 hu3))
      have hall : Upd (b :: g :: S) wr w3 := ((HU1.out.mono (by simp)).trans (HU2.out.mono (by simp))).trans (HU3.out.mono (by simp; intro k hk _; simp [hk]))
      have hj1 : j + 1 ≤ 100000 := by have := HMO.out; omega
      have hw : wrap64 ((j : Int) + 1) = ((j + 1 : Nat) : Int) := by unfold wrap64; omega
      go_roundg k
      case rel =>
        refine ⟨j + 1, by have := HJ.out; omega, by rw [hw], _, _, HAT3.out, (HM2.out.keep HU3.out HBN.out HGN.out), HN.out, HU.out.trans hall, hall.keepb HBLK.out (by simp; have := HLT.out; exact ⟨by omega, by omega, fun h => by have := this _ h; omega⟩)⟩
      case measure => omega
end Go.Proofs.Ytnnakiojfpnphaa
