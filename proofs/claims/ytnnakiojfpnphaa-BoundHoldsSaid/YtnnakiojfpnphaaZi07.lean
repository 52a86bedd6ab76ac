/- The walk, part 7: Rou Site Site2 SiteG Site3 Flags. -/
import Derived.Test.YtnnakiojfpnphaaZi04
import Derived.Deep.RegionHeld3
import Derived.Test.YtnnakiojfpnphaaZi01
set_option linter.unusedVariables false
set_option linter.unusedSimpArgs false

namespace Go.Proofs.Ytnnakiojfpnphaa
open Go.RowKit

/-- An answer, by its cells. -/
structure Ans where
  f : Int
  a : Int
  b : Int
  c : Int
  d : Int
def Ans.v (x : Ans) : Value := .agg #[.int .i64 x.f, .int .u32 x.a, .int .u32 x.b, .int .u32 x.c, .int .u32 x.d]

/-- What a routine of a type does, by its states: its next act, what is taken, its answer; S: its own blocks. -/
structure Rou {σ : Type} (T : TypeId) (v : Value) (S : List Nat) (At : σ → World → Prop) (act : σ → Option (Int × Nat × Int)) (take : σ → Int → σ) (res : σ → Ans) (fA fT fR : Nat) : Prop where
  mA : ∀ w, (method 275 T v "Act").run Try.prog w = .ok (fA, v) w
  mT : ∀ w, (method 275 T v "Take").run Try.prog w = .ok (fT, v) w
  mR : ∀ w, (method 275 T v "Result").run Try.prog w = .ok (fR, v) w
  cA : ∀ args w, (callFunc fA args).run Try.prog w = .ok (.enter fA args) w
  cT : ∀ args w, (callFunc fT args).run Try.prog w = .ok (.enter fT args) w
  cR : ∀ args w, (callFunc fR args).run Try.prog w = .ok (.enter fR args) w
  keep : ∀ s w w' S', At s w → Upd S' w w' → (∀ k, k ∈ S' → k ∉ S) → At s w'
  lt : ∀ s w, At s w → ∀ k, k ∈ S → k < w.heap.size
  more : ∀ s w o a x, At s w → act s = some (o, a, x) → Calls Try.prog fA #[v] w fun e w' => e = .returned (.tuple #[.agg #[.int .i64 o, .int .i64 a, .int .u32 x], .bool true]) ∧ Upd [] w w'
  noAct : ∀ s w, At s w → act s = none → Calls Try.prog fA #[v] w fun e w' => e = .returned (.tuple #[.agg #[.int .i64 0, .int .i64 0, .int .u32 0], .bool false]) ∧ Upd [] w w'
  took : ∀ s w o a x g, At s w → act s = some (o, a, x) → Calls Try.prog fT #[v, .int .u32 g] w fun e w' => e = .returned (.tuple #[]) ∧ At (take s g) w' ∧ Upd S w w'
  ans : ∀ s w, At s w → act s = none → Calls Try.prog fR #[v] w fun e w' => e = .returned (.tuple #[(res s).v, .bool true]) ∧ Upd [] w w'

/-- What is done alone: from a state and words, so many acts, to a state without an act and words. -/
inductive Run {σ : Type} (act : σ → Option (Int × Nat × Int)) (take : σ → Int → σ) : σ → List Int → Nat → σ → List Int → Prop
  | done (s : σ) (xs : List Int) : act s = none → Run act take s xs 0 s xs
  | step (s : σ) (xs : List Int) (o : Int) (a : Nat) (x g : Int) (xs' : List Int) (k : Nat) (s' : σ) (xs'' : List Int) : act s = some (o, a, x) → doC o a x xs = some (g, xs') → Run act take (take s g) xs' k s' xs'' → Run act take s xs (k + 1) s' xs''

def ResBlk (w : World) (q : Nat) : Prop := w.heap[q]? = some (.cells #[.int .i64 0, .int .u32 0, .int .u32 0, .int .u32 0, .int .u32 0] 46 (0, 0))

set_option maxRecDepth 100000 in
set_option maxHeartbeats 2000000 in
theorem alone_any {σ : Type} {T : TypeId} {v : Value} {S : List Nat} {At : σ → World → Prop} {act : σ → Option (Int × Nat × Int)} {take : σ → Int → σ} {res : σ → Ans} {fA fT fR : Nat} (R : Rou T v S At act take res fA fT fR)
    {W : World} {b g c K most : Nat} {s0 s' : σ} {xs0 xs' : List Int} (hm : MemX W b g c xs0) (hs : At s0 W) (hb : b ∉ S) (hg : g ∉ S) (hc : c + K < 100000) (hK : K ≤ most) (hmost : most < 100000) (hrun : Run act take s0 xs0 K s' xs') :
    Calls Try.prog 25 #[.pointer (some ⟨b, 0, none⟩), .iface T v, .int .i64 most] W fun e w' => e = .returned (.tuple #[(res s').v, .int .i64 K, .bool true]) ∧ At s' w' ∧ MemX w' b g (c + K) xs' ∧ Upd (b :: g :: S) W w' := by
  have qA := R.mA
  have qT := R.mT
  have qR := R.mR
  have cA := R.cA
  have cT := R.cT
  have cR := R.cR
  have hlt := R.lt _ _ hs
  have hml := hm.lt
  have HLT := Lib.hid hlt
  have HML := Lib.hid hml
  have HR := Lib.hid R
  have HM := Lib.hid hm
  have HS := Lib.hid hs
  have HRUN := Lib.hid hrun
  have HC := Lib.hid hc
  have HK := Lib.hid hK
  have HMO := Lib.hid hmost
  clear hlt hml hm hs hrun hc hK hmost R
  go_enter Try.func25, Try.ntmps25
  go_wp2
  go_loopg [9] K (fun n i wr => ∃ j : Nat, n + j = K ∧ i = .int .i64 j ∧ ∃ s xs, At s wr ∧ MemX wr b g (c + j) xs ∧ Run act take s xs n s' xs' ∧ Upd (b :: g :: S) W wr ∧ ResBlk wr W.heap.size)
  case atStart => exact ⟨0, rfl, rfl, s0, xs0, HR.out.keep _ _ _ [] HS.out ((Upd.refl _ _).alloc _) (by simp), HM.out.keep (S := []) ((Upd.refl _ _).alloc _) (by simp) (by simp), HRUN.out, (Upd.refl _ _).alloc _, heap_alloc_new _ _⟩
  case round =>
    obtain ⟨j, hj, rfl, s, xs, hat, hmx, hru, hu, hblk⟩ := hrel
    have q2 : j ≤ most := by have := HK.out; omega
    have q1 : decide (j ≤ most) = true := by simp; exact q2
    have HAT := Lib.hid hat
    have HMX := Lib.hid hmx
    have HRU := Lib.hid hru
    have HU := Lib.hid hu
    have HBLK := Lib.hid hblk
    have HJ := Lib.hid hj
    clear hat hmx hru hu hblk hj
    rcases hac : act s with _ | ⟨o, a, x⟩
    · have HAC := Lib.hid hac
      obtain ⟨rfl, rfl, rfl⟩ : gk = 0 ∧ s = s' ∧ xs = xs' := by
        cases HRU.out with
        | done _ _ _ => exact ⟨rfl, rfl, rfl⟩
        | step _ _ _ _ _ _ _ _ _ _ h1 _ _ => rw [hac] at h1; cases h1
      obtain rfl : j = K := by have := HJ.out; omega
      clear hac
      go_wp2_with (first
        | (refine (HR.out.noAct s _ HAT.out HAC.out).mono ?_; rintro e w1 ⟨rfl, hu1⟩; have HU1 := Lib.hid hu1; have HAT1 := Lib.hid (HR.out.keep _ _ _ [] HAT.out (hu1.alloc (.cells #[.int .i64 0, .int .i64 0, .int .u32 0] 41)) (by simp)); have HB1 := Lib.hid (((hu1.alloc (.cells #[.int .i64 0, .int .i64 0, .int .u32 0] 41))).keepb HBLK.out (by simp)); clear hu1)
        | (refine (HR.out.ans s _ HAT1.out HAC.out).mono ?_; rintro e w2 ⟨rfl, hu2⟩; have HU2 := Lib.hid hu2; have hb2 := hu2.keepb HB1.out (by simp); have HB2 := Lib.hid hb2; have lb2 := heap_lt hb2; have zf := fun j => frozen_of_heap hb2 j; have z0 := cell_of_heap hb2 0; have z1 := cell_of_heap hb2 1; have z2 := cell_of_heap hb2 2; have z3 := cell_of_heap hb2 3; have z4 := cell_of_heap hb2 4; simp at z0 z1 z2 z3 z4; clear hb2 hu2 HAT1; unfold Ans.v))
      refine ret_result2 rfl (g := W.heap.size) (t := 46) (fr := (0, 0)) (x0 := .int .i64 (res s).f) (x1 := .int .u32 (res s).a) (x2 := .int .u32 (res s).b) (x3 := .int .u32 (res s).c) (x4 := .int .u32 (res s).d) rfl rfl rfl rfl (hg := ?hg) ?_
      case hg =>
        with_reducible apply heap_alloc'
        repeat (with_reducible apply heap_set2)
        · exact HB2.out
        all_goals rfl
      suffices hsuf : ∀ wf, Upd [W.heap.size] w2 wf → At s wf ∧ MemX wf b g (c + j) xs ∧ Upd (b :: g :: S) W wf from
        ⟨rfl, hsuf _ (by
          refine Upd.alloc ?_ _
          repeat (with_reducible refine Upd.setCell ?_ (by simp) _)
          exact Upd.refl _ _)⟩
      intro wf huf
      have hall : Upd [W.heap.size] wr wf := ((((HU1.out.alloc _).trans HU2.out)).mono (by simp)).trans huf
      have hb1 := HML.out.1
      have hg1 := HML.out.2
      refine ⟨HR.out.keep _ _ _ _ HAT.out hall (fun k hk hk' => ?_), HMX.out.keep hall (by simp; omega) (by simp; omega), HU.out.then hall (fun i hi => .inr (by simp at hi; omega))⟩
      have := HLT.out k hk'
      simp at hk
      omega
    · obtain ⟨k, g1, xs1, rfl, hd, hnext⟩ : ∃ k g1 xs1, gk = k + 1 ∧ doC o a x xs = some (g1, xs1) ∧ Run act take (take s g1) xs1 k s' xs' := by
        cases HRU.out with
        | done _ _ h1 => rw [hac] at h1; cases h1
        | step _ _ o1 a1 x1 g1 xs1 k _ _ h1 h2 h3 =>
          rw [hac] at h1
          cases h1
          exact ⟨k, g1, xs1, rfl, h2, h3⟩
      have HAC := Lib.hid hac
      have HD := Lib.hid hd
      have HN := Lib.hid hnext
      clear hac hd hnext
      have hb1 := HML.out.1
      have hg1 := HML.out.2
      have HBN := Lib.hid hb
      have HGN := Lib.hid hg
      have hcj : c + j < 100000 := by have := HC.out; have := HJ.out; omega
      have HCJ := Lib.hid hcj
      clear hcj
      go_wp2_with (first
        | (refine (HR.out.more s _ o a x HAT.out HAC.out).mono ?_; rintro e w1 ⟨rfl, hu1⟩; have HU1 := Lib.hid (hu1.alloc (.cells #[.int .i64 o, .int .i64 a, .int .u32 x] 41)); clear hu1)
        | (go_at_call 13; refine (do_any o a x g1 xs1 (HMX.out.keep HU1.out (by simp) (by simp)) HCJ.out HD.out).mono ?_; rintro e w2 ⟨rfl, hm2, hu2⟩; have HM2 := Lib.hid hm2; have HU2 := Lib.hid hu2; clear hm2 hu2)
        | (refine (HR.out.took s _ o a x g1 (HR.out.keep _ _ _ _ HAT.out ((HU1.out.mono (by simp)).trans HU2.out) (by simp; exact ⟨HBN.out, HGN.out⟩)) HAC.out).mono ?_; rintro e w3 ⟨rfl, hat3, hu3⟩; have HAT3 := Lib.hid hat3; have HU3 := Lib.hid hu3; clear hat3 hu3))
      have hall : Upd (b :: g :: S) wr w3 := ((HU1.out.mono (by simp)).trans (HU2.out.mono (by simp))).trans (HU3.out.mono (by simp; intro k hk _; simp [hk]))
      have hj1 : j + 1 ≤ 100000 := by have := HMO.out; omega
      have hw : wrap64 ((j : Int) + 1) = ((j + 1 : Nat) : Int) := by unfold wrap64; omega
      go_roundg k
      case rel =>
        refine ⟨j + 1, by have := HJ.out; omega, by rw [hw], _, _, HAT3.out, (HM2.out.keep HU3.out HBN.out HGN.out), HN.out, HU.out.trans hall, hall.keepb HBLK.out (by simp; have := HLT.out; exact ⟨by omega, by omega, fun h => by have := this _ h; omega⟩)⟩
      case measure => omega
end Go.Proofs.Ytnnakiojfpnphaa
namespace Go.Proofs.Ytnnakiojfpnphaa
open Go.RowKit

set_option maxRecDepth 100000 in
set_option maxHeartbeats 400000 in
theorem within_any (n a b : Int) (w : World) : Calls Try.prog 43 #[.int .i64 n, .int .i64 a, .int .i64 b] w fun e w' => e = .returned (.bool (decide (a ≤ n) && decide (n ≤ b))) ∧ w = w' := by
  by_cases h : a ≤ n
  · have h1 : decide (a ≤ n) = true := by simpa using h
    go_enter Try.func43, Try.ntmps43
    go_wp2
    go_ret
    exact ⟨by simp [h], rfl⟩
  · have h1 : decide (a ≤ n) = false := by simpa using h
    go_enter Try.func43, Try.ntmps43
    go_wp2
    go_ret
    exact ⟨by simp [h], rfl⟩

/-- An object of api.Object, by its cells. -/
def objV (kind cap width retry from' to' i0 i1 i2 i3 : Int) : Value := .agg #[.int .i64 kind, .int .i64 cap, .int .i64 width, .int .i64 retry, .int .i64 from', .int .i64 to', .int .u32 i0, .int .u32 i1, .int .u32 i2, .int .u32 i3]

set_option maxRecDepth 100000 in
set_option maxHeartbeats 1000000 in
theorem right_flags (f t i0 i1 i2 i3 : Int) (w : World) : Calls Try.prog 19 #[objV 4 0 0 0 f t i0 i1 i2 i3] w fun e w' => e = .returned (.bool true) ∧ Upd [] w w' := by
  unfold objV
  go_enter Try.func19, Try.ntmps19
  go_wp2_with (go_at_call 43; refine (within_any _ _ _ _).mono ?_; rintro e w1 ⟨rfl, rfl⟩)
  go_ret
  exact ⟨rfl, (Upd.refl _ _).alloc _⟩

set_option maxRecDepth 100000 in
set_option maxHeartbeats 400000 in
theorem ahead_flags (w : World) : Calls Try.prog 63 #[.int .i64 4] w fun e w' => e = .returned (.int .i64 1) ∧ w = w' := by
  go_enter Try.func63, Try.ntmps63
  go_wp2
  go_ret
  exact ⟨rfl, rfl⟩
set_option maxRecDepth 100000 in
set_option maxHeartbeats 400000 in
theorem rooms_flags (n : Int) (w : World) : Calls Try.prog 64 #[.int .i64 4, .int .i64 n] w fun e w' => e = .returned (.int .i64 0) ∧ w = w' := by
  go_enter Try.func64, Try.ntmps64
  go_wp2
  go_ret
  exact ⟨rfl, rfl⟩

set_option maxRecDepth 100000 in
set_option maxHeartbeats 1000000 in
theorem size_flags (f t i0 i1 i2 i3 : Int) (w : World) : Calls Try.prog 48 #[objV 4 0 0 0 f t i0 i1 i2 i3] w fun e w' => e = .returned (.int .i64 1) ∧ Upd [] w w' := by
  have HR := Lib.hid fun w => right_flags f t i0 i1 i2 i3 w
  unfold objV at *
  go_enter Try.func48, Try.ntmps48
  go_wp2_with (first
    | (go_at_call 19; refine (HR.out _).mono ?_; rintro e w1 ⟨rfl, hu1⟩)
    | (go_at_call 63; refine (ahead_flags _).mono ?_; rintro e w2 ⟨rfl, rfl⟩)
    | (go_at_call 64; refine (rooms_flags _ _).mono ?_; rintro e w2 ⟨rfl, rfl⟩))
  have HX := Lib.hid (hu1.keepb (heap_alloc_new _ _) (by simp))
  have c0 : w1.cell? ⟨w.heap.size, 0, none⟩ = some (.int .i64 4) := by rw [cell_of_heap HX.out]; rfl
  have c1 : w1.cell? ⟨w.heap.size, 1, none⟩ = some (.int .i64 0) := by rw [cell_of_heap HX.out]; rfl
  have c2 : w1.cell? ⟨w.heap.size, 2, none⟩ = some (.int .i64 0) := by rw [cell_of_heap HX.out]; rfl
  go_region_held3 (fun w' => w'.cell? ⟨w.heap.size, 0, none⟩ = some (.int .i64 4) ∧ w'.cell? ⟨w.heap.size, 1, none⟩ = some (.int .i64 0) ∧ w'.cell? ⟨w.heap.size, 2, none⟩ = some (.int .i64 0))
    (first | exact ⟨c0, c1, c2⟩ | (go_keep; done))
    (first
      | (go_at_call 63; refine (ahead_flags _).mono ?_; rintro e w2 ⟨rfl, rfl⟩)
      | (go_at_call 64; refine (rooms_flags _ _).mono ?_; rintro e w2 ⟨rfl, rfl⟩))
  all_goals
    go_wp2
    go_ret
    first | exact ⟨rfl, ((Upd.refl _ _).alloc _).trans hu1⟩ | exact ⟨rfl, (((Upd.refl _ _).alloc _).trans hu1).drew⟩ | exact ⟨rfl, (((Upd.refl _ _).alloc _).trans hu1).drewN _⟩

set_option maxRecDepth 100000 in
set_option maxHeartbeats 2000000 in
theorem take_flags (f t i0 i1 i2 i3 : Int) (nb : Nat) (n : Int) (hn0 : 0 ≤ n) (hn : n < 1000000) (w : World) {ty : TypeId} (hb : w.heap[nb]? = some (.cells #[.int .i64 n] ty (0, 0))) :
    Calls Try.prog 47 #[objV 4 0 0 0 f t i0 i1 i2 i3, .pointer (some ⟨nb, 0, none⟩)] w fun e w' => e = .returned (.int .i64 n) ∧ w'.heap[nb]? = some (.cells #[.int .i64 (n + 1)] ty (0, 0)) ∧ Upd [nb] w w' := by
  have HS := Lib.hid fun w => size_flags f t i0 i1 i2 i3 w
  unfold objV at *
  have c0 : w.cell? ⟨nb, 0, none⟩ = some (.int .i64 n) := by rw [cell_of_heap hb]; rfl
  have f0 := frozen_of_heap hb 0
  have hl := heap_lt hb
  have HB := Lib.hid hb
  have ne0 : nb ≠ w.heap.size := by omega
  have ne1 : w.heap.size ≠ nb := by omega
  have hwr : IntKind.i64.wrap (n + 1) = n + 1 := by rw [IntKind.wrap_i64]; omega
  clear hb
  go_enter Try.func47, Try.ntmps47
  go_wp2
  go_region_with (first
    | (go_at_call 48; refine (HS.out _).mono ?_; rintro e w2 ⟨rfl, hu2⟩; have HU2 := Lib.hid (show Upd [] w w2 from by first | exact ((Upd.refl _ _).alloc _).trans hu2 | exact ((Upd.refl _ _).alloc _).drew.trans hu2 | exact (((Upd.refl _ _).alloc _).drewN _).trans hu2); clear hu2; have c0' := (HU2.out.cell (p := ⟨nb, 0, none⟩) hl (by simp)).trans c0; have f0' := (HU2.out.frozen (p := ⟨nb, 0, none⟩) hl (by simp)).trans f0))
  all_goals
    go_wp2
    go_ret
    have hS : Upd [nb] w2 (w2.setCell ⟨nb, 0, none⟩ (.int .i64 (n + 1))) := (Upd.refl _ _).setCell (by simp) _
    refine ⟨rfl, ?_, ((HU2.out.mono (by simp)).trans hS)⟩
    exact heap_set (HU2.out.keepb HB.out (by simp)) 0 _
end Go.Proofs.Ytnnakiojfpnphaa
namespace Go.Proofs.Ytnnakiojfpnphaa
open Go.RowKit

theorem cells10 {w : World} {k : Nat} {a b c d e f g h i j : Value} {t : TypeId} {fr : Nat × Nat} (hh : w.heap[k]? = some (.cells #[a, b, c, d, e, f, g, h, i, j] t fr)) :
    w.cell? ⟨k, 0, none⟩ = some a ∧ w.cell? ⟨k, 1, none⟩ = some b ∧ w.cell? ⟨k, 2, none⟩ = some c ∧ w.cell? ⟨k, 3, none⟩ = some d ∧ w.cell? ⟨k, 4, none⟩ = some e ∧ w.cell? ⟨k, 5, none⟩ = some f ∧ w.cell? ⟨k, 6, none⟩ = some g ∧ w.cell? ⟨k, 7, none⟩ = some h ∧ w.cell? ⟨k, 8, none⟩ = some i ∧ w.cell? ⟨k, 9, none⟩ = some j :=
  ⟨by rw [cell_of_heap hh]; rfl, by rw [cell_of_heap hh]; rfl, by rw [cell_of_heap hh]; rfl, by rw [cell_of_heap hh]; rfl, by rw [cell_of_heap hh]; rfl, by rw [cell_of_heap hh]; rfl, by rw [cell_of_heap hh]; rfl, by rw [cell_of_heap hh]; rfl, by rw [cell_of_heap hh]; rfl, by rw [cell_of_heap hh]; rfl⟩
def placeC (kind at' cap width retry : Int) : List Value := [.int .i64 kind, .int .i64 at', .int .i64 cap, .int .i64 width, .int .i64 retry]
theorem info_place : (Try.prog.info? 27).map (fun i => (i.zero, i.size, i.bytes)) = some (some (.agg #[.int .i64 0, .int .i64 0, .int .i64 0, .int .i64 0, .int .i64 0]), 5, 40) := by kernel_rfl

def OfFlagsPost (W : World) (e : Ending) (w' : World) : Prop :=
  ∃ v, e = .returned (.tuple #[v, .int .i64 1]) ∧ w'.ownsRow W.heap.size 27 5 v 1 (placeC 4 0 0 0 0) ∧ Upd [] W w'

set_option maxRecDepth 100000 in
set_option maxHeartbeats 2000000 in
theorem of_flags (lb c : Nat) (W : World) {ty : TypeId} (hb : W.heap[lb]? = some (.cells #[.int .i64 4, .int .i64 0, .int .i64 0, .int .i64 0, .int .i64 0, .int .i64 0, .int .u32 0, .int .u32 0, .int .u32 0, .int .u32 0] ty (0, 0))) :
    Calls Try.prog 21 #[.slice (some ⟨lb, 0, none⟩) 1 c] W (OfFlagsPost W) := by
  obtain ⟨ip, hip, hz0, hz1, hz2⟩ := info_parts info_place
  have hmf : ∀ (fn : Fn) (first cap : Array Value) (w : World), (Instr.makeFunc fn first cap).run Try.prog w = .ok (.func fn first cap) w := fun _ _ _ _ => rfl
  have hl := heap_lt hb
  have HB := Lib.hid hb
  clear hb
  go_enter Try.func21, Try.ntmps21
  go_wp2
  have hstart : (W.alloc (.cells #[.int .i64 0] 3)).heap[W.heap.size]? = some (.cells #[.int .i64 0] 3 (0, 0)) := heap_alloc_new _ _
  have HSTART := Lib.hid hstart
  clear hstart
  go_loopg [2, 11] 1 (fun n out i wr => (n = 1 ∧ out = .slice none 0 0 ∧ i = .int .i64 0 ∧ wr.heap[W.heap.size]? = some (.cells #[.int .i64 0] 3 (0, 0)) ∧ Upd [] W wr) ∨ (n = 0 ∧ i = .int .i64 1 ∧ wr.heap[W.heap.size]? = some (.cells #[.int .i64 1] 3 (0, 0)) ∧ wr.ownsRow W.heap.size 27 5 out 1 (placeC 4 0 0 0 0) ∧ Upd [] W wr))
  case atStart => exact .inl ⟨by omega, rfl, rfl, HSTART.out, (Upd.refl _ _).alloc _⟩
  case round =>
    rcases hrel with ⟨rfl, rfl, rfl, hnb, hu⟩ | ⟨rfl, rfl, hnb, hown, hu⟩
    · have HNB := Lib.hid hnb
      have HU := Lib.hid hu
      have HBR := Lib.hid (hu.keepb HB.out (by simp))
      have lr := heap_lt HBR.out
      have ln := heap_lt hnb
      have b0 : wr.cell? ⟨lb, 0, none⟩ = some (.int .i64 4) := by rw [cell_of_heap HBR.out]; rfl
      have b1 : wr.cell? ⟨lb, 1, none⟩ = some (.int .i64 0) := by rw [cell_of_heap HBR.out]; rfl
      have b2 : wr.cell? ⟨lb, 2, none⟩ = some (.int .i64 0) := by rw [cell_of_heap HBR.out]; rfl
      have b3 : wr.cell? ⟨lb, 3, none⟩ = some (.int .i64 0) := by rw [cell_of_heap HBR.out]; rfl
      have b4 : wr.cell? ⟨lb, 4, none⟩ = some (.int .i64 0) := by rw [cell_of_heap HBR.out]; rfl
      have b5 : wr.cell? ⟨lb, 5, none⟩ = some (.int .i64 0) := by rw [cell_of_heap HBR.out]; rfl
      have b6 : wr.cell? ⟨lb, 6, none⟩ = some (.int .u32 0) := by rw [cell_of_heap HBR.out]; rfl
      have b7 : wr.cell? ⟨lb, 7, none⟩ = some (.int .u32 0) := by rw [cell_of_heap HBR.out]; rfl
      have b8 : wr.cell? ⟨lb, 8, none⟩ = some (.int .u32 0) := by rw [cell_of_heap HBR.out]; rfl
      have b9 : wr.cell? ⟨lb, 9, none⟩ = some (.int .u32 0) := by rw [cell_of_heap HBR.out]; rfl
      clear hnb hu
      go_wp2_with (go_at_call 47; refine Go.RowKit.Hid.out ?_)
      refine Lib.hid ?_
      refine (take_flags 0 0 0 0 0 0 W.heap.size 0 (by omega) (by omega) _ ((heap_alloc_other _ _ ln).trans HNB.out)).mono ?_
      rintro e w1 ⟨rfl, hn1, hu1⟩
      have HN1 := Lib.hid hn1
      have HU1 := Lib.hid hu1
      have hx1 := hu1.keepb (heap_alloc_new _ _) (by simp; omega)
      have HX1 := Lib.hid hx1
      obtain ⟨g0, g1, g2, g3, g4, g5, g6, g7, g8, g9⟩ := cells10 hx1
      have lx1 := heap_lt hx1
      have nx1 : w1.heap.size ≠ wr.heap.size := by omega
      have nx2 : wr.heap.size ≠ w1.heap.size := by omega
      clear hn1 hu1 hx1
      go_wp2_with (go_at_call 19; refine Go.RowKit.Hid.out ?_)
      refine Lib.hid ?_
      refine (right_flags 0 0 0 0 0 0 _).mono ?_
      rintro e w2 ⟨rfl, hu2⟩
      have HU2 := Lib.hid (((Upd.refl [] w1).alloc _).trans hu2)
      have HP2 := Lib.hid (hu2.keepb (heap_alloc_new _ _) (by simp))
      have HX2 := Lib.hid (HU2.out.keepb HX1.out (by simp))
      have HN2 := Lib.hid (HU2.out.keepb HN1.out (by simp))
      clear g0 g1 g2 g3 g4 g5 g6 g7 g8 g9 hu2
      obtain ⟨g0, g1, g2, g3, -, -, -, -, -, -⟩ := cells10 HX2.out
      have p0 : w2.cell? ⟨w1.heap.size, 0, none⟩ = some (.int .i64 0) := by rw [cell_of_heap HP2.out]; rfl
      have p1 : w2.cell? ⟨w1.heap.size, 1, none⟩ = some (.int .i64 0) := by rw [cell_of_heap HP2.out]; rfl
      have p2 : w2.cell? ⟨w1.heap.size, 2, none⟩ = some (.int .i64 0) := by rw [cell_of_heap HP2.out]; rfl
      have p3 : w2.cell? ⟨w1.heap.size, 3, none⟩ = some (.int .i64 0) := by rw [cell_of_heap HP2.out]; rfl
      have p4 : w2.cell? ⟨w1.heap.size, 4, none⟩ = some (.int .i64 0) := by rw [cell_of_heap HP2.out]; rfl
      have pf := fun j => frozen_of_heap HP2.out j
      go_wp2
      go_region
      go_wp2_with (at_builtin; refine Go.RowKit.Hid.out ?_)
      refine Lib.hid ?_
      refine wpList_append_reads rfl _ _ 58 rfl W.heap.size 27 ip _ 5 40 Try.underlying58 hip hz0 hz1 hz2 rfl (by decide) _ 0 [] rfl (World.ownsRow_nil _ _ _ _) (some ⟨w2.heap.size, 0, none⟩) 1 1 (placeC 4 0 0 0 0) rfl rfl
        (fun _ => ⟨w2.heap.size, 0, rfl, fun j u hj => by rw [Nat.zero_add, World.cell?_drew, cell_of_heap (heap_alloc_at _ (by simp [size_setCell]))]; simpa [placeC] using hj⟩) (fun h => by cases h) (fun u hu => by simp [placeC] at hu; rcases hu with rfl | rfl <;> rfl) (by simp [maxLen]) (by omega) ?base ?_
      case base => have h1 := HU.out.size; have h2 := HU1.out.size; have h3 := HU2.out.size; simp at h2; simp [size_setCell]; omega
      intro v' w3 hown' hgrow
      simp only [Nat.zero_add, List.nil_append] at hown'
      have hg3 : Upd [] _ w3 := upd_grown hgrow
      have h1 := HU.out.size
      have h2 := HU1.out.size
      simp at h2
      have hc : Upd [w1.heap.size] w2 w3 := Upd.trans ((((((Upd.refl _ _).setCell (by simp) _).setCell (by simp) _).setCell (by simp) _).setCell (by simp) _).alloc _).drew (hg3.mono (by simp))
      have HC := Lib.hid hc
      have HOWN := Lib.hid hown'
      have HU3 := Lib.hid (((((HU.out.alloc _).then HU1.out (by simp)).trans HU2.out)).then hc (by simp; omega))
      have HN3 := Lib.hid (hc.keepb HN2.out (by simp; omega))
      have HBR3 := Lib.hid (HU3.out.keepb HB.out (by simp))
      clear hown' hgrow hg3 hc
      go_wp2
      go_roundg 0
      case rel => exact .inr ⟨rfl, by go_num, HN3.out, HOWN.out, HU3.out⟩
      case measure => omega
    · obtain ⟨va, vc, rfl, -, -⟩ := own_shape hown
      have n0 : wr.cell? ⟨W.heap.size, 0, none⟩ = some (.int .i64 1) := by rw [cell_of_heap hnb]; rfl
      have nf := frozen_of_heap hnb 0
      have HNB := Lib.hid hnb
      have HOWN := Lib.hid hown
      have HU := Lib.hid hu
      clear hnb hown hu
      go_wp2
      go_region
      go_wp2
      refine bodyPost_ret (v := .tuple #[.slice va 1 vc, .int .i64 1]) (by simp [results, Try.results21, go_sem, n0]) rfl ?_
      have hS : Upd [W.heap.size] wr (wr.setCell ⟨W.heap.size, 0, none⟩ (.int .i64 1)).drew := ((Upd.refl _ _).setCell (by simp) _).drew
      exact ⟨_, rfl, own_upd HOWN.out hS (fun q hq => by have := own_ne HOWN.out HNB.out (by decide); simp; intro e; subst e; exact this hq), HU.out.then hS (by simp)⟩
end Go.Proofs.Ytnnakiojfpnphaa
namespace Go.Proofs.Ytnnakiojfpnphaa
open Go.RowKit

set_option maxRecDepth 100000 in
set_option maxHeartbeats 1000000 in
theorem size_any (kind cap wd retry a r rw m : Int) (hR : ∀ w, Calls Try.prog 19 #[objV kind cap wd retry 0 0 0 0 0 0] w fun e w' => e = .returned (.bool true) ∧ Upd [] w w')
    (hA : ∀ w, Calls Try.prog 63 #[.int .i64 kind] w fun e w' => e = .returned (.int .i64 a) ∧ w = w') (hM : ∀ w, Calls Try.prog 64 #[.int .i64 kind, .int .i64 cap] w fun e w' => e = .returned (.int .i64 r) ∧ w = w')
    (hw1 : IntKind.i64.wrap (r * wd) = rw) (hw2 : IntKind.i64.wrap (a + rw) = m) (w : World) : Calls Try.prog 48 #[objV kind cap wd retry 0 0 0 0 0 0] w fun e w' => e = .returned (.int .i64 m) ∧ Upd [] w w' := by
  have HR := Lib.hid hR
  have HA := Lib.hid hA
  have HM := Lib.hid hM
  clear hR hA hM
  unfold objV at *
  go_enter Try.func48, Try.ntmps48
  go_wp2_with (first
    | (go_at_call 19; refine (HR.out _).mono ?_; rintro e w1 ⟨rfl, hu1⟩)
    | (go_at_call 63; refine (HA.out _).mono ?_; rintro e w2 ⟨rfl, rfl⟩)
    | (go_at_call 64; refine (HM.out _).mono ?_; rintro e w2 ⟨rfl, rfl⟩))
  have HX := Lib.hid (hu1.keepb (heap_alloc_new _ _) (by simp))
  have c0 : w1.cell? ⟨w.heap.size, 0, none⟩ = some (.int .i64 kind) := by rw [cell_of_heap HX.out]; rfl
  have c1 : w1.cell? ⟨w.heap.size, 1, none⟩ = some (.int .i64 cap) := by rw [cell_of_heap HX.out]; rfl
  have c2 : w1.cell? ⟨w.heap.size, 2, none⟩ = some (.int .i64 wd) := by rw [cell_of_heap HX.out]; rfl
  go_region_held3 (fun w' => w'.cell? ⟨w.heap.size, 0, none⟩ = some (.int .i64 kind) ∧ w'.cell? ⟨w.heap.size, 1, none⟩ = some (.int .i64 cap) ∧ w'.cell? ⟨w.heap.size, 2, none⟩ = some (.int .i64 wd))
    (first | exact ⟨c0, c1, c2⟩ | (go_keep; done))
    (first
      | (go_at_call 63; refine (HA.out _).mono ?_; rintro e w2 ⟨rfl, rfl⟩)
      | (go_at_call 64; refine (HM.out _).mono ?_; rintro e w2 ⟨rfl, rfl⟩))
  all_goals
    go_wp2
    go_ret
    refine ⟨by first | rfl | rw [hw1, hw2] | simp [hw1, hw2], ?_⟩
    first | exact ((Upd.refl _ _).alloc _).trans hu1 | exact (((Upd.refl _ _).alloc _).trans hu1).drew | exact (((Upd.refl _ _).alloc _).trans hu1).drewN _

set_option maxRecDepth 100000 in
set_option maxHeartbeats 2000000 in
theorem take_any (kind cap wd retry m : Int) (hS : ∀ w, Calls Try.prog 48 #[objV kind cap wd retry 0 0 0 0 0 0] w fun e w' => e = .returned (.int .i64 m) ∧ Upd [] w w') (nb : Nat) (n : Int) (hm0 : 0 ≤ m) (hm : m < 1000000) (hn0 : 0 ≤ n) (hn : n < 1000000) (w : World) {ty : TypeId} (hb : w.heap[nb]? = some (.cells #[.int .i64 n] ty (0, 0))) :
    Calls Try.prog 47 #[objV kind cap wd retry 0 0 0 0 0 0, .pointer (some ⟨nb, 0, none⟩)] w fun e w' => e = .returned (.int .i64 n) ∧ w'.heap[nb]? = some (.cells #[.int .i64 (n + m)] ty (0, 0)) ∧ Upd [nb] w w' := by
  have HS := Lib.hid hS
  clear hS
  unfold objV at *
  have c0 : w.cell? ⟨nb, 0, none⟩ = some (.int .i64 n) := by rw [cell_of_heap hb]; rfl
  have f0 := frozen_of_heap hb 0
  have hl := heap_lt hb
  have HB := Lib.hid hb
  have ne0 : nb ≠ w.heap.size := by omega
  have ne1 : w.heap.size ≠ nb := by omega
  have hwr : IntKind.i64.wrap (n + m) = n + m := by rw [IntKind.wrap_i64]; omega
  clear hb
  go_enter Try.func47, Try.ntmps47
  go_wp2
  go_region_with (first
    | (go_at_call 48; refine (HS.out _).mono ?_; rintro e w2 ⟨rfl, hu2⟩; have HU2 := Lib.hid (show Upd [] w w2 from by first | exact ((Upd.refl _ _).alloc _).trans hu2 | exact ((Upd.refl _ _).alloc _).drew.trans hu2 | exact (((Upd.refl _ _).alloc _).drewN _).trans hu2); clear hu2; have c0' := (HU2.out.cell (p := ⟨nb, 0, none⟩) hl (by simp)).trans c0; have f0' := (HU2.out.frozen (p := ⟨nb, 0, none⟩) hl (by simp)).trans f0))
  all_goals
    go_wp2
    go_ret
    have hS : Upd [nb] w2 (w2.setCell ⟨nb, 0, none⟩ (.int .i64 (n + m))) := (Upd.refl _ _).setCell (by simp) _
    refine ⟨rfl, ?_, ((HU2.out.mono (by simp)).trans hS)⟩
    exact heap_set (HU2.out.keepb HB.out (by simp)) 0 _
def OfPost (kind cap wd retry m : Int) (W : World) (e : Ending) (w' : World) : Prop :=
  ∃ v, e = .returned (.tuple #[v, .int .i64 m]) ∧ w'.ownsRow W.heap.size 27 5 v 1 (placeC kind 0 cap wd retry) ∧ Upd [] W w'

set_option maxRecDepth 100000 in
set_option maxHeartbeats 2000000 in
theorem of_one (kind cap wd retry m : Int) (hm0 : 0 ≤ m) (hm : m < 1000000) (hR : ∀ w, Calls Try.prog 19 #[objV kind cap wd retry 0 0 0 0 0 0] w fun e w' => e = .returned (.bool true) ∧ Upd [] w w') (hS : ∀ w, Calls Try.prog 48 #[objV kind cap wd retry 0 0 0 0 0 0] w fun e w' => e = .returned (.int .i64 m) ∧ Upd [] w w') (lb c : Nat) (W : World) {ty : TypeId} (hb : W.heap[lb]? = some (.cells #[.int .i64 kind, .int .i64 cap, .int .i64 wd, .int .i64 retry, .int .i64 0, .int .i64 0, .int .u32 0, .int .u32 0, .int .u32 0, .int .u32 0] ty (0, 0))) :
    Calls Try.prog 21 #[.slice (some ⟨lb, 0, none⟩) 1 c] W (OfPost kind cap wd retry m W) := by
  have HR := Lib.hid hR
  have HS := Lib.hid hS
  clear hR hS
  have HM0 := Lib.hid hm0
  have HM1 := Lib.hid hm
  clear hm0 hm
  obtain ⟨ip, hip, hz0, hz1, hz2⟩ := info_parts info_place
  have hmf : ∀ (fn : Fn) (first cap : Array Value) (w : World), (Instr.makeFunc fn first cap).run Try.prog w = .ok (.func fn first cap) w := fun _ _ _ _ => rfl
  have hl := heap_lt hb
  have HB := Lib.hid hb
  clear hb
  go_enter Try.func21, Try.ntmps21
  go_wp2
  have hstart : (W.alloc (.cells #[.int .i64 0] 3)).heap[W.heap.size]? = some (.cells #[.int .i64 0] 3 (0, 0)) := heap_alloc_new _ _
  have HSTART := Lib.hid hstart
  clear hstart
  go_loopg [2, 11] 1 (fun n out i wr => (n = 1 ∧ out = .slice none 0 0 ∧ i = .int .i64 0 ∧ wr.heap[W.heap.size]? = some (.cells #[.int .i64 0] 3 (0, 0)) ∧ Upd [] W wr) ∨ (n = 0 ∧ i = .int .i64 1 ∧ wr.heap[W.heap.size]? = some (.cells #[.int .i64 m] 3 (0, 0)) ∧ wr.ownsRow W.heap.size 27 5 out 1 (placeC kind 0 cap wd retry) ∧ Upd [] W wr))
  case atStart => exact .inl ⟨by omega, rfl, rfl, HSTART.out, (Upd.refl _ _).alloc _⟩
  case round =>
    rcases hrel with ⟨rfl, rfl, rfl, hnb, hu⟩ | ⟨rfl, rfl, hnb, hown, hu⟩
    · have HNB := Lib.hid hnb
      have HU := Lib.hid hu
      have HBR := Lib.hid (hu.keepb HB.out (by simp))
      have lr := heap_lt HBR.out
      have ln := heap_lt hnb
      have b0 : wr.cell? ⟨lb, 0, none⟩ = some (.int .i64 kind) := by rw [cell_of_heap HBR.out]; rfl
      have b1 : wr.cell? ⟨lb, 1, none⟩ = some (.int .i64 cap) := by rw [cell_of_heap HBR.out]; rfl
      have b2 : wr.cell? ⟨lb, 2, none⟩ = some (.int .i64 wd) := by rw [cell_of_heap HBR.out]; rfl
      have b3 : wr.cell? ⟨lb, 3, none⟩ = some (.int .i64 retry) := by rw [cell_of_heap HBR.out]; rfl
      have b4 : wr.cell? ⟨lb, 4, none⟩ = some (.int .i64 0) := by rw [cell_of_heap HBR.out]; rfl
      have b5 : wr.cell? ⟨lb, 5, none⟩ = some (.int .i64 0) := by rw [cell_of_heap HBR.out]; rfl
      have b6 : wr.cell? ⟨lb, 6, none⟩ = some (.int .u32 0) := by rw [cell_of_heap HBR.out]; rfl
      have b7 : wr.cell? ⟨lb, 7, none⟩ = some (.int .u32 0) := by rw [cell_of_heap HBR.out]; rfl
      have b8 : wr.cell? ⟨lb, 8, none⟩ = some (.int .u32 0) := by rw [cell_of_heap HBR.out]; rfl
      have b9 : wr.cell? ⟨lb, 9, none⟩ = some (.int .u32 0) := by rw [cell_of_heap HBR.out]; rfl
      clear hnb hu
      go_wp2_with (go_at_call 47; refine Go.RowKit.Hid.out ?_)
      refine Lib.hid ?_
      refine (take_any kind cap wd retry m HS.out W.heap.size 0 HM0.out HM1.out (by omega) (by omega) _ ((heap_alloc_other _ _ ln).trans HNB.out)).mono ?_
      rintro e w1 ⟨rfl, hn1, hu1⟩
      rw [Int.zero_add] at hn1
      have HN1 := Lib.hid hn1
      have HU1 := Lib.hid hu1
      have hx1 := hu1.keepb (heap_alloc_new _ _) (by simp; omega)
      have HX1 := Lib.hid hx1
      obtain ⟨g0, g1, g2, g3, g4, g5, g6, g7, g8, g9⟩ := cells10 hx1
      have lx1 := heap_lt hx1
      have nx1 : w1.heap.size ≠ wr.heap.size := by omega
      have nx2 : wr.heap.size ≠ w1.heap.size := by omega
      clear hn1 hu1 hx1
      go_wp2_with (go_at_call 19; refine Go.RowKit.Hid.out ?_)
      refine Lib.hid ?_
      refine (HR.out _).mono ?_
      rintro e w2 ⟨rfl, hu2⟩
      have HU2 := Lib.hid (((Upd.refl [] w1).alloc _).trans hu2)
      have HP2 := Lib.hid (hu2.keepb (heap_alloc_new _ _) (by simp))
      have HX2 := Lib.hid (HU2.out.keepb HX1.out (by simp))
      have HN2 := Lib.hid (HU2.out.keepb HN1.out (by simp))
      clear g0 g1 g2 g3 g4 g5 g6 g7 g8 g9 hu2
      obtain ⟨g0, g1, g2, g3, -, -, -, -, -, -⟩ := cells10 HX2.out
      have p0 : w2.cell? ⟨w1.heap.size, 0, none⟩ = some (.int .i64 0) := by rw [cell_of_heap HP2.out]; rfl
      have p1 : w2.cell? ⟨w1.heap.size, 1, none⟩ = some (.int .i64 0) := by rw [cell_of_heap HP2.out]; rfl
      have p2 : w2.cell? ⟨w1.heap.size, 2, none⟩ = some (.int .i64 0) := by rw [cell_of_heap HP2.out]; rfl
      have p3 : w2.cell? ⟨w1.heap.size, 3, none⟩ = some (.int .i64 0) := by rw [cell_of_heap HP2.out]; rfl
      have p4 : w2.cell? ⟨w1.heap.size, 4, none⟩ = some (.int .i64 0) := by rw [cell_of_heap HP2.out]; rfl
      have pf := fun j => frozen_of_heap HP2.out j
      go_wp2
      go_region
      go_wp2_with (at_builtin; refine Go.RowKit.Hid.out ?_)
      refine Lib.hid ?_
      refine wpList_append_reads rfl _ _ 58 rfl W.heap.size 27 ip _ 5 40 Try.underlying58 hip hz0 hz1 hz2 rfl (by decide) _ 0 [] rfl (World.ownsRow_nil _ _ _ _) (some ⟨w2.heap.size, 0, none⟩) 1 1 (placeC kind 0 cap wd retry) rfl rfl
        (fun _ => ⟨w2.heap.size, 0, rfl, fun j u hj => by rw [Nat.zero_add, World.cell?_drew, cell_of_heap (heap_alloc_at _ (by simp [size_setCell]))]; simpa [placeC] using hj⟩) (fun h => by cases h) (fun u hu => by simp [placeC] at hu; rcases hu with rfl | rfl | rfl | rfl | rfl <;> rfl) (by simp [maxLen]) (by omega) ?base ?_
      case base => have h1 := HU.out.size; have h2 := HU1.out.size; have h3 := HU2.out.size; simp at h2; simp [size_setCell]; omega
      intro v' w3 hown' hgrow
      simp only [Nat.zero_add, List.nil_append] at hown'
      have hg3 : Upd [] _ w3 := upd_grown hgrow
      have h1 := HU.out.size
      have h2 := HU1.out.size
      simp at h2
      have hc : Upd [w1.heap.size] w2 w3 := Upd.trans ((((((Upd.refl _ _).setCell (by simp) _).setCell (by simp) _).setCell (by simp) _).setCell (by simp) _).alloc _).drew (hg3.mono (by simp))
      have HC := Lib.hid hc
      have HOWN := Lib.hid hown'
      have HU3 := Lib.hid (((((HU.out.alloc _).then HU1.out (by simp)).trans HU2.out)).then hc (by simp; omega))
      have HN3 := Lib.hid (hc.keepb HN2.out (by simp; omega))
      have HBR3 := Lib.hid (HU3.out.keepb HB.out (by simp))
      clear hown' hgrow hg3 hc
      go_wp2
      go_roundg 0
      case rel => exact .inr ⟨rfl, by go_num, HN3.out, HOWN.out, HU3.out⟩
      case measure => omega
    · obtain ⟨va, vc, rfl, -, -⟩ := own_shape hown
      have n0 : wr.cell? ⟨W.heap.size, 0, none⟩ = some (.int .i64 m) := by rw [cell_of_heap hnb]; rfl
      have nf := frozen_of_heap hnb 0
      have HNB := Lib.hid hnb
      have HOWN := Lib.hid hown
      have HU := Lib.hid hu
      clear hnb hown hu
      go_wp2
      go_region
      go_wp2
      refine bodyPost_ret (v := .tuple #[.slice va 1 vc, .int .i64 m]) (by simp [results, Try.results21, go_sem, n0]) rfl ?_
      have hS : Upd [W.heap.size] wr (wr.setCell ⟨W.heap.size, 0, none⟩ (.int .i64 m)).drew := ((Upd.refl _ _).setCell (by simp) _).drew
      exact ⟨_, rfl, own_upd HOWN.out hS (fun q hq => by have := own_ne HOWN.out HNB.out (by decide); simp; intro e; subst e; exact this hq), HU.out.then hS (by simp)⟩
end Go.Proofs.Ytnnakiojfpnphaa
namespace Go.Proofs.Ytnnakiojfpnphaa
open Go.RowKit

set_option maxRecDepth 100000 in
set_option maxHeartbeats 2000000 in
theorem cell_flags (at' : Int) (w : World) : Calls Try.prog 54 #[.agg #[.int .i64 4, .int .i64 at', .int .i64 0, .int .i64 0, .int .i64 0], .int .i64 8, .int .i64 0, .int .i64 0] w fun e w' => e = .returned (.int .i64 at') ∧ Upd [] w w' := by
  have HR := Lib.hid fun w => right_flags 0 0 0 0 0 0 w
  unfold objV at HR
  go_enter Try.func54, Try.ntmps54
  go_wp2_with (go_at_call 19; refine (HR.out _).mono ?_; rintro e w1 ⟨rfl, hu1⟩; have hp := hu1.keepb ((heap_alloc_other _ _ (by simp)).trans (heap_alloc_new w _)) (by simp); have p0 := cell_of_heap hp 0; have p1 := cell_of_heap hp 1; simp at p0 p1; clear hp)
  go_ret
  exact ⟨rfl, (((Upd.refl _ _).alloc _).alloc _).trans hu1⟩
end Go.Proofs.Ytnnakiojfpnphaa
namespace Go.Proofs.Ytnnakiojfpnphaa
open Go.RowKit

def holdsB (kind word mask : Int) : Bool := if kind = 4 then bits .and .u32 word mask != 0 else if kind = 5 then bits .and .u32 word mask == mask else true

set_option maxRecDepth 100000 in
set_option maxHeartbeats 400000 in
theorem holds1_any (w : World) (p q : Nat) (word mask : Int) (hp : w.cell? ⟨p, 0, none⟩ = some (.int .u32 word)) (hq : w.cell? ⟨q, 0, none⟩ = some (.int .u32 mask)) :
    Calls Try.prog 133 #[.pointer (some ⟨p, 0, none⟩), .pointer (some ⟨q, 0, none⟩)] w fun e w' => e = .returned (.int .u32 (bits .and .u32 word mask)) ∧ w = w' := by
  go_enter Try.func133, Try.ntmps133
  go_wp2
  go_ret
  exact ⟨rfl, rfl⟩

set_option maxRecDepth 100000 in
set_option maxHeartbeats 1000000 in
theorem holds_any (kind word mask : Int) (W : World) : Calls Try.prog 132 #[.int .i64 kind, .int .u32 word, .int .u32 mask] W fun e w' => e = .returned (.bool (holdsB kind word mask)) ∧ Upd [] W w' := by
  have hmf : ∀ (fn : Fn) (first cap : Array Value) (w : World), (Instr.makeFunc fn first cap).run Try.prog w = .ok (.func fn first cap) w := fun _ _ _ _ => rfl
  have hp : ((W.alloc (.cells #[.int .u32 word] 32)).alloc (.cells #[.int .u32 mask] 32)).cell? ⟨W.heap.size, 0, none⟩ = some (.int .u32 word) := by
    rw [cell_of_heap ((heap_alloc_other _ _ (by simp)).trans (heap_alloc_new _ _))]; rfl
  have hq : ((W.alloc (.cells #[.int .u32 word] 32)).alloc (.cells #[.int .u32 mask] 32)).cell? ⟨W.heap.size + 1, 0, none⟩ = some (.int .u32 mask) := by
    rw [cell_of_heap (heap_alloc_at _ (by simp))]; rfl
  have HH := Lib.hid fun (w : World) (h1 : w.cell? ⟨W.heap.size, 0, none⟩ = some (.int .u32 word)) (h2 : w.cell? ⟨W.heap.size + 1, 0, none⟩ = some (.int .u32 mask)) => holds1_any w _ _ word mask h1 h2
  by_cases h4 : kind = 4
  · subst h4
    have e : holdsB 4 word mask = (bits .and .u32 word mask != 0) := by simp [holdsB]
    rw [e]
    clear e
    go_enter Try.func132, Try.ntmps132
    go_wp2_with (go_at_call 133; refine (HH.out _ hp hq).mono ?_; rintro e w1 ⟨rfl, rfl⟩)
    go_ret
    exact ⟨rfl, ((Upd.refl _ _).alloc _).alloc _⟩
  by_cases h5 : kind = 5
  · subst h5
    have e : holdsB 5 word mask = (bits .and .u32 word mask == mask) := by simp [holdsB]
    rw [e]
    clear e
    go_enter Try.func132, Try.ntmps132
    go_wp2
    go_region_held3 (fun w' => w'.cell? ⟨W.heap.size, 0, none⟩ = some (.int .u32 word) ∧ w'.cell? ⟨W.heap.size + 1, 0, none⟩ = some (.int .u32 mask))
      (first | exact ⟨hp, hq⟩ | (go_keep; done))
      (first | (go_at_call 133; refine (HH.out _ (by first | exact hp | simpa using hp) (by first | exact hq | simpa using hq)).mono ?_; rintro e w1 ⟨rfl, rfl⟩))
    all_goals
      go_wp2
      go_ret
      first | exact ⟨rfl, ((Upd.refl _ _).alloc _).alloc _⟩ | exact ⟨rfl, (((Upd.refl _ _).alloc _).alloc _).drew⟩
  · have e : holdsB kind word mask = true := by simp [holdsB, h4, h5]
    rw [e]
    have e1 : (kind == 4) = false := by simpa using h4
    have e2 : (kind == 5) = false := by simpa using h5
    clear e h4 h5
    go_enter Try.func132, Try.ntmps132
    go_wp2
    go_ret
    exact ⟨rfl, ((Upd.refl _ _).alloc _).alloc _⟩
end Go.Proofs.Ytnnakiojfpnphaa
