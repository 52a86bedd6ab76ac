/- The walk, part 5: PS1 PS2 PS3 PS4. -/
import Derived.Test.YtnnakiojfpnphaaZi02
import Derived.Test.YtnnakiojfpnphaaZi03
import Derived.Test.YtnnakiojfpnphaaZi04
import Derived.Deep.RegionHeld3
set_option linter.unusedVariables false
set_option linter.unusedSimpArgs false

namespace Go.Proofs.Ytnnakiojfpnphaa
open Go.RowKit
def aheadP (k : Int) : Int := if k = 1 then 2 else if k = 2 then 4 else 1
def roomsP (k n : Int) : Int := if k = 1 then n else if k = 2 then 4 else if k = 3 then 1 else 0
def sizeP (k cap wd rt : Int) : Int := if rightB k cap wd rt = true then aheadP k + roomsP k cap * wd else 0
theorem pw7_pos {n : Int} (h : pw7 n = true) : 1 ≤ n := by
  simp [pw7] at h
  omega
theorem right_kind {k cap wd rt : Int} (h : rightB k cap wd rt = true) : (k = 1 ∧ 1 ≤ wd ∧ wd ≤ 4 ∧ 1 ≤ cap ∧ cap ≤ 64 ∧ rt = 0) ∨ (k = 2 ∧ 1 ≤ wd ∧ wd ≤ 4 ∧ cap = 0 ∧ rt = 0) ∨ (k = 3 ∧ 1 ≤ wd ∧ wd ≤ 4 ∧ cap = 0 ∧ 0 ≤ rt ∧ rt ≤ 8) ∨ (k = 4 ∧ wd = 0 ∧ cap = 0 ∧ rt = 0) := by
  unfold rightB at h
  split at h
  · rename_i hk
    simp only [Bool.and_eq_true, beq_iff_eq, wideB, decide_eq_true_eq] at h
    have := pw7_pos h.2.1
    have := pw7_le h.2.1
    omega
  · split at h
    · simp only [Bool.and_eq_true, beq_iff_eq] at h
      omega
    · split at h
      · simp only [Bool.and_eq_true, beq_iff_eq, wideB, decide_eq_true_eq] at h
        omega
      · split at h
        · simp only [Bool.and_eq_true, beq_iff_eq, wideB, decide_eq_true_eq] at h
          omega
        · cases h
theorem rooms_bounds {k cap wd rt : Int} (h : rightB k cap wd rt = true) : 1 ≤ aheadP k ∧ aheadP k ≤ 4 ∧ 0 ≤ roomsP k cap * wd ∧ roomsP k cap * wd ≤ 256 := by
  rcases right_kind h with ⟨rfl, h1, h2, h3, h4, rfl⟩ | ⟨rfl, h1, h2, rfl, rfl⟩ | ⟨rfl, h1, h2, rfl, h3, h4⟩ | ⟨rfl, rfl, rfl, rfl⟩
  · simp only [aheadP, roomsP, if_true]
    have ha : wd = 1 ∨ wd = 2 ∨ wd = 3 ∨ wd = 4 := by omega
    rcases ha with rfl | rfl | rfl | rfl <;> omega
  · simp [aheadP, roomsP]
    omega
  · simp [aheadP, roomsP]
    omega
  · simp [aheadP, roomsP]
theorem sizeP_bounds (k cap wd rt : Int) : 0 ≤ sizeP k cap wd rt ∧ sizeP k cap wd rt ≤ 260 := by
  unfold sizeP
  split
  · rename_i h
    have := rooms_bounds h
    omega
  · omega
set_option maxRecDepth 100000 in
set_option maxHeartbeats 1000000 in
theorem ahead_c (k : Int) (w : World) : Calls Try.prog 63 #[.int .i64 k] w fun e w' => e = .returned (.int .i64 (aheadP k)) ∧ w = w' := by
  unfold aheadP
  by_cases h1 : k = 1
  · subst h1
    rw [if_pos rfl]
    go_enter Try.func63, Try.ntmps63
    go_wp2
    go_ret
    exact ⟨rfl, rfl⟩
  by_cases h2 : k = 2
  · subst h2
    rw [if_neg (by decide), if_pos rfl]
    go_enter Try.func63, Try.ntmps63
    go_wp2
    go_ret
    exact ⟨rfl, rfl⟩
  rw [if_neg h1, if_neg h2]
  have q1 : (k == 1) = false := by simpa using h1
  have q2 : (k == 2) = false := by simpa using h2
  clear h1 h2
  go_enter Try.func63, Try.ntmps63
  go_wp2
  go_ret
  exact ⟨rfl, rfl⟩
set_option maxRecDepth 100000 in
set_option maxHeartbeats 1000000 in
theorem rooms_c (k n : Int) (w : World) : Calls Try.prog 64 #[.int .i64 k, .int .i64 n] w fun e w' => e = .returned (.int .i64 (roomsP k n)) ∧ w = w' := by
  unfold roomsP
  by_cases h1 : k = 1
  · subst h1
    rw [if_pos rfl]
    go_enter Try.func64, Try.ntmps64
    go_wp2
    go_ret
    exact ⟨rfl, rfl⟩
  by_cases h2 : k = 2
  · subst h2
    rw [if_neg (by decide), if_pos rfl]
    go_enter Try.func64, Try.ntmps64
    go_wp2
    go_ret
    exact ⟨rfl, rfl⟩
  by_cases h3 : k = 3
  · subst h3
    rw [if_neg (by decide), if_neg (by decide), if_pos rfl]
    go_enter Try.func64, Try.ntmps64
    go_wp2
    go_ret
    exact ⟨rfl, rfl⟩
  rw [if_neg h1, if_neg h2, if_neg h3]
  have q1 : (k == 1) = false := by simpa using h1
  have q2 : (k == 2) = false := by simpa using h2
  have q3 : (k == 3) = false := by simpa using h3
  clear h1 h2 h3
  go_enter Try.func64, Try.ntmps64
  go_wp2
  go_ret
  exact ⟨rfl, rfl⟩
set_option maxRecDepth 100000 in
set_option maxHeartbeats 4000000 in
theorem osize_c (k cap wd rt f t i0 i1 i2 i3 : Int) (w : World) : Calls Try.prog 48 #[.agg (obA k cap wd rt f t i0 i1 i2 i3)] w fun e w' => e = .returned (.int .i64 (sizeP k cap wd rt)) ∧ Upd [] w w' := by
  have HR := Lib.hid fun w => sright_any cap wd rt f t i0 i1 i2 i3 w k
  unfold sizeP
  cases hr : rightB k cap wd rt with
  | false =>
    rw [hr] at HR
    simp only [Bool.false_eq_true, if_false]
    unfold obA at *
    clear hr
    go_enter Try.func48, Try.ntmps48
    go_wp2_with (go_at_call 19; (with_reducible refine (HR.out _).mono ?_); rintro e w1 ⟨rfl, hu1⟩; obtain ⟨p1, rfl⟩ := hu1.grown; clear hu1)
    go_ret
    exact ⟨rfl, by repeat (first | (with_reducible exact Upd.refl _ _) | (with_reducible apply Upd.drew) | (with_reducible refine Upd.grE ?_ _) | (with_reducible refine Upd.alloc ?_ _))⟩
  | true =>
    rw [hr] at HR
    rw [if_pos rfl]
    have HA := Lib.hid fun w => ahead_c k w
    have HO := Lib.hid fun w => rooms_c k cap w
    have hb := rooms_bounds hr
    have w1 : IntKind.i64.wrap (roomsP k cap * wd) = roomsP k cap * wd := by rw [IntKind.wrap_i64]; omega
    have w2 : IntKind.i64.wrap (aheadP k + roomsP k cap * wd) = aheadP k + roomsP k cap * wd := by rw [IntKind.wrap_i64]; omega
    have hc := heap_alloc_new w (.cells (obA k cap wd rt f t i0 i1 i2 i3) 56)
    unfold obA at *
    obtain ⟨c0, c1, c2⟩ : (w.alloc (.cells #[.int .i64 k, .int .i64 cap, .int .i64 wd, .int .i64 rt, .int .i64 f, .int .i64 t, .int .u32 i0, .int .u32 i1, .int .u32 i2, .int .u32 i3] 56)).cell? ⟨w.heap.size, 0, none⟩ = some (.int .i64 k) ∧ (w.alloc (.cells #[.int .i64 k, .int .i64 cap, .int .i64 wd, .int .i64 rt, .int .i64 f, .int .i64 t, .int .u32 i0, .int .u32 i1, .int .u32 i2, .int .u32 i3] 56)).cell? ⟨w.heap.size, 1, none⟩ = some (.int .i64 cap) ∧ (w.alloc (.cells #[.int .i64 k, .int .i64 cap, .int .i64 wd, .int .i64 rt, .int .i64 f, .int .i64 t, .int .u32 i0, .int .u32 i1, .int .u32 i2, .int .u32 i3] 56)).cell? ⟨w.heap.size, 2, none⟩ = some (.int .i64 wd) := ⟨by rw [cell_of_heap hc]; rfl, by rw [cell_of_heap hc]; rfl, by rw [cell_of_heap hc]; rfl⟩
    generalize aheadP k = A at *
    generalize roomsP k cap = R at *
    clear hr hb hc
    go_enter Try.func48, Try.ntmps48
    go_wp2_with (go_at_call 19; (with_reducible refine (HR.out _).mono ?_); rintro e w1 ⟨rfl, hu1⟩; obtain ⟨p1, rfl⟩ := hu1.grown; clear hu1)
    go_region_held3 (fun w' => w'.cell? ⟨w.heap.size, 0, none⟩ = some (.int .i64 k) ∧ w'.cell? ⟨w.heap.size, 1, none⟩ = some (.int .i64 cap) ∧ w'.cell? ⟨w.heap.size, 2, none⟩ = some (.int .i64 wd))
      (((try dsimp only); (repeat' apply And.intro) <;> (repeat (first | (with_reducible assumption) | (with_reducible apply cell_grE) | (with_reducible apply cell_allocE) | (with_reducible apply cell_drewE)))))
      (first
        | (go_at_call 63; (with_reducible refine (HA.out _).mono ?_); rintro e w2 ⟨rfl, rfl⟩)
        | (go_at_call 64; (with_reducible refine (HO.out _).mono ?_); rintro e w2 ⟨rfl, rfl⟩))
    all_goals
      go_wp2
      go_ret
      exact ⟨rfl, by repeat (first | (with_reducible exact Upd.refl _ _) | (with_reducible apply Upd.drew) | (with_reducible refine Upd.grE ?_ _) | (with_reducible refine Upd.alloc ?_ _))⟩
end Go.Proofs.Ytnnakiojfpnphaa
namespace Go.Proofs.Ytnnakiojfpnphaa
open Go.RowKit
structure PL where
  k : Int
  a : Int
  cap : Int
  wd : Int
  rt : Int
def PL.cells (p : PL) : List Value := [.int .i64 p.k, .int .i64 p.a, .int .i64 p.cap, .int .i64 p.wd, .int .i64 p.rt]
theorem pl_len (p : PL) : p.cells.length = 5 := rfl
def OBJ.size (o : OBJ) : Int := sizeP o.k o.cap o.wd o.rt
def plOf (n : Int) (o : OBJ) : PL := if rightB o.k o.cap o.wd o.rt = true then ⟨o.k, n, o.cap, o.wd, o.rt⟩ else ⟨0, n, 0, 0, 0⟩
def pls : Int → List OBJ → List PL
  | _, [] => []
  | n, o :: l => plOf n o :: pls (n + o.size) l
def sumS : List OBJ → Int
  | [] => 0
  | o :: l => o.size + sumS l
theorem sumS_snoc (l : List OBJ) (o : OBJ) : sumS (l ++ [o]) = sumS l + o.size := by
  induction l with
  | nil => simp [sumS]
  | cons x l ih => simp only [List.cons_append, sumS, ih]; omega
theorem pls_snoc (n : Int) (l : List OBJ) (o : OBJ) : pls n (l ++ [o]) = pls n l ++ [plOf (n + sumS l) o] := by
  induction l generalizing n with
  | nil => simp [pls, sumS]
  | cons x l ih => simp only [List.cons_append, pls, sumS, ih, Int.add_assoc]
theorem pls_len (n : Int) (l : List OBJ) : (pls n l).length = l.length := by
  induction l generalizing n with
  | nil => rfl
  | cons x l ih => simp [pls, ih]
theorem sumS_bounds (l : List OBJ) : 0 ≤ sumS l ∧ sumS l ≤ 260 * l.length := by
  induction l with
  | nil => simp [sumS]
  | cons x l ih =>
    have h := sizeP_bounds x.k x.cap x.wd x.rt
    simp only [sumS, OBJ.size, List.length_cons]
    omega
theorem info_pl : (Try.prog.info? 27).map (fun i => (i.zero, i.size, i.bytes)) = some (some (.agg #[.int .i64 0, .int .i64 0, .int .i64 0, .int .i64 0, .int .i64 0]), 5, 40) := by kernel_rfl
theorem info_obL (a b c d e f g h i j : Value) : (Try.prog.info? 56).map (·.size) = some ([a, b, c, d, e, f, g, h, i, j] : List Value).length := by kernel_rfl
theorem cells10p {w : World} {k : Nat} {a b c d e f g h i j : Value} {t : TypeId} {fr : Nat × Nat} (hh : w.heap[k]? = some (.cells #[a, b, c, d, e, f, g, h, i, j] t fr)) :
    w.cell? ⟨k, 0, none⟩ = some a ∧ w.cell? ⟨k, 1, none⟩ = some b ∧ w.cell? ⟨k, 2, none⟩ = some c ∧ w.cell? ⟨k, 3, none⟩ = some d ∧ w.cell? ⟨k, 4, none⟩ = some e ∧ w.cell? ⟨k, 5, none⟩ = some f ∧ w.cell? ⟨k, 6, none⟩ = some g ∧ w.cell? ⟨k, 7, none⟩ = some h ∧ w.cell? ⟨k, 8, none⟩ = some i ∧ w.cell? ⟨k, 9, none⟩ = some j :=
  ⟨by rw [cell_of_heap hh]; rfl, by rw [cell_of_heap hh]; rfl, by rw [cell_of_heap hh]; rfl, by rw [cell_of_heap hh]; rfl, by rw [cell_of_heap hh]; rfl, by rw [cell_of_heap hh]; rfl, by rw [cell_of_heap hh]; rfl, by rw [cell_of_heap hh]; rfl, by rw [cell_of_heap hh]; rfl, by rw [cell_of_heap hh]; rfl⟩
set_option maxRecDepth 100000 in
set_option maxHeartbeats 2000000 in
theorem take_c (k cap wd rt f t i0 i1 i2 i3 : Int) (nb : Nat) (n : Int) (hn0 : 0 ≤ n) (hn : n < 1000000) (w : World) {ty : TypeId} (hb : w.heap[nb]? = some (.cells #[.int .i64 n] ty (0, 0))) :
    Calls Try.prog 47 #[.agg #[.int .i64 k, .int .i64 cap, .int .i64 wd, .int .i64 rt, .int .i64 f, .int .i64 t, .int .u32 i0, .int .u32 i1, .int .u32 i2, .int .u32 i3], .pointer (some ⟨nb, 0, none⟩)] w fun e w' => e = .returned (.int .i64 n) ∧ w'.heap[nb]? = some (.cells #[.int .i64 (n + sizeP k cap wd rt)] ty (0, 0)) ∧ Upd [nb] w w' := by
  have HS := Lib.hid fun w => osize_c k cap wd rt f t i0 i1 i2 i3 w
  unfold obA at HS
  have hsb := sizeP_bounds k cap wd rt
  generalize sizeP k cap wd rt = m at *
  have c0 : w.cell? ⟨nb, 0, none⟩ = some (.int .i64 n) := by rw [cell_of_heap hb]; rfl
  have f0 := frozen_of_heap hb 0
  have hl := heap_lt hb
  have HB := Lib.hid hb
  have ne0 : nb ≠ w.heap.size := by omega
  have ne1 : w.heap.size ≠ nb := by omega
  have hwr : IntKind.i64.wrap (n + m) = n + m := by rw [IntKind.wrap_i64]; omega
  clear hb hsb
  go_enter Try.func47, Try.ntmps47
  go_wp2
  go_region_with (first
    | (go_at_call 48; refine (HS.out _).mono ?_; rintro e w2 ⟨rfl, hu2⟩; have HU2 := Lib.hid (show Upd [] w w2 from by first | exact ((Upd.refl _ _).alloc _).trans hu2 | exact ((Upd.refl _ _).alloc _).drew.trans hu2 | exact (((Upd.refl _ _).alloc _).drewN _).trans hu2); clear hu2; have c0' := (HU2.out.cell (p := ⟨nb, 0, none⟩) hl (by simp)).trans c0; have f0' := (HU2.out.frozen (p := ⟨nb, 0, none⟩) hl (by simp)).trans f0))
  all_goals
    go_wp2
    go_ret
    have hS : Upd [nb] w2 (w2.setCell ⟨nb, 0, none⟩ (.int .i64 (n + m))) := (Upd.refl _ _).setCell (by simp) _
    refine ⟨rfl, ?_, ((HU2.out.mono (by simp)).trans hS)⟩
    exact heap_set (HU2.out.keepb HB.out (by simp)) 0 _
end Go.Proofs.Ytnnakiojfpnphaa
namespace Go.Proofs.Ytnnakiojfpnphaa
open Go.RowKit
section
variable {W : World} {oa : Option Addr} {l : List OBJ}
set_option maxRecDepth 100000 in
set_option maxHeartbeats 8000000 in
theorem sof_o (oc : Nat) (h : Els W oa 10 (l.map OBJ.cells)) (hn : l.length ≤ 1000) :
    Calls Try.prog 21 #[.slice oa l.length oc] W fun e w' => Upd [] W w' ∧ ∃ va vc, e = .returned (.tuple #[.slice va l.length vc, .int .i64 (sumS l)]) ∧ Els w' va 5 ((pls 0 l).map PL.cells) ∧ w'.ownsRow (W.heap.size + 1) 27 5 (.slice va l.length vc) l.length ((pls 0 l).flatMap PL.cells) := by
  have HE := Lib.hid h
  have HL := Lib.hid hn
  obtain ⟨ip, hip, hz0, hz1, hz2⟩ := info_parts info_pl
  have hmf : ∀ (fn : Fn) (first cap : Array Value) (w : World), (Instr.makeFunc fn first cap).run Try.prog w = .ok (.func fn first cap) w := fun _ _ _ _ => rfl
  clear h hn
  go_enter Try.func21, Try.ntmps21
  go_wp2
  have hstart : (W.alloc (.cells #[.int .i64 0] 3)).heap[W.heap.size]? = some (.cells #[.int .i64 0] 3 (0, 0)) := heap_alloc_new _ _
  have HSTART := Lib.hid hstart
  clear hstart
  go_loopg [2, 11] l.length (fun n out i wr => ∃ (j : Nat), n + j = l.length ∧ i = .int .i64 j ∧ wr.heap[W.heap.size]? = some (.cells #[.int .i64 (sumS (l.take j))] 3 (0, 0)) ∧ wr.ownsRow (W.heap.size + 1) 27 5 out j ((pls 0 (l.take j)).flatMap PL.cells) ∧ Upd [] W wr)
  case atStart => exact ⟨0, by omega, rfl, HSTART.out, own_none, (Upd.refl _ _).alloc _⟩
  case round =>
    obtain ⟨j, hj, rfl, hnb, hown, hu⟩ := hrel
    have HJ := Lib.hid hj
    have HNB := Lib.hid hnb
    have HOWN := Lib.hid hown
    have HU := Lib.hid hu
    have ln := heap_lt hnb
    have HLN := Lib.hid ln
    clear hnb hown hu
    have hl0 := HL.out
    by_cases hlt : j < l.length
    · obtain ⟨b, off, rfl, hb, hc⟩ := els_at HE.out hlt
      have HLT := Lib.hid hlt
      have htk : pls 0 (l.take (j + 1)) = pls 0 (l.take j) ++ [plOf (sumS (l.take j)) l[j]] := by rw [List.take_succ_eq_append_getElem hlt, pls_snoc, Int.zero_add]; rfl
      have hts : sumS (l.take (j + 1)) = sumS (l.take j) + l[j].size := by rw [List.take_succ_eq_append_getElem hlt, sumS_snoc]; rfl
      have hsb : 0 ≤ sumS (l.take j) ∧ sumS (l.take j) ≤ 260 * 1000 := by
        have h1 := sumS_bounds (l.take j)
        have h2 : (l.take j).length ≤ 1000 := by simp; omega
        omega
      have HSB := Lib.hid hsb
      have hbr : b < wr.heap.size := Nat.lt_of_lt_of_le hb HU.out.size
      generalize hz : l[j] = z at *
      obtain ⟨k, cap, wd, rt, f, t, i0, i1, i2, i3⟩ := z
      have HTS := Lib.hid (show sumS (l.take (j + 1)) = sumS (l.take j) + sizeP k cap wd rt from hts)
      have HRG := Lib.hid (fun (w1 : World) (h1 : Upd [] wr w1) => show w1.rangeAt b (off + j * 10) [.int .i64 k, .int .i64 cap, .int .i64 wd, .int .i64 rt, .int .i64 f, .int .i64 t, .int .u32 i0, .int .u32 i1, .int .u32 i2, .int .u32 i3] from fun m v hm => ((HU.out.trans h1).cell (p := ⟨b, off + j * 10 + m, none⟩) hb (by simp)).trans (hc m v hm))
      have g0 := HRG.out wr (Upd.refl _ _) 0 _ rfl
      rw [Nat.add_zero] at g0
      have b1 : (0 : Int) ≤ (j : Int) := by omega
      have b2 : (j : Int) < (l.length : Int) := by omega
      have HW := Lib.hid (show wrap64 ((j : Int) + 1) = ((j + 1 : Nat) : Int) from wrap_next (by omega) hlt)
      obtain ⟨va, vc, rfl, _, _⟩ := own_shape HOWN.out
      have HR := Lib.hid fun w => sright_any cap wd rt f t i0 i1 i2 i3 w k
      unfold obA at HR
      have HTK0 := Lib.hid htk
      clear hz hc hj hlt htk hts hsb hb
      cases hr : rightB k cap wd rt with
      | true =>
      rw [hr] at HR
      have HC2 := Lib.hid (show (pls 0 (l.take j)).flatMap PL.cells ++ PL.cells (plOf (sumS (l.take j)) ⟨k, cap, wd, rt, f, t, i0, i1, i2, i3⟩) = (pls 0 (l.take j)).flatMap PL.cells ++ [.int .i64 k, .int .i64 (sumS (l.take j)), .int .i64 cap, .int .i64 wd, .int .i64 rt] by simp [plOf, hr, PL.cells])
      have HTK := Lib.hid (show (pls 0 (l.take (j + 1))).flatMap PL.cells = (pls 0 (l.take j)).flatMap PL.cells ++ PL.cells (plOf (sumS (l.take j)) ⟨k, cap, wd, rt, f, t, i0, i1, i2, i3⟩) by rw [HTK0.out, List.flatMap_append]; simp)
      clear hr
      (
              go_wp2_with (first
                | (refine wpList_load_mid rfl 56 _ rfl b (off + j * 10) rfl _ _ (HRG.out _ (by repeat (first | (with_reducible exact Upd.refl _ _) | (with_reducible apply Upd.drew) | (with_reducible refine Upd.grE ?_ _) | (with_reducible refine Upd.alloc ?_ _)))) Try.underlying56 rfl (info_obL _ _ _ _ _ _ _ _ _ _) ?_)
                | (go_at_call 47; refine Go.RowKit.Hid.out ?_))
              refine Lib.hid ?_
              refine (take_c k cap wd rt f t i0 i1 i2 i3 W.heap.size (sumS (l.take j)) HSB.out.1 (by have := HSB.out.2; omega) _ ((heap_alloc_other _ _ ln).trans HNB.out)).mono ?_
              rintro e w1 ⟨rfl, hn1, hu1⟩
              have HN1 := Lib.hid hn1
              have HU1 := Lib.hid hu1
              have hx1 := hu1.keepb (heap_alloc_new _ _) (by simp; omega)
              have HX1 := Lib.hid hx1
              have HOWN1 := Lib.hid (own_upd (own_upd HOWN.out ((Upd.refl [] wr).alloc _) (by simp)) hu1 (fun q hq hm => by have := own_base HOWN.out q hq; simp at hm; omega))
              obtain ⟨g0, g1, g2, g3, g4, g5, g6, g7, g8, g9⟩ := cells10p hx1
              have lx1 := heap_lt hx1
              have nx1 : w1.heap.size ≠ wr.heap.size := by omega
              have nx2 : wr.heap.size ≠ w1.heap.size := by omega
              have HZ1 := Lib.hid (show wr.heap.size + 1 ≤ w1.heap.size by have := hu1.size; simpa using this)
              clear hn1 hu1 hx1
              go_wp2_with (go_at_call 19; refine Go.RowKit.Hid.out ?_)
              refine Lib.hid ?_
              refine (HR.out _).mono ?_
              rintro e w2 ⟨rfl, hu2⟩
              have HU2 := Lib.hid (((Upd.refl [] w1).alloc _).trans hu2)
              have HP2 := Lib.hid (hu2.keepb (heap_alloc_new _ _) (by simp))
              have HX2 := Lib.hid (HU2.out.keepb HX1.out (by simp))
              have HN2 := Lib.hid (HU2.out.keepb HN1.out (by simp))
              have HOWN2 := Lib.hid (own_upd HOWN1.out HU2.out (by simp))
              have HZ2 := Lib.hid (show w1.heap.size < w2.heap.size from heap_lt HP2.out)
              clear g0 g1 g2 g3 g4 g5 g6 g7 g8 g9 hu2
              obtain ⟨g0, g1, g2, g3, -, -, -, -, -, -⟩ := cells10p HX2.out
              have p0 : w2.cell? ⟨w1.heap.size, 0, none⟩ = some (.int .i64 0) := by rw [cell_of_heap HP2.out]; rfl
              have p1 : w2.cell? ⟨w1.heap.size, 1, none⟩ = some (.int .i64 (sumS (l.take j))) := by rw [cell_of_heap HP2.out]; rfl
              have p2 : w2.cell? ⟨w1.heap.size, 2, none⟩ = some (.int .i64 0) := by rw [cell_of_heap HP2.out]; rfl
              have p3 : w2.cell? ⟨w1.heap.size, 3, none⟩ = some (.int .i64 0) := by rw [cell_of_heap HP2.out]; rfl
              have p4 : w2.cell? ⟨w1.heap.size, 4, none⟩ = some (.int .i64 0) := by rw [cell_of_heap HP2.out]; rfl
              have pf := fun j => frozen_of_heap HP2.out j)
      go_wp2
      go_region
      go_wp2_with (at_builtin; refine Go.RowKit.Hid.out ?_)
      (
              refine Lib.hid ?_
              refine wpList_append_reads rfl _ _ 58 rfl (W.heap.size + 1) 27 ip _ 5 40 Try.underlying58 hip hz0 hz1 hz2 rfl (by decide) _ j _ rfl (own_upd (S := [w1.heap.size]) HOWN2.out (by repeat (first | (with_reducible exact Upd.refl _ _) | (with_reducible apply Upd.drew) | (with_reducible refine Upd.alloc ?_ _) | (with_reducible refine Upd.setB ?_ (.inl (by simp))))) (fun q hq hm => by have := (HOWN.out.lt q hq).2; have := HZ1.out; simp at hm; omega)) (some ⟨w2.heap.size, 0, none⟩) 1 1 [.int .i64 k, .int .i64 (sumS (l.take j)), .int .i64 cap, .int .i64 wd, .int .i64 rt] rfl rfl
                (fun _ => ⟨w2.heap.size, 0, rfl, fun j u hj => by rw [Nat.zero_add]; exact cell_of_list (heap_alloc_at _ (by simp [size_setCell])) _ _ hj⟩) (fun h => by cases h) (fun u hu => by simp at hu; rcases hu with rfl | rfl | rfl | rfl | rfl <;> rfl) (by have := HL.out; have := HLT.out; simp only [maxLen]; omega) (by have := HL.out; have := HLT.out; omega) ?base ?_
              case base => have h1 := HU.out.size; have h2 := HZ1.out; have h3 := HZ2.out; have h4 := HLN.out; simp [size_setCell]; omega
              intro v' w3 hown' hgrow
              obtain ⟨X, hc, hg3⟩ : ∃ X, Upd [w1.heap.size] w2 X ∧ Upd (Value.slice va j vc).ownBlock.toList X w3 := by
                refine ⟨_, ?_, upd_grown hgrow⟩
                exact (by repeat (first | (with_reducible exact Upd.refl _ _) | (with_reducible apply Upd.drew) | (with_reducible refine Upd.alloc ?_ _) | (with_reducible refine Upd.setB ?_ (.inl (by simp)))))
              have HG3 := Lib.hid hg3
              have hob : ∀ q, q ∈ (Value.slice va j vc).ownBlock.toList → W.heap.size + 1 ≤ q := fun q hq => own_base HOWN.out q (by simpa using hq)
              have HU3 := Lib.hid ((((((HU.out.alloc _).then HU1.out (by simp)).trans HU2.out)).then hc (by have h1 := HU.out.size; have := HZ1.out; simp; omega)).then HG3.out (fun q hq => .inr (by have := hob q hq; omega)))
              have HN3 := Lib.hid (HG3.out.keepb (hc.keepb HN2.out (by have h1 := HU.out.size; have := HZ1.out; have := HLN.out; simp; omega)) (fun hq => by have := hob _ hq; omega))
              rw [← HC2.out, ← HTK.out] at hown'
              have HOWN3 := Lib.hid hown'
              clear hown' hgrow hc hg3 hob
              go_wp2
              go_roundg (l.length - (j + 1))
              case rel => exact ⟨j + 1, by have := HLT.out; omega, by first | (rw [HW.out]; done) | (simp; done), by rw [HTS.out]; exact HN3.out, HOWN3.out, HU3.out⟩
              case measure => have := HLT.out; have := HJ.out; omega)
      | false =>
      rw [hr] at HR
      have HC2 := Lib.hid (show (pls 0 (l.take j)).flatMap PL.cells ++ PL.cells (plOf (sumS (l.take j)) ⟨k, cap, wd, rt, f, t, i0, i1, i2, i3⟩) = (pls 0 (l.take j)).flatMap PL.cells ++ [.int .i64 0, .int .i64 (sumS (l.take j)), .int .i64 0, .int .i64 0, .int .i64 0] by simp [plOf, hr, PL.cells])
      have HTK := Lib.hid (show (pls 0 (l.take (j + 1))).flatMap PL.cells = (pls 0 (l.take j)).flatMap PL.cells ++ PL.cells (plOf (sumS (l.take j)) ⟨k, cap, wd, rt, f, t, i0, i1, i2, i3⟩) by rw [HTK0.out, List.flatMap_append]; simp)
      clear hr
      (
              go_wp2_with (first
                | (refine wpList_load_mid rfl 56 _ rfl b (off + j * 10) rfl _ _ (HRG.out _ (by repeat (first | (with_reducible exact Upd.refl _ _) | (with_reducible apply Upd.drew) | (with_reducible refine Upd.grE ?_ _) | (with_reducible refine Upd.alloc ?_ _)))) Try.underlying56 rfl (info_obL _ _ _ _ _ _ _ _ _ _) ?_)
                | (go_at_call 47; refine Go.RowKit.Hid.out ?_))
              refine Lib.hid ?_
              refine (take_c k cap wd rt f t i0 i1 i2 i3 W.heap.size (sumS (l.take j)) HSB.out.1 (by have := HSB.out.2; omega) _ ((heap_alloc_other _ _ ln).trans HNB.out)).mono ?_
              rintro e w1 ⟨rfl, hn1, hu1⟩
              have HN1 := Lib.hid hn1
              have HU1 := Lib.hid hu1
              have hx1 := hu1.keepb (heap_alloc_new _ _) (by simp; omega)
              have HX1 := Lib.hid hx1
              have HOWN1 := Lib.hid (own_upd (own_upd HOWN.out ((Upd.refl [] wr).alloc _) (by simp)) hu1 (fun q hq hm => by have := own_base HOWN.out q hq; simp at hm; omega))
              obtain ⟨g0, g1, g2, g3, g4, g5, g6, g7, g8, g9⟩ := cells10p hx1
              have lx1 := heap_lt hx1
              have nx1 : w1.heap.size ≠ wr.heap.size := by omega
              have nx2 : wr.heap.size ≠ w1.heap.size := by omega
              have HZ1 := Lib.hid (show wr.heap.size + 1 ≤ w1.heap.size by have := hu1.size; simpa using this)
              clear hn1 hu1 hx1
              go_wp2_with (go_at_call 19; refine Go.RowKit.Hid.out ?_)
              refine Lib.hid ?_
              refine (HR.out _).mono ?_
              rintro e w2 ⟨rfl, hu2⟩
              have HU2 := Lib.hid (((Upd.refl [] w1).alloc _).trans hu2)
              have HP2 := Lib.hid (hu2.keepb (heap_alloc_new _ _) (by simp))
              have HX2 := Lib.hid (HU2.out.keepb HX1.out (by simp))
              have HN2 := Lib.hid (HU2.out.keepb HN1.out (by simp))
              have HOWN2 := Lib.hid (own_upd HOWN1.out HU2.out (by simp))
              have HZ2 := Lib.hid (show w1.heap.size < w2.heap.size from heap_lt HP2.out)
              clear g0 g1 g2 g3 g4 g5 g6 g7 g8 g9 hu2
              obtain ⟨g0, g1, g2, g3, -, -, -, -, -, -⟩ := cells10p HX2.out
              have p0 : w2.cell? ⟨w1.heap.size, 0, none⟩ = some (.int .i64 0) := by rw [cell_of_heap HP2.out]; rfl
              have p1 : w2.cell? ⟨w1.heap.size, 1, none⟩ = some (.int .i64 (sumS (l.take j))) := by rw [cell_of_heap HP2.out]; rfl
              have p2 : w2.cell? ⟨w1.heap.size, 2, none⟩ = some (.int .i64 0) := by rw [cell_of_heap HP2.out]; rfl
              have p3 : w2.cell? ⟨w1.heap.size, 3, none⟩ = some (.int .i64 0) := by rw [cell_of_heap HP2.out]; rfl
              have p4 : w2.cell? ⟨w1.heap.size, 4, none⟩ = some (.int .i64 0) := by rw [cell_of_heap HP2.out]; rfl
              have pf := fun j => frozen_of_heap HP2.out j)
      go_wp2_with (at_builtin; refine Go.RowKit.Hid.out ?_)
      (
              refine Lib.hid ?_
              refine wpList_append_reads rfl _ _ 58 rfl (W.heap.size + 1) 27 ip _ 5 40 Try.underlying58 hip hz0 hz1 hz2 rfl (by decide) _ j _ rfl (own_upd (S := [w1.heap.size]) HOWN2.out (by repeat (first | (with_reducible exact Upd.refl _ _) | (with_reducible apply Upd.drew) | (with_reducible refine Upd.alloc ?_ _) | (with_reducible refine Upd.setB ?_ (.inl (by simp))))) (fun q hq hm => by have := (HOWN.out.lt q hq).2; have := HZ1.out; simp at hm; omega)) (some ⟨w2.heap.size, 0, none⟩) 1 1 [.int .i64 0, .int .i64 (sumS (l.take j)), .int .i64 0, .int .i64 0, .int .i64 0] rfl rfl
                (fun _ => ⟨w2.heap.size, 0, rfl, fun j u hj => by rw [Nat.zero_add]; exact cell_of_list (heap_alloc_at _ (by simp [size_setCell])) _ _ hj⟩) (fun h => by cases h) (fun u hu => by simp at hu; rcases hu with rfl | rfl | rfl | rfl | rfl <;> rfl) (by have := HL.out; have := HLT.out; simp only [maxLen]; omega) (by have := HL.out; have := HLT.out; omega) ?base ?_
              case base => have h1 := HU.out.size; have h2 := HZ1.out; have h3 := HZ2.out; have h4 := HLN.out; simp [size_setCell]; omega
              intro v' w3 hown' hgrow
              obtain ⟨X, hc, hg3⟩ : ∃ X, Upd [w1.heap.size] w2 X ∧ Upd (Value.slice va j vc).ownBlock.toList X w3 := by
                refine ⟨_, ?_, upd_grown hgrow⟩
                exact (by repeat (first | (with_reducible exact Upd.refl _ _) | (with_reducible apply Upd.drew) | (with_reducible refine Upd.alloc ?_ _) | (with_reducible refine Upd.setB ?_ (.inl (by simp)))))
              have HG3 := Lib.hid hg3
              have hob : ∀ q, q ∈ (Value.slice va j vc).ownBlock.toList → W.heap.size + 1 ≤ q := fun q hq => own_base HOWN.out q (by simpa using hq)
              have HU3 := Lib.hid ((((((HU.out.alloc _).then HU1.out (by simp)).trans HU2.out)).then hc (by have h1 := HU.out.size; have := HZ1.out; simp; omega)).then HG3.out (fun q hq => .inr (by have := hob q hq; omega)))
              have HN3 := Lib.hid (HG3.out.keepb (hc.keepb HN2.out (by have h1 := HU.out.size; have := HZ1.out; have := HLN.out; simp; omega)) (fun hq => by have := hob _ hq; omega))
              rw [← HC2.out, ← HTK.out] at hown'
              have HOWN3 := Lib.hid hown'
              clear hown' hgrow hc hg3 hob
              go_wp2
              go_roundg (l.length - (j + 1))
              case rel => exact ⟨j + 1, by have := HLT.out; omega, by first | (rw [HW.out]; done) | (simp; done), by rw [HTS.out]; exact HN3.out, HOWN3.out, HU3.out⟩
              case measure => have := HLT.out; have := HJ.out; omega)
    · obtain rfl : j = l.length := by omega
      obtain ⟨va, vc, rfl, -, -⟩ := own_shape HOWN.out
      have hnb := HNB.out
      rw [List.take_length] at hnb
      have n0 : wr.cell? ⟨W.heap.size, 0, none⟩ = some (.int .i64 (sumS l)) := by rw [cell_of_heap hnb]; rfl
      have nf := frozen_of_heap hnb 0
      have HNB' := Lib.hid hnb
      clear hnb hj hlt
      go_wp2
      go_region
      go_wp2
      refine bodyPost_ret (v := .tuple #[.slice va l.length vc, .int .i64 (sumS l)]) (by simp [results, Try.results21, go_sem, n0]) rfl ?_
      have hS : Upd [W.heap.size] wr (wr.setCell ⟨W.heap.size, 0, none⟩ (.int .i64 (sumS l))).drew := ((Upd.refl _ _).setCell (by simp) _).drew
      have ho := own_upd HOWN.out hS (fun q hq hm => by have := own_base HOWN.out q hq; simp at hm; omega)
      rw [List.take_length] at ho
      have ho2 := ho
      obtain ⟨a, c, e, _, he⟩ := flat_own PL.cells pl_len ho (pls_len 0 l).symm
      simp only [Value.slice.injEq] at e
      obtain ⟨rfl, -, rfl⟩ := e
      exact ⟨HU.out.then hS (by simp), va, vc, rfl, he, ho2⟩
theorem sof_c (oc : Nat) (h : Els W oa 10 (l.map OBJ.cells)) (hn : l.length ≤ 1000) :
    Calls Try.prog 21 #[.slice oa l.length oc] W fun e w' => Upd [] W w' ∧ ∃ va vc, e = .returned (.tuple #[.slice va l.length vc, .int .i64 (sumS l)]) ∧ Els w' va 5 ((pls 0 l).map PL.cells) :=
  (sof_o oc h hn).mono fun e w' ⟨h1, va, vc, h2, h3, _⟩ => ⟨h1, va, vc, h2, h3⟩
end
end Go.Proofs.Ytnnakiojfpnphaa
namespace Go.Proofs.Ytnnakiojfpnphaa
open Go.RowKit
def cellD (p : PL) (v : Int) : Int := if rightB p.k p.cap p.wd p.rt = true then (if p.k = 4 then -1 else if v < p.wd then p.a + aheadP p.k + v else -1) else -1
def cellW (p : PL) : Int := if rightB p.k p.cap p.wd p.rt = true then (if p.k = 4 then p.a else -1) else -1
def PL.A (p : PL) : Array Value := #[.int .i64 p.k, .int .i64 p.a, .int .i64 p.cap, .int .i64 p.wd, .int .i64 p.rt]
section
variable (a cap wd rt : Int) (w : World)
set_option maxRecDepth 100000 in
set_option maxHeartbeats 4000000 in
theorem cell_wrong (k part i v : Int) (hr : rightB k cap wd rt = false) : Calls Try.prog 54 #[.agg #[.int .i64 k, .int .i64 a, .int .i64 cap, .int .i64 wd, .int .i64 rt], .int .i64 part, .int .i64 i, .int .i64 v] w fun e w' => e = .returned (.int .i64 (-1)) ∧ Upd [] w w' := by
  have HR := Lib.hid fun w => sright_any cap wd rt 0 0 0 0 0 0 w k
  rw [hr] at HR
  unfold obA at HR
  have HO := Lib.hid rooms_c
  have HA := Lib.hid ahead_c
  clear hr
  go_enter Try.func54, Try.ntmps54
  (
      go_wp2_with (first
        | (go_at_call 19; (with_reducible refine (HR.out _).mono ?_); rintro e w1 ⟨rfl, hu1⟩; obtain ⟨p1, rfl⟩ := hu1.grown; clear hu1)
        | (go_at_call 64; (with_reducible refine (HO.out _ _ _).mono ?_); rintro e w2 ⟨rfl, rfl⟩)
        | (go_at_call 63; (with_reducible refine (HA.out _ _).mono ?_); rintro e w2 ⟨rfl, rfl⟩)
        | (go_at_call 43; (with_reducible refine (swithin _ _ _ _).mono ?_); rintro e w2 ⟨rfl, rfl⟩)))
  (
      go_ret
      exact ⟨rfl, by repeat (first | (with_reducible exact Upd.refl _ _) | (with_reducible apply Upd.drew) | (with_reducible refine Upd.grE ?_ _) | (with_reducible refine Upd.alloc ?_ _))⟩)
set_option maxRecDepth 100000 in
set_option maxHeartbeats 4000000 in
theorem cell_word4 : Calls Try.prog 54 #[.agg #[.int .i64 4, .int .i64 a, .int .i64 0, .int .i64 0, .int .i64 0], .int .i64 8, .int .i64 0, .int .i64 0] w fun e w' => e = .returned (.int .i64 a) ∧ Upd [] w w' := by
  have HR := Lib.hid fun w => (show Calls Try.prog 19 #[.agg (obA 4 0 0 0 0 0 0 0 0 0)] w fun e w' => e = .returned (.bool true) ∧ Upd [] w w' from sright_any 0 0 0 0 0 0 0 0 0 w 4)
  unfold obA at HR
  have HO := Lib.hid rooms_c
  have HA := Lib.hid ahead_c
  go_enter Try.func54, Try.ntmps54
  (
      go_wp2_with (first
        | (go_at_call 19; (with_reducible refine (HR.out _).mono ?_); rintro e w1 ⟨rfl, hu1⟩; obtain ⟨p1, rfl⟩ := hu1.grown; clear hu1)
        | (go_at_call 64; (with_reducible refine (HO.out _ _ _).mono ?_); rintro e w2 ⟨rfl, rfl⟩)
        | (go_at_call 63; (with_reducible refine (HA.out _ _).mono ?_); rintro e w2 ⟨rfl, rfl⟩)
        | (go_at_call 43; (with_reducible refine (swithin _ _ _ _).mono ?_); rintro e w2 ⟨rfl, rfl⟩)))
  (
      go_ret
      exact ⟨rfl, by repeat (first | (with_reducible exact Upd.refl _ _) | (with_reducible apply Upd.drew) | (with_reducible refine Upd.grE ?_ _) | (with_reducible refine Upd.alloc ?_ _))⟩)
set_option maxRecDepth 100000 in
set_option maxHeartbeats 4000000 in
theorem cell_data4 (v : Int) : Calls Try.prog 54 #[.agg #[.int .i64 4, .int .i64 a, .int .i64 0, .int .i64 0, .int .i64 0], .int .i64 3, .int .i64 0, .int .i64 v] w fun e w' => e = .returned (.int .i64 (-1)) ∧ Upd [] w w' := by
  have HR := Lib.hid fun w => (show Calls Try.prog 19 #[.agg (obA 4 0 0 0 0 0 0 0 0 0)] w fun e w' => e = .returned (.bool true) ∧ Upd [] w w' from sright_any 0 0 0 0 0 0 0 0 0 w 4)
  unfold obA at HR
  have HO := Lib.hid rooms_c
  have HA := Lib.hid ahead_c
  go_enter Try.func54, Try.ntmps54
  (
      go_wp2_with (first
        | (go_at_call 19; (with_reducible refine (HR.out _).mono ?_); rintro e w1 ⟨rfl, hu1⟩; obtain ⟨p1, rfl⟩ := hu1.grown; clear hu1)
        | (go_at_call 64; (with_reducible refine (HO.out _ _ _).mono ?_); rintro e w2 ⟨rfl, rfl⟩)
        | (go_at_call 63; (with_reducible refine (HA.out _ _).mono ?_); rintro e w2 ⟨rfl, rfl⟩)
        | (go_at_call 43; (with_reducible refine (swithin _ _ _ _).mono ?_); rintro e w2 ⟨rfl, rfl⟩)))
  (
      go_ret
      exact ⟨rfl, by repeat (first | (with_reducible exact Upd.refl _ _) | (with_reducible apply Upd.drew) | (with_reducible refine Upd.grE ?_ _) | (with_reducible refine Upd.alloc ?_ _))⟩)
end
end Go.Proofs.Ytnnakiojfpnphaa
