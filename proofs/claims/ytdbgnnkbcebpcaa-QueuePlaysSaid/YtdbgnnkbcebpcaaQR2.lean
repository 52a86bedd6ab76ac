/- The document's queue (ref25): Next, Of; the law's back. -/
import Derived.Test.YtdbgnnkbcebpcaaQR1
set_option linter.unusedVariables false
set_option linter.unusedSimpArgs false
namespace Go.Proofs.Ytdbgnnkbcebpcaa
open Go.RowKit

theorem info_rwait : (Try.prog.info? 58).map (fun i => (i.zero, i.size, i.bytes)) = some (some (.agg #[.int .i64 0, .int .i64 0, .int .i64 0, .int .u32 0]), 4, 32) := by kernel_rfl
section
variable {w : World} {v : Value} {L : List QW}
/-- The wait behind a place. -/
def qnx (t : Int) (L : List QW) : Option QW := L[(qpl t 0 L + 1).toNat]?
theorem qpl_bounds (t : Int) : ∀ (L : List QW) (k : Nat), qpl t k L = -1 ∨ (k ≤ qpl t k L ∧ qpl t k L < k + L.length)
  | [], k => .inl rfl
  | x :: xs, k => by
    unfold qpl
    split
    · exact .inr ⟨by omega, by simp; omega⟩
    · rcases qpl_bounds t xs (k + 1) with h | h
      · exact .inl h
      · exact .inr ⟨by omega, by simp; omega⟩
set_option maxRecDepth 100000 in
set_option maxHeartbeats 1000000 in
theorem rqnext_c (t : Int) (h : RQ 58 w v L) (hl : L.length ≤ 1000) :
    Calls Try.prog 22 #[v, .int .i64 t] w fun e w' => e = .returned (.tuple #[.agg (((qnx t L).getD .zero).A), .bool (qnx t L).isSome]) ∧ Upd [] w w' := by
  obtain ⟨a, cap, rfl, -⟩ := h.shape
  have HP := Lib.hid (fun (w1 : World) (hu : Upd [] w w1) => rqplace_c t (h.upd hu) hl)
  have HR := Lib.hid h
  have hb := qpl_bounds t L 0
  unfold qnx
  obtain ⟨i, hi⟩ : ∃ i : Nat, qpl t 0 L + 1 = i := ⟨(qpl t 0 L + 1).toNat, by omega⟩
  have hw : wrap64 (qpl t 0 L + 1) = i := by rw [hi]; unfold wrap64; omega
  rw [hi]
  generalize qpl t 0 L = k at *
  have HI := Lib.hid hi
  clear h hb hi
  rw [Int.toNat_natCast]
  by_cases hlt : i < L.length
  · obtain ⟨b, cap', hv, _, hb, hc⟩ := HR.out.at hlt
    simp only [Value.slice.injEq, true_and] at hv
    obtain ⟨rfl, rfl⟩ := hv
    rw [List.getElem?_eq_getElem hlt]
    have c0 := hc 0 _ rfl
    have c1 := hc 1 _ rfl
    have c2 := hc 2 _ rfl
    have c3 := hc 3 _ rfl
    rw [Nat.add_zero] at c0
    have b1 : (0 : Int) ≤ (i : Int) := by omega
    have b2 : (i : Int) < (L.length : Int) := by omega
    have b3 : ¬ ((L.length : Int) ≤ (i : Int)) := by omega
    generalize L[i] = z at *
    obtain ⟨z0, z1, z2, z3⟩ := z
    simp only at c0 c1 c2 c3
    clear hc hlt
    go_enter Try.func22, Try.ntmps22
    go_wp2_with (go_at_call 24; refine (HP.out _ ((Upd.refl _ _).alloc _)).mono ?_; rintro e w1 ⟨rfl, hu⟩; obtain ⟨p1, rfl⟩ := hu.grown; clear hu)
    refine bodyPost_ret (v := .tuple #[.agg (QW.mk z0 z1 z2 z3).A, .bool true]) (by simp [results, Try.f22, go_sem, QW.A]) rfl ?_
    exact ⟨rfl, ((Upd.refl [] w).alloc _).grE _⟩
  · rw [List.getElem?_eq_none (by omega)]
    have b3 : ((L.length : Int) ≤ (i : Int)) := by omega
    clear hlt
    go_enter Try.func22, Try.ntmps22
    go_wp2_with (go_at_call 24; refine (HP.out _ ((Upd.refl _ _).alloc _)).mono ?_; rintro e w1 ⟨rfl, hu⟩; obtain ⟨p1, rfl⟩ := hu.grown; clear hu)
    refine bodyPost_ret (v := .tuple #[.agg QW.zero.A, .bool false]) (by simp [results, Try.f22, go_sem, QW.A, QW.zero]) rfl ?_
    exact ⟨rfl, ((Upd.refl [] w).alloc _).grE _⟩
def qofL (o : Int) (xs : List QW) : List QW := xs.filter fun x => x.o == o
theorem qofL_take (o : Int) (L : List QW) {j : Nat} (hj : j < L.length) : qofL o (L.take (j + 1)) = if L[j].o == o then qofL o (L.take j) ++ [L[j]] else qofL o (L.take j) := by
  unfold qofL
  rw [List.take_succ_eq_append_getElem hj, List.filter_append]
  cases h : (L[j].o == o) <;> simp [h]
set_option maxRecDepth 100000 in
set_option maxHeartbeats 4000000 in
theorem rqof_c (o : Int) (h : RQ 58 w v L) (hl : L.length ≤ 1000) :
    Calls Try.prog 29 #[v, .int .i64 o] w fun e w' => (∃ v', e = .returned v' ∧ RQ 58 w' v' (qofL o L)) ∧ Upd [] w w' := by
  obtain ⟨a, cap, rfl, -⟩ := h.shape
  have HR := Lib.hid h
  have HL := Lib.hid hl
  obtain ⟨ii, hii, hz0, hz1, hz2⟩ := info_parts info_rwait
  have HZ := Lib.hid (And.intro hii (And.intro hz0 (And.intro hz1 hz2)))
  clear h hl hii hz0 hz1 hz2
  go_enter Try.func29, Try.ntmps29
  go_wp2
  go_loopg [5, 6] L.length (fun n s5 s6 wr => ∃ j : Nat, n + j = L.length ∧ s6 = .int .i64 j ∧ wr.ownsRow w.heap.size 58 4 s5 (qofL o (L.take j)).length (flatW (qofL o (L.take j))) ∧ Upd [] w wr)
  case atStart => exact ⟨0, by omega, rfl, own_none, Upd.refl _ _⟩
  case round =>
    obtain ⟨j, hj, rfl, hown, hu⟩ := hrel
    have HJ := Lib.hid hj
    have HOWN := Lib.hid hown
    have HU := Lib.hid hu
    have hlen : (qofL o (L.take j)).length ≤ 1000 := by have h1 : (qofL o (L.take j)).length ≤ (L.take j).length := List.length_filter_le _ _; have := HL.out; simp at h1; omega
    have HLEN := Lib.hid hlen
    clear hown hu hlen
    by_cases hlt : j < L.length
    · obtain ⟨b, cap', hv, _, hb, hc⟩ := (HR.out.upd HU.out).at hlt
      simp only [Value.slice.injEq, true_and] at hv
      obtain ⟨rfl, rfl⟩ := hv
      have htk := qofL_take o L hlt
      have c0 := hc 0 _ rfl
      have c1 := hc 1 _ rfl
      have c2 := hc 2 _ rfl
      have c3 := hc 3 _ rfl
      rw [Nat.add_zero] at c0
      have b1 : (0 : Int) ≤ (j : Int) := by omega
      have b2 : (j : Int) < (L.length : Int) := by omega
      have HLT := Lib.hid hlt
      generalize L[j] = z at *
      obtain ⟨z0, z1, z2, z3⟩ := z
      simp only at c0 c1 c2 c3 htk
      have hw : wrap64 ((j : Int) + 1) = ((j + 1 : Nat) : Int) := by have := HL.out; unfold wrap64; omega
      obtain ⟨va, vc, rfl, _, _⟩ := own_shape HOWN.out
      clear hc hj hlt
      rcases hq : (z2 == o) with _ | _
      · rw [hq] at htk
        simp only [Bool.false_eq_true, if_false] at htk
        have HTK := Lib.hid htk
        clear htk
        go_wp2
        go_roundg (L.length - (j + 1))
        case rel => exact ⟨j + 1, by have := HLT.out; omega, by rw [hw], by rw [HTK.out]; exact HOWN.out, HU.out⟩
        case measure => have := HJ.out; have := HLT.out; omega
      · rw [hq] at htk
        simp only [if_true] at htk
        have HTK := Lib.hid htk
        have HW := Lib.hid hw
        clear htk hw
        go_wp2_with (at_builtin; refine Hid.out ?_)
        (
            refine Lib.hid ?_
            refine wpList_push rfl _ _ 57 rfl 58 ii _ 4 32 Try.underlying57 HZ.out.1 HZ.out.2.1 HZ.out.2.2.1 HZ.out.2.2.2 rfl (by decide) w wr w.heap.size _ _ _ rfl HOWN.out ?hur HU.out (Nat.le_refl _) HU.out.size
              _ [.int .i64 z0, .int .i64 z1, .int .i64 z2, .int .u32 z3] 58 (0, 0) rfl rfl ?hg (fun u hu => by simp at hu; rcases hu with rfl | rfl | rfl | rfl <;> rfl) ?hn ?hb ?_
            case hur => repeat (first | (with_reducible exact Upd.refl _ _) | (with_reducible apply Upd.drew) | (with_reducible refine Upd.grE ?_ _) | (with_reducible refine Upd.alloc ?_ _))
            case hg => repeat (first | ((with_reducible refine heap_alloc_at _ ?_); (simp; done)) | (with_reducible apply heap_drewE) | (with_reducible apply heap_grE) | (with_reducible apply heap_alloc'))
            case hn => have := HLEN.out; omega
            case hb => decide
            intro v' w' ho' hu' _
            have HO' := Lib.hid ho'
            have HU' := Lib.hid hu'
            clear ho' hu')
        go_wp2
        go_roundg (L.length - (j + 1))
        case rel => exact ⟨j + 1, by have := HLT.out; omega, by rw [HW.out], by rw [HTK.out, flatW_snoc, List.length_append]; exact HO'.out, HU'.out⟩
        case measure => have := HJ.out; have := HLT.out; omega
    · obtain rfl : j = L.length := by omega
      have HOWN := Lib.hid HOWN.out
      rw [List.take_length] at HOWN
      go_wp2
      go_ret
      exact ⟨⟨_, rfl, World.ownsRow.mono HOWN.out (Nat.zero_le _)⟩, HU.out⟩
set_option maxRecDepth 100000 in
set_option maxHeartbeats 4000000 in
theorem qback_c (h : RQ 51 w v L) (hl : L.length ≤ 1000) :
    Calls Try.prog 26 #[v] w fun e w' => (∃ v', e = .returned v' ∧ RQ 58 w' v' L) ∧ Upd [] w w' := by
  obtain ⟨a, cap, rfl, -⟩ := h.shape
  have HR := Lib.hid h
  have HL := Lib.hid hl
  obtain ⟨ii, hii, hz0, hz1, hz2⟩ := info_parts info_rwait
  have HZ := Lib.hid (And.intro hii (And.intro hz0 (And.intro hz1 hz2)))
  clear h hl hii hz0 hz1 hz2
  go_enter Try.func26, Try.ntmps26
  go_wp2
  go_loopg [3, 4] L.length (fun n s3 s4 wr => ∃ j : Nat, n + j = L.length ∧ s4 = .int .i64 j ∧ wr.ownsRow w.heap.size 58 4 s3 (L.take j).length (flatW (L.take j)) ∧ Upd [] w wr)
  case atStart => exact ⟨0, by omega, rfl, own_none, Upd.refl _ _⟩
  case round =>
    obtain ⟨j, hj, rfl, hown, hu⟩ := hrel
    have HJ := Lib.hid hj
    have HOWN := Lib.hid hown
    have HU := Lib.hid hu
    have hlen : (L.take j).length ≤ 1000 := by have := HL.out; simp; omega
    have HLEN := Lib.hid hlen
    clear hown hu hlen
    by_cases hlt : j < L.length
    · obtain ⟨b, cap', hv, _, hb, hc⟩ := (HR.out.upd HU.out).at hlt
      simp only [Value.slice.injEq, true_and] at hv
      obtain ⟨rfl, rfl⟩ := hv
      have htk := List.take_succ_eq_append_getElem hlt
      have c0 := hc 0 _ rfl
      have c1 := hc 1 _ rfl
      have c2 := hc 2 _ rfl
      have c3 := hc 3 _ rfl
      rw [Nat.add_zero] at c0
      have b1 : (0 : Int) ≤ (j : Int) := by omega
      have b2 : (j : Int) < (L.length : Int) := by omega
      have HLT := Lib.hid hlt
      generalize L[j] = z at *
      obtain ⟨z0, z1, z2, z3⟩ := z
      simp only at c0 c1 c2 c3
      obtain ⟨va, vc, rfl, _, _⟩ := own_shape HOWN.out
      have HTK := Lib.hid htk
      have HW := Lib.hid (show wrap64 ((j : Int) + 1) = ((j + 1 : Nat) : Int) by have := HL.out; unfold wrap64; omega)
      clear hc hj hlt htk
      go_wp2_with (at_builtin; refine Hid.out ?_)
      (
          refine Lib.hid ?_
          refine wpList_push rfl _ _ 57 rfl 58 ii _ 4 32 Try.underlying57 HZ.out.1 HZ.out.2.1 HZ.out.2.2.1 HZ.out.2.2.2 rfl (by decide) w wr w.heap.size _ _ _ rfl HOWN.out ?hur HU.out (Nat.le_refl _) HU.out.size
            _ [.int .i64 z0, .int .i64 z1, .int .i64 z2, .int .u32 z3] 58 (0, 0) rfl rfl ?hg (fun u hu => by simp at hu; rcases hu with rfl | rfl | rfl | rfl <;> rfl) ?hn ?hb ?_
          case hur => repeat (first | (with_reducible exact Upd.refl _ _) | (with_reducible apply Upd.drew) | (with_reducible refine Upd.grE ?_ _) | (with_reducible refine Upd.alloc ?_ _))
          case hg => repeat (first | ((with_reducible refine heap_alloc_at _ ?_); (simp; done)) | (with_reducible apply heap_drewE) | (with_reducible apply heap_grE) | (with_reducible apply heap_alloc'))
          case hn => have := HLEN.out; omega
          case hb => decide
          intro v' w' ho' hu' _
          have HO' := Lib.hid ho'
          have HU' := Lib.hid hu'
          clear ho' hu')
      go_wp2
      go_roundg (L.length - (j + 1))
      case rel => exact ⟨j + 1, by have := HLT.out; omega, by rw [HW.out], by rw [HTK.out, flatW_snoc, List.length_append]; exact HO'.out, HU'.out⟩
      case measure => have := HJ.out; have := HLT.out; omega
    · obtain rfl : j = L.length := by omega
      have HOWN := Lib.hid HOWN.out
      rw [List.take_length] at HOWN
      go_wp2
      go_ret
      exact ⟨⟨_, rfl, World.ownsRow.mono HOWN.out (Nat.zero_le _)⟩, HU.out⟩
end
end Go.Proofs.Ytdbgnnkbcebpcaa
