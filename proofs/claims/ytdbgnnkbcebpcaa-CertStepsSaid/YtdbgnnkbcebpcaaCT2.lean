/- Package cert: Whole (printed by genct.py out of CT2.base). -/
import Derived.Test.YtdbgnnkbcebpcaaCT1
import Derived.Laws.OwnMore
set_option linter.unusedVariables false
set_option linter.unusedSimpArgs false
namespace Go.Proofs.Ytdbgnnkbcebpcaa
open Go.RowKit

def boolsC (l : List Bool) : List Value := l.map .bool
/-- The places that have been seen; none: one of them is none, or is seen twice. -/
def wholeGo (n : Nat) (order : List Int) (m : Nat) : Option (List Bool) :=
  match m with
  | 0 => some (List.replicate n false)
  | m + 1 => match wholeGo n order m, order[m]? with
    | some hd, some k => if 0 ≤ k ∧ k < n then (if hd.getD k.toNat false then none else some (hd.set k.toNat true)) else none
    | _, _ => none
def secP (b : Bool) (hd : List Bool) (l : List OP) (m : Nat) : Bool := b && ((l.take m).zipIdx.all fun x => hd.getD x.2 false || !x.1.done)
def wholeP (l : List OP) (order : List Int) : Bool := match wholeGo l.length order order.length with | some hd => secP true hd l l.length | none => false
theorem wholeGo_len {n : Nat} {order : List Int} : ∀ (m : Nat) {hd : List Bool}, wholeGo n order m = some hd → hd.length = n
  | 0, hd, h => by simp [wholeGo] at h; rw [← h]; simp
  | m + 1, hd, h => by
    unfold wholeGo at h
    split at h
    · rename_i hd' k h1 h2
      have := wholeGo_len m h1
      split at h
      · split at h
        · cases h
        · simp at h; rw [← h]; simpa using this
      · cases h
    · cases h
theorem wholeGo_none {n : Nat} {order : List Int} {m : Nat} (h : wholeGo n order m = none) : ∀ m', m ≤ m' → wholeGo n order m' = none := by
  intro m' hm
  induction hm with
  | refl => exact h
  | step _ ih => unfold wholeGo; rw [ih]
theorem wholeGo_in {n : Nat} {order : List Int} : ∀ (m : Nat) {hd : List Bool}, wholeGo n order m = some hd → ∀ i k, i < m → order[i]? = some k → 0 ≤ k ∧ k < n
  | 0, hd, h => fun i k hi => by omega
  | m + 1, hd, h => fun i k hi hk => by
    unfold wholeGo at h
    split at h
    · rename_i hd' k' h1 h2
      split at h
      · rename_i hr
        by_cases he : i = m
        · subst he
          rw [h2] at hk
          cases hk
          exact hr
        · exact wholeGo_in m h1 i k (by omega) hk
      · cases h
    · cases h
theorem wholeP_in {l : List OP} {order : List Int} (h : wholeP l order = true) : ∀ k ∈ order, 0 ≤ k ∧ k < l.length := by
  unfold wholeP at h
  split at h
  · rename_i hd hw
    intro k hk
    obtain ⟨i, hi, rfl⟩ := List.getElem_of_mem hk
    exact wholeGo_in _ hw i _ hi (List.getElem?_eq_getElem hi)
  · cases h
theorem secP_succ (b : Bool) (hd : List Bool) {l : List OP} {m : Nat} (h : m < l.length) : secP b hd l (m + 1) = (secP b hd l m && (hd.getD m false || !l[m].done)) := by
  unfold secP
  rw [List.take_succ_eq_append_getElem h, List.zipIdx_append, List.all_append]
  simp [Nat.min_eq_left (Nat.le_of_lt h), Bool.and_assoc]
theorem secP_false (hd : List Bool) (l : List OP) (m : Nat) : secP false hd l m = false := by simp [secP]
theorem info_bool : (Try.prog.info? 4).map (fun i => (i.zero, i.size, i.bytes)) = some (some (.bool false), 1, 1) := by kernel_rfl
theorem made_bools (n : Nat) : madeCells #[.bool false] (n * 1) = (boolsC (List.replicate n false)).toArray := by
  apply Array.ext'
  rw [Nat.mul_one, toList_madeCells_one]
  simp [boolsC]
section
variable {w : World} {la oa : Option Addr} {l : List OP} {order : List Int}
set_option maxRecDepth 100000 in
set_option maxHeartbeats 8000000 in
theorem whole_c (lc oc : Nat) (hl : Els w la 17 (l.map OP.cells)) (ho : Els w oa 1 (order.map numC)) (hn : l.length ≤ 1000) (hm : order.length ≤ 1000) :
    Calls Try.prog 34 #[.slice la l.length lc, .slice oa order.length oc] w fun e w' => e = .returned (.bool (wholeP l order)) ∧ Upd [] w w' := by
  have HLE := Lib.hid hl
  have HOE := Lib.hid ho
  have HL := Lib.hid (And.intro hn hm)
  obtain ⟨ii, hii, hz0, hz1, hz2⟩ := info_parts info_bool
  have HZ := Lib.hid (And.intro hii (And.intro hz0 (And.intro hz1 hz2)))
  have HB := Lib.hid (And.intro (show ii.bytes * l.length ≤ 281474976710656 from by rw [hz2]; omega) (show l.length ≤ 9223372036854775807 from by omega))
  have HT := Lib.hid fun k w => there_c w la l.length lc k
  have HRESF := Lib.hid (show ∀ m, wholeGo l.length order m = none → m ≤ order.length → ∀ hd, wholeP l order = secP false hd l l.length from fun m h hm hd => by
    unfold wholeP
    rw [wholeGo_none h _ hm, secP_false])
  have HRESR := Lib.hid (show ∀ hd, wholeGo l.length order order.length = some hd → wholeP l order = secP true hd l l.length from fun hd h => by
    unfold wholeP
    rw [h])
  clear hl ho hn hm hii hz0 hz1 hz2
  go_enter Try.func34, Try.ntmps34
  go_wp2
  go_step3
  go_wp2_with (first
    | (refine wpList_make rfl 128 _ _ rfl 4 ii _ Try.underlying128 HZ.out.1 HZ.out.2.1 1 #[.bool false] HZ.out.2.2.1 rfl l.length rfl rfl HB.out.1 HB.out.2 ?_; rw [made_bools]))
  go_step3
  go_step
  go_step
  go_step
  go_cut [6] from 7 to 36 (fun s6 w' => ∃ b hd, s6 = .bool b ∧ hd.length = l.length ∧ w'.heap[w.heap.size]? = some (.cells (boolsC hd).toArray 4) ∧ Upd [] w w' ∧ wholeP l order = secP b hd l l.length)
  case rest =>
    obtain ⟨b, hd, rfl, hlen, hhd, hu, hres⟩ := hcut
    have HLEN := Lib.hid hlen
    have HHD := Lib.hid hhd
    have HUW := Lib.hid hu
    have HRES := Lib.hid hres
    clear hlen hhd hu hres
    go_wp2
    (
        go_loopg [6, 9, 10, 39] l.length (fun n s6 s9 s10 s39 wr => ∃ m : Nat, n + m = l.length ∧ s39 = .int .i64 m ∧ s6 = .bool (secP b hd l m) ∧ wr.heap[w.heap.size]? = some (.cells (boolsC hd).toArray 4) ∧ Upd [] w wr)
        case atStart => exact ⟨0, by omega, rfl, by simp [secP], HHD.out, HUW.out⟩
        case round =>
          obtain ⟨m, hm, rfl, rfl, hhd, hu⟩ := hrel
          have HM := Lib.hid hm
          have HHT := Lib.hid hhd
          have HUT := Lib.hid hu
          by_cases hlt : m < l.length
          · obtain ⟨lb, lo, rfl, hlb, hlc⟩ := els_at HLE.out hlt
            have E := fun q v hq => (hu.cell (p := ⟨lb, lo + m * 17 + q, none⟩) hlb (by simp)).trans (hlc q v hq)
            have hlbr : lb < wr.heap.size := Nat.lt_of_lt_of_le hlb hu.size
            have hgl : w.heap.size < wr.heap.size := heap_lt hhd
            have hsc := secP_succ b hd hlt
            have HHL := Lib.hid HLEN.out
            obtain ⟨hb, hhb⟩ : ∃ hb, (hd).getD m false = hb := ⟨_, rfl⟩
            have hcell : wr.cell? ⟨w.heap.size, m, none⟩ = some (.bool hb) := by
              refine cell_of_list hhd m _ ?_
              unfold boolsC
              rw [List.getElem?_map, List.getElem?_eq_getElem (by have := HHL.out; omega), ← hhb, List.getD_eq_getElem?_getD, List.getElem?_eq_getElem (by have := HHL.out; omega)]
              rfl
            rw [hhb] at hsc
            clear hhb hhd
            generalize hz : l[m] = z at hlc hsc E
            obtain ⟨z0, z1, z2, z3, ⟨z4, z5, z6, z7⟩, z8, z9, ⟨z10, z11, z12, z13⟩, zd, z15, z16⟩ := z
            simp only at hsc
            have e0 := E 0 _ rfl
            rw [Nat.add_zero] at e0
            have e1 := E 1 _ rfl
            have e2 := E 2 _ rfl
            have e3 := E 3 _ rfl
            have e4 := E 4 _ rfl
            have e5 := E 5 _ rfl
            have e6 := E 6 _ rfl
            have e7 := E 7 _ rfl
            have e8 := E 8 _ rfl
            have e9 := E 9 _ rfl
            have e10 := E 10 _ rfl
            have e11 := E 11 _ rfl
            have e12 := E 12 _ rfl
            have e13 := E 13 _ rfl
            have e14 := E 14 _ rfl
            have e15 := E 15 _ rfl
            have e16 := E 16 _ rfl
            have b1 : (0 : Int) ≤ (m : Int) := by omega
            have b2 : (m : Int) < (l.length : Int) := by omega
            have HW := Lib.hid (show wrap64 ((m : Int) + 1) = ((m + 1 : Nat) : Int) from wrap_next (by have := HL.out; omega) hlt)
            have HSC := Lib.hid hsc
            have HLT := Lib.hid hlt
            clear E hlc hz hsc hu hm
            generalize secP b hd l m = sb at *
            cases sb <;> cases hb
            all_goals
              go_wp2
              go_roundg (l.length - (m + 1))
              case rel => exact ⟨m + 1, by have := HLT.out; omega, by first | (rw [HW.out]; done) | (simp; done), by rw [HSC.out]; simp, heap_alloc' HHT.out, HUT.out.alloc _⟩
              case measure => have := HLT.out; have := HM.out; omega
          · obtain rfl : m = l.length := by omega
            have d : decide ((l.length : Int) < (l.length : Int)) = false := by simp
            go_wp2
            rw [Exit.noGoto_ret]
            go_ret
            refine ⟨?_, HUT.out⟩
            rw [HRES.out]
            rfl)
  go_wp2
  go_loopg [6, 7, 8, 16] order.length (fun n s6 s7 s8 s16 wr => ∃ (m : Nat) (hd : List Bool), n + m = order.length ∧ s6 = .bool true ∧ s16 = .int .i64 m ∧ wholeGo l.length order m = some hd ∧ wr.heap[w.heap.size]? = some (.cells (boolsC hd).toArray 4) ∧ Upd [] w wr)
  case atStart => exact ⟨0, List.replicate l.length false, by omega, rfl, rfl, rfl, heap_alloc_new _ _, (Upd.refl _ _).alloc _⟩
  case round =>
    obtain ⟨m, hd, hm, rfl, rfl, hgo, hhd, hu⟩ := hrel
    have HM := Lib.hid hm
    have HGO := Lib.hid hgo
    have HHD := Lib.hid hhd
    have HUW := Lib.hid hu
    have HLEN := Lib.hid (wholeGo_len m hgo)
    by_cases hlt : m < order.length
    · obtain ⟨ob, oo, rfl, hob, hoc⟩ := els_at HOE.out hlt
      have g : wr.cell? ⟨ob, oo + m, none⟩ = some (.int .i64 order[m]) := (hu.cell (p := ⟨ob, oo + m, none⟩) hob (by simp)).trans (by simpa using hoc 0 _ rfl)
      have hobr : ob < wr.heap.size := Nat.lt_of_lt_of_le hob hu.size
      have hsucc : wholeGo l.length order (m + 1) = if 0 ≤ order[m] ∧ order[m] < l.length then (if hd.getD order[m].toNat false then none else some (hd.set order[m].toNat true)) else none := by
        rw [wholeGo, hgo, List.getElem?_eq_getElem hlt]
      generalize order[m] = k at *
      have b1 : (0 : Int) ≤ (m : Int) := by omega
      have b2 : (m : Int) < (order.length : Int) := by omega
      have HW := Lib.hid (show wrap64 ((m : Int) + 1) = ((m + 1 : Nat) : Int) from wrap_next (by have := HL.out; omega) hlt)
      have HLT := Lib.hid hlt
      clear hoc hob hgo
      by_cases hr : 0 ≤ k ∧ k < l.length
      · rw [if_pos hr] at hsucc
        obtain ⟨kn, rfl⟩ : ∃ kn : Nat, k = kn := ⟨k.toNat, by omega⟩
        rw [Int.toNat_natCast] at hsucc
        have q : (decide (0 ≤ (kn : Int)) && decide ((kn : Int) < (l.length : Int))) = true := by simp; omega
        have k1 : (0 : Int) ≤ (kn : Int) := by omega
        have k2 : (kn : Int) < (l.length : Int) := by omega
        have HKN := Lib.hid (show kn < l.length from by omega)
        have hcell : wr.cell? ⟨w.heap.size, kn, none⟩ = some (.bool (hd.getD kn false)) := by
          refine cell_of_list hhd kn _ ?_
          unfold boolsC
          have := HLEN.out
          rw [List.getElem?_map, List.getD_eq_getElem?_getD, List.getElem?_eq_getElem (by omega)]
          rfl
        have hfz := frozen_of_heap hhd kn
        have hgl := heap_lt hhd
        clear hhd hr
        generalize hd.getD kn false = hb at *
        cases hb
        · have HSU := Lib.hid hsucc
          clear hsucc
          go_wp2_with (go_at_call 57; (with_reducible refine (HT.out _ _).mono ?_); rintro e w2 ⟨rfl, rfl⟩; rw [q])
          go_roundg (order.length - (m + 1))
          case rel =>
            refine ⟨m + 1, hd.set kn true, by have := HLT.out; omega, rfl, by first | (rw [HW.out]; done) | (simp; done), by rw [HSU.out]; simp, ?_, HUW.out.then ((Upd.refl [w.heap.size] _).setB (by simp)) (fun k hk => .inr (by simp at hk; omega))⟩
            have := heap_set (c := (boolsC hd).toArray) HHD.out kn (.bool true)
            rw [this]
            simp [boolsC]
          case measure => have := HLT.out; have := HM.out; omega
        · have HRES := Lib.hid (HRESF.out (m + 1) (by rw [hsucc]; simp) (by omega) hd)
          clear hsucc
          go_wp2_with (go_at_call 57; (with_reducible refine (HT.out _ _).mono ?_); rintro e w2 ⟨rfl, rfl⟩; rw [q])
          go_meet
          case rel => exact ⟨false, hd, rfl, HLEN.out, HHD.out, HUW.out, HRES.out⟩
      · rw [if_neg hr] at hsucc
        have q : (decide (0 ≤ k) && decide (k < (l.length : Int))) = false := by simp; omega
        have HRES := Lib.hid (HRESF.out (m + 1) hsucc (by omega) hd)
        clear hsucc hhd
        go_wp2_with (go_at_call 57; (with_reducible refine (HT.out _ _).mono ?_); rintro e w2 ⟨rfl, rfl⟩; rw [q])
        go_meet
        case rel => exact ⟨false, hd, rfl, HLEN.out, HHD.out, HUW.out, HRES.out⟩
    · obtain rfl : m = order.length := by omega
      have d : decide ((order.length : Int) < (order.length : Int)) = false := by simp
      have HRES := Lib.hid (HRESR.out hd hgo)
      clear hgo hhd
      go_wp2
      go_meet
      case rel => exact ⟨true, hd, rfl, HLEN.out, HHD.out, HUW.out, HRES.out⟩
end
end Go.Proofs.Ytdbgnnkbcebpcaa
