/- Package rule: what is wrong with a call of an object. -/
import Derived.Test.YtkjonflmokapcaaRF2
set_option linter.unusedVariables false
set_option linter.unusedSimpArgs false
namespace Go.Proofs.Ytkjonflmokapcaa
open Go.RowKit

def objP (c : CF) (ctx k ob : Int) (need : List Int) : Int :=
  if ob < 0 ∨ (c.os.length : Int) ≤ ob then 4
  else match c.os[ob.toNat]? with
    | none => 4
    | some o => if decide (o.k ∈ need) then (if (ownerP k o.f o.t).2 && ((ownerP k o.f o.t).1 != ctx) then 10 else 0) else 12
section
variable {ta la oa : Option Addr} {tc lc oc : Nat} {c : CF} {w : World} {ctx k ob v0 v1 v2 v3 n : Int}
set_option maxRecDepth 100000 in
set_option maxHeartbeats 4000000 in
theorem object_c (h : CFR w ta la oa c) (l : List Int) (nb : Nat) (hl : l.length ≤ 4) (hb : w.heap[nb]? = some (.cells (l.map (Value.int .i64)).toArray 3)) : Calls Try.prog 89 #[.agg (cfA ta c.ts.length tc la c.ls.length lc oa c.os.length oc c.tk), .int .i64 ctx, .agg (caA k ob v0 v1 v2 v3 n), .slice (some ⟨nb, 0, none⟩) l.length l.length] w fun e w' => e = .returned (.int .i64 (objP c ctx k ob l)) ∧ Upd [] w w' := by
  have bo := h.on
  have HB := Lib.hid hb
  have HN := Lib.hid hl
  by_cases hlow : ob < 0
  · have q : decide (ob < 0) = true := by simpa using hlow
    have HP := Lib.hid (show objP c ctx k ob l = 4 from if_pos (.inl hlow))
    unfold cfA caA
    clear h hb hlow hl
    go_enter Try.func89, Try.ntmps89
    go_wp2
    go_ret
    exact ⟨by rw [HP.out]; rfl, by repeat (first | exact Upd.refl _ _ | apply Upd.alloc)⟩
  · have q : decide (ob < 0) = false := by simpa using hlow
    by_cases hhigh : (c.os.length : Int) ≤ ob
    · have q2 : decide ((c.os.length : Int) ≤ ob) = true := by simpa using hhigh
      have HP := Lib.hid (show objP c ctx k ob l = 4 from if_pos (.inr hhigh))
      unfold cfA caA
      clear h hb hlow hhigh hl
      go_enter Try.func89, Try.ntmps89
      go_wp2
      go_ret
      exact ⟨by rw [HP.out]; rfl, by repeat (first | exact Upd.refl _ _ | apply Upd.alloc)⟩
    · obtain ⟨i, rfl⟩ := Int.eq_ofNat_of_zero_le (Int.not_lt.1 hlow)
      have hlt : i < c.os.length := by omega
      obtain ⟨tb, to, rfl, htb, hc⟩ := els_at h.o hlt
      have hP : objP c ctx k i l = if decide ((c.os[i]).k ∈ l) then (if (ownerP k (c.os[i]).f (c.os[i]).t).2 && ((ownerP k (c.os[i]).f (c.os[i]).t).1 != ctx) then 10 else 0) else 12 := by
        unfold objP
        rw [if_neg (by omega), Int.toNat_natCast, List.getElem?_eq_getElem hlt]
      have q2 : decide ((c.os.length : Int) ≤ (i : Int)) = false := by simp; omega
      have hi2 : (i : Int) < (c.os.length : Int) := by omega
      generalize c.os[i] = x at hc hP
      obtain ⟨k', cap, wd, rt, f, t, i0, i1, i2, i3⟩ := x
      have k0 := hc 0 _ rfl
      have k1 := hc 1 _ rfl
      have k2 := hc 2 _ rfl
      have k3 := hc 3 _ rfl
      have k4 := hc 4 _ rfl
      have k5 := hc 5 _ rfl
      have k6 := hc 6 _ rfl
      have k7 := hc 7 _ rfl
      have k8 := hc 8 _ rfl
      have k9 := hc 9 _ rfl
      rw [Nat.add_zero] at k0
      have HP := Lib.hid hP
      have HCT := Lib.hid (fun (w' : World) (hb' : w'.heap[nb]? = some (.cells (l.map (Value.int .i64)).toArray 3)) => contains_c k' l nb w' hb' hl)
      have HOW := Lib.hid fun w' => owner_c k k' cap wd rt f t i0 i1 i2 i3 w'
      simp only at hP HP
      generalize ownerP k f t = own at HOW HP
      obtain ⟨who, is⟩ := own
      clear h hb hlow hhigh hc hP hl
      unfold cfA caA
      unfold obA at HOW
      simp only at HOW HP
      by_cases hin : k' ∈ l
      · have hq : decide (k' ∈ l) = true := by simpa using hin
        rw [hq] at HP HCT
        cases is
        · go_enter Try.func89, Try.ntmps89
          go_wp2_with (first | (go_at_call 103; refine (HCT.out _ (heap_alloc' (heap_alloc' (heap_alloc' HB.out)))).mono ?_; rintro e w1 ⟨rfl, rfl⟩) | (go_at_call 104; refine (HOW.out _).mono ?_; rintro e w2 ⟨rfl, hu2⟩))
          go_ret
          exact ⟨by rw [HP.out]; rfl, ((((Upd.refl [] w).alloc _).alloc _).alloc _).trans hu2⟩
        · rcases hne : (who != ctx) with _ | _ <;>
          ( rw [hne] at HP
            go_enter Try.func89, Try.ntmps89
            go_wp2_with (first | (go_at_call 103; refine (HCT.out _ (heap_alloc' (heap_alloc' (heap_alloc' HB.out)))).mono ?_; rintro e w1 ⟨rfl, rfl⟩) | (go_at_call 104; refine (HOW.out _).mono ?_; rintro e w2 ⟨rfl, hu2⟩))
            go_ret
            exact ⟨by rw [HP.out]; rfl, ((((Upd.refl [] w).alloc _).alloc _).alloc _).trans hu2⟩)
      · have hq : decide (k' ∈ l) = false := by simpa using hin
        rw [hq] at HP HCT
        go_enter Try.func89, Try.ntmps89
        go_wp2_with (first | (go_at_call 103; refine (HCT.out _ (heap_alloc' (heap_alloc' (heap_alloc' HB.out)))).mono ?_; rintro e w1 ⟨rfl, rfl⟩))
        go_ret
        exact ⟨by rw [HP.out]; rfl, (((Upd.refl [] w).alloc _).alloc _).alloc _⟩
end
end Go.Proofs.Ytkjonflmokapcaa
