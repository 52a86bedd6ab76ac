/- The walk, part 29: LK7 BD5. -/
import Derived.Test.YtnnakiojfpnphaaZi28
import Derived.Test.YtnnakiojfpnphaaZi07
import Derived.Test.YtnnakiojfpnphaaZi06
import Derived.Test.YtnnakiojfpnphaaZi11
import Derived.Test.YtnnakiojfpnphaaZi17
import Derived.Test.YtnnakiojfpnphaaZi24
import Derived.Test.YtnnakiojfpnphaaZi13
set_option linter.unusedVariables false
set_option linter.unusedSimpArgs false

namespace Go.Proofs.Ytnnakiojfpnphaa
open Go.RowKit
def lvAt (s : LSt) (k : Int) : Int := if k = 0 then s.v0 else if k = 1 then s.v1 else if k = 2 then s.v2 else s.v3
def lkwAct (a wd : Int) (s : LSt) : Option (Int × Nat × Int) :=
  if s.on = true then (if s.n = 0 then some (1, a.toNat, 0) else if s.n = 1 then some (2, a.toNat, IntKind.u32.wrap (s.seq + 1)) else if s.n - 2 < wd then some (2, (a + 1 + (s.n - 2)).toNat, lvAt s (s.n - 2)) else some (2, a.toNat, IntKind.u32.wrap (s.seq + 2))) else none
def lkwTake (wd : Int) (s : LSt) (g : Int) : LSt := { s with seq := if s.n = 0 then bits .andNot .u32 g 1 else s.seq, n := s.n + 1, on := decide (s.n + 1 < wd + 3) }
def lkwAt (a wd rt : Int) (b : Nat) (s : LSt) (w : World) : Prop := (s.on = true → 0 ≤ s.n ∧ s.n ≤ wd + 2) ∧ s.is = true ∧ LG a wd rt w b 148 [] s
def lkRes (s : LSt) : Ans := ⟨s.f, s.r0, s.r1, s.r2, s.r3⟩
theorem lkw_act {a wd rt : Int} {w : World} {b : Nat} {s : LSt} {o x : Int} {c : Nat} (hw : 1 ≤ wd ∧ wd ≤ 4) (hrt : 0 ≤ rt ∧ rt ≤ 8) (ha : 0 ≤ a ∧ a < 1000000) (h : LG a wd rt w b 148 [] s) (hb : 0 ≤ s.n ∧ s.n ≤ wd + 2) (hon : s.on = true) (he : lkwAct a wd s = some (o, c, x)) :
    Calls Try.prog 118 #[.pointer (some ⟨b, 0, none⟩)] w fun e w' => e = .returned (.tuple #[.agg #[.int .i64 o, .int .i64 c, .int .u32 x], .bool true]) ∧ Upd [] w w' := by
  unfold lkwAct at he
  rw [if_pos hon] at he
  have ea : ((a.toNat : Nat) : Int) = a := Int.toNat_of_nonneg ha.1
  by_cases h0 : s.n = 0
  · rw [if_pos h0] at he; cases he; rw [ea]
    exact lkw_act0 a wd rt h hw hrt h0 hon
  rw [if_neg h0] at he
  by_cases h1 : s.n = 1
  · rw [if_pos h1] at he; cases he; rw [ea]
    exact lkw_act1 a wd rt h hw hrt ha h1 hon
  rw [if_neg h1] at he
  by_cases h2 : s.n - 2 < wd
  · rw [if_pos h2] at he; cases he
    rw [Int.toNat_of_nonneg (by omega)]
    have hc : s.n = 2 ∨ s.n = 3 ∨ s.n = 4 ∨ s.n = 5 := by omega
    rcases hc with e | e | e | e <;> rw [e]
    · have := lkw_actd0 a wd rt h hw hrt ha e hon ⟨by omega, by omega⟩
      simpa [lvAt] using this
    · have := lkw_actd1 a wd rt h hw hrt ha e hon ⟨by omega, by omega⟩
      simpa [lvAt] using this
    · have := lkw_actd2 a wd rt h hw hrt ha e hon ⟨by omega, by omega⟩
      simpa [lvAt] using this
    · have := lkw_actd3 a wd rt h hw hrt ha e hon ⟨by omega, by omega⟩
      simpa [lvAt] using this
  · rw [if_neg h2] at he; cases he; rw [ea]
    exact lkw_actl a wd rt h hw hrt ha (by omega) hon
theorem lkw_take {a wd rt : Int} {w : World} {b : Nat} {s : LSt} (g : Int) (hw : 1 ≤ wd ∧ wd ≤ 4) (h : LG a wd rt w b 148 [] s) (hb : 0 ≤ s.n ∧ s.n ≤ wd + 2) (hon : s.on = true) :
    Calls Try.prog 120 #[.pointer (some ⟨b, 0, none⟩), .int .u32 g] w fun e w' => e = .returned (.tuple #[]) ∧ LG a wd rt w' b 148 [] (lkwTake wd s g) ∧ Upd [b] w w' := by
  unfold lkwTake
  by_cases h0 : s.n = 0
  · have := lkw_take0 a wd rt g h hw h0 hon
    rw [if_pos h0, h0]
    exact this
  · have := lkw_takem a wd rt g s.n (by omega) h hw rfl hon
    rw [if_neg h0]
    exact this
theorem lkw_rou (a wd rt : Int) (b : Nat) (hw : 1 ≤ wd ∧ wd ≤ 4) (hrt : 0 ≤ rt ∧ rt ≤ 8) (ha : 0 ≤ a ∧ a < 1000000) : Rou 126 (.pointer (some ⟨b, 0, none⟩)) [b] (lkwAt a wd rt b) (lkwAct a wd) (lkwTake wd) lkRes 118 120 119 where
  mA := fun _ => by kernel_rfl
  mT := fun _ => by kernel_rfl
  mR := fun _ => by kernel_rfl
  cA := fun _ _ => by kernel_rfl
  cT := fun _ _ => by kernel_rfl
  cR := fun _ _ => by kernel_rfl
  keep := fun s w w' S' h hu hd => ⟨h.1, h.2.1, h.2.2.keep hu (fun hm => hd b hm (by simp))⟩
  lt := fun s w h k hk => by
    simp at hk
    subst hk
    exact heap_lt h.2.2.h
  more := fun s w o c x h he => by
    have hon : s.on = true := by
      unfold lkwAct at he
      split at he
      · assumption
      · cases he
    exact lkw_act hw hrt ha h.2.2 (h.1 hon) hon he
  noAct := fun s w h he => by
    have hon : s.on = false := by
      unfold lkwAct at he
      split at he
      · repeat (first | (split at he) | cases he)
      · simpa using ‹¬ s.on = true›
    exact lkw_done a wd rt h.2.2 hon
  took := fun s w o c x g h he => by
    have hon : s.on = true := by
      unfold lkwAct at he
      split at he
      · assumption
      · cases he
    refine (lkw_take g hw h.2.2 (h.1 hon) hon).mono fun e w' hh => ⟨hh.1, ⟨fun ho => ?_, h.2.1, hh.2.1⟩, hh.2.2⟩
    have := h.1 hon
    simp only [lkwTake, decide_eq_true_eq] at ho ⊢
    omega
  ans := fun s w h he => by
    have hon : s.on = false := by
      unfold lkwAct at he
      split at he
      · repeat (first | (split at he) | cases he)
      · simpa using ‹¬ s.on = true›
    exact lkw_result a wd rt h.2.2 hon h.2.1
structure LkR where
  s : LSt
  left : Int
  tries : Int
def lkrAct (a wd : Int) (x : LkR) : Option (Int × Nat × Int) :=
  if x.s.on = true then (if x.s.n = 0 ∨ wd < x.s.n then some (1, a.toNat, 0) else some (1, (a + 1 + (x.s.n - 1)).toNat, 0)) else none
def lkrFail (x : LkR) : LkR :=
  if x.left = 0 then ⟨{ x.s with n := 0, v0 := 0, v1 := 0, v2 := 0, v3 := 0, on := false, f := 8 }, 0, x.tries⟩
  else ⟨{ x.s with n := 0, v0 := 0, v1 := 0, v2 := 0, v3 := 0 }, wrap64 (x.left - 1), wrap64 (x.tries + 1)⟩
def lkrTake (wd : Int) (x : LkR) (g : Int) : LkR :=
  if x.s.n = 0 then (if (bits .and .u32 g 1 == 1) = true then lkrFail x else ⟨{ x.s with n := 1, seq := g }, x.left, x.tries⟩)
  else if x.s.n ≤ wd then ⟨{ x.s with n := x.s.n + 1, v0 := if x.s.n = 1 then g else x.s.v0, v1 := if x.s.n = 2 then g else x.s.v1, v2 := if x.s.n = 3 then g else x.s.v2, v3 := if x.s.n = 4 then g else x.s.v3 }, x.left, x.tries⟩
  else if g = x.s.seq then ⟨{ x.s with n := wd + 2, on := false, r0 := x.s.v0, r1 := x.s.v1, r2 := x.s.v2, r3 := x.s.v3 }, x.left, x.tries⟩
  else lkrFail x
def lkrLG (a wd rt : Int) (b : Nat) (x : LkR) (w : World) : Prop := LG a wd rt w b 150 [.int .i64 x.left, .int .i64 x.tries] x.s
def lkrAt (a wd rt : Int) (b : Nat) (x : LkR) (w : World) : Prop := (x.s.on = true → 0 ≤ x.s.n ∧ x.s.n ≤ wd + 1) ∧ x.s.is = true ∧ lkrLG a wd rt b x w
theorem lkr_act {a wd rt : Int} {w : World} {b : Nat} {s : LkR} {o x : Int} {c : Nat} (hw : 1 ≤ wd ∧ wd ≤ 4) (hrt : 0 ≤ rt ∧ rt ≤ 8) (ha : 0 ≤ a ∧ a < 1000000) (h : lkrLG a wd rt b s w) (hb : 0 ≤ s.s.n ∧ s.s.n ≤ wd + 1) (hon : s.s.on = true) (he : lkrAct a wd s = some (o, c, x)) :
    Calls Try.prog 124 #[.pointer (some ⟨b, 0, none⟩)] w fun e w' => e = .returned (.tuple #[.agg #[.int .i64 o, .int .i64 c, .int .u32 x], .bool true]) ∧ Upd [] w w' := by
  unfold lkrAct at he
  rw [if_pos hon] at he
  have ea : ((a.toNat : Nat) : Int) = a := Int.toNat_of_nonneg ha.1
  by_cases h0 : s.s.n = 0 ∨ wd < s.s.n
  · rw [if_pos h0] at he; cases he; rw [ea]
    rcases h0 with h0 | h0
    · exact lkr_act0 a wd rt h hw hrt ha h0 hon
    · exact lkr_actl a wd rt h hw hrt ha (by omega) hon
  · rw [if_neg h0] at he; cases he
    rw [Int.toNat_of_nonneg (by omega)]
    have hc : s.s.n = 1 ∨ s.s.n = 2 ∨ s.s.n = 3 ∨ s.s.n = 4 := by omega
    rcases hc with e | e | e | e <;> rw [e]
    · have := lkr_actd0 a wd rt h hw hrt ha e hon ⟨by omega, by omega⟩
      simpa using this
    · exact lkr_actd1 a wd rt h hw hrt ha e hon ⟨by omega, by omega⟩
    · exact lkr_actd2 a wd rt h hw hrt ha e hon ⟨by omega, by omega⟩
    · exact lkr_actd3 a wd rt h hw hrt ha e hon ⟨by omega, by omega⟩
theorem lkr_take {a wd rt : Int} {w : World} {b : Nat} {x : LkR} (g : Int) (hw : 1 ≤ wd ∧ wd ≤ 4) (h : lkrLG a wd rt b x w) (hb : 0 ≤ x.s.n ∧ x.s.n ≤ wd + 1) (hon : x.s.on = true) (his : x.s.is = true) :
    Calls Try.prog 126 #[.pointer (some ⟨b, 0, none⟩), .int .u32 g] w fun e w' => e = .returned (.tuple #[]) ∧ lkrLG a wd rt b (lkrTake wd x g) w' ∧ Upd [b] w w' := by
  obtain ⟨⟨n, seq, v0, v1, v2, v3, f, r0, r1, r2, r3, is, on⟩, left, tries⟩ := x
  simp only at hon his hb
  subst hon
  subst his
  unfold lkrLG at h ⊢
  simp only at h
  by_cases h0 : n = 0
  · subst h0
    rcases hg : (bits .and .u32 g 1 == 1) with _ | _
    · have e : lkrTake wd ⟨⟨0, seq, v0, v1, v2, v3, f, r0, r1, r2, r3, true, true⟩, left, tries⟩ g = ⟨⟨1, g, v0, v1, v2, v3, f, r0, r1, r2, r3, true, true⟩, left, tries⟩ := by simp [lkrTake, hg]
      rw [e]
      have hc : wd = 1 ∨ wd = 2 ∨ wd = 3 ∨ wd = 4 := by omega
      rcases hc with rfl | rfl | rfl | rfl
      · exact lkr_take_even_1 _ _ _ _ _ _ _ _ _ _ _ _ _ _ _ hg h
      · exact lkr_take_even_2 _ _ _ _ _ _ _ _ _ _ _ _ _ _ _ hg h
      · exact lkr_take_even_3 _ _ _ _ _ _ _ _ _ _ _ _ _ _ _ hg h
      · exact lkr_take_even_4 _ _ _ _ _ _ _ _ _ _ _ _ _ _ _ hg h
    · have e : lkrTake wd ⟨⟨0, seq, v0, v1, v2, v3, f, r0, r1, r2, r3, true, true⟩, left, tries⟩ g = lkrFail ⟨⟨0, seq, v0, v1, v2, v3, f, r0, r1, r2, r3, true, true⟩, left, tries⟩ := by simp [lkrTake, hg]
      rw [e]
      unfold lkrFail
      simp only
      by_cases hl : left = 0
      · subst hl
        exact lkr_take_odd0 _ _ _ _ _ _ _ _ _ _ _ _ _ _ _ _ hg rfl h
      · rw [if_neg hl]
        exact lkr_take_odd1 _ _ _ _ _ _ _ _ _ _ _ _ _ _ _ _ hg hl h
  · by_cases h1 : n ≤ wd
    · have e : lkrTake wd ⟨⟨n, seq, v0, v1, v2, v3, f, r0, r1, r2, r3, true, true⟩, left, tries⟩ g = ⟨⟨n + 1, seq, if n = 1 then g else v0, if n = 2 then g else v1, if n = 3 then g else v2, if n = 4 then g else v3, f, r0, r1, r2, r3, true, true⟩, left, tries⟩ := by simp [lkrTake, h0, h1]
      rw [e]
      have hc : (n = 1 ∧ wd = 1) ∨ (n = 1 ∧ wd = 2) ∨ (n = 1 ∧ wd = 3) ∨ (n = 1 ∧ wd = 4) ∨ (n = 2 ∧ wd = 2) ∨ (n = 2 ∧ wd = 3) ∨ (n = 2 ∧ wd = 4) ∨ (n = 3 ∧ wd = 3) ∨ (n = 3 ∧ wd = 4) ∨ (n = 4 ∧ wd = 4) := by omega
      rcases hc with ⟨rfl, rfl⟩ | ⟨rfl, rfl⟩ | ⟨rfl, rfl⟩ | ⟨rfl, rfl⟩ | ⟨rfl, rfl⟩ | ⟨rfl, rfl⟩ | ⟨rfl, rfl⟩ | ⟨rfl, rfl⟩ | ⟨rfl, rfl⟩ | ⟨rfl, rfl⟩
      · exact lkr_take_word0_1 _ _ _ _ _ _ _ _ _ _ _ _ _ _ _ h
      · exact lkr_take_word0_2 _ _ _ _ _ _ _ _ _ _ _ _ _ _ _ h
      · exact lkr_take_word0_3 _ _ _ _ _ _ _ _ _ _ _ _ _ _ _ h
      · exact lkr_take_word0_4 _ _ _ _ _ _ _ _ _ _ _ _ _ _ _ h
      · exact lkr_take_word1_2 _ _ _ _ _ _ _ _ _ _ _ _ _ _ _ h
      · exact lkr_take_word1_3 _ _ _ _ _ _ _ _ _ _ _ _ _ _ _ h
      · exact lkr_take_word1_4 _ _ _ _ _ _ _ _ _ _ _ _ _ _ _ h
      · exact lkr_take_word2_3 _ _ _ _ _ _ _ _ _ _ _ _ _ _ _ h
      · exact lkr_take_word2_4 _ _ _ _ _ _ _ _ _ _ _ _ _ _ _ h
      · exact lkr_take_word3_4 _ _ _ _ _ _ _ _ _ _ _ _ _ _ _ h
    · obtain rfl : n = wd + 1 := by omega
      by_cases hg : g = seq
      · have e : lkrTake wd ⟨⟨wd + 1, seq, v0, v1, v2, v3, f, r0, r1, r2, r3, true, true⟩, left, tries⟩ g = ⟨⟨wd + 2, seq, v0, v1, v2, v3, f, v0, v1, v2, v3, true, false⟩, left, tries⟩ := by simp [lkrTake, h0, h1, hg]
        rw [e]
        have hc : wd = 1 ∨ wd = 2 ∨ wd = 3 ∨ wd = 4 := by omega
        rcases hc with rfl | rfl | rfl | rfl
        · exact lkr_take_whole_1 _ _ _ _ _ _ _ _ _ _ _ _ _ _ _ hg h
        · exact lkr_take_whole_2 _ _ _ _ _ _ _ _ _ _ _ _ _ _ _ hg h
        · exact lkr_take_whole_3 _ _ _ _ _ _ _ _ _ _ _ _ _ _ _ hg h
        · exact lkr_take_whole_4 _ _ _ _ _ _ _ _ _ _ _ _ _ _ _ hg h
      · have e : lkrTake wd ⟨⟨wd + 1, seq, v0, v1, v2, v3, f, r0, r1, r2, r3, true, true⟩, left, tries⟩ g = lkrFail ⟨⟨wd + 1, seq, v0, v1, v2, v3, f, r0, r1, r2, r3, true, true⟩, left, tries⟩ := by simp [lkrTake, h0, h1, hg]
        rw [e]
        unfold lkrFail
        simp only
        have hc : wd = 1 ∨ wd = 2 ∨ wd = 3 ∨ wd = 4 := by omega
        by_cases hl : left = 0
        · subst hl
          rcases hc with rfl | rfl | rfl | rfl
          · exact lkr_take_other0_1 _ _ _ _ _ _ _ _ _ _ _ _ _ _ _ hg rfl h
          · exact lkr_take_other0_2 _ _ _ _ _ _ _ _ _ _ _ _ _ _ _ hg rfl h
          · exact lkr_take_other0_3 _ _ _ _ _ _ _ _ _ _ _ _ _ _ _ hg rfl h
          · exact lkr_take_other0_4 _ _ _ _ _ _ _ _ _ _ _ _ _ _ _ hg rfl h
        · rw [if_neg hl]
          rcases hc with rfl | rfl | rfl | rfl
          · exact lkr_take_other1_1 _ _ _ _ _ _ _ _ _ _ _ _ _ _ _ hg hl h
          · exact lkr_take_other1_2 _ _ _ _ _ _ _ _ _ _ _ _ _ _ _ hg hl h
          · exact lkr_take_other1_3 _ _ _ _ _ _ _ _ _ _ _ _ _ _ _ hg hl h
          · exact lkr_take_other1_4 _ _ _ _ _ _ _ _ _ _ _ _ _ _ _ hg hl h
theorem lkrFail_is (x : LkR) : (lkrFail x).s.is = x.s.is ∧ (lkrFail x).s.n = 0 := by unfold lkrFail; split <;> exact ⟨rfl, rfl⟩
theorem lkrTake_ok {wd : Int} {x : LkR} (g : Int) (hw : 1 ≤ wd) (hb : 0 ≤ x.s.n ∧ x.s.n ≤ wd + 1) : ((lkrTake wd x g).s.on = true → 0 ≤ (lkrTake wd x g).s.n ∧ (lkrTake wd x g).s.n ≤ wd + 1) ∧ (lkrTake wd x g).s.is = x.s.is := by
  unfold lkrTake
  have hf := lkrFail_is x
  split
  · split
    · exact ⟨fun _ => by rw [hf.2]; omega, hf.1⟩
    · exact ⟨fun _ => by simp only; omega, rfl⟩
  · split
    · exact ⟨fun _ => by simp only; omega, rfl⟩
    · split
      · exact ⟨fun h => (by cases h), rfl⟩
      · exact ⟨fun _ => by rw [hf.2]; omega, hf.1⟩
theorem lkr_rou (a wd rt : Int) (b : Nat) (hw : 1 ≤ wd ∧ wd ≤ 4) (hrt : 0 ≤ rt ∧ rt ≤ 8) (ha : 0 ≤ a ∧ a < 1000000) : Rou 128 (.pointer (some ⟨b, 0, none⟩)) [b] (lkrAt a wd rt b) (lkrAct a wd) (lkrTake wd) (fun x => lkRes x.s) 124 126 125 where
  mA := fun _ => by kernel_rfl
  mT := fun _ => by kernel_rfl
  mR := fun _ => by kernel_rfl
  cA := fun _ _ => by kernel_rfl
  cT := fun _ _ => by kernel_rfl
  cR := fun _ _ => by kernel_rfl
  keep := fun s w w' S' h hu hd => ⟨h.1, h.2.1, h.2.2.keep hu (fun hm => hd b hm (by simp))⟩
  lt := fun s w h k hk => by
    simp at hk
    subst hk
    exact heap_lt h.2.2.h
  more := fun s w o c x h he => by
    have hon : s.s.on = true := by
      unfold lkrAct at he
      split at he
      · assumption
      · cases he
    exact lkr_act hw hrt ha h.2.2 (h.1 hon) hon he
  noAct := fun s w h he => by
    have hon : s.s.on = false := by
      unfold lkrAct at he
      split at he
      · repeat (first | (split at he) | cases he)
      · simpa using ‹¬ s.s.on = true›
    exact lkr_done a wd rt h.2.2 hon
  took := fun s w o c x g h he => by
    have hon : s.s.on = true := by
      unfold lkrAct at he
      split at he
      · assumption
      · cases he
    have hk := lkrTake_ok g hw.1 (h.1 hon)
    exact (lkr_take g hw h.2.2 (h.1 hon) hon h.2.1).mono fun e w' hh => ⟨hh.1, ⟨hk.1, hk.2.trans h.2.1, hh.2.1⟩, hh.2.2⟩
  ans := fun s w h he => by
    have hon : s.s.on = false := by
      unfold lkrAct at he
      split at he
      · repeat (first | (split at he) | cases he)
      · simpa using ‹¬ s.s.on = true›
    exact lkr_result a wd rt h.2.2 hon h.2.1
end Go.Proofs.Ytnnakiojfpnphaa
namespace Go.Proofs.Ytnnakiojfpnphaa
open Go.RowKit
/-- What is read for the bound to be reached. -/
def feed (kind wd : Int) (n : Nat) : Int := if kind = 2 ∧ n = 1 then 1 else if kind = 6 ∧ (n : Int) % (wd + 2) = wd + 1 then 2 else 0
/-- A routine that takes at most so many acts, whatever is read; and that many, at a certain reading. -/
def BR (kind wd most : Int) (base : Nat) (T : TypeId) (v : Value) (W : World) : Prop :=
  ∃ (σ : Type) (S : List Nat) (At : σ → World → Prop) (act : σ → Option (Int × Nat × Int)) (take : σ → Int → σ) (res : σ → Ans) (fA fT fR : Nat) (s0 : σ),
    Rou T v S At act take res fA fT fR ∧ At s0 W ∧ (∀ q ∈ S, base ≤ q) ∧
    (∃ inv : σ → Nat → Prop, inv s0 0 ∧ (∀ s n, inv s n → (act s).isSome = true → (n : Int) < most ∧ ∀ g, inv (take s g) (n + 1)) ∧ (∀ s n, inv s n → act s = none → (n : Int) ≤ most ∧ (0 < most ∨ (res s).f ≠ 0))) ∧
    (∃ inv : σ → Nat → Prop, inv s0 0 ∧ (∀ s n, inv s n → (act s).isSome = true → (n : Int) < most ∧ inv (take s (feed kind wd n)) (n + 1)) ∧ (∀ s n, inv s n → act s = none → (n : Int) = most))
theorem BR.mono {kind wd most : Int} {base base' : Nat} {T : TypeId} {v : Value} {W : World} (h : BR kind wd most base T v W) (hb : base' ≤ base) : BR kind wd most base' T v W := by
  obtain ⟨σ, S, At, act, take, res, fA, fT, fR, s0, h1, h2, h3, h4⟩ := h
  exact ⟨σ, S, At, act, take, res, fA, fT, fR, s0, h1, h2, fun q hq => Nat.le_trans hb (h3 q hq), h4⟩
theorem BR.keep {kind wd most : Int} {base : Nat} {T : TypeId} {v : Value} {W W' : World} (h : BR kind wd most base T v W) {S' : List Nat} (hu : Upd S' W W') (hS : ∀ q, q ∈ S' → q < base ∨ W.heap.size ≤ q) : BR kind wd most base T v W' := by
  obtain ⟨σ, S, At, act, take, res, fA, fT, fR, s0, h1, h2, h3, h4⟩ := h
  exact ⟨σ, S, At, act, take, res, fA, fT, fR, s0, h1, h1.keep _ _ _ _ h2 hu (fun k hk hk' => by
    have := h1.lt _ _ h2 k hk'
    rcases hS k hk with h5 | h5
    · have := h3 k hk'; omega
    · omega), h3, h4⟩
theorem br_told (kind wd f : Int) (hf : f ≠ 0) (base : Nat) (W : World) : BR kind wd 0 base 101 (.agg #[.int .i64 f]) W :=
  ⟨Unit, [], _, _, _, _, _, _, _, (), told_rou f, trivial, fun _ h => (by cases h),
    ⟨fun _ n => n = 0, rfl, fun _ _ _ h => (by cases h), fun _ n h _ => ⟨by omega, .inr hf⟩⟩,
    ⟨fun _ n => n = 0, rfl, fun _ _ _ h => (by cases h), fun _ n h _ => (by omega)⟩⟩
/-! ring -/
theorem pu_some {cap wd : Int} {s : RgS} (h : (puAct cap wd s).isSome = true) : s.on = true := by
  unfold puAct at h
  split at h
  · assumption
  · cases h
theorem pu_none {cap wd : Int} {s : RgS} (h : puAct cap wd s = none) : s.on = false := by
  unfold puAct at h
  split at h
  · repeat (first | (split at h) | cases h)
  · simpa using ‹¬ s.on = true›
theorem po_some {cap wd : Int} {s : RgS} (h : (poAct cap wd s).isSome = true) : s.on = true := by
  unfold poAct at h
  split at h
  · assumption
  · cases h
theorem po_none' {cap wd : Int} {s : RgS} (h : poAct cap wd s = none) : s.on = false := by
  unfold poAct at h
  split at h
  · repeat (first | (split at h) | cases h)
  · simpa using ‹¬ s.on = true›
theorem br_push {cap wd : Int} {b : Nat} {W : World} {s0 : RgS} (hc : Cap5 cap) (hw : 1 ≤ wd ∧ wd ≤ 4) (h : RG cap wd W b 142 s0) (hn : s0.n = 0) (hon : s0.on = true) : BR 1 wd (wd + 3) b 122 (.pointer (some ⟨b, 0, none⟩)) W := by
  refine ⟨RgS, [b], _, _, _, _, _, _, _, s0, pu_rou b hc hw.1 hw.2, ⟨fun _ => (by omega), h⟩, fun q hq => (by simp at hq; omega),
    ⟨fun s n => (s.on = true → s.n = n ∧ (n : Int) ≤ wd + 2) ∧ (n : Int) ≤ wd + 3, ⟨fun _ => (by omega), by omega⟩, fun s n hi ha => ?_, fun s n hi ha => ⟨hi.2, .inl (by omega)⟩⟩,
    ⟨fun s n => (s.on = true → s.n = n ∧ (n : Int) ≤ wd + 2 ∧ (1 ≤ n → s.a = 0) ∧ (2 ≤ n → s.b = 0)) ∧ (s.on = false → (n : Int) = wd + 3), ⟨fun _ => (by omega), fun h => by rw [hon] at h; cases h⟩, fun s n hi ha => ?_, fun s n hi ha => hi.2 (pu_none ha)⟩⟩
  · have hs := hi.1 (pu_some ha)
    refine ⟨by omega, fun g => ?_⟩
    have hsn : (noteS s g).n = s.n + 1 := rfl
    unfold puTake
    split
    · exact ⟨fun h => (by cases h), by omega⟩
    · split
      · exact ⟨fun h => (by cases h), by omega⟩
      · exact ⟨fun _ => (by omega), by omega⟩
  · have hs := hi.1 (pu_some ha)
    have hon' := pu_some ha
    refine ⟨by omega, ?_⟩
    have hf : feed 1 wd n = 0 := by unfold feed; rw [if_neg (by omega), if_neg (by omega)]
    rw [hf]
    have hsn : (noteS s 0).n = s.n + 1 := rfl
    have hsa : (noteS s 0).a = if s.n = 0 then 0 else s.a := rfl
    have hsb : (noteS s 0).b = if s.n = 1 then 0 else s.b := rfl
    have hso : (noteS s 0).on = s.on := rfl
    unfold puTake
    split
    · rename_i hfull
      exfalso
      have h1 : s.n = 1 := by omega
      rw [hsa, hsb, if_neg (by omega), if_pos h1, hs.2.2.1 (by omega)] at hfull
      have : IntKind.u32.wrap ((0 : Int) - 0) = 0 := by decide
      rw [this] at hfull
      have := hc.le
      omega
    · split
      · exact ⟨fun h => (by cases h), fun _ => by omega⟩
      · refine ⟨fun _ => ⟨by omega, by omega, fun _ => ?_, fun h2 => ?_⟩, fun h => by rw [hso, hon'] at h; cases h⟩
        · rw [hsa]; split
          · rfl
          · exact hs.2.2.1 (by omega)
        · rw [hsb]; split
          · rfl
          · exact hs.2.2.2 (by omega)
theorem putR_keep (wd : Int) (s : RgS) (g : Int) : (putR wd s g).n = s.n ∧ (putR wd s g).a = s.a ∧ (putR wd s g).b = s.b ∧ (putR wd s g).on = s.on := by
  unfold putR
  split
  · split
    · exact ⟨rfl, rfl, rfl, rfl⟩
    · split
      · exact ⟨rfl, rfl, rfl, rfl⟩
      · split <;> exact ⟨rfl, rfl, rfl, rfl⟩
  · exact ⟨rfl, rfl, rfl, rfl⟩
theorem br_pop {cap wd : Int} {b : Nat} {W : World} {s0 : RgS} (hc : Cap5 cap) (hw : 1 ≤ wd ∧ wd ≤ 4) (h : RG cap wd W b 143 s0) (hn : s0.n = 0) (hon : s0.on = true) : BR 2 wd (wd + 3) b 124 (.pointer (some ⟨b, 0, none⟩)) W := by
  refine ⟨RgS, [b], _, _, _, _, _, _, _, s0, po_rou b hc hw.1 hw.2, ⟨fun _ => (by omega), h⟩, fun q hq => (by simp at hq; omega),
    ⟨fun s n => (s.on = true → s.n = n ∧ (n : Int) ≤ wd + 2) ∧ (n : Int) ≤ wd + 3, ⟨fun _ => (by omega), by omega⟩, fun s n hi ha => ?_, fun s n hi ha => ⟨hi.2, .inl (by omega)⟩⟩,
    ⟨fun s n => (s.on = true → s.n = n ∧ (n : Int) ≤ wd + 2 ∧ (1 ≤ n → s.a = 0) ∧ (2 ≤ n → s.b = 1)) ∧ (s.on = false → (n : Int) = wd + 3), ⟨fun _ => (by omega), fun h => by rw [hon] at h; cases h⟩, fun s n hi ha => ?_, fun s n hi ha => hi.2 (po_none' ha)⟩⟩
  · have hs := hi.1 (po_some ha)
    refine ⟨by omega, fun g => ?_⟩
    obtain ⟨k1, k2, k3, k4⟩ := putR_keep wd s g
    have hsn : (noteS (putR wd s g) g).n = (putR wd s g).n + 1 := rfl
    rw [k1] at hsn
    unfold poTake
    split
    · exact ⟨fun h => (by cases h), by omega⟩
    · split
      · exact ⟨fun h => (by cases h), by omega⟩
      · exact ⟨fun _ => (by omega), by omega⟩
  · have hs := hi.1 (po_some ha)
    have hon' := po_some ha
    refine ⟨by omega, ?_⟩
    obtain ⟨q, hq⟩ : ∃ q, feed 2 wd n = q := ⟨_, rfl⟩
    have hf : (n = 1 → q = 1) ∧ (n ≠ 1 → q = 0) := by
      rw [← hq]
      unfold feed
      exact ⟨fun h => by rw [if_pos ⟨rfl, h⟩], fun h => by rw [if_neg (by omega), if_neg (by omega)]⟩
    rw [hq]
    obtain ⟨k1, k2, k3, k4⟩ := putR_keep wd s q
    have hsn : (noteS (putR wd s q) q).n = (putR wd s q).n + 1 := rfl
    have hsa : (noteS (putR wd s q) q).a = if (putR wd s q).n = 0 then q else (putR wd s q).a := rfl
    have hsb : (noteS (putR wd s q) q).b = if (putR wd s q).n = 1 then q else (putR wd s q).b := rfl
    have hso : (noteS (putR wd s q) q).on = (putR wd s q).on := rfl
    rw [k1] at hsn hsa hsb
    rw [k2] at hsa
    rw [k3] at hsb
    rw [k4] at hso
    unfold poTake
    split
    · rename_i hfull
      exfalso
      have h1 : s.n = 1 := by omega
      rw [hsa, hsb, if_neg (by omega), if_pos h1, hs.2.2.1 (by omega), hf.1 (by omega)] at hfull
      omega
    · split
      · exact ⟨fun h => (by cases h), fun _ => by omega⟩
      · refine ⟨fun _ => ⟨by omega, by omega, fun _ => ?_, fun h2 => ?_⟩, fun h => by rw [hso, hon'] at h; cases h⟩
        · rw [hsa]; split
          · exact hf.2 (by omega)
          · exact hs.2.2.1 (by omega)
        · rw [hsb]; split
          · exact hf.1 (by omega)
          · exact hs.2.2.2 (by omega)
/-! four -/
theorem rTake_n (r : RdS) (g : Int) : (rTake r g).n = r.n + 1 := by
  unfold rTake
  split
  · simp only; omega
  · split
    · simp only; omega
    · split
      · simp only; omega
      · rfl
theorem wTake_n (r : WrS) (g : Int) : (wTake r g).n = r.n + 1 := by
  unfold wTake
  split
  · simp only; omega
  · split
    · simp only; omega
    · rfl
theorem br_fr {wd b : Nat} {W : World} (hw : 1 ≤ wd ∧ wd ≤ 4) (h : FG 0 wd W b 84 (f0 0 0 0 0)) : BR 4 wd ((wd : Int) + 3) b 38 (.pointer (some ⟨b, 0, none⟩)) W := by
  have e : rdF wd ⟨0, 0, 0, fun _ => 0⟩ = f0 0 0 0 0 := by
    unfold rdF f0
    have : decide (((0 : Nat) : Int) < (wd : Int) + 3) = true := by simp; omega
    rw [this]
    rfl
  have hs : ∀ s : RdS, (rActO wd s).isSome = true → s.n < wd + 3 := fun s ha => by
    unfold rActO at ha
    split at ha
    · assumption
    · cases ha
  have hno : ∀ s : RdS, rActO wd s = none → ¬ s.n < wd + 3 := fun s ha => by
    unfold rActO at ha
    split at ha
    · cases ha
    · assumption
  refine ⟨RdS, [b], _, _, _, _, _, _, _, ⟨0, 0, 0, fun _ => 0⟩, fr_rou wd b hw, ⟨by rw [e]; exact h, by simp, by simp, by simp⟩, fun q hq => (by simp at hq; omega),
    ⟨fun s n => s.n = n ∧ n ≤ wd + 3, ⟨rfl, by omega⟩, fun s n hi ha => ?_, fun s n hi ha => ⟨by omega, .inl (by omega)⟩⟩,
    ⟨fun s n => s.n = n ∧ n ≤ wd + 3, ⟨rfl, by omega⟩, fun s n hi ha => ?_, fun s n hi ha => by have := hno s ha; omega⟩⟩
  · have := hs s ha
    exact ⟨by omega, fun g => ⟨by rw [rTake_n]; omega, by omega⟩⟩
  · have := hs s ha
    exact ⟨by omega, by rw [rTake_n]; omega, by omega⟩
theorem br_fw {wd b : Nat} {W : World} {x0 x1 x2 x3 : Int} (hw : 1 ≤ wd ∧ wd ≤ 4) (h : FG 0 wd W b 95 (f0 x0 x1 x2 x3)) : BR 3 wd ((wd : Int) + 4) b 37 (.pointer (some ⟨b, 0, none⟩)) W := by
  have e : wrF wd ⟨0, 0, 0, fun k => if k = 0 then x0 else if k = 1 then x1 else if k = 2 then x2 else x3⟩ = f0 x0 x1 x2 x3 := by
    unfold wrF f0
    have : decide (((0 : Nat) : Int) < (wd : Int) + 4) = true := by simp; omega
    rw [this]
    rfl
  have hs : ∀ s : WrS, (wActO wd s).isSome = true → s.n < wd + 4 := fun s ha => by
    unfold wActO at ha
    split at ha
    · assumption
    · cases ha
  have hno : ∀ s : WrS, wActO wd s = none → ¬ s.n < wd + 4 := fun s ha => by
    unfold wActO at ha
    split at ha
    · cases ha
    · assumption
  refine ⟨WrS, [b], _, _, _, _, _, _, _, ⟨0, 0, 0, fun k => if k = 0 then x0 else if k = 1 then x1 else if k = 2 then x2 else x3⟩, fw_rou wd b hw, ⟨by rw [e]; exact h, by simp, by simp, by simp⟩, fun q hq => (by simp at hq; omega),
    ⟨fun s n => s.n = n ∧ n ≤ wd + 4, ⟨rfl, by omega⟩, fun s n hi ha => ?_, fun s n hi ha => ⟨by omega, .inl (by omega)⟩⟩,
    ⟨fun s n => s.n = n ∧ n ≤ wd + 4, ⟨rfl, by omega⟩, fun s n hi ha => ?_, fun s n hi ha => by have := hno s ha; omega⟩⟩
  · have := hs s ha
    exact ⟨by omega, fun g => ⟨by rw [wTake_n]; omega, by omega⟩⟩
  · have := hs s ha
    exact ⟨by omega, by rw [wTake_n]; omega, by omega⟩
/-! lock -/
theorem lkw_some {a wd : Int} {s : LSt} (h : (lkwAct a wd s).isSome = true) : s.on = true := by
  unfold lkwAct at h
  split at h
  · assumption
  · cases h
theorem lkw_none {a wd : Int} {s : LSt} (h : lkwAct a wd s = none) : s.on = false := by
  unfold lkwAct at h
  split at h
  · repeat (first | (split at h) | cases h)
  · simpa using ‹¬ s.on = true›
theorem br_lw {a wd rt : Int} {b : Nat} {W : World} {x0 x1 x2 x3 : Int} (ha : 0 ≤ a ∧ a < 1000000) (hw : 1 ≤ wd ∧ wd ≤ 4) (hrt : 0 ≤ rt ∧ rt ≤ 8) (h : LG a wd rt W b 148 [] (l0 x0 x1 x2 x3)) : BR 3 wd (wd + 3) b 126 (.pointer (some ⟨b, 0, none⟩)) W := by
  have key : ∀ (s : LSt) (n : Nat) (g : Int), (s.n = n ∧ s.on = decide ((n : Int) < wd + 3) ∧ (n : Int) ≤ wd + 3) → s.on = true → ((n : Int) < wd + 3 ∧ ((lkwTake wd s g).n = (n + 1 : Nat) ∧ (lkwTake wd s g).on = decide (((n + 1 : Nat) : Int) < wd + 3) ∧ ((n + 1 : Nat) : Int) ≤ wd + 3)) := fun s n g hi ho => by
    have h1 : (n : Int) < wd + 3 := by rw [hi.2.1] at ho; simpa using ho
    refine ⟨h1, ?_, ?_, by omega⟩
    · show s.n + 1 = _; omega
    · show decide (s.n + 1 < wd + 3) = _
      rw [hi.1]
      congr 1
  have hoff : ∀ (s : LSt) (n : Nat), (s.n = n ∧ s.on = decide ((n : Int) < wd + 3) ∧ (n : Int) ≤ wd + 3) → s.on = false → (n : Int) = wd + 3 := fun s n hi ho => by
    have h1 : ¬ (n : Int) < wd + 3 := by rw [hi.2.1] at ho; simpa using ho
    omega
  refine ⟨LSt, [b], _, _, _, _, _, _, _, l0 x0 x1 x2 x3, lkw_rou a wd rt b hw hrt ha, ⟨fun _ => ⟨by show (0 : Int) ≤ 0; omega, by show (0 : Int) ≤ wd + 2; omega⟩, rfl, h⟩, fun q hq => (by simp at hq; omega),
    ⟨fun s n => s.n = n ∧ s.on = decide ((n : Int) < wd + 3) ∧ (n : Int) ≤ wd + 3, ⟨rfl, by show true = _; symm; simp; omega, by omega⟩, fun s n hi hx => ⟨(key s n 0 hi (lkw_some hx)).1, fun g => (key s n g hi (lkw_some hx)).2⟩, fun s n hi hx => ⟨hi.2.2, .inl (by omega)⟩⟩,
    ⟨fun s n => s.n = n ∧ s.on = decide ((n : Int) < wd + 3) ∧ (n : Int) ≤ wd + 3, ⟨rfl, by show true = _; symm; simp; omega, by omega⟩, fun s n hi hx => key s n _ hi (lkw_some hx), fun s n hi hx => hoff s n hi (lkw_none hx)⟩⟩
theorem lkr_some {a wd : Int} {s : LkR} (h : (lkrAct a wd s).isSome = true) : s.s.on = true := by
  unfold lkrAct at h
  split at h
  · assumption
  · cases h
theorem lkr_none {a wd : Int} {s : LkR} (h : lkrAct a wd s = none) : s.s.on = false := by
  unfold lkrAct at h
  split at h
  · repeat (first | (split at h) | cases h)
  · simpa using ‹¬ s.s.on = true›
/-- A read, by how many tries are left and how far this one is. -/
def lkrI (A wd : Int) (x : LkR) (n : Nat) : Prop := (n : Int) ≤ (A + 1) * (wd + 2) ∧ (x.s.on = true → 0 ≤ x.left ∧ x.left ≤ A ∧ 0 ≤ x.s.n ∧ x.s.n ≤ wd + 1 ∧ (n : Int) ≤ (A - x.left) * (wd + 2) + x.s.n)
def lkrM (A wd : Int) (x : LkR) (n : Nat) : Prop := (x.s.on = false → (n : Int) = (A + 1) * (wd + 2)) ∧ (x.s.on = true → 0 ≤ x.left ∧ x.left ≤ A ∧ 0 ≤ x.s.n ∧ x.s.n ≤ wd + 1 ∧ (n : Int) = (A - x.left) * (wd + 2) + x.s.n ∧ (1 ≤ x.s.n → x.s.seq = 0))
theorem lkrFail_I {A wd : Int} {x : LkR} {n : Nat} (hA : 0 ≤ A ∧ A ≤ 8) (hw : 1 ≤ wd ∧ wd ≤ 4) (h : lkrI A wd x n) (ho : x.s.on = true) : lkrI A wd (lkrFail x) (n + 1) := by
  obtain ⟨h1, h2⟩ := h
  obtain ⟨g1, g2, g3, g4, g5⟩ := h2 ho
  unfold lkrFail lkrI
  have hc : wd = 1 ∨ wd = 2 ∨ wd = 3 ∨ wd = 4 := by omega
  have hwr : wrap64 (x.left - 1) = x.left - 1 := by unfold wrap64; omega
  by_cases hl : x.left = 0
  · rw [if_pos hl]
    refine ⟨?_, fun h => (by cases h)⟩
    rcases hc with rfl | rfl | rfl | rfl <;> push_cast <;> omega
  · rw [if_neg hl]
    simp only [hwr]
    refine ⟨?_, fun _ => ⟨by omega, by omega, by omega, by omega, ?_⟩⟩
    · rcases hc with rfl | rfl | rfl | rfl <;> push_cast <;> omega
    · rcases hc with rfl | rfl | rfl | rfl <;> push_cast <;> omega
theorem lkr_I {A wd : Int} {x : LkR} {n : Nat} (g : Int) (hA : 0 ≤ A ∧ A ≤ 8) (hw : 1 ≤ wd ∧ wd ≤ 4) (h : lkrI A wd x n) (ho : x.s.on = true) : (n : Int) < (A + 1) * (wd + 2) ∧ lkrI A wd (lkrTake wd x g) (n + 1) := by
  have h' := h
  obtain ⟨h1, h2⟩ := h
  obtain ⟨g1, g2, g3, g4, g5⟩ := h2 ho
  have hc : wd = 1 ∨ wd = 2 ∨ wd = 3 ∨ wd = 4 := by omega
  refine ⟨by rcases hc with rfl | rfl | rfl | rfl <;> omega, ?_⟩
  unfold lkrTake
  split
  · split
    · exact lkrFail_I hA hw h' ho
    · refine ⟨?_, fun _ => ⟨g1, g2, by simp only; omega, by simp only; omega, ?_⟩⟩
      · rcases hc with rfl | rfl | rfl | rfl <;> push_cast <;> omega
      · simp only; push_cast; omega
  · split
    · refine ⟨?_, fun _ => ⟨g1, g2, by simp only; omega, by simp only; omega, ?_⟩⟩
      · rcases hc with rfl | rfl | rfl | rfl <;> push_cast <;> omega
      · simp only; push_cast; omega
    · split
      · refine ⟨?_, fun h => (by cases h)⟩
        rcases hc with rfl | rfl | rfl | rfl <;> push_cast <;> omega
      · exact lkrFail_I hA hw h' ho
theorem feed_even (kind wd : Int) (n : Nat) (h : kind ≠ 2) (h2 : kind = 6 → (n : Int) % (wd + 2) ≠ wd + 1) : feed kind wd n = 0 := by
  unfold feed
  rw [if_neg (fun h3 => h h3.1), if_neg (fun h3 => h2 h3.1 h3.2)]
theorem mod_try {m wd k n : Int} (hw : 1 ≤ wd ∧ wd ≤ 4) (hm : 0 ≤ m) (hk : 0 ≤ k ∧ k ≤ wd + 1) (h : n = m * (wd + 2) + k) : n % (wd + 2) = k := by
  rw [h, Int.add_comm, Int.add_mul_emod_self_right]
  exact Int.emod_eq_of_lt hk.1 (by omega)
theorem lkr_M {A wd kind : Int} {x : LkR} {n : Nat} (hA : 0 ≤ A ∧ A ≤ 8) (hw : 1 ≤ wd ∧ wd ≤ 4) (hk : kind = 5 ∧ A = 0 ∨ kind = 6) (h : lkrM A wd x n) (ho : x.s.on = true) : (n : Int) < (A + 1) * (wd + 2) ∧ lkrM A wd (lkrTake wd x (feed kind wd n)) (n + 1) := by
  obtain ⟨-, h2⟩ := h
  obtain ⟨g1, g2, g3, g4, g5, g6⟩ := h2 ho
  have hc : wd = 1 ∨ wd = 2 ∨ wd = 3 ∨ wd = 4 := by omega
  refine ⟨by rcases hc with rfl | rfl | rfl | rfl <;> omega, ?_⟩
  have hmod := mod_try hw (by omega) ⟨g3, g4⟩ g5
  unfold lkrTake
  by_cases hn0 : x.s.n = 0
  · have hf : feed kind wd n = 0 := feed_even kind wd n (by omega) (fun _ => by rw [hmod]; omega)
    rw [hf, if_pos hn0, if_neg (by decide)]
    exact ⟨fun h => (by rw [show (LSt.on _) = x.s.on from rfl, ho] at h; cases h), fun _ => ⟨g1, g2, by simp only; omega, by simp only; omega, by simp only; push_cast; omega, fun _ => rfl⟩⟩
  · rw [if_neg hn0]
    by_cases hn1 : x.s.n ≤ wd
    · rw [if_pos hn1]
      exact ⟨fun h => (by rw [show (LSt.on _) = x.s.on from rfl, ho] at h; cases h), fun _ => ⟨g1, g2, by simp only; omega, by simp only; omega, by simp only; push_cast; omega, fun _ => g6 (by omega)⟩⟩
    · rw [if_neg hn1]
      have hlast : x.s.n = wd + 1 := by omega
      rcases hk with ⟨h5, hA0⟩ | h6
      · have hf : feed kind wd n = 0 := feed_even kind wd n (by omega) (fun h => by omega)
        rw [hf, if_pos (g6 (by omega)).symm]
        refine ⟨fun _ => ?_, fun h => (by cases h)⟩
        subst hA0
        have : x.left = 0 := by omega
        rw [this] at g5
        rcases hc with rfl | rfl | rfl | rfl <;> push_cast <;> omega
      · have hf : feed kind wd n = 2 := by
          unfold feed
          rw [if_neg (by omega), if_pos ⟨h6, by rw [hmod, hlast]⟩]
        have hs0 := g6 (by omega)
        rw [hf, if_neg (by rw [hs0]; decide)]
        unfold lkrFail
        have hwr : wrap64 (x.left - 1) = x.left - 1 := by unfold wrap64; omega
        by_cases hl : x.left = 0
        · rw [if_pos hl]
          refine ⟨fun _ => ?_, fun h => (by cases h)⟩
          rw [hl] at g5
          rcases hc with rfl | rfl | rfl | rfl <;> push_cast <;> omega
        · rw [if_neg hl]
          unfold lkrM
          simp only [hwr]
          refine ⟨fun h => (by rw [ho] at h; cases h), fun _ => ⟨by omega, by omega, by omega, by omega, ?_, fun h => (by omega)⟩⟩
          rcases hc with rfl | rfl | rfl | rfl <;> push_cast <;> omega
theorem br_lr {a wd rt A kind : Int} {b : Nat} {W : World} (ha : 0 ≤ a ∧ a < 1000000) (hw : 1 ≤ wd ∧ wd ≤ 4) (hrt : 0 ≤ rt ∧ rt ≤ 8) (hA : 0 ≤ A ∧ A ≤ 8) (hk : kind = 5 ∧ A = 0 ∨ kind = 6) (h : LG a wd rt W b 150 [.int .i64 A, .int .i64 1] (l0 0 0 0 0)) : BR kind wd ((A + 1) * (wd + 2)) b 128 (.pointer (some ⟨b, 0, none⟩)) W := by
  have hp : 0 < (A + 1) * (wd + 2) := Int.mul_pos (by omega) (by omega)
  refine ⟨LkR, [b], _, _, _, _, _, _, _, ⟨l0 0 0 0 0, A, 1⟩, lkr_rou a wd rt b hw hrt ha, ⟨fun _ => ⟨by show (0 : Int) ≤ 0; omega, by show (0 : Int) ≤ wd + 1; omega⟩, rfl, h⟩, fun q hq => (by simp at hq; omega),
    ⟨lkrI A wd, ⟨by push_cast; omega, fun _ => ⟨hA.1, Int.le_refl _, by show (0 : Int) ≤ 0; omega, by show (0 : Int) ≤ wd + 1; omega, by show ((0 : Nat) : Int) ≤ (A - A) * (wd + 2) + 0; simp⟩⟩, fun s n hi hx => ⟨(lkr_I 0 hA hw hi (lkr_some hx)).1, fun g => (lkr_I g hA hw hi (lkr_some hx)).2⟩, fun s n hi hx => ⟨hi.1, .inl hp⟩⟩,
    ⟨lkrM A wd, ⟨fun h => (by cases h), fun _ => ⟨hA.1, Int.le_refl _, by show (0 : Int) ≤ 0; omega, by show (0 : Int) ≤ wd + 1; omega, by show ((0 : Nat) : Int) = (A - A) * (wd + 2) + 0; simp, fun _ => rfl⟩⟩, fun s n hi hx => lkr_M hA hw hk hi (lkr_some hx), fun s n hi hx => hi.1 (lkr_none hx)⟩⟩
/-! flags -/
theorem br_fl {kind mask wd k : Int} {b : Nat} {W : World} (hk1 : 1 ≤ kind) (hk5 : kind ≤ 5) (h : FlagAt W b 0 kind mask 0 0 true) : BR k wd 1 b 130 (.pointer (some ⟨b, 0, none⟩)) W := by
  have hs : ∀ s : FlagSt, (flagAct 0 kind mask s).isSome = true → s.on = true := fun s ha => by
    unfold flagAct at ha
    split at ha
    · assumption
    · cases ha
  have hno : ∀ s : FlagSt, flagAct 0 kind mask s = none → s.on = false := fun s ha => by
    unfold flagAct at ha
    split at ha
    · repeat (first | (split at ha) | cases ha)
    · simpa using ‹¬ s.on = true›
  refine ⟨FlagSt, [b], _, _, _, _, _, _, _, ⟨0, 0, true⟩, flag_rou b 0 kind mask hk1 hk5, h, fun q hq => (by simp at hq; omega),
    ⟨fun s n => (s.on = true → n = 0) ∧ n ≤ 1, ⟨fun _ => rfl, by omega⟩, fun s n hi hx => ?_, fun s n hi hx => ⟨by omega, .inl (by omega)⟩⟩,
    ⟨fun s n => (s.on = true → n = 0) ∧ (s.on = false → n = 1), ⟨fun _ => rfl, fun h => (by cases h)⟩, fun s n hi hx => ?_, fun s n hi hx => by have := hi.2 (hno s hx); omega⟩⟩
  · have := hi.1 (hs s hx)
    exact ⟨by omega, fun g => ⟨fun h => (by cases h), by omega⟩⟩
  · have := hi.1 (hs s hx)
    exact ⟨by omega, fun h => (by cases h), fun _ => by omega⟩
end Go.Proofs.Ytnnakiojfpnphaa
