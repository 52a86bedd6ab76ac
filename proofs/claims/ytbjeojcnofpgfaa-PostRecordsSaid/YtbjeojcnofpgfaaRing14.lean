/- Package ring: the routines by their states. -/
import Derived.Test.YtbjeojcnofpgfaaRing6
import Derived.Test.YtbjeojcnofpgfaaRing7
import Derived.Test.YtbjeojcnofpgfaaRing8
import Derived.Test.YtbjeojcnofpgfaaRing9
import Derived.Test.YtbjeojcnofpgfaaRing12
import Derived.Test.YtbjeojcnofpgfaaRou
set_option linter.unusedVariables false
set_option linter.unusedSimpArgs false
namespace Go.Proofs.Ytbjeojcnofpgfaa
open Go.RowKit

def vAt (s : RgS) (k : Int) : Int := if k = 0 then s.v0 else if k = 1 then s.v1 else if k = 2 then s.v2 else s.v3
def ringAt (cap wd : Int) (b : Nat) (t : TypeId) (s : RgS) (w : World) : Prop := (s.on = true → 0 ≤ s.n ∧ s.n ≤ wd + 2) ∧ RG cap wd w b t s
def puAct (cap wd : Int) (s : RgS) : Option (Int × Nat × Int) :=
  if s.on = true then (if s.n = 0 then some (1, 1, 0) else if s.n = 1 then some (1, 0, 0) else if s.n - 2 < wd then some (2, (2 + roomI cap s.a * wd + (s.n - 2)).toNat, vAt s (s.n - 2)) else some (2, 1, IntKind.u32.wrap (s.a + 1))) else none
def puTake (cap wd : Int) (s : RgS) (g : Int) : RgS :=
  if (noteS s g).n = 2 ∧ cap ≤ IntKind.u32.wrap ((noteS s g).a - (noteS s g).b) then { noteS s g with f := 6, on := false } else if wd < (noteS s g).n - 2 then { noteS s g with f := 0, on := false } else noteS s g
theorem pu_take_any {cap wd : Int} {w : World} {b : Nat} {t : TypeId} {s : RgS} (g : Int) (h : RG cap wd w b t s) (hon : s.on = true) (hn : 0 ≤ s.n ∧ s.n ≤ wd + 2) (hc : Cap5 cap) (h1 : 1 ≤ wd) (h4 : wd ≤ 4) :
    Calls Try.prog 42 #[.pointer (some ⟨b, 0, none⟩), .int .u32 g] w fun e w' => e = .returned (.tuple #[]) ∧ RG cap wd w' b t (puTake cap wd s g) ∧ Upd [b] w w' := by
  have hsn : (noteS s g).n = s.n + 1 := rfl
  unfold puTake
  have hk : s.n = 0 ∨ s.n = 1 ∨ s.n = 2 ∨ s.n = 3 ∨ s.n = 4 ∨ s.n = 5 ∨ s.n = 6 := by omega
  rcases hk with e | e | e | e | e | e | e
  · rw [if_neg (by omega), if_neg (by omega)]
    exact push_take_plain1 g h rfl (by omega) (by omega) hon hc h1 h4 (by omega) (by omega)
  · by_cases hf : cap ≤ IntKind.u32.wrap ((noteS s g).a - (noteS s g).b)
    · rw [if_pos ⟨by omega, hf⟩]
      exact push_take_full g h rfl (by omega) (by omega) hon hc h1 h4 (by omega) hf
    · rw [if_neg (fun h => hf h.2), if_neg (by omega)]
      exact push_take_two g h rfl (by omega) (by omega) hon hc h1 h4 (by omega) hf
  · rw [if_neg (by omega), if_neg (by omega)]
    exact push_take_plain3 g h rfl (by omega) (by omega) hon hc h1 h4 (by omega) (by omega)
  · by_cases hw : 2 ≤ wd
    · rw [if_neg (by omega), if_neg (by omega)]
      exact push_take_plain4 g h rfl (by omega) (by omega) hon hc h1 h4 (by omega) (by omega)
    · rw [if_neg (by omega), if_pos (by omega)]
      exact push_take_last4 g h rfl (by omega) (by omega) hon hc h1 h4 (by omega) (by omega)
  · by_cases hw : 3 ≤ wd
    · rw [if_neg (by omega), if_neg (by omega)]
      exact push_take_plain5 g h rfl (by omega) (by omega) hon hc h1 h4 (by omega) (by omega)
    · rw [if_neg (by omega), if_pos (by omega)]
      exact push_take_last5 g h rfl (by omega) (by omega) hon hc h1 h4 (by omega) (by omega)
  · by_cases hw : 4 ≤ wd
    · rw [if_neg (by omega), if_neg (by omega)]
      exact push_take_plain6 g h rfl (by omega) (by omega) hon hc h1 h4 (by omega) (by omega)
    · rw [if_neg (by omega), if_pos (by omega)]
      exact push_take_last6 g h rfl (by omega) (by omega) hon hc h1 h4 (by omega) (by omega)
  · rw [if_neg (by omega), if_pos (by omega)]
    exact push_take_last7 g h rfl (by omega) (by omega) hon hc h1 h4 (by omega) (by omega)
theorem pu_take_on {cap wd : Int} {s : RgS} (g : Int) (hn : 0 ≤ s.n ∧ s.n ≤ wd + 2) (ho : (puTake cap wd s g).on = true) : 0 ≤ (puTake cap wd s g).n ∧ (puTake cap wd s g).n ≤ wd + 2 := by
  have hsn : (noteS s g).n = s.n + 1 := rfl
  unfold puTake at ho ⊢
  split at ho
  · cases ho
  split at ho
  · cases ho
  rename_i h1 h2
  rw [if_neg h1, if_neg h2]
  omega
theorem pu_rou {cap wd : Int} (b : Nat) (hc : Cap5 cap) (h1 : 1 ≤ wd) (h4 : wd ≤ 4) : Rou 100 (.pointer (some ⟨b, 0, none⟩)) [b] (ringAt cap wd b 106) (puAct cap wd) (puTake cap wd) (fun s => ⟨s.f, s.r0, s.r1, s.r2, s.r3⟩) 179 42 180 where
  mA := fun _ => by kernel_rfl
  mT := fun _ => by kernel_rfl
  mR := fun _ => by kernel_rfl
  cA := fun _ _ => by kernel_rfl
  cT := fun _ _ => by kernel_rfl
  cR := fun _ _ => by kernel_rfl
  keep := fun s w w' S' h hu hS => ⟨h.1, h.2.keep hu (fun hk => hS b hk (by simp))⟩
  lt := fun s w h k hk => by simp at hk; subst hk; exact heap_lt h.2.h
  more := fun s w o a' y h hs => by
    obtain ⟨hn, h⟩ := h
    unfold puAct at hs
    split at hs
    · rename_i hon
      have hb := hn hon
      split at hs
      · rename_i e; cases hs; exact push_act0 h e hon hc h1 h4
      split at hs
      · rename_i e; cases hs; exact push_act1 h e hon hc h1 h4
      split at hs
      · rename_i e0 e1 e2
        have hk : s.n = 2 ∨ s.n = 3 ∨ s.n = 4 ∨ s.n = 5 := by omega
        have hr := roomI_lt s.a hc
        have hrw : 0 ≤ roomI cap s.a * wd := Int.mul_nonneg hr.1 (by omega)
        have ht : (((2 + roomI cap s.a * wd + (s.n - 2)).toNat : Nat) : Int) = 2 + roomI cap s.a * wd + (s.n - 2) := Int.toNat_of_nonneg (by omega)
        simp only [Option.some.injEq, Prod.mk.injEq] at hs
        obtain ⟨rfl, rfl, rfl⟩ := hs
        rw [ht]
        clear ht hrw hr
        rcases hk with e | e | e | e
        · have e2 : s.n - 2 = 0 := by omega
          have hv : vAt s 0 = s.v0 := by simp [vAt]
          rw [e2, hv]
          exact push_word0 h e (by omega) hon hc h1 h4
        · have e2 : s.n - 2 = 1 := by omega
          have hv : vAt s 1 = s.v1 := by simp [vAt]
          rw [e2, hv]
          exact push_word1 h e (by omega) hon hc h1 h4
        · have e2 : s.n - 2 = 2 := by omega
          have hv : vAt s 2 = s.v2 := by simp [vAt]
          rw [e2, hv]
          exact push_word2 h e (by omega) hon hc h1 h4
        · have e2 : s.n - 2 = 3 := by omega
          have hv : vAt s 3 = s.v3 := by simp [vAt]
          rw [e2, hv]
          exact push_word3 h e (by omega) hon hc h1 h4
      · rename_i e0 e1 e2
        cases hs
        exact push_last h (by omega) hon hc h1 h4
    · cases hs
  noAct := fun s w h hs => by
    obtain ⟨hn, h⟩ := h
    unfold puAct at hs
    split at hs
    · (repeat' split at hs) <;> cases hs
    · rename_i hon
      exact push_done h (by simpa using hon)
  took := fun s w o a' y g h hs => by
    obtain ⟨hn, h⟩ := h
    have hon : s.on = true := by
      unfold puAct at hs
      split at hs
      · assumption
      · cases hs
    exact (pu_take_any g h hon (hn hon) hc h1 h4).mono fun e' w' ⟨he, hw, hu⟩ => ⟨he, ⟨fun ho => pu_take_on g (hn hon) ho, hw⟩, hu⟩
  ans := fun s w h hs => by
    obtain ⟨hn, h⟩ := h
    unfold puAct at hs
    split at hs
    · (repeat' split at hs) <;> cases hs
    · rename_i hon
      exact push_result h (by simpa using hon)
def poAct (cap wd : Int) (s : RgS) : Option (Int × Nat × Int) :=
  if s.on = true then (if s.n = 0 then some (1, 0, 0) else if s.n = 1 then some (1, 1, 0) else if s.n - 2 < wd then some (1, (2 + roomI cap s.a * wd + (s.n - 2)).toNat, 0) else some (2, 0, IntKind.u32.wrap (s.a + 1))) else none
def putR (wd : Int) (s : RgS) (g : Int) : RgS :=
  if 2 ≤ s.n ∧ s.n - 2 < wd then (if s.n = 2 then { s with r0 := g } else if s.n = 3 then { s with r1 := g } else if s.n = 4 then { s with r2 := g } else { s with r3 := g }) else s
theorem putR_n (wd : Int) (s : RgS) (g : Int) : (putR wd s g).n = s.n := by
  unfold putR
  (repeat' split) <;> rfl
def poTake (wd : Int) (s : RgS) (g : Int) : RgS :=
  if (noteS (putR wd s g) g).n = 2 ∧ (noteS (putR wd s g) g).a = (noteS (putR wd s g) g).b then { noteS (putR wd s g) g with f := 7, on := false } else if wd < (noteS (putR wd s g) g).n - 2 then { noteS (putR wd s g) g with f := 0, on := false } else noteS (putR wd s g) g
theorem po_take_any {cap wd : Int} {w : World} {b : Nat} {t : TypeId} {s : RgS} (g : Int) (h : RG cap wd w b t s) (hon : s.on = true) (hn : 0 ≤ s.n ∧ s.n ≤ wd + 2) (hc : Cap5 cap) (h1 : 1 ≤ wd) (h4 : wd ≤ 4) :
    Calls Try.prog 43 #[.pointer (some ⟨b, 0, none⟩), .int .u32 g] w fun e w' => e = .returned (.tuple #[]) ∧ RG cap wd w' b t (poTake wd s g) ∧ Upd [b] w w' := by
  have hsn : (noteS (putR wd s g) g).n = s.n + 1 := by rw [show (noteS (putR wd s g) g).n = (putR wd s g).n + 1 from rfl, putR_n]
  unfold poTake
  have hk : s.n = 0 ∨ s.n = 1 ∨ s.n = 2 ∨ s.n = 3 ∨ s.n = 4 ∨ s.n = 5 ∨ s.n = 6 := by omega
  rcases hk with e | e | e | e | e | e | e
  · rw [if_neg (by omega), if_neg (by omega)]
    exact pop_take_plain1 g h (by unfold putR; rw [if_neg (by omega)]) e hon hc h1 h4
  · by_cases hf : (noteS (putR wd s g) g).a = (noteS (putR wd s g) g).b
    · rw [if_pos ⟨by omega, hf⟩]
      exact pop_take_empty g h (by unfold putR; rw [if_neg (by omega)]) e hon hc h1 h4 hf
    · rw [if_neg (fun h => hf h.2), if_neg (by omega)]
      exact pop_take_two g h (by unfold putR; rw [if_neg (by omega)]) e hon hc h1 h4 hf
  · rw [if_neg (by omega), if_neg (by omega)]
    exact pop_take_word0 g h (by unfold putR; rw [if_pos (by omega), if_pos (by omega)]) e hon hc h1 h4 (by omega)
  · by_cases hw : 1 < wd
    · rw [if_neg (by omega), if_neg (by omega)]
      exact pop_take_word1 g h (by unfold putR; rw [if_pos (by omega), if_neg (by omega), if_pos (by omega)]) e hon hc h1 h4 (by omega)
    · rw [if_neg (by omega), if_pos (by omega)]
      exact pop_take_last1 g h (by unfold putR; rw [if_neg (by omega)]) e hon hc h1 h4 (by omega)
  · by_cases hw : 2 < wd
    · rw [if_neg (by omega), if_neg (by omega)]
      exact pop_take_word2 g h (by unfold putR; rw [if_pos (by omega), if_neg (by omega), if_neg (by omega), if_pos (by omega)]) e hon hc h1 h4 (by omega)
    · rw [if_neg (by omega), if_pos (by omega)]
      exact pop_take_last2 g h (by unfold putR; rw [if_neg (by omega)]) e hon hc h1 h4 (by omega)
  · by_cases hw : 3 < wd
    · rw [if_neg (by omega), if_neg (by omega)]
      exact pop_take_word3 g h (by unfold putR; rw [if_pos (by omega), if_neg (by omega), if_neg (by omega), if_neg (by omega)]) e hon hc h1 h4 (by omega)
    · rw [if_neg (by omega), if_pos (by omega)]
      exact pop_take_last3 g h (by unfold putR; rw [if_neg (by omega)]) e hon hc h1 h4 (by omega)
  · rw [if_neg (by omega), if_pos (by omega)]
    exact pop_take_last4 g h (by unfold putR; rw [if_neg (by omega)]) e hon hc h1 h4 (by omega)
theorem po_take_on {wd : Int} {s : RgS} (g : Int) (hn : 0 ≤ s.n ∧ s.n ≤ wd + 2) (ho : (poTake wd s g).on = true) : 0 ≤ (poTake wd s g).n ∧ (poTake wd s g).n ≤ wd + 2 := by
  have hsn : (noteS (putR wd s g) g).n = s.n + 1 := by rw [show (noteS (putR wd s g) g).n = (putR wd s g).n + 1 from rfl, putR_n]
  unfold poTake at ho ⊢
  split at ho
  · cases ho
  split at ho
  · cases ho
  rename_i h1 h2
  rw [if_neg h1, if_neg h2]
  omega
theorem po_rou {cap wd : Int} (b : Nat) (hc : Cap5 cap) (h1 : 1 ≤ wd) (h4 : wd ≤ 4) : Rou 98 (.pointer (some ⟨b, 0, none⟩)) [b] (ringAt cap wd b 107) (poAct cap wd) (poTake wd) (fun s => ⟨s.f, s.r0, s.r1, s.r2, s.r3⟩) 174 43 175 where
  mA := fun _ => by kernel_rfl
  mT := fun _ => by kernel_rfl
  mR := fun _ => by kernel_rfl
  cA := fun _ _ => by kernel_rfl
  cT := fun _ _ => by kernel_rfl
  cR := fun _ _ => by kernel_rfl
  keep := fun s w w' S' h hu hS => ⟨h.1, h.2.keep hu (fun hk => hS b hk (by simp))⟩
  lt := fun s w h k hk => by simp at hk; subst hk; exact heap_lt h.2.h
  more := fun s w o a' y h hs => by
    obtain ⟨hn, h⟩ := h
    unfold poAct at hs
    split at hs
    · rename_i hon
      have hb := hn hon
      split at hs
      · rename_i e; cases hs; exact pop_act0 h e hon hc h1 h4
      split at hs
      · rename_i e; cases hs; exact pop_act1 h e hon hc h1 h4
      split at hs
      · rename_i e0 e1 e2
        have hk : s.n = 2 ∨ s.n = 3 ∨ s.n = 4 ∨ s.n = 5 := by omega
        have hr := roomI_lt s.a hc
        have hrw : 0 ≤ roomI cap s.a * wd := Int.mul_nonneg hr.1 (by omega)
        have ht : (((2 + roomI cap s.a * wd + (s.n - 2)).toNat : Nat) : Int) = 2 + roomI cap s.a * wd + (s.n - 2) := Int.toNat_of_nonneg (by omega)
        simp only [Option.some.injEq, Prod.mk.injEq] at hs
        obtain ⟨rfl, rfl, rfl⟩ := hs
        rw [ht]
        clear ht hrw hr
        rcases hk with e | e | e | e
        · have e2 : s.n - 2 = 0 := by omega
          skip
          rw [e2]
          exact pop_word0 h e (by omega) hon hc h1 h4
        · have e2 : s.n - 2 = 1 := by omega
          skip
          rw [e2]
          exact pop_word1 h e (by omega) hon hc h1 h4
        · have e2 : s.n - 2 = 2 := by omega
          skip
          rw [e2]
          exact pop_word2 h e (by omega) hon hc h1 h4
        · have e2 : s.n - 2 = 3 := by omega
          skip
          rw [e2]
          exact pop_word3 h e (by omega) hon hc h1 h4
      · rename_i e0 e1 e2
        cases hs
        exact pop_last h (by omega) hon hc h1 h4
    · cases hs
  noAct := fun s w h hs => by
    obtain ⟨hn, h⟩ := h
    unfold poAct at hs
    split at hs
    · (repeat' split at hs) <;> cases hs
    · rename_i hon
      exact pop_done h (by simpa using hon)
  took := fun s w o a' y g h hs => by
    obtain ⟨hn, h⟩ := h
    have hon : s.on = true := by
      unfold poAct at hs
      split at hs
      · assumption
      · cases hs
    exact (po_take_any g h hon (hn hon) hc h1 h4).mono fun e' w' ⟨he, hw, hu⟩ => ⟨he, ⟨fun ho => po_take_on g (hn hon) ho, hw⟩, hu⟩
  ans := fun s w h hs => by
    obtain ⟨hn, h⟩ := h
    unfold poAct at hs
    split at hs
    · (repeat' split at hs) <;> cases hs
    · rename_i hon
      exact pop_result h (by simpa using hon)
end Go.Proofs.Ytbjeojcnofpgfaa

