/- The walk, part 17: Ring14 FP1. -/
import Derived.Test.YtnnakiojfpnphaaZi12
import Derived.Test.YtnnakiojfpnphaaZi13
import Derived.Test.YtnnakiojfpnphaaZi14
import Derived.Test.YtnnakiojfpnphaaZi16
import Derived.Test.YtnnakiojfpnphaaZi07
import Derived.Test.YtnnakiojfpnphaaZi01
set_option linter.unusedVariables false
set_option linter.unusedSimpArgs false

namespace Go.Proofs.Ytnnakiojfpnphaa
open Go.RowKit

def vAt (s : RgS) (k : Int) : Int := if k = 0 then s.v0 else if k = 1 then s.v1 else if k = 2 then s.v2 else s.v3
def ringAt (cap wd : Int) (b : Nat) (t : TypeId) (s : RgS) (w : World) : Prop := (s.on = true → 0 ≤ s.n ∧ s.n ≤ wd + 2) ∧ RG cap wd w b t s
def puAct (cap wd : Int) (s : RgS) : Option (Int × Nat × Int) :=
  if s.on = true then (if s.n = 0 then some (1, 1, 0) else if s.n = 1 then some (1, 0, 0) else if s.n - 2 < wd then some (2, (2 + roomI cap s.a * wd + (s.n - 2)).toNat, vAt s (s.n - 2)) else some (2, 1, IntKind.u32.wrap (s.a + 1))) else none
def puTake (cap wd : Int) (s : RgS) (g : Int) : RgS :=
  if (noteS s g).n = 2 ∧ cap ≤ IntKind.u32.wrap ((noteS s g).a - (noteS s g).b) then { noteS s g with f := 6, on := false } else if wd < (noteS s g).n - 2 then { noteS s g with f := 0, on := false } else noteS s g
theorem pu_take_any {cap wd : Int} {w : World} {b : Nat} {t : TypeId} {s : RgS} (g : Int) (h : RG cap wd w b t s) (hon : s.on = true) (hn : 0 ≤ s.n ∧ s.n ≤ wd + 2) (hc : Cap5 cap) (h1 : 1 ≤ wd) (h4 : wd ≤ 4) :
    Calls Try.prog 105 #[.pointer (some ⟨b, 0, none⟩), .int .u32 g] w fun e w' => e = .returned (.tuple #[]) ∧ RG cap wd w' b t (puTake cap wd s g) ∧ Upd [b] w w' := by
  have hsn : (noteS s g).n = s.n + 1 := rfl
  unfold puTake
  have hk : s.n = 0 ∨ s.n = 1 ∨ s.n = 2 ∨ s.n = 3 ∨ s.n = 4 ∨ s.n = 5 ∨ s.n = 6 := by omega
  rcases hk with e | e | e | e | e | e | e
  · rw [if_neg (by omega), if_neg (by omega)]
    exact push_take_plain1 g h rfl (by omega) (by omega) hon hc h1 h4 (by omega) (by omega)
  · by_cases hf : cap ≤ IntKind.u32.wrap ((noteS s g).a - (noteS s g).b)
    · rw [if_pos ⟨by omega, hf⟩]
      exact push_take_full g h rfl (by omega) (by omega) hon hc h1 h4 (by omega) hf
    · rw [if_neg (fun h => hf h.2), if_neg (by omega)]
      exact push_take_two g h rfl (by omega) (by omega) hon hc h1 h4 (by omega) hf
  · rw [if_neg (by omega), if_neg (by omega)]
    exact push_take_plain3 g h rfl (by omega) (by omega) hon hc h1 h4 (by omega) (by omega)
  · by_cases hw : 2 ≤ wd
    · rw [if_neg (by omega), if_neg (by omega)]
      exact push_take_plain4 g h rfl (by omega) (by omega) hon hc h1 h4 (by omega) (by omega)
    · rw [if_neg (by omega), if_pos (by omega)]
      exact push_take_last4 g h rfl (by omega) (by omega) hon hc h1 h4 (by omega) (by omega)
  · by_cases hw : 3 ≤ wd
    · rw [if_neg (by omega), if_neg (by omega)]
      exact push_take_plain5 g h rfl (by omega) (by omega) hon hc h1 h4 (by omega) (by omega)
    · rw [if_neg (by omega), if_pos (by omega)]
      exact push_take_last5 g h rfl (by omega) (by omega) hon hc h1 h4 (by omega) (by omega)
  · by_cases hw : 4 ≤ wd
    · rw [if_neg (by omega), if_neg (by omega)]
      exact push_take_plain6 g h rfl (by omega) (by omega) hon hc h1 h4 (by omega) (by omega)
    · rw [if_neg (by omega), if_pos (by omega)]
      exact push_take_last6 g h rfl (by omega) (by omega) hon hc h1 h4 (by omega) (by omega)
  · rw [if_neg (by omega), if_pos (by omega)]
    exact push_take_last7 g h rfl (by omega) (by omega) hon hc h1 h4 (by omega) (by omega)
theorem pu_take_on {cap wd : Int} {s : RgS} (g : Int) (hn : 0 ≤ s.n ∧ s.n ≤ wd + 2) (ho : (puTake cap wd s g).on = true) : 0 ≤ (puTake cap wd s g).n ∧ (puTake cap wd s g).n ≤ wd + 2 := by
  have hsn : (noteS s g).n = s.n + 1 := rfl
  unfold puTake at ho ⊢
  split at ho
  · cases ho
  split at ho
  · cases ho
  rename_i h1 h2
  rw [if_neg h1, if_neg h2]
  omega
theorem pu_rou {cap wd : Int} (b : Nat) (hc : Cap5 cap) (h1 : 1 ≤ wd) (h4 : wd ≤ 4) : Rou 122 (.pointer (some ⟨b, 0, none⟩)) [b] (ringAt cap wd b 142) (puAct cap wd) (puTake cap wd) (fun s => ⟨s.f, s.r0, s.r1, s.r2, s.r3⟩) 103 105 104 where
  mA := fun _ => by kernel_rfl
  mT := fun _ => by kernel_rfl
  mR := fun _ => by kernel_rfl
  cA := fun _ _ => by kernel_rfl
  cT := fun _ _ => by kernel_rfl
  cR := fun _ _ => by kernel_rfl
  keep := fun s w w' S' h hu hS => ⟨h.1, h.2.keep hu (fun hk => hS b hk (by simp))⟩
  lt := fun s w h k hk => by simp at hk; subst hk; exact heap_lt h.2.h
  more := fun s w o a' y h hs => by
    obtain ⟨hn, h⟩ := h
    unfold puAct at hs
    split at hs
    · rename_i hon
      have hb := hn hon
      split at hs
      · rename_i e; cases hs; exact push_act0 h e hon hc h1 h4
      split at hs
      · rename_i e; cases hs; exact push_act1 h e hon hc h1 h4
      split at hs
      · rename_i e0 e1 e2
        have hk : s.n = 2 ∨ s.n = 3 ∨ s.n = 4 ∨ s.n = 5 := by omega
        have hr := roomI_lt s.a hc
        have hrw : 0 ≤ roomI cap s.a * wd := Int.mul_nonneg hr.1 (by omega)
        have ht : (((2 + roomI cap s.a * wd + (s.n - 2)).toNat : Nat) : Int) = 2 + roomI cap s.a * wd + (s.n - 2) := Int.toNat_of_nonneg (by omega)
        simp only [Option.some.injEq, Prod.mk.injEq] at hs
        obtain ⟨rfl, rfl, rfl⟩ := hs
        rw [ht]
        clear ht hrw hr
        rcases hk with e | e | e | e
        · have e2 : s.n - 2 = 0 := by omega
          have hv : vAt s 0 = s.v0 := by simp [vAt]
          rw [e2, hv]
          exact push_word0 h e (by omega) hon hc h1 h4
        · have e2 : s.n - 2 = 1 := by omega
          have hv : vAt s 1 = s.v1 := by simp [vAt]
          rw [e2, hv]
          exact push_word1 h e (by omega) hon hc h1 h4
        · have e2 : s.n - 2 = 2 := by omega
          have hv : vAt s 2 = s.v2 := by simp [vAt]
          rw [e2, hv]
          exact push_word2 h e (by omega) hon hc h1 h4
        · have e2 : s.n - 2 = 3 := by omega
          have hv : vAt s 3 = s.v3 := by simp [vAt]
          rw [e2, hv]
          exact push_word3 h e (by omega) hon hc h1 h4
      · rename_i e0 e1 e2
        cases hs
        exact push_last h (by omega) hon hc h1 h4
    · cases hs
  noAct := fun s w h hs => by
    obtain ⟨hn, h⟩ := h
    unfold puAct at hs
    split at hs
    · (repeat' split at hs) <;> cases hs
    · rename_i hon
      exact push_done h (by simpa using hon)
  took := fun s w o a' y g h hs => by
    obtain ⟨hn, h⟩ := h
    have hon : s.on = true := by
      unfold puAct at hs
      split at hs
      · assumption
      · cases hs
    exact (pu_take_any g h hon (hn hon) hc h1 h4).mono fun e' w' ⟨he, hw, hu⟩ => ⟨he, ⟨fun ho => pu_take_on g (hn hon) ho, hw⟩, hu⟩
  ans := fun s w h hs => by
    obtain ⟨hn, h⟩ := h
    unfold puAct at hs
    split at hs
    · (repeat' split at hs) <;> cases hs
    · rename_i hon
      exact push_result h (by simpa using hon)
def poAct (cap wd : Int) (s : RgS) : Option (Int × Nat × Int) :=
  if s.on = true then (if s.n = 0 then some (1, 0, 0) else if s.n = 1 then some (1, 1, 0) else if s.n - 2 < wd then some (1, (2 + roomI cap s.a * wd + (s.n - 2)).toNat, 0) else some (2, 0, IntKind.u32.wrap (s.a + 1))) else none
def putR (wd : Int) (s : RgS) (g : Int) : RgS :=
  if 2 ≤ s.n ∧ s.n - 2 < wd then (if s.n = 2 then { s with r0 := g } else if s.n = 3 then { s with r1 := g } else if s.n = 4 then { s with r2 := g } else { s with r3 := g }) else s
theorem putR_n (wd : Int) (s : RgS) (g : Int) : (putR wd s g).n = s.n := by
  unfold putR
  (repeat' split) <;> rfl
def poTake (wd : Int) (s : RgS) (g : Int) : RgS :=
  if (noteS (putR wd s g) g).n = 2 ∧ (noteS (putR wd s g) g).a = (noteS (putR wd s g) g).b then { noteS (putR wd s g) g with f := 7, on := false } else if wd < (noteS (putR wd s g) g).n - 2 then { noteS (putR wd s g) g with f := 0, on := false } else noteS (putR wd s g) g
theorem po_take_any {cap wd : Int} {w : World} {b : Nat} {t : TypeId} {s : RgS} (g : Int) (h : RG cap wd w b t s) (hon : s.on = true) (hn : 0 ≤ s.n ∧ s.n ≤ wd + 2) (hc : Cap5 cap) (h1 : 1 ≤ wd) (h4 : wd ≤ 4) :
    Calls Try.prog 116 #[.pointer (some ⟨b, 0, none⟩), .int .u32 g] w fun e w' => e = .returned (.tuple #[]) ∧ RG cap wd w' b t (poTake wd s g) ∧ Upd [b] w w' := by
  have hsn : (noteS (putR wd s g) g).n = s.n + 1 := by rw [show (noteS (putR wd s g) g).n = (putR wd s g).n + 1 from rfl, putR_n]
  unfold poTake
  have hk : s.n = 0 ∨ s.n = 1 ∨ s.n = 2 ∨ s.n = 3 ∨ s.n = 4 ∨ s.n = 5 ∨ s.n = 6 := by omega
  rcases hk with e | e | e | e | e | e | e
  · rw [if_neg (by omega), if_neg (by omega)]
    exact pop_take_plain1 g h (by unfold putR; rw [if_neg (by omega)]) e hon hc h1 h4
  · by_cases hf : (noteS (putR wd s g) g).a = (noteS (putR wd s g) g).b
    · rw [if_pos ⟨by omega, hf⟩]
      exact pop_take_empty g h (by unfold putR; rw [if_neg (by omega)]) e hon hc h1 h4 hf
    · rw [if_neg (fun h => hf h.2), if_neg (by omega)]
      exact pop_take_two g h (by unfold putR; rw [if_neg (by omega)]) e hon hc h1 h4 hf
  · rw [if_neg (by omega), if_neg (by omega)]
    exact pop_take_word0 g h (by unfold putR; rw [if_pos (by omega), if_pos (by omega)]) e hon hc h1 h4 (by omega)
  · by_cases hw : 1 < wd
    · rw [if_neg (by omega), if_neg (by omega)]
      exact pop_take_word1 g h (by unfold putR; rw [if_pos (by omega), if_neg (by omega), if_pos (by omega)]) e hon hc h1 h4 (by omega)
    · rw [if_neg (by omega), if_pos (by omega)]
      exact pop_take_last1 g h (by unfold putR; rw [if_neg (by omega)]) e hon hc h1 h4 (by omega)
  · by_cases hw : 2 < wd
    · rw [if_neg (by omega), if_neg (by omega)]
      exact pop_take_word2 g h (by unfold putR; rw [if_pos (by omega), if_neg (by omega), if_neg (by omega), if_pos (by omega)]) e hon hc h1 h4 (by omega)
    · rw [if_neg (by omega), if_pos (by omega)]
      exact pop_take_last2 g h (by unfold putR; rw [if_neg (by omega)]) e hon hc h1 h4 (by omega)
  · by_cases hw : 3 < wd
    · rw [if_neg (by omega), if_neg (by omega)]
      exact pop_take_word3 g h (by unfold putR; rw [if_pos (by omega), if_neg (by omega), if_neg (by omega), if_neg (by omega)]) e hon hc h1 h4 (by omega)
    · rw [if_neg (by omega), if_pos (by omega)]
      exact pop_take_last3 g h (by unfold putR; rw [if_neg (by omega)]) e hon hc h1 h4 (by omega)
  · rw [if_neg (by omega), if_pos (by omega)]
    exact pop_take_last4 g h (by unfold putR; rw [if_neg (by omega)]) e hon hc h1 h4 (by omega)
theorem po_take_on {wd : Int} {s : RgS} (g : Int) (hn : 0 ≤ s.n ∧ s.n ≤ wd + 2) (ho : (poTake wd s g).on = true) : 0 ≤ (poTake wd s g).n ∧ (poTake wd s g).n ≤ wd + 2 := by
  have hsn : (noteS (putR wd s g) g).n = s.n + 1 := by rw [show (noteS (putR wd s g) g).n = (putR wd s g).n + 1 from rfl, putR_n]
  unfold poTake at ho ⊢
  split at ho
  · cases ho
  split at ho
  · cases ho
  rename_i h1 h2
  rw [if_neg h1, if_neg h2]
  omega
theorem po_rou {cap wd : Int} (b : Nat) (hc : Cap5 cap) (h1 : 1 ≤ wd) (h4 : wd ≤ 4) : Rou 124 (.pointer (some ⟨b, 0, none⟩)) [b] (ringAt cap wd b 143) (poAct cap wd) (poTake wd) (fun s => ⟨s.f, s.r0, s.r1, s.r2, s.r3⟩) 114 116 115 where
  mA := fun _ => by kernel_rfl
  mT := fun _ => by kernel_rfl
  mR := fun _ => by kernel_rfl
  cA := fun _ _ => by kernel_rfl
  cT := fun _ _ => by kernel_rfl
  cR := fun _ _ => by kernel_rfl
  keep := fun s w w' S' h hu hS => ⟨h.1, h.2.keep hu (fun hk => hS b hk (by simp))⟩
  lt := fun s w h k hk => by simp at hk; subst hk; exact heap_lt h.2.h
  more := fun s w o a' y h hs => by
    obtain ⟨hn, h⟩ := h
    unfold poAct at hs
    split at hs
    · rename_i hon
      have hb := hn hon
      split at hs
      · rename_i e; cases hs; exact pop_act0 h e hon hc h1 h4
      split at hs
      · rename_i e; cases hs; exact pop_act1 h e hon hc h1 h4
      split at hs
      · rename_i e0 e1 e2
        have hk : s.n = 2 ∨ s.n = 3 ∨ s.n = 4 ∨ s.n = 5 := by omega
        have hr := roomI_lt s.a hc
        have hrw : 0 ≤ roomI cap s.a * wd := Int.mul_nonneg hr.1 (by omega)
        have ht : (((2 + roomI cap s.a * wd + (s.n - 2)).toNat : Nat) : Int) = 2 + roomI cap s.a * wd + (s.n - 2) := Int.toNat_of_nonneg (by omega)
        simp only [Option.some.injEq, Prod.mk.injEq] at hs
        obtain ⟨rfl, rfl, rfl⟩ := hs
        rw [ht]
        clear ht hrw hr
        rcases hk with e | e | e | e
        · have e2 : s.n - 2 = 0 := by omega
          skip
          rw [e2]
          exact pop_word0 h e (by omega) hon hc h1 h4
        · have e2 : s.n - 2 = 1 := by omega
          skip
          rw [e2]
          exact pop_word1 h e (by omega) hon hc h1 h4
        · have e2 : s.n - 2 = 2 := by omega
          skip
          rw [e2]
          exact pop_word2 h e (by omega) hon hc h1 h4
        · have e2 : s.n - 2 = 3 := by omega
          skip
          rw [e2]
          exact pop_word3 h e (by omega) hon hc h1 h4
      · rename_i e0 e1 e2
        cases hs
        exact pop_last h (by omega) hon hc h1 h4
    · cases hs
  noAct := fun s w h hs => by
    obtain ⟨hn, h⟩ := h
    unfold poAct at hs
    split at hs
    · (repeat' split at hs) <;> cases hs
    · rename_i hon
      exact pop_done h (by simpa using hon)
  took := fun s w o a' y g h hs => by
    obtain ⟨hn, h⟩ := h
    have hon : s.on = true := by
      unfold poAct at hs
      split at hs
      · assumption
      · cases hs
    exact (po_take_any g h hon (hn hon) hc h1 h4).mono fun e' w' ⟨he, hw, hu⟩ => ⟨he, ⟨fun ho => po_take_on g (hn hon) ho, hw⟩, hu⟩
  ans := fun s w h hs => by
    obtain ⟨hn, h⟩ := h
    unfold poAct at hs
    split at hs
    · (repeat' split at hs) <;> cases hs
    · rename_i hon
      exact pop_result h (by simpa using hon)
end Go.Proofs.Ytnnakiojfpnphaa
namespace Go.Proofs.Ytnnakiojfpnphaa
abbrev V4F := Nat → Int
def upM (M : Nat → Int) (a : Nat) (u : Int) : Nat → Int := fun k => if k = a then u else M k
def bitN (u : Int) : Nat := (u % 2).toNat
theorem bitN_lt (u : Int) : bitN u < 2 := by unfold bitN; omega
theorem bitN_of (n : Nat) (h : n < 2) : bitN (n : Int) = n := by unfold bitN; omega
def fidx (wd x y k : Nat) : Nat := 4 + (2 * x + y) * wd + k
theorem fidx_inj {wd x y k x' y' k' : Nat} (hx : x < 2) (hy : y < 2) (hx' : x' < 2) (hy' : y' < 2) (hk : k < wd) (hk' : k' < wd) (h : fidx wd x y k = fidx wd x' y' k') : x = x' ∧ y = y' ∧ k = k' := by
  unfold fidx at h
  have e1 : x = 0 ∨ x = 1 := by omega
  have e2 : y = 0 ∨ y = 1 := by omega
  have e3 : x' = 0 ∨ x' = 1 := by omega
  have e4 : y' = 0 ∨ y' = 1 := by omega
  rcases e1 with rfl | rfl <;> rcases e2 with rfl | rfl <;> rcases e3 with rfl | rfl <;> rcases e4 with rfl | rfl <;> omega
theorem fidx_ge (wd x y k : Nat) : 4 ≤ fidx wd x y k := by unfold fidx; omega
theorem fidx_lt {wd x y k : Nat} (hx : x < 2) (hy : y < 2) (hk : k < wd) : fidx wd x y k < 4 + 4 * wd := by
  unfold fidx
  have e1 : x = 0 ∨ x = 1 := by omega
  have e2 : y = 0 ∨ y = 1 := by omega
  rcases e1 with rfl | rfl <;> rcases e2 with rfl | rfl <;> omega
/-- The value that lies in a slot, and zeros behind it. -/
def slotV (wd : Nat) (M : Nat → Int) (x y : Nat) : V4F := fun k => if k < wd then M (fidx wd x y k) else 0
def sBit (M : Nat → Int) (x : Nat) : Nat := bitN (M (2 + x))
/-- Values are the same in their four words. -/
def eq4 (a b : V4F) : Prop := a 0 = b 0 ∧ a 1 = b 1 ∧ a 2 = b 2 ∧ a 3 = b 3
def isIn (a : V4F) (l : List V4F) : Prop := ∃ b ∈ l, eq4 a b
def CC (wd : Nat) (M : Nat → Int) (l : List V4F) (x : Nat) : Prop := isIn (slotV wd M x (sBit M x)) l
theorem isIn_mono {a : V4F} {l l' : List V4F} (h : isIn a l) (hs : ∀ b ∈ l, b ∈ l') : isIn a l' := by
  obtain ⟨b, hb, he⟩ := h
  exact ⟨b, hs b hb, he⟩
theorem eq4_of {a b : V4F} (h : ∀ k, k < 4 → a k = b k) : eq4 a b := ⟨h 0 (by omega), h 1 (by omega), h 2 (by omega), h 3 (by omega)⟩
theorem isIn_congr {a b : V4F} {l : List V4F} (h : ∀ k, a k = b k) (hb : isIn b l) : isIn a l := by
  have : a = b := funext h
  subst this
  exact hb
theorem slotV_congr {wd : Nat} {M M' : Nat → Int} {x y : Nat} (h : ∀ k, k < wd → M' (fidx wd x y k) = M (fidx wd x y k)) : slotV wd M' x y = slotV wd M x y := by
  funext k
  unfold slotV
  split
  · exact h k (by assumption)
  · rfl
theorem slotV_low {wd : Nat} {M : Nat → Int} {a : Nat} (u : Int) (x y : Nat) (ha : a < 4) : slotV wd (upM M a u) x y = slotV wd M x y :=
  slotV_congr fun k _ => by unfold upM; have := fidx_ge wd x y k; rw [if_neg (by omega)]
theorem sBit_set {M : Nat → Int} {a : Nat} (u : Int) (x : Nat) (h : a ≠ 2 + x) : sBit (upM M a u) x = sBit M x := by unfold sBit upM; rw [if_neg (fun e => h e.symm)]
theorem sBit_at {M : Nat → Int} (u : Int) (x : Nat) : sBit (upM M (2 + x) u) x = bitN u := by unfold sBit upM; rw [if_pos rfl]
theorem CC_low {wd : Nat} {M : Nat → Int} {l : List V4F} {a : Nat} (u : Int) {x : Nat} (ha : a < 2) (h : CC wd M l x) : CC wd (upM M a u) l x := by
  unfold CC at *
  rw [sBit_set u x (by omega), slotV_low u _ _ (by omega)]
  exact h
structure RdS where
  n : Nat
  p : Nat
  i : Nat
  r : V4F
structure WrS where
  n : Nat
  q : Nat
  j : Nat
  v : V4F
/-- What holds of a writer that is at work. -/
structure WOk (wd : Nat) (M : Nat → Int) (l : List V4F) (w : WrS) : Prop where
  n : w.n ≤ wd + 4
  q : w.q < 2
  j : w.j < 2
  inn : w.v ∈ l
  pad : ∀ k, wd ≤ k → w.v k = 0
  opp : 2 ≤ w.n → w.n ≤ wd + 2 → sBit M w.q = 1 - w.j
  dat : 2 ≤ w.n → w.n ≤ wd + 2 → ∀ k, k < w.n - 2 → k < wd → M (fidx wd w.q w.j k) = w.v k
  fin : wd + 3 ≤ w.n → CC wd M l w.q
/-- What holds of a reader. -/
structure ROk (wd : Nat) (M : Nat → Int) (l : List V4F) (r : RdS) : Prop where
  n : r.n ≤ wd + 3
  p : r.p < 2
  i : r.i < 2
  rd : 2 ≤ r.n → bitN (M 1) = r.p
  cc : 1 ≤ r.n → CC wd M l r.p
  cd : 3 ≤ r.n → isIn (slotV wd M r.p r.i) l
  rv : ∀ k, r.r k = if k < r.n - 3 then M (fidx wd r.p r.i k) else 0
def both (wd : Nat) (M : Nat → Int) (r : RdS) (w : WrS) : Prop := 3 ≤ r.n → 1 ≤ w.n → w.n ≤ wd + 2 → w.q = r.p → sBit M r.p = r.i
structure FInv (wd : Nat) (M : Nat → Int) (l : List V4F) (r : RdS) (w : Option WrS) : Prop where
  last : CC wd M l (bitN (M 0))
  ro : ROk wd M l r
  wo : ∀ x, w = some x → WOk wd M l x
  bo : ∀ x, w = some x → both wd M r x
/-- What a reader does next, and what it takes. -/
def rAct (wd : Nat) (r : RdS) : Int × Nat × Int :=
  if r.n = 0 then (1, 0, 0) else if r.n = 1 then (2, 1, (r.p : Int)) else if r.n = 2 then (1, 2 + r.p, 0) else (1, fidx wd r.p r.i (r.n - 3), 0)
def rTake (r : RdS) (g : Int) : RdS :=
  if r.n = 0 then { r with p := bitN g, n := 1 } else if r.n = 1 then { r with n := 2 } else if r.n = 2 then { r with i := bitN g, n := 3 } else { r with r := upM r.r (r.n - 3) g, n := r.n + 1 }
def wAct (wd : Nat) (w : WrS) : Int × Nat × Int :=
  if w.n = 0 then (1, 1, 0) else if w.n = 1 then (1, 2 + w.q, 0) else if w.n < wd + 2 then (2, fidx wd w.q w.j (w.n - 2), w.v (w.n - 2)) else if w.n = wd + 2 then (2, 2 + w.q, (w.j : Int)) else (2, 0, (w.q : Int))
def wTake (w : WrS) (g : Int) : WrS :=
  if w.n = 0 then { w with q := 1 - bitN g, n := 1 } else if w.n = 1 then { w with j := 1 - bitN g, n := 2 } else { w with n := w.n + 1 }
def memDo (M : Nat → Int) (a : Int × Nat × Int) : Int × (Nat → Int) := if a.1 = 1 then (M a.2.1, M) else (0, upM M a.2.1 a.2.2)
theorem rd0 (wd : Nat) (M : Nat → Int) (l : List V4F) : ROk wd M l ⟨0, 0, 0, fun _ => 0⟩ := ⟨by simp, by simp, by simp, fun h => by simp at h, fun h => by simp at h, fun h => by simp at h, fun k => by simp⟩
/-- A reader's step. -/
theorem reader_step {wd : Nat} {M : Nat → Int} {l : List V4F} {r : RdS} {w : Option WrS} (h : FInv wd M l r w) (hn : r.n < wd + 3) : FInv wd (memDo M (rAct wd r)).2 l (rTake r (memDo M (rAct wd r)).1) w := by
  obtain ⟨n, p, i, v⟩ := r
  have hp := h.ro.p
  have hi := h.ro.i
  simp only at hp hi hn
  by_cases h0 : n = 0
  · subst h0
    simp only [rAct, rTake, memDo, if_true]
    refine ⟨h.last, ⟨by simp only; omega, bitN_lt _, hi, fun h => by simp at h, fun _ => h.last, fun h => by simp at h, fun k => by have := h.ro.rv k; simpa using this⟩, h.wo, fun x hx h3 => by simp at h3⟩
  by_cases h1 : n = 1
  · subst h1
    simp only [rAct, rTake, memDo, if_true, Nat.one_ne_zero, if_false, show ((2 : Int) = 1) = False by decide]
    refine ⟨?_, ⟨by simp only; omega, hp, hi, fun _ => ?_, fun _ => CC_low _ (by omega) (h.ro.cc (Nat.le_refl _)), fun h => by simp at h, fun k => by have := h.ro.rv k; simpa using this⟩, fun x hx => ?_, fun x hx h3 => by simp at h3⟩
    · have : upM M 1 (p : Int) 0 = M 0 := rfl
      rw [this]
      exact CC_low _ (by omega) h.last
    · show bitN (upM M 1 (p : Int) 1) = p
      exact bitN_of p hp
    · have hw := h.wo x hx
      refine ⟨hw.n, hw.q, hw.j, hw.inn, hw.pad, fun a b => by rw [sBit_set _ _ (by omega)]; exact hw.opp a b, fun a b k c d => ?_, fun a => CC_low _ (by omega) (hw.fin a)⟩
      have := hw.dat a b k c d
      unfold upM
      rw [if_neg (by have := fidx_ge wd x.q x.j k; omega)]
      exact this
  by_cases h2 : n = 2
  · subst h2
    simp only [rAct, rTake, memDo, if_true, if_false, show ((2 : Nat) = 0) = False by decide, show ((2 : Nat) = 1) = False by decide]
    refine ⟨h.last, ⟨by simp only; omega, hp, bitN_lt _, fun _ => h.ro.rd (Nat.le_refl _), fun _ => h.ro.cc (by simp), fun _ => h.ro.cc (by simp), fun k => by have := h.ro.rv k; simpa using this⟩, h.wo, fun x hx h3 h4 h5 h6 => rfl⟩
  · simp only [rAct, rTake, memDo, if_neg h0, if_neg h1, if_neg h2, if_true]
    refine ⟨h.last, ⟨by simp only; omega, hp, hi, fun _ => h.ro.rd (by simp only; omega), fun _ => h.ro.cc (by simp only; omega), fun _ => h.ro.cd (by simp only; omega), fun k => ?_⟩, h.wo, fun x hx h3 h4 h5 h6 => h.bo x hx (by simp only; omega) h4 h5 h6⟩
    have := h.ro.rv k
    simp only at this ⊢
    unfold upM
    by_cases hk : k = n - 3
    · subst hk
      rw [if_pos rfl, if_pos (by omega)]
    · rw [if_neg hk, this]
      by_cases hk2 : k < n - 3
      · rw [if_pos hk2, if_pos (by omega)]
      · rw [if_neg hk2, if_neg (by omega)]
theorem CC_data {wd : Nat} {M : Nat → Int} {l : List V4F} {x q j k : Nat} (u : Int) (hx : x < 2) (hq : q < 2) (hj : j < 2) (hk : k < wd) (hne : x = q → sBit M q ≠ j) (h : CC wd M l x) : CC wd (upM M (fidx wd q j k) u) l x := by
  unfold CC at *
  rw [sBit_set u x (by have := fidx_ge wd q j k; omega)]
  rw [slotV_congr (M := M)]
  · exact h
  · intro m hm
    unfold upM
    rw [if_neg]
    intro e
    obtain ⟨e1, e2, e3⟩ := fidx_inj hx (bitN_lt _) hq hj hm hk e
    subst e1
    exact hne rfl e2
theorem CC_slot {wd : Nat} {M : Nat → Int} {l : List V4F} {x q j : Nat} (hx : x < 2) (hq : q < 2) (hj : j < 2) (hv : isIn (slotV wd M q j) l) (h : x ≠ q → CC wd M l x) : CC wd (upM M (2 + q) (j : Int)) l x := by
  unfold CC at *
  by_cases e : x = q
  · subst e
    rw [sBit_at, bitN_of j hj, slotV_low _ _ _ (by omega)]
    exact hv
  · rw [sBit_set _ _ (by omega), slotV_low _ _ _ (by omega)]
    exact h e
/-- A writer's step. -/
theorem writer_step {wd : Nat} {M : Nat → Int} {l : List V4F} {r : RdS} {w : WrS} (h : FInv wd M l r (some w)) (hn : w.n < wd + 4) : FInv wd (memDo M (wAct wd w)).2 l r (some (wTake w (memDo M (wAct wd w)).1)) := by
  obtain ⟨n, q, j, v⟩ := w
  have hw := h.wo _ rfl
  have hb := h.bo _ rfl
  have hq := hw.q
  have hj := hw.j
  simp only at hq hj hn
  have hp := h.ro.p
  have hi := h.ro.i
  have hL := bitN_lt (M 0)
  by_cases h0 : n = 0
  · subst h0
    simp only [wAct, wTake, memDo, if_true]
    refine ⟨h.last, h.ro, fun x hx => ?_, fun x hx h3 h4 h5 h6 => ?_⟩
    · obtain rfl := Option.some.inj hx
      exact ⟨by simp only; omega, by simp only; have := bitN_lt (M 1); omega, hj, hw.inn, hw.pad, fun h => by simp at h, fun h => by simp at h, fun h => by simp at h⟩
    · obtain rfl := Option.some.inj hx
      simp only at h6
      have := h.ro.rd (by omega)
      have := bitN_lt (M 1)
      omega
  by_cases h1 : n = 1
  · subst h1
    simp only [wAct, wTake, memDo, if_true, Nat.one_ne_zero, if_false]
    refine ⟨h.last, h.ro, fun x hx => ?_, fun x hx h3 h4 h5 h6 => ?_⟩
    · obtain rfl := Option.some.inj hx
      refine ⟨by simp only; omega, hq, by simp only; have := bitN_lt (M (2 + q)); omega, hw.inn, hw.pad, fun _ _ => ?_, fun _ _ k hk => by simp at hk, fun h => by simp at h⟩
      show sBit M q = 1 - (1 - bitN (M (2 + q)))
      unfold sBit
      have := bitN_lt (M (2 + q))
      omega
    · obtain rfl := Option.some.inj hx
      exact hb h3 (by simp) (by simp) h6
  by_cases h2 : n < wd + 2
  · simp only [wAct, wTake, memDo, if_neg h0, if_neg h1, if_pos h2, show ((2 : Int) = 1) = False by decide, if_false]
    have hk : n - 2 < wd := by omega
    have hopp := hw.opp (by simp only; omega) (by simp only; omega)
    simp only at hopp
    have hne : sBit M q ≠ j := by omega
    have hgt := fidx_ge wd q j (n - 2)
    have hE : ∀ x, sBit (upM M (fidx wd q j (n - 2)) (v (n - 2))) x = if fidx wd q j (n - 2) = 2 + x then bitN (v (n - 2)) else sBit M x := fun x => by
      unfold sBit upM
      by_cases e : 2 + x = fidx wd q j (n - 2)
      · rw [if_pos e, if_pos e.symm]
      · rw [if_neg e, if_neg (fun h => e h.symm)]
    have hs : ∀ x, x < 2 → sBit (upM M (fidx wd q j (n - 2)) (v (n - 2))) x = sBit M x := fun x hx => sBit_set _ _ (by omega)
    have hpi : 3 ≤ r.n → ∀ k, k < wd → fidx wd r.p r.i k ≠ fidx wd q j (n - 2) := fun h3 k hk2 e => by
      obtain ⟨e1, e2, -⟩ := fidx_inj hp hi hq hj hk2 hk e
      have := hb h3 (by simp only; omega) (by simp only; omega) (by simp only; omega)
      rw [← e1] at hne
      omega
    refine ⟨?_, ⟨h.ro.n, hp, hi, fun h2 => ?_, fun h2 => CC_data _ hp hq hj hk (fun _ => hne) (h.ro.cc h2), fun h3 => ?_, fun k => ?_⟩, fun x hx => ?_, fun x hx h3 h4 h5 h6 => ?_⟩
    · have : upM M (fidx wd q j (n - 2)) (v (n - 2)) 0 = M 0 := by unfold upM; rw [if_neg (by omega)]
      rw [this]
      exact CC_data _ hL hq hj hk (fun _ => hne) h.last
    · have : upM M (fidx wd q j (n - 2)) (v (n - 2)) 1 = M 1 := by unfold upM; rw [if_neg (by omega)]
      rw [this]
      exact h.ro.rd h2
    · rw [slotV_congr (M := M)]
      · exact h.ro.cd h3
      · intro k hk2
        unfold upM
        rw [if_neg (hpi h3 k hk2)]
    · have := h.ro.rv k
      rw [this]
      by_cases hk2 : k < r.n - 3
      · rw [if_pos hk2, if_pos hk2]
        unfold upM
        rw [if_neg (hpi (by omega) k (by have := h.ro.n; omega))]
      · rw [if_neg hk2, if_neg hk2]
    · obtain rfl := Option.some.inj hx
      refine ⟨by simp only; omega, hq, hj, hw.inn, hw.pad, fun _ _ => by rw [hs q hq]; exact hopp, fun a b k c d => ?_, fun a => by simp only at a; omega⟩
      simp only at c ⊢
      unfold upM
      by_cases e : k = n - 2
      · subst e
        rw [if_pos rfl]
      · rw [if_neg (fun e2 => e (fidx_inj hq hj hq hj d hk e2).2.2)]
        exact hw.dat (by simp only; omega) (by simp only; omega) k (by simp only; omega) d
    · obtain rfl := Option.some.inj hx
      rw [hs _ hp]
      exact hb h3 (by simp only; omega) (by simp only; omega) h6
  by_cases h3 : n = wd + 2
  · subst h3
    simp only [wAct, wTake, memDo, if_neg h0, if_neg h1, if_neg h2, if_true, show ((2 : Int) = 1) = False by decide, if_false]
    have hslot : slotV wd M q j = v := by
      funext k
      unfold slotV
      split
      · rename_i hk
        exact hw.dat (by simp) (by simp) k (by simp; exact hk) hk
      · rename_i hk
        exact (hw.pad k (by omega)).symm
    have hv : isIn (slotV wd M q j) l := by
      rw [hslot]
      exact ⟨v, hw.inn, rfl, rfl, rfl, rfl⟩
    refine ⟨?_, ⟨h.ro.n, hp, hi, fun h2 => ?_, fun h2 => CC_slot hp hq hj hv (fun _ => h.ro.cc h2), fun h4 => ?_, fun k => ?_⟩, fun x hx => ?_, fun x hx h3 h4 h5 h6 => ?_⟩
    · have : upM M (2 + q) (j : Int) 0 = M 0 := by unfold upM; rw [if_neg (by omega)]
      rw [this]
      exact CC_slot hL hq hj hv (fun _ => h.last)
    · have : upM M (2 + q) (j : Int) 1 = M 1 := by unfold upM; rw [if_neg (by omega)]
      rw [this]
      exact h.ro.rd h2
    · rw [slotV_low _ _ _ (by omega)]
      exact h.ro.cd h4
    · have := h.ro.rv k
      rw [this]
      have e : upM M (2 + q) (j : Int) (fidx wd r.p r.i k) = M (fidx wd r.p r.i k) := by unfold upM; rw [if_neg (by have := fidx_ge wd r.p r.i k; omega)]
      rw [e]
    · obtain rfl := Option.some.inj hx
      exact ⟨by simp only; omega, hq, hj, hw.inn, hw.pad, fun _ a => by simp only at a; omega, fun _ a => by simp only at a; omega, fun _ => CC_slot hq hq hj hv (fun e => absurd rfl e)⟩
    · obtain rfl := Option.some.inj hx
      simp only at h5
      omega
  · obtain rfl : n = wd + 3 := by omega
    simp only [wAct, wTake, memDo, if_neg h0, if_neg h1, if_neg h2, if_neg h3, show ((2 : Int) = 1) = False by decide, if_false]
    have hcq := hw.fin (by simp)
    refine ⟨?_, ⟨h.ro.n, hp, hi, fun h2 => h.ro.rd h2, fun h2 => CC_low _ (by omega) (h.ro.cc h2), fun h4 => ?_, fun k => ?_⟩, fun x hx => ?_, fun x hx h3 h4 h5 h6 => ?_⟩
    · have : upM M 0 (q : Int) 0 = (q : Int) := rfl
      rw [this, bitN_of q hq]
      exact CC_low _ (by omega) hcq
    · rw [slotV_low _ _ _ (by omega)]
      exact h.ro.cd h4
    · have := h.ro.rv k
      rw [this]
      have e : upM M 0 (q : Int) (fidx wd r.p r.i k) = M (fidx wd r.p r.i k) := by unfold upM; rw [if_neg (by have := fidx_ge wd r.p r.i k; omega)]
      rw [e]
    · obtain rfl := Option.some.inj hx
      exact ⟨by simp only; omega, hq, hj, hw.inn, hw.pad, fun _ a => by simp only at a; omega, fun _ a => by simp only at a; omega, fun _ => CC_low _ (by omega) hcq⟩
    · obtain rfl := Option.some.inj hx
      simp only at h5
      omega
/-- No write stores where a read that has its index reads. -/
theorem no_clash {wd : Nat} {M : Nat → Int} {l : List V4F} {r : RdS} {w : WrS} (h : FInv wd M l r (some w)) (hr : 3 ≤ r.n) (hr2 : r.n < wd + 3) (hn : w.n < wd + 4) : (wAct wd w).2.1 ≠ (rAct wd r).2.1 := by
  obtain ⟨n, q, j, v⟩ := w
  have hw := h.wo _ rfl
  have hb := h.bo _ rfl
  have hq := hw.q
  have hj := hw.j
  have hp := h.ro.p
  have hi := h.ro.i
  simp only at hq hj hn
  have hge := fidx_ge wd r.p r.i (r.n - 3)
  have e : (rAct wd r).2.1 = fidx wd r.p r.i (r.n - 3) := by
    unfold rAct
    rw [if_neg (by omega), if_neg (by omega), if_neg (by omega)]
  rw [e]
  unfold wAct
  by_cases h0 : n = 0
  · rw [if_pos h0]; simp only; omega
  by_cases h1 : n = 1
  · rw [if_neg h0, if_pos h1]; simp only; omega
  by_cases h2 : n < wd + 2
  · rw [if_neg h0, if_neg h1, if_pos h2]
    simp only
    intro e2
    obtain ⟨e1, e3, -⟩ := fidx_inj hq hj hp hi (by omega) (by omega) e2
    have h5 := hb hr (by simp only; omega) (by simp only; omega) (by simp only; exact e1)
    have h6 := hw.opp (by simp only; omega) (by simp only; omega)
    simp only at h6
    rw [e1] at h6
    omega
  by_cases h3 : n = wd + 2
  · rw [if_neg h0, if_neg h1, if_neg h2, if_pos h3]; simp only; omega
  · rw [if_neg h0, if_neg h1, if_neg h2, if_neg h3]; simp only; omega
/-- What a reader that is done has read is whole. -/
theorem read_whole {wd : Nat} {M : Nat → Int} {l : List V4F} {r : RdS} {w : Option WrS} (h : FInv wd M l r w) (hr : r.n = wd + 3) : isIn r.r l := by
  refine isIn_congr (fun k => ?_) (h.ro.cd (by omega))
  rw [h.ro.rv k, hr, Nat.add_sub_cancel]
  rfl
theorem inv_read {wd : Nat} {M : Nat → Int} {l : List V4F} {r : RdS} {w : Option WrS} (h : FInv wd M l r w) : FInv wd M l ⟨0, 0, 0, fun _ => 0⟩ w :=
  ⟨h.last, rd0 _ _ _, h.wo, fun x hx h3 => by simp at h3⟩
theorem inv_done {wd : Nat} {M : Nat → Int} {l : List V4F} {r : RdS} {w : Option WrS} (h : FInv wd M l r w) : FInv wd M l r none :=
  ⟨h.last, h.ro, (fun x hx => nomatch hx), (fun x hx => nomatch hx)⟩
theorem CC_mono {wd : Nat} {M : Nat → Int} {l l' : List V4F} {x : Nat} (h : CC wd M l x) (hs : ∀ b ∈ l, b ∈ l') : CC wd M l' x := isIn_mono h hs
theorem inv_write {wd : Nat} {M : Nat → Int} {l : List V4F} {r : RdS} (v : V4F) (hv : ∀ k, wd ≤ k → v k = 0) (h : FInv wd M l r none) : FInv wd M (l ++ [v]) r (some ⟨0, 0, 0, v⟩) := by
  have hs : ∀ b ∈ l, b ∈ l ++ [v] := fun b hb => by simp [hb]
  refine ⟨CC_mono h.last hs, ⟨h.ro.n, h.ro.p, h.ro.i, h.ro.rd, fun a => CC_mono (h.ro.cc a) hs, fun a => isIn_mono (h.ro.cd a) hs, h.ro.rv⟩, fun x hx => ?_, fun x hx h3 h4 => ?_⟩
  · obtain rfl := Option.some.inj hx
    exact ⟨by simp, by simp, by simp, by simp, hv, fun h => by simp at h, fun h => by simp at h, fun h => by simp at h⟩
  · obtain rfl := Option.some.inj hx
    simp at h4
end Go.Proofs.Ytnnakiojfpnphaa
