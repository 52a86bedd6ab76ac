/- Package flags: a Flags routine, done alone. -/
import Derived.Test.YtbjeojcnofpgfaaFlags3
import Derived.Test.YtbjeojcnofpgfaaRou
set_option linter.unusedVariables false
set_option linter.unusedSimpArgs false
namespace Go.Proofs.Ytbjeojcnofpgfaa
open Go.RowKit

structure FlagSt where
  f : Int
  v0 : Int
  on : Bool
def flagAct (a : Nat) (kind mask : Int) (s : FlagSt) : Option (Int × Nat × Int) :=
  if s.on then (if kind = 1 then some (4, a, mask) else if kind = 2 then some (5, a, notU mask) else some (1, a, 0)) else none
def flagTake (kind mask : Int) (s : FlagSt) (g : Int) : FlagSt := ⟨if holdsB kind g mask then s.f else 7, if holdsB kind g mask then g else s.v0, false⟩
def flagRes (s : FlagSt) : Ans := ⟨s.f, s.v0, 0, 0, 0⟩

set_option maxRecDepth 100000 in
theorem flag_rou (b a : Nat) (kind mask : Int) (hk1 : 1 ≤ kind) (hk5 : kind ≤ 5) :
    Rou 133 (.pointer (some ⟨b, 0, none⟩)) [b] (fun s w => FlagAt w b a kind mask s.f s.v0 s.on) (flagAct a kind mask) (flagTake kind mask) flagRes 183 185 184 where
  mA := fun _ => by kernel_rfl
  mT := fun _ => by kernel_rfl
  mR := fun _ => by kernel_rfl
  cA := fun _ _ => by kernel_rfl
  cT := fun _ _ => by kernel_rfl
  cR := fun _ _ => by kernel_rfl
  keep := fun s w w' S' h hu hS => h.keep hu (fun hk => hS b hk (by simp))
  lt := fun s w h k hk => by simp at hk; subst hk; exact heap_lt h.h
  more := fun s w o a' x h hs => by
    obtain ⟨f, v0, on⟩ := s
    unfold flagAct at hs
    rcases on with _ | _
    · simp at hs
    · simp only [if_true] at hs
      split at hs
      · rename_i hk; subst hk; cases hs; exact flag_act_set h
      · split at hs
        · rename_i hk; subst hk; cases hs; exact flag_act_clear h
        · cases hs; exact flag_act_load h (by omega)
  noAct := fun s w h hs => by
    obtain ⟨f, v0, on⟩ := s
    unfold flagAct at hs
    rcases on with _ | _
    · exact flag_done h
    · simp only [if_true] at hs
      split at hs
      · cases hs
      · split at hs <;> cases hs
  took := fun s w o a' x g h hs => by
    obtain ⟨f, v0, on⟩ := s
    rcases on with _ | _
    · simp [flagAct] at hs
    · exact flag_take g h
  ans := fun s w h hs => by
    obtain ⟨f, v0, on⟩ := s
    rcases on with _ | _
    · exact flag_result h
    · unfold flagAct at hs
      simp only [if_true] at hs
      split at hs
      · cases hs
      · split at hs <;> cases hs

/-- What one routine does alone: one act. -/
theorem flag_run (a : Nat) (kind mask f v0 got : Int) (xs xs' : List Int) (o x : Int) (hs : flagAct a kind mask ⟨f, v0, true⟩ = some (o, a, x)) (hd : doC o a x xs = some (got, xs')) :
    Run (flagAct a kind mask) (flagTake kind mask) ⟨f, v0, true⟩ xs 1 (flagTake kind mask ⟨f, v0, true⟩ got) xs' :=
  .step _ _ o a x got xs' 0 _ _ hs hd (.done _ _ (by simp [flagAct, flagTake]))
end Go.Proofs.Ytbjeojcnofpgfaa
