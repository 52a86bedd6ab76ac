/- The walk, part 2: CF2 CF3 Shape CF4 CF5 CF6 CF7 Flat. -/
import Derived.Test.YtnnakiojfpnphaaZi01
import Derived.BigQuiet
import Derived.Deep.QuietTactic
import Derived.ProofKit
import Derived.OpenShut
set_option linter.unusedVariables false
set_option linter.unusedSimpArgs false

namespace Go.Proofs.Ytnnakiojfpnphaa
open Go.RowKit

def wideB (wd : Int) : Bool := decide (1 ≤ wd) && decide (wd ≤ 4)
def rightB (k cap wd rt : Int) : Bool :=
  if k = 1 then wideB wd && (pw7 cap && rt == 0)
  else if k = 4 then wd == 0 && (cap == 0 && rt == 0)
  else if k = 2 then rt == 0 && (wideB wd && cap == 0)
  else if k = 3 then wideB wd && (cap == 0 && (decide (0 ≤ rt) && decide (rt ≤ 8)))
  else false
def obA (k cap wd rt f t i0 i1 i2 i3 : Int) : Array Value := #[.int .i64 k, .int .i64 cap, .int .i64 wd, .int .i64 rt, .int .i64 f, .int .i64 t, .int .u32 i0, .int .u32 i1, .int .u32 i2, .int .u32 i3]

section
variable (cap wd rt f t i0 i1 i2 i3 : Int) (w : World)
set_option maxRecDepth 100000 in
set_option maxHeartbeats 4000000 in
theorem sright1 : Calls Try.prog 19 #[.agg (obA 1 cap wd rt f t i0 i1 i2 i3)] w fun e w' => e = .returned (.bool (wideB wd && (powB cap && (decide (cap ≤ 64) && rt == 0)))) ∧ w' = w.alloc (.cells (obA 1 cap wd rt f t i0 i1 i2 i3) 56) := by
  have HW := Lib.hid fun w => swithin wd 1 4 w
  have HP := Lib.hid fun w => power_any cap w
  have e1 : (decide (1 ≤ wd) && decide (wd ≤ 4)) = wideB wd := rfl
  rw [e1] at HW
  clear e1
  unfold obA
  generalize wideB wd = b1 at HW ⊢
  generalize powB cap = b2 at HP ⊢
  rcases hb3 : decide (cap ≤ 64) with _ | _ <;> rcases hb4 : (rt == 0) with _ | _ <;> cases b1 <;> cases b2 <;>
  ( go_enter Try.func19, Try.ntmps19
    go_wp2_with (first | (go_at_call 43; refine (HW.out _).mono ?_; rintro e w1 ⟨rfl, rfl⟩) | (go_at_call 44; refine (HP.out _).mono ?_; rintro e w1 ⟨rfl, rfl⟩))
    go_ret
    exact ⟨rfl, rfl⟩)
set_option maxRecDepth 100000 in
set_option maxHeartbeats 4000000 in
theorem sright4 : Calls Try.prog 19 #[.agg (obA 4 cap wd rt f t i0 i1 i2 i3)] w fun e w' => e = .returned (.bool (wd == 0 && (cap == 0 && rt == 0))) ∧ w' = w.alloc (.cells (obA 4 cap wd rt f t i0 i1 i2 i3) 56) := by
  have HW := Lib.hid fun w => swithin wd 1 4 w
  have e1 : (decide (1 ≤ wd) && decide (wd ≤ 4)) = wideB wd := rfl
  rw [e1] at HW
  clear e1
  unfold obA
  generalize wideB wd = b1 at HW ⊢
  rcases hb3 : (wd == 0) with _ | _ <;> rcases hb4 : (cap == 0) with _ | _ <;> rcases hb5 : (rt == 0) with _ | _ <;>
  ( go_enter Try.func19, Try.ntmps19
    go_wp2_with (first | (go_at_call 43; refine (HW.out _).mono ?_; rintro e w1 ⟨rfl, rfl⟩))
    go_ret
    exact ⟨rfl, rfl⟩)
set_option maxRecDepth 100000 in
set_option maxHeartbeats 4000000 in
theorem sright2 : Calls Try.prog 19 #[.agg (obA 2 cap wd rt f t i0 i1 i2 i3)] w fun e w' => e = .returned (.bool (rt == 0 && (wideB wd && cap == 0))) ∧ w' = w.alloc (.cells (obA 2 cap wd rt f t i0 i1 i2 i3) 56) := by
  have HW := Lib.hid fun w => swithin wd 1 4 w
  have e1 : (decide (1 ≤ wd) && decide (wd ≤ 4)) = wideB wd := rfl
  rw [e1] at HW
  clear e1
  unfold obA
  generalize wideB wd = b1 at HW ⊢
  by_cases h : rt = 0
  · subst h
    rcases hb4 : (cap == 0) with _ | _ <;> cases b1 <;>
    ( go_enter Try.func19, Try.ntmps19
      go_wp2_with (first | (go_at_call 43; first | ((with_reducible refine (HW.out _).mono ?_); rintro e w1 ⟨rfl, rfl⟩) | (refine (swithin 0 0 8 _).mono ?_; rintro e w1 ⟨rfl, rfl⟩)))
      go_ret
      exact ⟨rfl, rfl⟩)
  · have h1 : (rt == 0) = false := by simpa using h
    have h2 : (rt != 0) = true := by simpa using h
    go_enter Try.func19, Try.ntmps19
    go_wp2_with (first | (go_at_call 43; refine (HW.out _).mono ?_; rintro e w1 ⟨rfl, rfl⟩))
    go_ret
    exact ⟨by rw [h1]; rfl, rfl⟩
set_option maxRecDepth 100000 in
set_option maxHeartbeats 4000000 in
theorem sright3 : Calls Try.prog 19 #[.agg (obA 3 cap wd rt f t i0 i1 i2 i3)] w fun e w' => e = .returned (.bool (wideB wd && (cap == 0 && (decide (0 ≤ rt) && decide (rt ≤ 8))))) ∧ w' = w.alloc (.cells (obA 3 cap wd rt f t i0 i1 i2 i3) 56) := by
  have HW := Lib.hid fun w => swithin wd 1 4 w
  have HT := Lib.hid fun w => swithin rt 0 8 w
  have e1 : (decide (1 ≤ wd) && decide (wd ≤ 4)) = wideB wd := rfl
  rw [e1] at HW
  clear e1
  unfold obA
  generalize wideB wd = b1 at HW ⊢
  generalize (decide (0 ≤ rt) && decide (rt ≤ 8)) = b2 at HT ⊢
  rcases hb4 : (cap == 0) with _ | _ <;> cases b1 <;> cases b2 <;>
  ( go_enter Try.func19, Try.ntmps19
    go_wp2_with fail
    refine (HW.out _).mono ?_
    rintro e w1 ⟨rfl, rfl⟩
    go_wp2_with (first | (go_at_call 43; refine (HT.out _).mono ?_; rintro e w1 ⟨rfl, rfl⟩))
    go_ret
    exact ⟨rfl, rfl⟩)
set_option maxRecDepth 100000 in
set_option maxHeartbeats 4000000 in
theorem sright0 (k : Int) (h1 : k ≠ 1) (h2 : k ≠ 2) (h3 : k ≠ 3) (h4 : k ≠ 4) : Calls Try.prog 19 #[.agg (obA k cap wd rt f t i0 i1 i2 i3)] w fun e w' => e = .returned (.bool false) ∧ w' = w.alloc (.cells (obA k cap wd rt f t i0 i1 i2 i3) 56) := by
  have HW := Lib.hid fun w => swithin wd 1 4 w
  unfold obA
  generalize (decide (1 ≤ wd) && decide (wd ≤ 4)) = b1 at HW ⊢
  have q1 : (k == 1) = false := by simpa using h1
  have q2 : (k == 2) = false := by simpa using h2
  have q3 : (k == 3) = false := by simpa using h3
  have q4 : (k == 4) = false := by simpa using h4
  clear h1 h2 h3 h4
  go_enter Try.func19, Try.ntmps19
  go_wp2_with (first | (go_at_call 43; refine (HW.out _).mono ?_; rintro e w1 ⟨rfl, rfl⟩))
  go_ret
  exact ⟨rfl, rfl⟩
theorem sright_ex (k : Int) : Calls Try.prog 19 #[.agg (obA k cap wd rt f t i0 i1 i2 i3)] w fun e w' => e = .returned (.bool (rightB k cap wd rt)) ∧ w' = w.alloc (.cells (obA k cap wd rt f t i0 i1 i2 i3) 56) := by
  unfold rightB
  by_cases h1 : k = 1
  · subst h1
    rw [if_pos rfl, ← powB_room cap, Bool.and_assoc]
    exact sright1 cap wd rt f t i0 i1 i2 i3 w
  rw [if_neg h1]
  by_cases h4 : k = 4
  · subst h4
    rw [if_pos rfl]
    exact sright4 cap wd rt f t i0 i1 i2 i3 w
  rw [if_neg h4]
  by_cases h2 : k = 2
  · subst h2
    rw [if_pos rfl]
    exact sright2 cap wd rt f t i0 i1 i2 i3 w
  rw [if_neg h2]
  by_cases h3 : k = 3
  · subst h3
    rw [if_pos rfl]
    exact sright3 cap wd rt f t i0 i1 i2 i3 w
  rw [if_neg h3]
  exact sright0 cap wd rt f t i0 i1 i2 i3 w k h1 h2 h3 h4
theorem sright_any (k : Int) : Calls Try.prog 19 #[.agg (obA k cap wd rt f t i0 i1 i2 i3)] w fun e w' => e = .returned (.bool (rightB k cap wd rt)) ∧ Upd [] w w' :=
  (sright_ex cap wd rt f t i0 i1 i2 i3 w k).mono fun _ _ ⟨h1, h2⟩ => ⟨h1, h2 ▸ (Upd.refl _ _).alloc _⟩
end
end Go.Proofs.Ytnnakiojfpnphaa
namespace Go.Proofs.Ytnnakiojfpnphaa
open Go.RowKit

section
variable (cap wd rt f t i0 i1 i2 i3 : Int) (w : World)
set_option maxRecDepth 100000 in
set_option maxHeartbeats 4000000 in
theorem rright1 : Calls Try.prog 70 #[.agg (obA 1 cap wd rt f t i0 i1 i2 i3)] w fun e w' => e = .returned (.bool (pow2B cap && (!decide (64 < cap) && (wideB wd && rt == 0)))) ∧ Upd [] w w' := by
  have HW := Lib.hid fun w => rwithin wd 1 4 w
  have HP := Lib.hid fun w => rpower_any cap w
  have e1 : (decide (1 ≤ wd) && decide (wd ≤ 4)) = wideB wd := rfl
  rw [e1] at HW
  clear e1
  unfold obA
  generalize wideB wd = b1 at HW ⊢
  generalize pow2B cap = b2 at HP ⊢
  rcases hb3 : decide (64 < cap) with _ | _ <;> rcases hb4 : (rt == 0) with _ | _ <;> cases b1 <;> cases b2 <;>
  ( go_enter Try.func70, Try.ntmps70
    go_wp2_with fail
    go_quiet (fail)
    go_wp2_with (first | (go_at_call 77; first | ((with_reducible refine (HW.out _).mono ?_); rintro e w1 ⟨rfl, rfl⟩) | (refine (rwithin 1 1 4 _).mono ?_; rintro e w1 ⟨rfl, rfl⟩)) | (go_at_call 78; refine (HP.out _).mono ?_; rintro e w1 ⟨rfl, rfl⟩))
    go_ret
    exact ⟨rfl, ((Upd.refl _ _).alloc _).drewN _⟩)
set_option maxRecDepth 100000 in
set_option maxHeartbeats 4000000 in
theorem rright4 : Calls Try.prog 70 #[.agg (obA 4 cap wd rt f t i0 i1 i2 i3)] w fun e w' => e = .returned (.bool (!(cap != 0) && (wd == 0 && rt == 0))) ∧ Upd [] w w' := by
  unfold obA
  rcases hb3 : (cap != 0) with _ | _ <;> rcases hb4 : (rt == 0) with _ | _ <;> rcases hb5 : (wd == 0) with _ | _ <;>
  ( go_enter Try.func70, Try.ntmps70
    go_wp2_with fail
    go_quiet (fail)
    go_wp2_with (first | (go_at_call 77; refine (rwithin 4 1 4 _).mono ?_; rintro e w1 ⟨rfl, rfl⟩))
    go_ret
    exact ⟨rfl, ((Upd.refl _ _).alloc _).drewN _⟩)
set_option maxRecDepth 100000 in
set_option maxHeartbeats 4000000 in
theorem rright2 : Calls Try.prog 70 #[.agg (obA 2 cap wd rt f t i0 i1 i2 i3)] w fun e w' => e = .returned (.bool (!(cap != 0) && (wideB wd && rt == 0))) ∧ Upd [] w w' := by
  have HW := Lib.hid fun w => rwithin wd 1 4 w
  have e1 : (decide (1 ≤ wd) && decide (wd ≤ 4)) = wideB wd := rfl
  rw [e1] at HW
  clear e1
  unfold obA
  generalize wideB wd = b1 at HW ⊢
  rcases hb3 : (cap != 0) with _ | _ <;> rcases hb4 : (rt == 0) with _ | _ <;> cases b1 <;>
  ( go_enter Try.func70, Try.ntmps70
    go_wp2_with fail
    go_quiet (fail)
    go_wp2_with (first | (go_at_call 77; first | ((with_reducible refine (HW.out _).mono ?_); rintro e w1 ⟨rfl, rfl⟩) | (refine (rwithin 2 1 4 _).mono ?_; rintro e w1 ⟨rfl, rfl⟩)))
    go_ret
    exact ⟨rfl, ((Upd.refl _ _).alloc _).drewN _⟩)
set_option maxRecDepth 100000 in
set_option maxHeartbeats 4000000 in
theorem rright3 : Calls Try.prog 70 #[.agg (obA 3 cap wd rt f t i0 i1 i2 i3)] w fun e w' => e = .returned (.bool (!(cap != 0) && (wideB wd && (decide (0 ≤ rt) && decide (rt ≤ 8))))) ∧ Upd [] w w' := by
  have HW := Lib.hid fun w => rwithin wd 1 4 w
  have HT := Lib.hid fun w => rwithin rt 0 8 w
  have e1 : (decide (1 ≤ wd) && decide (wd ≤ 4)) = wideB wd := rfl
  rw [e1] at HW
  clear e1
  unfold obA
  generalize wideB wd = b1 at HW ⊢
  generalize (decide (0 ≤ rt) && decide (rt ≤ 8)) = b2 at HT ⊢
  rcases hb3 : (cap != 0) with _ | _ <;> cases b1 <;> cases b2 <;>
  ( go_enter Try.func70, Try.ntmps70
    go_wp2_with fail
    go_quiet (fail)
    go_wp2_with (first | (go_at_call 77; first | ((with_reducible refine (HW.out _).mono ?_); rintro e w1 ⟨rfl, rfl⟩) | ((with_reducible refine (HT.out _).mono ?_); rintro e w1 ⟨rfl, rfl⟩) | (refine (rwithin 3 1 4 _).mono ?_; rintro e w1 ⟨rfl, rfl⟩)))
    go_ret
    exact ⟨rfl, ((Upd.refl _ _).alloc _).drewN _⟩)
set_option maxRecDepth 100000 in
set_option maxHeartbeats 4000000 in
theorem rright0 (k : Int) (h : ¬ (1 ≤ k ∧ k ≤ 4)) : Calls Try.prog 70 #[.agg (obA k cap wd rt f t i0 i1 i2 i3)] w fun e w' => e = .returned (.bool false) ∧ Upd [] w w' := by
  have HW := Lib.hid fun w => rwithin k 1 4 w
  have e1 : (decide (1 ≤ k) && decide (k ≤ 4)) = false := by rw [← Bool.decide_and]; simpa using h
  rw [e1] at HW
  have q1 : (k == 1) = false := by simp; omega
  have q3 : (k == 3) = false := by simp; omega
  clear e1 h
  unfold obA
  go_enter Try.func70, Try.ntmps70
  go_wp2_with fail
  go_quiet (fail)
  go_wp2_with (go_at_call 77; refine (HW.out _).mono ?_; rintro e w1 ⟨rfl, rfl⟩)
  go_ret
  exact ⟨rfl, ((Upd.refl _ _).alloc _).drewN _⟩
theorem rright_any (k : Int) : Calls Try.prog 70 #[.agg (obA k cap wd rt f t i0 i1 i2 i3)] w fun e w' => e = .returned (.bool (rightB k cap wd rt)) ∧ Upd [] w w' := by
  unfold rightB
  by_cases h1 : k = 1
  · subst h1
    have := rright1 cap wd rt f t i0 i1 i2 i3 w
    have e : (pow2B cap && (!decide (64 < cap) && (wideB wd && rt == 0))) = (wideB wd && (pw7 cap && rt == 0)) := by
      rw [← pow2B_room cap, show (!decide (64 < cap)) = decide (cap ≤ 64) by by_cases h : cap ≤ 64 <;> simp [h, show (64 < cap) = ¬ cap ≤ 64 by simp]]
      cases pow2B cap <;> cases decide (cap ≤ 64) <;> cases wideB wd <;> rfl
    rw [e] at this
    rw [if_pos rfl]
    exact this
  rw [if_neg h1]
  have hc : (!(cap != 0)) = (cap == 0) := by cases h : (cap == 0) <;> simp_all
  by_cases h4 : k = 4
  · subst h4
    have := rright4 cap wd rt f t i0 i1 i2 i3 w
    rw [hc, show ((cap == 0) && (wd == 0 && rt == 0)) = (wd == 0 && ((cap == 0) && rt == 0)) by cases (cap == 0) <;> cases (wd == 0) <;> rfl] at this
    rw [if_pos rfl]
    exact this
  rw [if_neg h4]
  by_cases h2 : k = 2
  · subst h2
    have := rright2 cap wd rt f t i0 i1 i2 i3 w
    rw [hc, show ((cap == 0) && (wideB wd && rt == 0)) = (rt == 0 && (wideB wd && cap == 0)) by cases (cap == 0) <;> cases (rt == 0) <;> cases wideB wd <;> rfl] at this
    rw [if_pos rfl]
    exact this
  rw [if_neg h2]
  by_cases h3 : k = 3
  · subst h3
    have := rright3 cap wd rt f t i0 i1 i2 i3 w
    rw [hc, show ((cap == 0) && (wideB wd && (decide (0 ≤ rt) && decide (rt ≤ 8)))) = (wideB wd && ((cap == 0) && (decide (0 ≤ rt) && decide (rt ≤ 8)))) by cases (cap == 0) <;> cases wideB wd <;> rfl] at this
    rw [if_pos rfl]
    exact this
  rw [if_neg h3]
  exact rright0 cap wd rt f t i0 i1 i2 i3 w k (by omega)
end
end Go.Proofs.Ytnnakiojfpnphaa
namespace Go.Proofs.Ytnnakiojfpnphaa
open Go.RowKit Go.ChangeShapes Go.WideShapes

theorem mapM_get {α β : Type} {f : α → Option β} : ∀ {l : List α} {r : List β}, l.mapM f = some r → r.length = l.length ∧ ∀ (i : Nat) (x : α), l[i]? = some x → f x = r[i]?
  | [], r, h => by simp at h; subst h; simp
  | a :: l, r, h => by
    simp only [List.mapM_cons, Option.bind_eq_bind, Option.bind_eq_some_iff, Option.pure_def, Option.some.injEq] at h
    obtain ⟨b, hb, bs, hbs, rfl⟩ := h
    obtain ⟨h1, h2⟩ := mapM_get hbs
    refine ⟨by simp [h1], fun i x hi => ?_⟩
    cases i with
    | zero => simp at hi; subst hi; simpa using hb
    | succ i => simp at hi; simpa using h2 i x hi

theorem cells_get {w : World} {base : Nat} {a : Addr} {n : Nat} {cs : List Value} (h : w.cells? base a n = some cs) : cs.length = n ∧ ∀ j v, cs[j]? = some v → w.cell? (a.add j) = some v := by
  unfold World.cells? at h
  split at h
  · obtain ⟨h1, h2⟩ := mapM_get h
    simp at h1
    refine ⟨h1, fun j v hj => ?_⟩
    have hlt : j < n := by rw [← h1]; exact (List.getElem?_eq_some_iff.1 hj).1
    rw [h2 j j (by simp [hlt]), hj]
  · cases h

/-- What a shape knows: how many cells; whether a type of the program is of it; what its cells are; whether its values are aggregates. -/
structure Sh where
  size : Nat
  agg : Bool
  fits : Program → TypeId → Bool
  ok : World → List Value → Prop
  sound : ∀ {H : Type} {enc : TypeId × Value → H} {P : Program} {w : World} {base : Nat} {spare : Nat → Bool} {held : Bool} (t : TypeId) (fuel : Nat) (cs : List Value) (x : DataW H × List MemPlace),
    fits P t = true → DataW.trod enc P w base spare held fuel t cs = some x → ok w cs
  outer : ∀ {P : Program} {w : World} {r : Reach} {base : Nat} {t : TypeId} {v : Value}, fits P t = true → Value.okWide P w r base t v → if agg then ∃ cs : Array Value, v = .agg cs else v.cells.toList = [v]

def fitsInt (k : IntKind) (P : Program) (t : TypeId) : Bool := match P.underlying t with | some (.int k') => k == k' | _ => false
theorem fitsInt_spec {k : IntKind} {P : Program} {t : TypeId} (h : fitsInt k P t = true) : P.underlying t = some (.int k) := by
  unfold fitsInt at h
  split at h
  · rename_i k' ht
    have : k = k' := by simpa using h
    rw [ht, this]
  · cases h
def Sh.int (k : IntKind) : Sh where
  size := 1
  agg := false
  fits := fitsInt k
  ok := fun _ cs => ∃ n, cs = [.int k n] ∧ (Lit.int k n).wf = true
  sound := fun t fuel cs x hf h => by
    obtain ⟨n, rfl, _, hw⟩ := DataW.trod_int (fitsInt_spec hf) h
    exact ⟨n, rfl, hw⟩
  outer := fun hf hk => by
    obtain ⟨n, rfl⟩ := okWide_int (fitsInt_spec hf) hk
    simp [Value.cells]

def fitsBool (P : Program) (t : TypeId) : Bool := match P.underlying t with | some .bool => true | _ => false
theorem fitsBool_spec {P : Program} {t : TypeId} (h : fitsBool P t = true) : P.underlying t = some .bool := by
  unfold fitsBool at h
  split at h
  · assumption
  · cases h
def Sh.bool : Sh where
  size := 1
  agg := false
  fits := fitsBool
  ok := fun _ cs => ∃ b, cs = [.bool b]
  sound := fun t fuel cs x hf h => by
    obtain ⟨b, rfl, _⟩ := DataW.trod_bool (fitsBool_spec hf) h
    exact ⟨b, rfl⟩
  outer := fun {P w r base t v} hf hk => by
    have ht := fitsBool_spec hf
    unfold Value.okWide at hk
    rw [ht] at hk
    cases v <;> simp_all [Value.cells, Cell.okWide, Cell.ok]

def fitsStr (P : Program) (t : TypeId) : Bool := match P.underlying t with | some .string => true | _ => false
theorem fitsStr_spec {P : Program} {t : TypeId} (h : fitsStr P t = true) : P.underlying t = some .string := by
  unfold fitsStr at h
  split at h
  · assumption
  · cases h
def Sh.str : Sh where
  size := 1
  agg := false
  fits := fitsStr
  ok := fun _ cs => ∃ s : ByteArray, cs = [.string s] ∧ s.size ≤ maxLen
  sound := fun t fuel cs x hf h => by
    obtain ⟨s, rfl, _, hs⟩ := DataW.trod_string (fitsStr_spec hf) h
    exact ⟨s, rfl, hs⟩
  outer := fun hf hk => by
    obtain ⟨s, rfl⟩ := okWide_string (fitsStr_spec hf) hk
    simp [Value.cells]

/-- A struct's fields, from a place on. -/
structure Fs where
  size : Nat
  fits : Program → List Field → Nat → Bool
  ok : World → List Value → Prop
  sound : ∀ {H : Type} {enc : TypeId × Value → H} {P : Program} {w : World} {base : Nat} {spare : Nat → Bool} {held : Bool} (l : List Field) (off : Nat) (n : Nat) (cs : List Value),
    cs.length = off + size → fits P l off = true → (∀ (i : Nat) (f : Field), l[i]? = some f → ∃ y : Option (DataW H × List MemPlace), DataW.trod enc P w base spare held n f.type ((cs.drop f.offset).take (P.cellsOf f.type)) = y ∧ y.isSome = true) → ok w (cs.drop off)

def Fs.nil : Fs where
  size := 0
  fits := fun _ l _ => l.isEmpty
  ok := fun _ cs => cs = []
  sound := fun l off n cs hl _ _ => by simp [hl]

def fitsCons (a : Sh) (b : Fs) (P : Program) (l : List Field) (off : Nat) : Bool := match l with
  | [] => false
  | f :: l => f.offset == off && P.cellsOf f.type == a.size && a.fits P f.type && b.fits P l (off + a.size)
def Fs.cons (a : Sh) (b : Fs) : Fs where
  size := a.size + b.size
  fits := fitsCons a b
  ok := fun w cs => ∃ x y, cs = x ++ y ∧ a.ok w x ∧ b.ok w y
  sound := fun {H enc P w base spare held} l off n cs hl hf h => by
    cases l with
    | nil => cases hf
    | cons f l =>
      unfold fitsCons at hf
      simp only [Bool.and_eq_true, beq_iff_eq] at hf
      obtain ⟨⟨⟨h1, h2⟩, h3⟩, h4⟩ := hf
      obtain ⟨y, hy, hys⟩ := h 0 f rfl
      rw [h1, h2] at hy
      obtain ⟨z, rfl⟩ := Option.isSome_iff_exists.1 hys
      refine ⟨(cs.drop off).take a.size, cs.drop (off + a.size), ?_, a.sound f.type n _ _ h3 hy, b.sound l (off + a.size) n cs (by omega) h4 (fun i g hi => h (i + 1) g (by simpa using hi))⟩
      rw [← List.drop_drop]
      exact (List.take_append_drop _ _).symm

def fitsSt (fs : Fs) (P : Program) (t : TypeId) : Bool := match P.underlying t with | some (.struct l) => P.cellsOf t == fs.size && fs.fits P l.toList 0 | _ => false
theorem fitsSt_spec {fs : Fs} {P : Program} {t : TypeId} (h : fitsSt fs P t = true) : ∃ l, P.underlying t = some (.struct l) ∧ P.cellsOf t = fs.size ∧ fs.fits P l.toList 0 = true := by
  unfold fitsSt at h
  split at h
  · rename_i l ht
    simp only [Bool.and_eq_true, beq_iff_eq] at h
    exact ⟨l, ht, h.1, h.2⟩
  · cases h
def Sh.st (fs : Fs) : Sh where
  size := fs.size
  agg := true
  fits := fitsSt fs
  ok := fs.ok
  sound := fun t fuel cs x hf h => by
    obtain ⟨l, ht, h1, h2⟩ := fitsSt_spec hf
    obtain ⟨xs, n, _, _, hl, hlen, hfs⟩ := DataW.trod_struct ht h
    exact fs.sound l.toList 0 n cs (by omega) h2 (fun i f hi => ⟨xs[i]?, by
      have := hfs i f (by simpa using hi)
      rw [this], by
        have hi' : i < l.size := by
          have := (List.getElem?_eq_some_iff.1 hi).1
          simpa using this
        rw [List.getElem?_eq_getElem (by omega)]; rfl⟩)
  outer := fun hf hk => by
    obtain ⟨l, ht, _⟩ := fitsSt_spec hf
    unfold Value.okWide at hk
    rw [ht] at hk
    obtain ⟨cs, rfl, _⟩ := hk
    exact ⟨cs, rfl⟩

def Rep (p : List Value → Prop) : Nat → List Value → Prop
  | 0, cs => cs = []
  | n + 1, cs => ∃ x y, cs = x ++ y ∧ p x ∧ Rep p n y

def fitsAr (n : Nat) (e : Sh) (P : Program) (t : TypeId) : Bool := match P.underlying t with | some (.array m u) => n == m && P.cellsOf t == n * e.size && P.cellsOf u == e.size && e.fits P u | _ => false
theorem fitsAr_spec {n : Nat} {e : Sh} {P : Program} {t : TypeId} (h : fitsAr n e P t = true) : ∃ u, P.underlying t = some (.array n u) ∧ P.cellsOf t = n * e.size ∧ P.cellsOf u = e.size ∧ e.fits P u = true := by
  unfold fitsAr at h
  split at h
  · rename_i m u ht
    simp only [Bool.and_eq_true, beq_iff_eq] at h
    obtain ⟨⟨⟨h1, h2⟩, h3⟩, h4⟩ := h
    exact ⟨u, by rw [ht, h1], h2, h3, h4⟩
  · cases h
def Sh.ar (m : Nat) (e : Sh) : Sh where
  size := m * e.size
  agg := true
  fits := fitsAr m e
  ok := fun w cs => Rep (e.ok w) m cs
  sound := fun {H enc P w base spare held} t fuel cs x hf h => by
    obtain ⟨u, ht, h2, h3, h4⟩ := fitsAr_spec hf
    obtain ⟨xs, n, _, _, hl, hlen, hel⟩ := DataW.trod_array ht h
    have key : ∀ k i, i + k = m → Rep (e.ok w) k (cs.drop (i * e.size)) := by
      intro k
      induction k with
      | zero =>
        intro i hi
        have : i = m := by omega
        subst this
        simp [Rep, hl, h2]
      | succ k ih =>
        intro i hi
        refine ⟨(cs.drop (i * e.size)).take e.size, cs.drop ((i + 1) * e.size), ?_, ?_, ih (i + 1) (by omega)⟩
        · rw [Nat.add_mul, Nat.one_mul, ← List.drop_drop]; exact (List.take_append_drop _ _).symm
        · have h5 := hel i (by omega)
          rw [h3] at h5
          rw [List.getElem?_eq_getElem (by omega)] at h5
          exact e.sound u n _ _ h4 h5
    simpa using key m 0 (by omega)
  outer := fun hf hk => by
    obtain ⟨u, ht, _⟩ := fitsAr_spec hf
    unfold Value.okWide at hk
    rw [ht] at hk
    obtain ⟨cs, rfl, _⟩ := hk
    exact ⟨cs, rfl⟩

def fitsSlice (e : Sh) (P : Program) (t : TypeId) : Bool := match P.underlying t with | some (.slice u) => P.cellsOf u == e.size && decide (0 < e.size) && e.fits P u | _ => false
theorem fitsSlice_spec {e : Sh} {P : Program} {t : TypeId} (h : fitsSlice e P t = true) : ∃ u, P.underlying t = some (.slice u) ∧ P.cellsOf u = e.size ∧ 0 < e.size ∧ e.fits P u = true := by
  unfold fitsSlice at h
  split at h
  · rename_i u ht
    simp only [Bool.and_eq_true, beq_iff_eq, decide_eq_true_eq] at h
    exact ⟨u, ht, h.1.1, h.1.2, h.2⟩
  · cases h
def Sh.slice (e : Sh) : Sh where
  size := 1
  agg := false
  fits := fitsSlice e
  ok := fun w cs => ∃ a len cap, cs = [.slice a len cap] ∧ len ≤ cap ∧ cap ≤ maxLen ∧ ∃ f : Nat → List Value, (∀ i, i < len → e.ok w (f i) ∧ (f i).length = e.size) ∧
    (0 < len → ∃ b off, a = some ⟨b, off, none⟩ ∧ b < w.heap.size ∧ ∀ i, i < len → ∀ j v, (f i)[j]? = some v → w.cell? ⟨b, off + i * e.size + j, none⟩ = some v) ∧ (a = none → cap = 0)
  sound := fun {H enc P w base spare held} t fuel cs x hf h => by
    obtain ⟨u, ht, h1, h2, h3⟩ := fitsSlice_spec hf
    rcases DataW.trod_slice ht h with ⟨rfl, _⟩ | ⟨a, len, cap, elems, rest, n, _, rfl, _, _, hlc, hcm, hlen, hel, _, _⟩
    · exact ⟨none, 0, 0, rfl, Nat.le_refl _, by simp [maxLen], fun _ => [], fun i hi => by omega, fun h0 => by omega, fun _ => rfl⟩
    · have hc : ∀ i, ∃ ecs : List Value, i < len → (e.ok w ecs ∧ ecs.length = e.size) ∧ ∀ j v, ecs[j]? = some v → w.cell? ((a.add (i * e.size)).add j) = some v := by
        intro i
        by_cases hi : i < len
        · have h5 := hel i hi
          rw [List.getElem?_eq_getElem (by omega)] at h5
          rw [Option.bind_eq_some_iff] at h5
          obtain ⟨ecs, hcs, htr⟩ := h5
          rw [h1] at hcs
          obtain ⟨hl, hg⟩ := cells_get hcs
          exact ⟨ecs, fun _ => ⟨⟨e.sound u n _ _ h3 htr, hl⟩, hg⟩⟩
        · exact ⟨[], fun h => absurd h hi⟩
      refine ⟨some a, len, cap, rfl, hlc, hcm, fun i => Classical.choose (hc i), fun i hi => (Classical.choose_spec (hc i) hi).1, fun h0 => ?_, fun h => by cases h⟩
      obtain ⟨b, off, spot⟩ := a
      have hs0 := Classical.choose_spec (hc 0) h0
      have hl0 := hs0.1.2
      have hc0 := hs0.2 0 _ (List.getElem?_eq_getElem (by omega))
      have hspot : spot = none := by simpa [Addr.add] using World.cell?_spot hc0
      subst hspot
      refine ⟨b, off, rfl, by simpa [Addr.add] using World.block_lt_of_cell? w _ hc0, fun i hi j v hj => ?_⟩
      have h6 := (Classical.choose_spec (hc i) hi).2 j v hj
      have e1 : ((⟨b, off, none⟩ : Addr).add (i * e.size)).add j = ⟨b, off + i * e.size + j, none⟩ := by
        unfold Addr.add
        split <;> split <;> simp_all <;> omega
      rw [e1] at h6
      exact h6
  outer := fun hf hk => by
    obtain ⟨u, ht, _⟩ := fitsSlice_spec hf
    obtain ⟨a, l, c, rfl⟩ := okWide_slice ht hk
    simp [Value.cells]

/-- A value of a struct's or an array's type is an aggregate; any other is its one cell. -/
def Sh.okV (w : World) (s : Sh) (v : Value) : Prop := if s.agg then ∃ cs : Array Value, v = .agg cs ∧ s.ok w cs.toList else s.ok w [v]

theorem Sh.okV_of {H : Type} {enc : TypeId × Value → H} {P : Program} {w : World} {base b2 : Nat} {r : Reach} {spare : Nat → Bool} {held : Bool} (s : Sh) {t : TypeId} {v : Value} {d : DataW H} {ps : List MemPlace} (hf : s.fits P t = true)
    (h : DataW.Trod enc P w base spare held t v d ps) (hk : Value.okWide P w r b2 t v) : s.okV w v := by
  obtain ⟨fuel, h⟩ := h
  have ho := s.sound t fuel _ _ hf h
  have hu := s.outer hf hk
  unfold Sh.okV
  split at hu
  · obtain ⟨cs, rfl⟩ := hu
    rename_i ha
    rw [if_pos ha]
    exact ⟨cs, rfl, by simpa [Value.cells] using ho⟩
  · rename_i ha
    rw [if_neg ha]
    rwa [hu] at ho

/-- Of each place something: a list of them. -/
theorem list_of {α : Type} (n : Nat) (R : Nat → α → Prop) (h : ∀ i, i < n → ∃ x, R i x) : ∃ xs : List α, xs.length = n ∧ ∀ i (hi : i < xs.length), R i xs[i] := by
  induction n with
  | zero => exact ⟨[], rfl, fun i hi => by simp at hi⟩
  | succ n ih =>
    obtain ⟨xs, hl, hx⟩ := ih fun i hi => h i (by omega)
    obtain ⟨x, hr⟩ := h n (by omega)
    refine ⟨xs ++ [x], by simp [hl], fun i hi => ?_⟩
    by_cases hin : i < xs.length
    · rw [List.getElem_append_left hin]; exact hx i hin
    · simp at hi
      have : i = n := by omega
      subst this
      rw [List.getElem_append_right (by omega)]
      simpa [hl] using hr

/-- A slice of numbers, as the walks read it. -/
theorem reads_ints0 {w : World} {k : IntKind} {v : Value} (h : (Sh.slice (.int k)).okV w v) : ∃ (a : Option Addr) (cap : Nat) (xs : List Int), v = .slice a xs.length cap ∧ xs.length ≤ maxLen ∧ Reads w a xs.length (xs.map (Value.int k)) ∧ (∀ x ∈ xs, (Lit.int k x).wf = true) ∧ (a = none → cap = 0) := by
  obtain ⟨a, len, cap, hv, hlc, hcm, f, hf, hm, h0⟩ : (Sh.slice (.int k)).ok w [v] := h
  obtain rfl : v = .slice a len cap := by simpa using hv
  obtain ⟨xs, hl, hx⟩ := list_of len (fun i x => f i = [.int k x] ∧ (Lit.int k x).wf = true) (fun i hi => by
    exact (hf i hi).1)
  subst hl
  refine ⟨a, cap, xs, rfl, by omega, ⟨by simp, fun h0 => ?_⟩, fun x hx' => ?_, h0⟩
  · obtain ⟨b, off, e, hb, hc⟩ := hm h0
    refine ⟨b, off, e, hb, fun j v hj => ?_⟩
    simp at hj
    obtain ⟨x, hxj, rfl⟩ := hj
    obtain ⟨hjl, rfl⟩ := List.getElem?_eq_some_iff.1 hxj
    have := hc j hjl 0 (.int k xs[j]) (by rw [(hx j hjl).1]; rfl)
    simpa [Sh.int] using this
  · obtain ⟨i, hi, rfl⟩ := List.getElem_of_mem hx'
    exact (hx i hi).2
theorem reads_ints {w : World} {k : IntKind} {v : Value} (h : (Sh.slice (.int k)).okV w v) : ∃ (a : Option Addr) (cap : Nat) (xs : List Int), v = .slice a xs.length cap ∧ xs.length ≤ maxLen ∧ Reads w a xs.length (xs.map (Value.int k)) ∧ ∀ x ∈ xs, (Lit.int k x).wf = true := by
  obtain ⟨a, cap, xs, h1, h2, h3, h4, _⟩ := reads_ints0 h
  exact ⟨a, cap, xs, h1, h2, h3, h4⟩
end Go.Proofs.Ytnnakiojfpnphaa
namespace Go.Proofs.Ytnnakiojfpnphaa
open Go.RowKit

/-- A configuration's cells. -/
def cfA (ta : Option Addr) (tn tc : Nat) (la : Option Addr) (ln lc : Nat) (oa : Option Addr) (on oc : Nat) (tk : Int) : Array Value := #[.slice ta tn tc, .slice la ln lc, .slice oa on oc, .int .i64 tk]
def hasB (tn ln : Nat) (ctx : Int) : Bool := decide (-(ln : Int) ≤ ctx) && decide (ctx ≤ (tn : Int) - 1)
section
variable (ta la oa : Option Addr) (tn tc ln lc on oc : Nat) (tk : Int) (w : World)
end
end Go.Proofs.Ytnnakiojfpnphaa
namespace Go.Proofs.Ytnnakiojfpnphaa
open Go.RowKit


def oneB (tn ln : Nat) (ctx : Int) (is : Bool) : Bool := if is then hasB tn ln ctx else ctx == 0
def ownB (tn ln : Nat) (k f t : Int) : Bool := oneB tn ln f (k != 4) && oneB tn ln t (k == 1 || k == 2)
theorem cells4 {w : World} {k : Nat} {a b c d : Value} {t : TypeId} {fr : Nat × Nat} (hh : w.heap[k]? = some (.cells #[a, b, c, d] t fr)) :
    w.cell? ⟨k, 0, none⟩ = some a ∧ w.cell? ⟨k, 1, none⟩ = some b ∧ w.cell? ⟨k, 2, none⟩ = some c ∧ w.cell? ⟨k, 3, none⟩ = some d :=
  ⟨by rw [cell_of_heap hh]; rfl, by rw [cell_of_heap hh]; rfl, by rw [cell_of_heap hh]; rfl, by rw [cell_of_heap hh]; rfl⟩
theorem cells10' {w : World} {k : Nat} {a b c d e f g h i j : Value} {t : TypeId} {fr : Nat × Nat} (hh : w.heap[k]? = some (.cells #[a, b, c, d, e, f, g, h, i, j] t fr)) :
    w.cell? ⟨k, 0, none⟩ = some a ∧ w.cell? ⟨k, 1, none⟩ = some b ∧ w.cell? ⟨k, 2, none⟩ = some c ∧ w.cell? ⟨k, 3, none⟩ = some d ∧ w.cell? ⟨k, 4, none⟩ = some e ∧ w.cell? ⟨k, 5, none⟩ = some f :=
  ⟨by rw [cell_of_heap hh]; rfl, by rw [cell_of_heap hh]; rfl, by rw [cell_of_heap hh]; rfl, by rw [cell_of_heap hh]; rfl, by rw [cell_of_heap hh]; rfl, by rw [cell_of_heap hh]; rfl⟩
section
variable (ta la oa : Option Addr) (tn tc ln lc on oc : Nat) (tk : Int) (w : World)
end
end Go.Proofs.Ytnnakiojfpnphaa
namespace Go.Proofs.Ytnnakiojfpnphaa
open Go.RowKit

/-- Elements of several cells, one behind the other. -/
def Els (w : World) (a : Option Addr) (sz : Nat) (xs : List (List Value)) : Prop :=
  0 < xs.length → ∃ b off, a = some ⟨b, off, none⟩ ∧ b < w.heap.size ∧ ∀ i (hi : i < xs.length) j v, xs[i][j]? = some v → w.cell? ⟨b, off + i * sz + j, none⟩ = some v
theorem Els.upd {w w' : World} {S : List Nat} {a : Option Addr} {sz : Nat} {xs : List (List Value)} (h : Els w a sz xs) (hu : Upd S w w') (hS : ∀ k, k ∈ S → w.heap.size ≤ k) : Els w' a sz xs := fun h0 => by
  obtain ⟨b, off, e, hb, hc⟩ := h h0
  refine ⟨b, off, e, Nat.lt_of_lt_of_le hb hu.size, fun i hi j v hv => ?_⟩
  rw [hu.cell (p := ⟨b, off + i * sz + j, none⟩) hb (fun hk => by have := hS b hk; omega)]
  exact hc i hi j v hv
structure TK where
  (p : Int) (l : Bool) (ca : Option Addr) (cn cc : Nat)
structure LV where
  (r : Int) (ca : Option Addr) (cn cc : Nat)
structure OBJ where
  (k cap wd rt f t i0 i1 i2 i3 : Int)
def TK.cells (x : TK) : List Value := [.int .i64 x.p, .bool x.l, .slice x.ca x.cn x.cc]
def LV.cells (x : LV) : List Value := [.int .i64 x.r, .slice x.ca x.cn x.cc]
def OBJ.cells (x : OBJ) : List Value := (obA x.k x.cap x.wd x.rt x.f x.t x.i0 x.i1 x.i2 x.i3).toList
structure CF where
  (ts : List TK) (ls : List LV) (os : List OBJ) (tk : Int)
def TK.fault (x : TK) : Int := if decide (0 ≤ x.p) && decide (x.p ≤ 31) then (if 64 < x.cn then 14 else 0) else 2
def LV.fault (x : LV) : Int := if pw7 x.r then (if 64 < x.cn then 14 else 0) else 13
def OBJ.fault (tn ln : Nat) (x : OBJ) : Int :=
  if decide (1 ≤ x.k) && decide (x.k ≤ 4) then
    if x.k == 1 && !pw7 x.cap then 13
    else if rightB x.k x.cap x.wd x.rt then (if ownB tn ln x.k x.f x.t then 0 else 10) else 2
  else 12
def cntF (n a b : Int) : Int := if decide (a ≤ n) && decide (n ≤ b) then 0 else 2
/-- What is wrong with each place of a part, 0 where nothing is. -/
def CF.faults (c : CF) : Nat → List Int
  | 1 => [cntF c.ts.length 1 16, cntF c.ls.length 0 31, cntF c.os.length 0 16, cntF c.tk 0 c.ls.length]
  | 2 => c.ts.map TK.fault
  | 3 => c.ls.map LV.fault
  | 4 => c.os.map (OBJ.fault c.ts.length c.ls.length)
  | _ => []
def ansV : Option Int → Value
  | none => .tuple #[.int .i64 0, .bool false]
  | some f => .tuple #[.int .i64 f, .bool true]
/-- A configuration as it can be read. -/
structure CFR (w : World) (ta : Option Addr) (la : Option Addr) (oa : Option Addr) (c : CF) : Prop where
  t : Els w ta 3 (c.ts.map TK.cells)
  l : Els w la 2 (c.ls.map LV.cells)
  o : Els w oa 10 (c.os.map OBJ.cells)
  tn : c.ts.length ≤ 1000
  ln : c.ls.length ≤ 1000
  on : c.os.length ≤ 1000
  tcn : ∀ x ∈ c.ts, x.cn ≤ maxLen
  lcn : ∀ x ∈ c.ls, x.cn ≤ maxLen
theorem CFR.upd {w w' : World} {ta la oa : Option Addr} {c : CF} (h : CFR w ta la oa c) (hu : Upd [] w w') : CFR w' ta la oa c :=
  ⟨h.t.upd hu (by simp), h.l.upd hu (by simp), h.o.upd hu (by simp), h.tn, h.ln, h.on, h.tcn, h.lcn⟩

section
variable {ta la oa : Option Addr} (tc lc oc : Nat) {c : CF} {w : World}
end
end Go.Proofs.Ytnnakiojfpnphaa
namespace Go.Proofs.Ytnnakiojfpnphaa
open Go.RowKit

theorem els_at {w : World} {a : Option Addr} {sz : Nat} {α : Type} {f : α → List Value} {xs : List α} (h : Els w a sz (xs.map f)) {i : Nat} (hi : i < xs.length) : ∃ b off, a = some ⟨b, off, none⟩ ∧ b < w.heap.size ∧ ∀ j v, (f xs[i])[j]? = some v → w.cell? ⟨b, off + i * sz + j, none⟩ = some v := by
  obtain ⟨b, off, e, hb, hc⟩ := h (by simp; omega)
  exact ⟨b, off, e, hb, fun j v hv => hc i (by simpa using hi) j v (by simpa using hv)⟩
section
variable {ta la oa : Option Addr} (tc lc oc : Nat) {c : CF} {w : World}
end
end Go.Proofs.Ytnnakiojfpnphaa
namespace Go.Proofs.Ytnnakiojfpnphaa
open Go.RowKit
theorem pw7_le {n : Int} (h : pw7 n = true) : n ≤ 64 := by
  simp [pw7] at h
  omega
theorem flat_get {α : Type} (f : α → List Value) (sz : Nat) (hl : ∀ x, (f x).length = sz) : ∀ (xs : List α) (i : Nat) (hi : i < xs.length) (j : Nat) (v : Value), (f xs[i])[j]? = some v → (xs.flatMap f)[i * sz + j]? = some v
  | [], i, hi, _, _, _ => by simp at hi
  | x :: xs, 0, hi, j, v, h => by
    simp only [List.getElem_cons_zero] at h
    rw [List.flatMap_cons, Nat.zero_mul, Nat.zero_add, List.getElem?_append_left (List.getElem?_eq_some_iff.1 h).1]
    exact h
  | x :: xs, i + 1, hi, j, v, h => by
    have e : (i + 1) * sz = i * sz + sz := by rw [Nat.add_mul, Nat.one_mul]
    rw [List.flatMap_cons, List.getElem?_append_right (by rw [hl, e]; omega), hl, show (i + 1) * sz + j - sz = i * sz + j by omega]
    exact flat_get f sz hl xs i (by simpa using hi) j v (by simpa using h)
theorem flat_inv {α : Type} (f : α → List Value) (sz : Nat) (hl : ∀ x, (f x).length = sz) : ∀ (xs : List α) (j : Nat) (u : Value), (xs.flatMap f)[j]? = some u → ∃ (i : Nat) (hi : i < xs.length) (k : Nat), j = i * sz + k ∧ (f xs[i])[k]? = some u
  | [], j, u, h => by simp at h
  | x :: xs, j, u, h => by
    rw [List.flatMap_cons] at h
    by_cases hj : j < sz
    · rw [List.getElem?_append_left (by rw [hl]; exact hj)] at h
      exact ⟨0, by simp, j, by omega, h⟩
    · rw [List.getElem?_append_right (by rw [hl]; omega), hl] at h
      obtain ⟨i, hi, k, e, hk⟩ := flat_inv f sz hl xs (j - sz) u h
      refine ⟨i + 1, by simpa using hi, k, ?_, by simpa using hk⟩
      rw [Nat.add_mul, Nat.one_mul]
      omega
theorem flat_own {α : Type} (f : α → List Value) {sz : Nat} (hl : ∀ x, (f x).length = sz) {w : World} {base n : Nat} {e : TypeId} {v : Value} {xs : List α} (h : w.ownsRow base e sz v n (xs.flatMap f)) (hn : n = xs.length) : ∃ a cap, v = .slice a xs.length cap ∧ (a = none → cap = 0) ∧ Els w a sz (xs.map f) := by
  subst hn
  obtain ⟨a, cap, e1, h0, h1⟩ := own_shape h
  refine ⟨a, cap, e1, h0, fun hp => ?_⟩
  obtain ⟨b, off, e2, hb, hc⟩ := h1 (by simpa using hp)
  refine ⟨b, off, e2, hb, fun i hi j u hu => ?_⟩
  have := hc _ _ (flat_get f sz hl xs i (by simpa using hi) j u (by simpa using hu))
  rw [← Nat.add_assoc] at this
  exact this
theorem slice_els {α : Type} {e : Sh} {w : World} {v : Value} (f : α → List Value) (dec : ∀ cs, e.ok w cs → ∃ x, cs = f x) (h : (Sh.slice e).okV w v) : ∃ (a : Option Addr) (cap : Nat) (xs : List α), v = .slice a xs.length cap ∧ xs.length ≤ cap ∧ cap ≤ maxLen ∧ Els w a e.size (xs.map f) := by
  obtain ⟨a, len, cap, hv, hlc, hcm, g, hf, hm, h0⟩ : (Sh.slice e).ok w [v] := h
  obtain rfl : v = .slice a len cap := by simpa using hv
  obtain ⟨xs, hl, hx⟩ := list_of len (fun i x => g i = f x) (fun i hi => by
    obtain ⟨x, hx⟩ := dec _ (hf i hi).1
    exact ⟨x, hx⟩)
  subst hl
  refine ⟨a, cap, xs, rfl, hlc, hcm, fun hp => ?_⟩
  obtain ⟨b, off, e1, hb, hc⟩ := hm (by simpa using hp)
  refine ⟨b, off, e1, hb, fun i hi j u hu => ?_⟩
  have hi' : i < xs.length := by simpa using hi
  exact hc i hi' j u (by rw [hx i hi']; simpa using hu)
end Go.Proofs.Ytnnakiojfpnphaa
