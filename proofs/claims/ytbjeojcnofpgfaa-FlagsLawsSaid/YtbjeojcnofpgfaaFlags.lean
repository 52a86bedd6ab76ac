/- Package flags: what holds. -/
import Derived.Test.YtbjeojcnofpgfaaSite3
set_option linter.unusedVariables false
set_option linter.unusedSimpArgs false
namespace Go.Proofs.Ytbjeojcnofpgfaa
open Go.RowKit

def holdsB (kind word mask : Int) : Bool := if kind = 4 then bits .and .u32 word mask != 0 else if kind = 5 then bits .and .u32 word mask == mask else true

set_option maxRecDepth 100000 in
set_option maxHeartbeats 400000 in
theorem holds1_any (w : World) (p q : Nat) (word mask : Int) (hp : w.cell? ⟨p, 0, none⟩ = some (.int .u32 word)) (hq : w.cell? ⟨q, 0, none⟩ = some (.int .u32 mask)) :
    Calls Try.prog 126 #[.pointer (some ⟨p, 0, none⟩), .pointer (some ⟨q, 0, none⟩)] w fun e w' => e = .returned (.int .u32 (bits .and .u32 word mask)) ∧ w = w' := by
  go_enter Try.func126, Try.ntmps126
  go_wp2
  go_ret
  exact ⟨rfl, rfl⟩

set_option maxRecDepth 100000 in
set_option maxHeartbeats 1000000 in
theorem holds_any (kind word mask : Int) (W : World) : Calls Try.prog 69 #[.int .i64 kind, .int .u32 word, .int .u32 mask] W fun e w' => e = .returned (.bool (holdsB kind word mask)) ∧ Upd [] W w' := by
  have hmf : ∀ (fn : Fn) (first cap : Array Value) (w : World), (Instr.makeFunc fn first cap).run Try.prog w = .ok (.func fn first cap) w := fun _ _ _ _ => rfl
  have hp : ((W.alloc (.cells #[.int .u32 word] 33)).alloc (.cells #[.int .u32 mask] 33)).cell? ⟨W.heap.size, 0, none⟩ = some (.int .u32 word) := by
    rw [cell_of_heap ((heap_alloc_other _ _ (by simp)).trans (heap_alloc_new _ _))]; rfl
  have hq : ((W.alloc (.cells #[.int .u32 word] 33)).alloc (.cells #[.int .u32 mask] 33)).cell? ⟨W.heap.size + 1, 0, none⟩ = some (.int .u32 mask) := by
    rw [cell_of_heap (heap_alloc_at _ (by simp))]; rfl
  have HH := Lib.hid fun (w : World) (h1 : w.cell? ⟨W.heap.size, 0, none⟩ = some (.int .u32 word)) (h2 : w.cell? ⟨W.heap.size + 1, 0, none⟩ = some (.int .u32 mask)) => holds1_any w _ _ word mask h1 h2
  by_cases h4 : kind = 4
  · subst h4
    have e : holdsB 4 word mask = (bits .and .u32 word mask != 0) := by simp [holdsB]
    rw [e]
    clear e
    go_enter Try.func69, Try.ntmps69
    go_wp2_with (go_at_call 126; refine (HH.out _ hp hq).mono ?_; rintro e w1 ⟨rfl, rfl⟩)
    go_ret
    exact ⟨rfl, ((Upd.refl _ _).alloc _).alloc _⟩
  by_cases h5 : kind = 5
  · subst h5
    have e : holdsB 5 word mask = (bits .and .u32 word mask == mask) := by simp [holdsB]
    rw [e]
    clear e
    go_enter Try.func69, Try.ntmps69
    go_wp2
    go_region_held3 (fun w' => w'.cell? ⟨W.heap.size, 0, none⟩ = some (.int .u32 word) ∧ w'.cell? ⟨W.heap.size + 1, 0, none⟩ = some (.int .u32 mask))
      (first | exact ⟨hp, hq⟩ | (go_keep; done))
      (first | (go_at_call 126; refine (HH.out _ (by first | exact hp | simpa using hp) (by first | exact hq | simpa using hq)).mono ?_; rintro e w1 ⟨rfl, rfl⟩))
    all_goals
      go_wp2
      go_ret
      first | exact ⟨rfl, ((Upd.refl _ _).alloc _).alloc _⟩ | exact ⟨rfl, (((Upd.refl _ _).alloc _).alloc _).drew⟩
  · have e : holdsB kind word mask = true := by simp [holdsB, h4, h5]
    rw [e]
    have e1 : (kind == 4) = false := by simpa using h4
    have e2 : (kind == 5) = false := by simpa using h5
    clear e h4 h5
    go_enter Try.func69, Try.ntmps69
    go_wp2
    go_ret
    exact ⟨rfl, ((Upd.refl _ _).alloc _).alloc _⟩
end Go.Proofs.Ytbjeojcnofpgfaa
