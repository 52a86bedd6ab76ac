/- Package spec: an item's kind, its word, plain kinds; flags.Holds. -/
import Derived.Test.YtdbgnnkbcebpcaaSP1
import Derived.Test.YtdbgnnkbcebpcaaCF8
import Derived.Deep.MidRow
import Derived.Deep.RegionHeld3
set_option linter.unusedVariables false
set_option linter.unusedSimpArgs false
namespace Go.Proofs.Ytdbgnnkbcebpcaa
open Go.RowKit

def holdsB (kind word mask : Int) : Bool := if kind = 4 then bits .and .u32 word mask != 0 else if kind = 5 then bits .and .u32 word mask == mask else true

set_option maxRecDepth 100000 in
set_option maxHeartbeats 400000 in
theorem holds1_any (w : World) (p q : Nat) (word mask : Int) (hp : w.cell? ⟨p, 0, none⟩ = some (.int .u32 word)) (hq : w.cell? ⟨q, 0, none⟩ = some (.int .u32 mask)) :
    Calls Try.prog 87 #[.pointer (some ⟨p, 0, none⟩), .pointer (some ⟨q, 0, none⟩)] w fun e w' => e = .returned (.int .u32 (bits .and .u32 word mask)) ∧ w = w' := by
  go_enter Try.func87, Try.ntmps87
  go_wp2
  go_ret
  exact ⟨rfl, rfl⟩

set_option maxRecDepth 100000 in
set_option maxHeartbeats 1000000 in
theorem holds_any (kind word mask : Int) (W : World) : Calls Try.prog 74 #[.int .i64 kind, .int .u32 word, .int .u32 mask] W fun e w' => e = .returned (.bool (holdsB kind word mask)) ∧ Upd [] W w' := by
  have hmf : ∀ (fn : Fn) (first cap : Array Value) (w : World), (Instr.makeFunc fn first cap).run Try.prog w = .ok (.func fn first cap) w := fun _ _ _ _ => rfl
  have hp : ((W.alloc (.cells #[.int .u32 word] 24)).alloc (.cells #[.int .u32 mask] 24)).cell? ⟨W.heap.size, 0, none⟩ = some (.int .u32 word) := by
    rw [cell_of_heap ((heap_alloc_other _ _ (by simp)).trans (heap_alloc_new _ _))]; rfl
  have hq : ((W.alloc (.cells #[.int .u32 word] 24)).alloc (.cells #[.int .u32 mask] 24)).cell? ⟨W.heap.size + 1, 0, none⟩ = some (.int .u32 mask) := by
    rw [cell_of_heap (heap_alloc_at _ (by simp))]; rfl
  have HH := Lib.hid fun (w : World) (h1 : w.cell? ⟨W.heap.size, 0, none⟩ = some (.int .u32 word)) (h2 : w.cell? ⟨W.heap.size + 1, 0, none⟩ = some (.int .u32 mask)) => holds1_any w _ _ word mask h1 h2
  by_cases h4 : kind = 4
  · subst h4
    have e : holdsB 4 word mask = (bits .and .u32 word mask != 0) := by simp [holdsB]
    rw [e]
    clear e
    go_enter Try.func74, Try.ntmps74
    go_wp2_with (go_at_call 87; refine (HH.out _ hp hq).mono ?_; rintro e w1 ⟨rfl, rfl⟩)
    go_ret
    exact ⟨rfl, ((Upd.refl _ _).alloc _).alloc _⟩
  by_cases h5 : kind = 5
  · subst h5
    have e : holdsB 5 word mask = (bits .and .u32 word mask == mask) := by simp [holdsB]
    rw [e]
    clear e
    go_enter Try.func74, Try.ntmps74
    go_wp2
    go_region_held3 (fun w' => w'.cell? ⟨W.heap.size, 0, none⟩ = some (.int .u32 word) ∧ w'.cell? ⟨W.heap.size + 1, 0, none⟩ = some (.int .u32 mask))
      (first | exact ⟨hp, hq⟩ | (go_keep; done))
      (first | (go_at_call 87; refine (HH.out _ (by first | exact hp | simpa using hp) (by first | exact hq | simpa using hq)).mono ?_; rintro e w1 ⟨rfl, rfl⟩))
    all_goals
      go_wp2
      go_ret
      first | exact ⟨rfl, ((Upd.refl _ _).alloc _).alloc _⟩ | exact ⟨rfl, (((Upd.refl _ _).alloc _).alloc _).drew⟩
  · have e : holdsB kind word mask = true := by simp [holdsB, h4, h5]
    rw [e]
    have e1 : (kind == 4) = false := by simpa using h4
    have e2 : (kind == 5) = false := by simpa using h5
    clear e h4 h5
    go_enter Try.func74, Try.ntmps74
    go_wp2
    go_ret
    exact ⟨rfl, ((Upd.refl _ _).alloc _).alloc _⟩

set_option maxRecDepth 100000 in
set_option maxHeartbeats 1000000 in
theorem holds4_ex (word mask : Int) (W : World) : Calls Try.prog 74 #[.int .i64 4, .int .u32 word, .int .u32 mask] W fun e w' => e = .returned (.bool (holdsB 4 word mask)) ∧ w' = (W.alloc (.cells #[.int .u32 word] 24)).alloc (.cells #[.int .u32 mask] 24) := by
  have hmf : ∀ (fn : Fn) (first cap : Array Value) (w : World), (Instr.makeFunc fn first cap).run Try.prog w = .ok (.func fn first cap) w := fun _ _ _ _ => rfl
  have hp : ((W.alloc (.cells #[.int .u32 word] 24)).alloc (.cells #[.int .u32 mask] 24)).cell? ⟨W.heap.size, 0, none⟩ = some (.int .u32 word) := by
    rw [cell_of_heap ((heap_alloc_other _ _ (by simp)).trans (heap_alloc_new _ _))]; rfl
  have hq : ((W.alloc (.cells #[.int .u32 word] 24)).alloc (.cells #[.int .u32 mask] 24)).cell? ⟨W.heap.size + 1, 0, none⟩ = some (.int .u32 mask) := by
    rw [cell_of_heap (heap_alloc_at _ (by simp))]; rfl
  have HH := Lib.hid fun (w : World) (h1 : w.cell? ⟨W.heap.size, 0, none⟩ = some (.int .u32 word)) (h2 : w.cell? ⟨W.heap.size + 1, 0, none⟩ = some (.int .u32 mask)) => holds1_any w _ _ word mask h1 h2
  have e : holdsB 4 word mask = (bits .and .u32 word mask != 0) := by simp [holdsB]
  rw [e]
  clear e
  go_enter Try.func74, Try.ntmps74
  go_wp2_with (go_at_call 87; refine (HH.out _ hp hq).mono ?_; rintro e w1 ⟨rfl, rfl⟩)
  go_ret
  exact ⟨rfl, rfl⟩
set_option maxRecDepth 100000 in
set_option maxHeartbeats 1000000 in
theorem holds5_ex (word mask : Int) (W : World) : Calls Try.prog 74 #[.int .i64 5, .int .u32 word, .int .u32 mask] W fun e w' => e = .returned (.bool (holdsB 5 word mask)) ∧ w' = ((W.alloc (.cells #[.int .u32 word] 24)).alloc (.cells #[.int .u32 mask] 24)).drew := by
  have hmf : ∀ (fn : Fn) (first cap : Array Value) (w : World), (Instr.makeFunc fn first cap).run Try.prog w = .ok (.func fn first cap) w := fun _ _ _ _ => rfl
  have hp : ((W.alloc (.cells #[.int .u32 word] 24)).alloc (.cells #[.int .u32 mask] 24)).cell? ⟨W.heap.size, 0, none⟩ = some (.int .u32 word) := by
    rw [cell_of_heap ((heap_alloc_other _ _ (by simp)).trans (heap_alloc_new _ _))]; rfl
  have hq : ((W.alloc (.cells #[.int .u32 word] 24)).alloc (.cells #[.int .u32 mask] 24)).cell? ⟨W.heap.size + 1, 0, none⟩ = some (.int .u32 mask) := by
    rw [cell_of_heap (heap_alloc_at _ (by simp))]; rfl
  have HH := Lib.hid fun (w : World) (h1 : w.cell? ⟨W.heap.size, 0, none⟩ = some (.int .u32 word)) (h2 : w.cell? ⟨W.heap.size + 1, 0, none⟩ = some (.int .u32 mask)) => holds1_any w _ _ word mask h1 h2
  have e : holdsB 5 word mask = (bits .and .u32 word mask == mask) := by simp [holdsB]
  rw [e]
  clear e
  go_enter Try.func74, Try.ntmps74
  go_wp2
  go_region_held3 (fun w' => w'.cell? ⟨W.heap.size, 0, none⟩ = some (.int .u32 word) ∧ w'.cell? ⟨W.heap.size + 1, 0, none⟩ = some (.int .u32 mask))
    (first | exact ⟨hp, hq⟩ | (go_keep; done))
    (first | (go_at_call 87; refine (HH.out _ (by first | exact hp | simpa using hp) (by first | exact hq | simpa using hq)).mono ?_; rintro e w1 ⟨rfl, rfl⟩))
  all_goals
    go_wp2
    go_ret
    exact ⟨rfl, rfl⟩
def itA (k cap wd rt f t i0 i1 i2 i3 : Int) (ra : Option Addr) (rn rc : Nat) (v0 v1 v2 v3 : Int) : Array Value :=
  #[.int .i64 k, .int .i64 cap, .int .i64 wd, .int .i64 rt, .int .i64 f, .int .i64 t, .int .u32 i0, .int .u32 i1, .int .u32 i2, .int .u32 i3, .slice ra rn rc, .int .u32 v0, .int .u32 v1, .int .u32 v2, .int .u32 v3]
def plainP (k : Int) : Int := if k = 14 ∨ k = 15 then k - 13 else k
def kindP (k cap wd rt : Int) : Int := if rightB k cap wd rt then k else 0
set_option maxRecDepth 100000 in
set_option maxHeartbeats 1000000 in
theorem splain_c (k : Int) (w : World) : Calls Try.prog 47 #[.int .i64 k] w fun e w' => e = .returned (.int .i64 (plainP k)) ∧ w = w' := by
  by_cases h1 : k = 14
  · subst h1
    go_enter Try.func47, Try.ntmps47
    go_wp2
    go_ret
    exact ⟨rfl, rfl⟩
  by_cases h2 : k = 15
  · subst h2
    go_enter Try.func47, Try.ntmps47
    go_wp2
    go_ret
    exact ⟨rfl, rfl⟩
  have e : plainP k = k := by simp [plainP, h1, h2]
  rw [e]
  have e1 : (k == 14) = false := by simpa using h1
  have e2 : (k == 15) = false := by simpa using h2
  clear e h1 h2
  go_enter Try.func47, Try.ntmps47
  go_wp2
  go_ret
  exact ⟨rfl, rfl⟩
section
variable (k cap wd rt f t i0 i1 i2 i3 : Int) (ra : Option Addr) (rn rc : Nat) (v0 v1 v2 v3 : Int) (w : World)
set_option maxRecDepth 100000 in
set_option maxHeartbeats 4000000 in
theorem kind_c : Calls Try.prog 43 #[.agg (itA k cap wd rt f t i0 i1 i2 i3 ra rn rc v0 v1 v2 v3)] w fun e w' => e = .returned (.int .i64 (kindP k cap wd rt)) ∧ w' = (w.alloc (.cells (itA k cap wd rt f t i0 i1 i2 i3 ra rn rc v0 v1 v2 v3) 112)).alloc (.cells (obA k cap wd rt f t i0 i1 i2 i3) 109) := by
  have HR := Lib.hid fun w => sright_ex cap wd rt f t i0 i1 i2 i3 w k
  have HG := Lib.hid (range_of (heap_alloc_new w (.cells (itA k cap wd rt f t i0 i1 i2 i3 ra rn rc v0 v1 v2 v3) 112)) (o := 0) (l := (obA k cap wd rt f t i0 i1 i2 i3).toList) rfl)
  unfold kindP
  unfold itA obA at *
  generalize rightB k cap wd rt = b at HR ⊢
  cases b
  all_goals
    go_enter Try.func43, Try.ntmps43
    go_wp2_with (first | (refine wpList_load_mid rfl 109 _ rfl w.heap.size 0 rfl _ _ HG.out Try.underlying109 rfl (by kernel_rfl) ?_) | (go_at_call 70; refine (HR.out _).mono ?_; rintro e w2 ⟨rfl, rfl⟩))
    go_ret
    exact ⟨rfl, rfl⟩
set_option maxRecDepth 100000 in
set_option maxHeartbeats 4000000 in
theorem done1_c (b : Nat) (hb : w.cell? ⟨b, 11, none⟩ = some (.int .u32 v0)) : Calls Try.prog 73 #[.pointer (some ⟨b, 0, none⟩)] w fun e w' => e = .returned (.agg (v4A v0 0 0 0)) ∧ w' = w.alloc (.cells (v4A v0 0 0 0) 26) := by
  have hlt : b < w.heap.size := World.block_lt_of_cell? w _ hb
  unfold v4A
  go_enter Try.func73, Try.ntmps73
  go_wp2
  refine bodyPost_ret (results_cell_row rfl _ _ w.heap.size 26 #[.int .u32 v0, .int .u32 0, .int .u32 0, .int .u32 0] (0, 0) _ rfl ?_ Try.underlying26 rfl (info_v4 _ _ _ _)) rfl ⟨rfl, ?_⟩
  · exact heap_alloc_new _ _
  · rfl
end
end Go.Proofs.Ytdbgnnkbcebpcaa
