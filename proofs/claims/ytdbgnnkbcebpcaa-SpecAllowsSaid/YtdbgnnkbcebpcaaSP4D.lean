/- Merged: SP4f SP4g SP4h160 SP4h161 (merge.py). -/
import Derived.Test.YtdbgnnkbcebpcaaSP3
set_option linter.unusedVariables false
set_option linter.unusedSimpArgs false
namespace Go.Proofs.Ytdbgnnkbcebpcaa
open Go.RowKit
section
variable (k cap wd rt f t i0 i1 i2 i3 : Int) (ra : Option Addr) (rn rc : Nat) (v0 v1 v2 v3 : Int) (ck co c0 c1 c2 c3 cn : Int) (w : World)
set_option maxRecDepth 100000 in
set_option maxHeartbeats 8000000 in
theorem done_full (hk : kindP k cap wd rt = 1) (hf : cap ≤ rn) : Calls Try.prog 48 #[.agg (itA k cap wd rt f t i0 i1 i2 i3 ra rn rc v0 v1 v2 v3), .int .i64 1, .agg (caV ck co c0 c1 c2 c3 cn)] w fun e w' => e = .returned (.tuple #[.agg (itA k cap wd rt f t i0 i1 i2 i3 ra rn rc v0 v1 v2 v3), .agg (resA 6 0 0 0 0), .bool false, .bool true]) ∧ Upd [] w w' := by
  have hmf : ∀ (fn : Fn) (first cap : Array Value) (w : World), (Instr.makeFunc fn first cap).run Try.prog w = .ok (.func fn first cap) w := fun _ _ _ _ => rfl
  have HK := Lib.hid fun w => kind_c k cap wd rt f t i0 i1 i2 i3 ra rn rc v0 v1 v2 v3 w
  rw [hk] at HK
  have hq : decide (cap ≤ (rn : Int)) = true := by simpa using hf
  clear hf
  unfold itA caV resA at *
  go_enter Try.func48, Try.ntmps48
  go_wp2_with fail
  (with_reducible refine (HK.out _).mono ?_)
  rintro e w2 ⟨rfl, rfl⟩
  go_wp2
  (
      refine bodyPost_ret (results_done rfl _ _ _ _ 112 31 (#[.int .i64 k, .int .i64 cap, .int .i64 wd, .int .i64 rt, .int .i64 f, .int .i64 t, .int .u32 i0, .int .u32 i1, .int .u32 i2, .int .u32 i3, .slice ra rn rc, .int .u32 v0, .int .u32 v1, .int .u32 v2, .int .u32 v3]) (#[.int .i64 6, .int .u32 0, .int .u32 0, .int .u32 0, .int .u32 0]) (0, 0) (0, 0) _ _ _ _ rfl rfl rfl rfl ?hg1 ?hg2 Try.underlying112 rfl (info_it _ _ _ _ _ _ _ _ _ _ _ _ _ _ _) Try.underlying31 rfl (info_res _ _ _ _ _)) rfl ?hp
      case hg1 => (repeat (first | ((with_reducible refine heap_alloc_at _ ?_); (simp; done)) | (with_reducible apply heap_drewS) | (with_reducible apply heap_alloc')))
      case hg2 => (repeat (first | ((with_reducible refine heap_alloc_at _ ?_); (simp; done)) | (with_reducible apply heap_drewS) | (with_reducible apply heap_alloc')))
      case hp => (refine ⟨rfl, ?_⟩; (repeat (first | (with_reducible exact Upd.refl _ _) | (with_reducible refine Upd.drew ?_) | (with_reducible refine Upd.alloc ?_ _)))))
end
end Go.Proofs.Ytdbgnnkbcebpcaa
namespace Go.Proofs.Ytdbgnnkbcebpcaa
open Go.RowKit
section
variable (k cap wd rt f t i0 i1 i2 i3 : Int) (ra : Option Addr) (rn rc : Nat) (v0 v1 v2 v3 : Int) (ck co c0 c1 c2 c3 cn : Int) (w : World)
set_option maxRecDepth 100000 in
set_option maxHeartbeats 8000000 in
theorem done_empty (hk : kindP k cap wd rt = 1) : Calls Try.prog 48 #[.agg (itA k cap wd rt f t i0 i1 i2 i3 ra 0 rc v0 v1 v2 v3), .int .i64 2, .agg (caV ck co c0 c1 c2 c3 cn)] w fun e w' => e = .returned (.tuple #[.agg (itA k cap wd rt f t i0 i1 i2 i3 ra 0 rc v0 v1 v2 v3), .agg (resA 7 0 0 0 0), .bool false, .bool true]) ∧ Upd [] w w' := by
  have hmf : ∀ (fn : Fn) (first cap : Array Value) (w : World), (Instr.makeFunc fn first cap).run Try.prog w = .ok (.func fn first cap) w := fun _ _ _ _ => rfl
  have HK := Lib.hid fun w => kind_c k cap wd rt f t i0 i1 i2 i3 ra 0 rc v0 v1 v2 v3 w
  rw [hk] at HK
  unfold itA caV resA at *
  go_enter Try.func48, Try.ntmps48
  go_wp2_with fail
  (with_reducible refine (HK.out _).mono ?_)
  rintro e w2 ⟨rfl, rfl⟩
  go_wp2
  (
      refine bodyPost_ret (results_done rfl _ _ _ _ 112 31 (#[.int .i64 k, .int .i64 cap, .int .i64 wd, .int .i64 rt, .int .i64 f, .int .i64 t, .int .u32 i0, .int .u32 i1, .int .u32 i2, .int .u32 i3, .slice ra 0 rc, .int .u32 v0, .int .u32 v1, .int .u32 v2, .int .u32 v3]) (#[.int .i64 7, .int .u32 0, .int .u32 0, .int .u32 0, .int .u32 0]) (0, 0) (0, 0) _ _ _ _ rfl rfl rfl rfl ?hg1 ?hg2 Try.underlying112 rfl (info_it _ _ _ _ _ _ _ _ _ _ _ _ _ _ _) Try.underlying31 rfl (info_res _ _ _ _ _)) rfl ?hp
      case hg1 => (repeat (first | ((with_reducible refine heap_alloc_at _ ?_); (simp; done)) | (with_reducible apply heap_drewS) | (with_reducible apply heap_alloc')))
      case hg2 => (repeat (first | ((with_reducible refine heap_alloc_at _ ?_); (simp; done)) | (with_reducible apply heap_drewS) | (with_reducible apply heap_alloc')))
      case hp => (refine ⟨rfl, ?_⟩; (repeat (first | (with_reducible exact Upd.refl _ _) | (with_reducible refine Upd.drew ?_) | (with_reducible refine Upd.alloc ?_ _)))))
end
end Go.Proofs.Ytdbgnnkbcebpcaa
namespace Go.Proofs.Ytdbgnnkbcebpcaa
open Go.RowKit
section
variable (k cap wd rt f t i0 i1 i2 i3 : Int) (ra : Option Addr) (rn rc : Nat) (v0 v1 v2 v3 : Int) (ck co c0 c1 c2 c3 cn : Int) (w : World)
set_option maxRecDepth 100000 in
set_option maxHeartbeats 8000000 in
theorem done_w16n (hk : kindP k cap wd rt = 4) (hb : holdsB 4 v0 c0 = false) : Calls Try.prog 48 #[.agg (itA k cap wd rt f t i0 i1 i2 i3 ra rn rc v0 v1 v2 v3), .int .i64 16, .agg (caV ck co c0 c1 c2 c3 cn)] w fun e w' => e = .returned (.tuple #[.agg (itA k cap wd rt f t i0 i1 i2 i3 ra rn rc v0 v1 v2 v3), .agg (resA 7 0 0 0 0), .bool false, .bool true]) ∧ Upd [] w w' := by
  have hmf : ∀ (fn : Fn) (first cap : Array Value) (w : World), (Instr.makeFunc fn first cap).run Try.prog w = .ok (.func fn first cap) w := fun _ _ _ _ => rfl
  have HK := Lib.hid fun w => kind_c k cap wd rt f t i0 i1 i2 i3 ra rn rc v0 v1 v2 v3 w
  rw [hk] at HK
  have HH := Lib.hid fun w => holds4_ex v0 c0 w
  rw [hb] at HH
  unfold itA caV resA at *
  go_enter Try.func48, Try.ntmps48
  go_wp2_with fail
  (with_reducible refine (HK.out _).mono ?_)
  rintro e w2 ⟨rfl, rfl⟩
  go_wp2_with (go_at_call 74; (with_reducible refine (HH.out _).mono ?_); rintro e w3 ⟨rfl, rfl⟩)
  (
      refine bodyPost_ret (results_done rfl _ _ _ _ 112 31 (#[.int .i64 k, .int .i64 cap, .int .i64 wd, .int .i64 rt, .int .i64 f, .int .i64 t, .int .u32 i0, .int .u32 i1, .int .u32 i2, .int .u32 i3, .slice ra rn rc, .int .u32 v0, .int .u32 v1, .int .u32 v2, .int .u32 v3]) (#[.int .i64 7, .int .u32 0, .int .u32 0, .int .u32 0, .int .u32 0]) (0, 0) (0, 0) _ _ _ _ rfl rfl rfl rfl ?hg1 ?hg2 Try.underlying112 rfl (info_it _ _ _ _ _ _ _ _ _ _ _ _ _ _ _) Try.underlying31 rfl (info_res _ _ _ _ _)) rfl ?hp
      case hg1 => (repeat (first | ((with_reducible refine heap_alloc_at _ ?_); (simp; done)) | (with_reducible apply heap_drewS) | (with_reducible apply heap_alloc')))
      case hg2 => (repeat (first | ((with_reducible refine heap_alloc_at _ ?_); (simp; done)) | (with_reducible apply heap_drewS) | (with_reducible apply heap_alloc')))
      case hp => (refine ⟨rfl, ?_⟩; (repeat (first | (with_reducible exact Upd.refl _ _) | (with_reducible refine Upd.drew ?_) | (with_reducible refine Upd.alloc ?_ _)))))
end
end Go.Proofs.Ytdbgnnkbcebpcaa
namespace Go.Proofs.Ytdbgnnkbcebpcaa
open Go.RowKit
section
variable (k cap wd rt f t i0 i1 i2 i3 : Int) (ra : Option Addr) (rn rc : Nat) (v0 v1 v2 v3 : Int) (ck co c0 c1 c2 c3 cn : Int) (w : World)
set_option maxRecDepth 100000 in
set_option maxHeartbeats 8000000 in
theorem done_w16y (hk : kindP k cap wd rt = 4) (hb : holdsB 4 v0 c0 = true) : Calls Try.prog 48 #[.agg (itA k cap wd rt f t i0 i1 i2 i3 ra rn rc v0 v1 v2 v3), .int .i64 16, .agg (caV ck co c0 c1 c2 c3 cn)] w fun e w' => e = .returned (.tuple #[.agg (itA k cap wd rt f t i0 i1 i2 i3 ra rn rc v0 v1 v2 v3), .agg (resA 0 v0 0 0 0), .bool false, .bool true]) ∧ Upd [] w w' := by
  have hmf : ∀ (fn : Fn) (first cap : Array Value) (w : World), (Instr.makeFunc fn first cap).run Try.prog w = .ok (.func fn first cap) w := fun _ _ _ _ => rfl
  have HK := Lib.hid fun w => kind_c k cap wd rt f t i0 i1 i2 i3 ra rn rc v0 v1 v2 v3 w
  rw [hk] at HK
  have HH := Lib.hid fun w => holds4_ex v0 c0 w
  rw [hb] at HH
  have HD := Lib.hid fun (w : World) b hb => done1_c v0 w b hb
  unfold v4A at HD
  unfold itA caV resA at *
  go_enter Try.func48, Try.ntmps48
  go_wp2_with fail
  (with_reducible refine (HK.out _).mono ?_)
  rintro e w2 ⟨rfl, rfl⟩
  go_wp2_with (go_at_call 74; (with_reducible refine (HH.out _).mono ?_); rintro e w3 ⟨rfl, rfl⟩)
  go_region_with (go_at_call 73; (with_reducible refine (HD.out _ _ ?_).mono ?_); (focus (refine Eq.trans (cell_of_heap (t := 112) (f := (0, 0)) (c := #[.int .i64 k, .int .i64 cap, .int .i64 wd, .int .i64 rt, .int .i64 f, .int .i64 t, .int .u32 i0, .int .u32 i1, .int .u32 i2, .int .u32 i3, .slice ra rn rc, .int .u32 v0, .int .u32 v1, .int .u32 v2, .int .u32 v3]) ?_ 11) rfl; repeat (first | ((with_reducible refine heap_alloc_at _ ?_); (simp; done)) | (with_reducible apply heap_drewS) | (with_reducible apply heap_alloc')))); rintro e w3 ⟨rfl, rfl⟩)
  all_goals
    go_wp2
    (
        refine bodyPost_ret (results_done rfl _ _ _ _ 112 31 (#[.int .i64 k, .int .i64 cap, .int .i64 wd, .int .i64 rt, .int .i64 f, .int .i64 t, .int .u32 i0, .int .u32 i1, .int .u32 i2, .int .u32 i3, .slice ra rn rc, .int .u32 v0, .int .u32 v1, .int .u32 v2, .int .u32 v3]) (#[.int .i64 0, .int .u32 v0, .int .u32 0, .int .u32 0, .int .u32 0]) (0, 0) (0, 0) _ _ _ _ rfl rfl rfl rfl ?hg1 ?hg2 Try.underlying112 rfl (info_it _ _ _ _ _ _ _ _ _ _ _ _ _ _ _) Try.underlying31 rfl (info_res _ _ _ _ _)) rfl ?hp
        case hg1 => (repeat (first | ((with_reducible refine heap_alloc_at _ ?_); (simp; done)) | (with_reducible apply heap_drewS) | (with_reducible apply heap_alloc')))
        case hg2 => (repeat (first | ((with_reducible refine heap_alloc_at _ ?_); (simp; done)) | (with_reducible apply heap_drewS) | (with_reducible apply heap_alloc')))
        case hp => (refine ⟨rfl, ?_⟩; (repeat (first | (with_reducible exact Upd.refl _ _) | (with_reducible refine Upd.drew ?_) | (with_reducible refine Upd.alloc ?_ _)))))
end
end Go.Proofs.Ytdbgnnkbcebpcaa
