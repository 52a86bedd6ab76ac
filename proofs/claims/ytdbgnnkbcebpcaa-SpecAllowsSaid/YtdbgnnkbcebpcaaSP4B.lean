/- Merged: SP4b0 SP4b1 SP4b2 SP4c0 (merge.py). -/
import Derived.Test.YtdbgnnkbcebpcaaSP3
set_option linter.unusedVariables false
set_option linter.unusedSimpArgs false
namespace Go.Proofs.Ytdbgnnkbcebpcaa
open Go.RowKit
section
variable (k cap wd rt f t i0 i1 i2 i3 : Int) (ra : Option Addr) (rn rc : Nat) (v0 v1 v2 v3 : Int) (ck co c0 c1 c2 c3 cn : Int) (w : World)
set_option maxRecDepth 100000 in
set_option maxHeartbeats 8000000 in
theorem done_read0 (hk : kindP k cap wd rt = 2) : Calls Try.prog 48 #[.agg (itA k cap wd rt f t i0 i1 i2 i3 ra rn rc v0 v1 v2 v3), .int .i64 4, .agg (caV ck co c0 c1 c2 c3 cn)] w fun e w' => e = .returned (.tuple #[.agg (itA k cap wd rt f t i0 i1 i2 i3 ra rn rc v0 v1 v2 v3), .agg (resA 0 v0 v1 v2 v3), .bool false, .bool true]) ∧ Upd [] w w' := by
  have hmf : ∀ (fn : Fn) (first cap : Array Value) (w : World), (Instr.makeFunc fn first cap).run Try.prog w = .ok (.func fn first cap) w := fun _ _ _ _ => rfl
  have HK := Lib.hid fun w => kind_c k cap wd rt f t i0 i1 i2 i3 ra rn rc v0 v1 v2 v3 w
  rw [hk] at HK
  unfold itA caV resA at *
  go_enter Try.func48, Try.ntmps48
  go_wp2_with fail
  (with_reducible refine (HK.out _).mono ?_)
  rintro e w2 ⟨rfl, rfl⟩
  go_wp2_with fail
  go_region
  all_goals
    go_wp2
    (
        refine bodyPost_ret (results_done rfl _ _ _ _ 112 31 (#[.int .i64 k, .int .i64 cap, .int .i64 wd, .int .i64 rt, .int .i64 f, .int .i64 t, .int .u32 i0, .int .u32 i1, .int .u32 i2, .int .u32 i3, .slice ra rn rc, .int .u32 v0, .int .u32 v1, .int .u32 v2, .int .u32 v3]) (#[.int .i64 0, .int .u32 v0, .int .u32 v1, .int .u32 v2, .int .u32 v3]) (0, 0) (0, 0) _ _ _ _ rfl rfl rfl rfl ?hg1 ?hg2 Try.underlying112 rfl (info_it _ _ _ _ _ _ _ _ _ _ _ _ _ _ _) Try.underlying31 rfl (info_res _ _ _ _ _)) rfl ?hp
        case hg1 => (repeat (first | ((with_reducible refine heap_alloc_at _ ?_); (simp; done)) | (with_reducible apply heap_drewS) | (with_reducible apply heap_alloc')))
        case hg2 => (repeat (first | ((with_reducible refine heap_alloc_at _ ?_); (simp; done)) | (with_reducible apply heap_drewS) | (with_reducible apply heap_alloc')))
        case hp => (refine ⟨rfl, ?_⟩; (repeat (first | (with_reducible exact Upd.refl _ _) | (with_reducible refine Upd.drew ?_) | (with_reducible refine Upd.alloc ?_ _)))))
end
end Go.Proofs.Ytdbgnnkbcebpcaa
namespace Go.Proofs.Ytdbgnnkbcebpcaa
open Go.RowKit
section
variable (k cap wd rt f t i0 i1 i2 i3 : Int) (ra : Option Addr) (rn rc : Nat) (v0 v1 v2 v3 : Int) (ck co c0 c1 c2 c3 cn : Int) (w : World)
set_option maxRecDepth 100000 in
set_option maxHeartbeats 8000000 in
theorem done_read1 (hk : kindP k cap wd rt = 3) : Calls Try.prog 48 #[.agg (itA k cap wd rt f t i0 i1 i2 i3 ra rn rc v0 v1 v2 v3), .int .i64 5, .agg (caV ck co c0 c1 c2 c3 cn)] w fun e w' => e = .returned (.tuple #[.agg (itA k cap wd rt f t i0 i1 i2 i3 ra rn rc v0 v1 v2 v3), .agg (resA 0 v0 v1 v2 v3), .bool false, .bool true]) ∧ Upd [] w w' := by
  have hmf : ∀ (fn : Fn) (first cap : Array Value) (w : World), (Instr.makeFunc fn first cap).run Try.prog w = .ok (.func fn first cap) w := fun _ _ _ _ => rfl
  have HK := Lib.hid fun w => kind_c k cap wd rt f t i0 i1 i2 i3 ra rn rc v0 v1 v2 v3 w
  rw [hk] at HK
  unfold itA caV resA at *
  go_enter Try.func48, Try.ntmps48
  go_wp2_with fail
  (with_reducible refine (HK.out _).mono ?_)
  rintro e w2 ⟨rfl, rfl⟩
  go_wp2_with fail
  go_region
  all_goals
    go_wp2
    (
        refine bodyPost_ret (results_done rfl _ _ _ _ 112 31 (#[.int .i64 k, .int .i64 cap, .int .i64 wd, .int .i64 rt, .int .i64 f, .int .i64 t, .int .u32 i0, .int .u32 i1, .int .u32 i2, .int .u32 i3, .slice ra rn rc, .int .u32 v0, .int .u32 v1, .int .u32 v2, .int .u32 v3]) (#[.int .i64 0, .int .u32 v0, .int .u32 v1, .int .u32 v2, .int .u32 v3]) (0, 0) (0, 0) _ _ _ _ rfl rfl rfl rfl ?hg1 ?hg2 Try.underlying112 rfl (info_it _ _ _ _ _ _ _ _ _ _ _ _ _ _ _) Try.underlying31 rfl (info_res _ _ _ _ _)) rfl ?hp
        case hg1 => (repeat (first | ((with_reducible refine heap_alloc_at _ ?_); (simp; done)) | (with_reducible apply heap_drewS) | (with_reducible apply heap_alloc')))
        case hg2 => (repeat (first | ((with_reducible refine heap_alloc_at _ ?_); (simp; done)) | (with_reducible apply heap_drewS) | (with_reducible apply heap_alloc')))
        case hp => (refine ⟨rfl, ?_⟩; (repeat (first | (with_reducible exact Upd.refl _ _) | (with_reducible refine Upd.drew ?_) | (with_reducible refine Upd.alloc ?_ _)))))
end
end Go.Proofs.Ytdbgnnkbcebpcaa
namespace Go.Proofs.Ytdbgnnkbcebpcaa
open Go.RowKit
section
variable (k cap wd rt f t i0 i1 i2 i3 : Int) (ra : Option Addr) (rn rc : Nat) (v0 v1 v2 v3 : Int) (ck co c0 c1 c2 c3 cn : Int) (w : World)
set_option maxRecDepth 100000 in
set_option maxHeartbeats 8000000 in
theorem done_read2 (hk : kindP k cap wd rt = 3) : Calls Try.prog 48 #[.agg (itA k cap wd rt f t i0 i1 i2 i3 ra rn rc v0 v1 v2 v3), .int .i64 6, .agg (caV ck co c0 c1 c2 c3 cn)] w fun e w' => e = .returned (.tuple #[.agg (itA k cap wd rt f t i0 i1 i2 i3 ra rn rc v0 v1 v2 v3), .agg (resA 0 v0 v1 v2 v3), .bool false, .bool true]) ∧ Upd [] w w' := by
  have hmf : ∀ (fn : Fn) (first cap : Array Value) (w : World), (Instr.makeFunc fn first cap).run Try.prog w = .ok (.func fn first cap) w := fun _ _ _ _ => rfl
  have HK := Lib.hid fun w => kind_c k cap wd rt f t i0 i1 i2 i3 ra rn rc v0 v1 v2 v3 w
  rw [hk] at HK
  unfold itA caV resA at *
  go_enter Try.func48, Try.ntmps48
  go_wp2_with fail
  (with_reducible refine (HK.out _).mono ?_)
  rintro e w2 ⟨rfl, rfl⟩
  go_wp2_with fail
  go_region
  all_goals
    go_wp2
    (
        refine bodyPost_ret (results_done rfl _ _ _ _ 112 31 (#[.int .i64 k, .int .i64 cap, .int .i64 wd, .int .i64 rt, .int .i64 f, .int .i64 t, .int .u32 i0, .int .u32 i1, .int .u32 i2, .int .u32 i3, .slice ra rn rc, .int .u32 v0, .int .u32 v1, .int .u32 v2, .int .u32 v3]) (#[.int .i64 0, .int .u32 v0, .int .u32 v1, .int .u32 v2, .int .u32 v3]) (0, 0) (0, 0) _ _ _ _ rfl rfl rfl rfl ?hg1 ?hg2 Try.underlying112 rfl (info_it _ _ _ _ _ _ _ _ _ _ _ _ _ _ _) Try.underlying31 rfl (info_res _ _ _ _ _)) rfl ?hp
        case hg1 => (repeat (first | ((with_reducible refine heap_alloc_at _ ?_); (simp; done)) | (with_reducible apply heap_drewS) | (with_reducible apply heap_alloc')))
        case hg2 => (repeat (first | ((with_reducible refine heap_alloc_at _ ?_); (simp; done)) | (with_reducible apply heap_drewS) | (with_reducible apply heap_alloc')))
        case hp => (refine ⟨rfl, ?_⟩; (repeat (first | (with_reducible exact Upd.refl _ _) | (with_reducible refine Upd.drew ?_) | (with_reducible refine Upd.alloc ?_ _)))))
end
end Go.Proofs.Ytdbgnnkbcebpcaa
namespace Go.Proofs.Ytdbgnnkbcebpcaa
open Go.RowKit
section
variable (k cap wd rt f t i0 i1 i2 i3 : Int) (ra : Option Addr) (rn rc : Nat) (v0 v1 v2 v3 : Int) (ck co c0 c1 c2 c3 cn : Int) (w : World)
set_option maxRecDepth 100000 in
set_option maxHeartbeats 8000000 in
theorem done_write0 (hk : kindP k cap wd rt = 2) (h1 : 1 ≤ wd) (h4 : wd ≤ 4) : Calls Try.prog 48 #[.agg (itA k cap wd rt f t i0 i1 i2 i3 ra rn rc v0 v1 v2 v3), .int .i64 3, .agg (caV ck co c0 c1 c2 c3 cn)] w fun e w' => e = .returned (.tuple #[.agg (itA k cap wd rt f t i0 i1 i2 i3 ra rn rc (clip1 (decide (0 < wd)) c0) (clip1 (decide (1 < wd)) c1) (clip1 (decide (2 < wd)) c2) (clip1 (decide (3 < wd)) c3)), .agg (resA 0 0 0 0 0), .bool true, .bool true]) ∧ Upd [] w w' := by
  have hmf : ∀ (fn : Fn) (first cap : Array Value) (w : World), (Instr.makeFunc fn first cap).run Try.prog w = .ok (.func fn first cap) w := fun _ _ _ _ => rfl
  have HK := Lib.hid fun w => kind_c k cap wd rt f t i0 i1 i2 i3 ra rn rc v0 v1 v2 v3 w
  rw [hk] at HK
  have HC := Lib.hid fun w => clip_c c0 c1 c2 c3 w wd h1 h4
  unfold clipA v4A at HC
  generalize clip1 (decide (0 < wd)) c0 = x0 at HC ⊢
  generalize clip1 (decide (1 < wd)) c1 = x1 at HC ⊢
  generalize clip1 (decide (2 < wd)) c2 = x2 at HC ⊢
  generalize clip1 (decide (3 < wd)) c3 = x3 at HC ⊢
  unfold itA caV resA at *
  have HS := Lib.hid fun (w' : World) (h0 : w'.heap[w.heap.size]? = some (.cells #[.int .i64 k, .int .i64 cap, .int .i64 wd, .int .i64 rt, .int .i64 f, .int .i64 t, .int .u32 i0, .int .u32 i1, .int .u32 i2, .int .u32 i3, .slice ra rn rc, .int .u32 v0, .int .u32 v1, .int .u32 v2, .int .u32 v3] 112)) (h1 : w'.heap[w.heap.size + 1]? = some (.cells #[.int .i64 ck, .int .i64 co, .int .u32 c0, .int .u32 c1, .int .u32 c2, .int .u32 c3, .int .u32 cn] 28)) (h3 : w'.heap[w.heap.size + 1 + 1 + 1]? = some (.cells #[.int .i64 0, .int .u32 0, .int .u32 0, .int .u32 0, .int .u32 0] 31)) => (show w'.cell? ⟨w.heap.size, 0, none⟩ = some (.int .i64 k) ∧ w'.cell? ⟨w.heap.size, 1, none⟩ = some (.int .i64 cap) ∧ w'.cell? ⟨w.heap.size, 2, none⟩ = some (.int .i64 wd) ∧ w'.cell? ⟨w.heap.size, 3, none⟩ = some (.int .i64 rt) ∧ w'.cell? ⟨w.heap.size, 4, none⟩ = some (.int .i64 f) ∧ w'.cell? ⟨w.heap.size, 5, none⟩ = some (.int .i64 t) ∧ w'.cell? ⟨w.heap.size, 6, none⟩ = some (.int .u32 i0) ∧ w'.cell? ⟨w.heap.size, 7, none⟩ = some (.int .u32 i1) ∧ w'.cell? ⟨w.heap.size, 8, none⟩ = some (.int .u32 i2) ∧ w'.cell? ⟨w.heap.size, 9, none⟩ = some (.int .u32 i3) ∧ w'.cell? ⟨w.heap.size, 10, none⟩ = some (.slice ra rn rc) ∧ w'.cell? ⟨w.heap.size, 11, none⟩ = some (.int .u32 v0) ∧ w'.cell? ⟨w.heap.size, 12, none⟩ = some (.int .u32 v1) ∧ w'.cell? ⟨w.heap.size, 13, none⟩ = some (.int .u32 v2) ∧ w'.cell? ⟨w.heap.size, 14, none⟩ = some (.int .u32 v3) ∧ w'.cell? ⟨w.heap.size + 1, 0, none⟩ = some (.int .i64 ck) ∧ w'.cell? ⟨w.heap.size + 1, 1, none⟩ = some (.int .i64 co) ∧ w'.cell? ⟨w.heap.size + 1, 2, none⟩ = some (.int .u32 c0) ∧ w'.cell? ⟨w.heap.size + 1, 3, none⟩ = some (.int .u32 c1) ∧ w'.cell? ⟨w.heap.size + 1, 4, none⟩ = some (.int .u32 c2) ∧ w'.cell? ⟨w.heap.size + 1, 5, none⟩ = some (.int .u32 c3) ∧ w'.cell? ⟨w.heap.size + 1, 6, none⟩ = some (.int .u32 cn) ∧ w'.cell? ⟨w.heap.size + 1 + 1 + 1, 0, none⟩ = some (.int .i64 0) ∧ w'.cell? ⟨w.heap.size + 1 + 1 + 1, 1, none⟩ = some (.int .u32 0) ∧ w'.cell? ⟨w.heap.size + 1 + 1 + 1, 2, none⟩ = some (.int .u32 0) ∧ w'.cell? ⟨w.heap.size + 1 + 1 + 1, 3, none⟩ = some (.int .u32 0) ∧ w'.cell? ⟨w.heap.size + 1 + 1 + 1, 4, none⟩ = some (.int .u32 0) from by
    obtain ⟨p0, p1, p2, p3, p4, p5, p6, p7, p8, p9, p10, p11, p12, p13, p14⟩ := cells15 h0
    obtain ⟨q0, q1, q2, q3, q4, q5, q6⟩ := cells7s h1
    obtain ⟨r0, r1, r2, r3, r4⟩ := cells5 h3
    exact ⟨p0, p1, p2, p3, p4, p5, p6, p7, p8, p9, p10, p11, p12, p13, p14, q0, q1, q2, q3, q4, q5, q6, r0, r1, r2, r3, r4⟩)
  go_enter Try.func48, Try.ntmps48
  go_wp2_with fail
  (with_reducible refine (HK.out _).mono ?_)
  rintro e w2 ⟨rfl, rfl⟩
  go_wp2_with fail
  go_region_held3 (fun w' => w'.cell? ⟨w.heap.size, 0, none⟩ = some (.int .i64 k) ∧ w'.cell? ⟨w.heap.size, 1, none⟩ = some (.int .i64 cap) ∧ w'.cell? ⟨w.heap.size, 2, none⟩ = some (.int .i64 wd) ∧ w'.cell? ⟨w.heap.size, 3, none⟩ = some (.int .i64 rt) ∧ w'.cell? ⟨w.heap.size, 4, none⟩ = some (.int .i64 f) ∧ w'.cell? ⟨w.heap.size, 5, none⟩ = some (.int .i64 t) ∧ w'.cell? ⟨w.heap.size, 6, none⟩ = some (.int .u32 i0) ∧ w'.cell? ⟨w.heap.size, 7, none⟩ = some (.int .u32 i1) ∧ w'.cell? ⟨w.heap.size, 8, none⟩ = some (.int .u32 i2) ∧ w'.cell? ⟨w.heap.size, 9, none⟩ = some (.int .u32 i3) ∧ w'.cell? ⟨w.heap.size, 10, none⟩ = some (.slice ra rn rc) ∧ w'.cell? ⟨w.heap.size, 11, none⟩ = some (.int .u32 v0) ∧ w'.cell? ⟨w.heap.size, 12, none⟩ = some (.int .u32 v1) ∧ w'.cell? ⟨w.heap.size, 13, none⟩ = some (.int .u32 v2) ∧ w'.cell? ⟨w.heap.size, 14, none⟩ = some (.int .u32 v3) ∧ w'.cell? ⟨w.heap.size + 1, 0, none⟩ = some (.int .i64 ck) ∧ w'.cell? ⟨w.heap.size + 1, 1, none⟩ = some (.int .i64 co) ∧ w'.cell? ⟨w.heap.size + 1, 2, none⟩ = some (.int .u32 c0) ∧ w'.cell? ⟨w.heap.size + 1, 3, none⟩ = some (.int .u32 c1) ∧ w'.cell? ⟨w.heap.size + 1, 4, none⟩ = some (.int .u32 c2) ∧ w'.cell? ⟨w.heap.size + 1, 5, none⟩ = some (.int .u32 c3) ∧ w'.cell? ⟨w.heap.size + 1, 6, none⟩ = some (.int .u32 cn) ∧ w'.cell? ⟨w.heap.size + 1 + 1 + 1, 0, none⟩ = some (.int .i64 0) ∧ w'.cell? ⟨w.heap.size + 1 + 1 + 1, 1, none⟩ = some (.int .u32 0) ∧ w'.cell? ⟨w.heap.size + 1 + 1 + 1, 2, none⟩ = some (.int .u32 0) ∧ w'.cell? ⟨w.heap.size + 1 + 1 + 1, 3, none⟩ = some (.int .u32 0) ∧ w'.cell? ⟨w.heap.size + 1 + 1 + 1, 4, none⟩ = some (.int .u32 0))
    (refine HS.out _ ?_ ?_ ?_ <;> (repeat (first | ((with_reducible refine heap_alloc_at _ ?_); (simp; done)) | (with_reducible apply heap_drewS) | (with_reducible apply heap_alloc'))))
    (first | (go_at_call 44; (with_reducible refine (HC.out _).mono ?_); rintro e w3 ⟨rfl, rfl⟩))
  all_goals
    go_wp2
    (
        refine bodyPost_ret (results_done rfl _ _ _ _ 112 31 (#[.int .i64 k, .int .i64 cap, .int .i64 wd, .int .i64 rt, .int .i64 f, .int .i64 t, .int .u32 i0, .int .u32 i1, .int .u32 i2, .int .u32 i3, .slice ra rn rc, .int .u32 x0, .int .u32 x1, .int .u32 x2, .int .u32 x3]) (#[.int .i64 0, .int .u32 0, .int .u32 0, .int .u32 0, .int .u32 0]) (0, 0) (0, 0) _ _ _ _ rfl rfl rfl rfl ?hg1 ?hg2 Try.underlying112 rfl (info_it _ _ _ _ _ _ _ _ _ _ _ _ _ _ _) Try.underlying31 rfl (info_res _ _ _ _ _)) rfl ?hp
        case hg1 => (repeat (first | ((with_reducible refine heap_alloc_at _ ?_); (simp; done)) | (with_reducible apply heap_drewS) | (with_reducible apply heap_alloc')))
        case hg2 => (repeat (first | ((with_reducible refine heap_alloc_at _ ?_); (simp; done)) | (with_reducible apply heap_drewS) | (with_reducible apply heap_alloc')))
        case hp => (refine ⟨rfl, ?_⟩; (repeat (first | (with_reducible exact Upd.refl _ _) | (with_reducible refine Upd.drew ?_) | (with_reducible refine Upd.alloc ?_ _)))))
end
end Go.Proofs.Ytdbgnnkbcebpcaa
