/- Merged: SP4a SP4h170 SP4h171 SP4r1 (merge.py). -/
import Derived.Test.YtdbgnnkbcebpcaaSP3
set_option linter.unusedVariables false
set_option linter.unusedSimpArgs false
namespace Go.Proofs.Ytdbgnnkbcebpcaa
open Go.RowKit
section
variable (k cap wd rt f t i0 i1 i2 i3 : Int) (ra : Option Addr) (rn rc : Nat) (v0 v1 v2 v3 : Int) (ck co c0 c1 c2 c3 cn : Int) (w : World)
set_option maxRecDepth 100000 in
set_option maxHeartbeats 8000000 in
theorem done_other (kind kd : Int) (hk : kindP k cap wd rt = kd) (hn : (kind, kd) ∉ spec13) : Calls Try.prog 48 #[.agg (itA k cap wd rt f t i0 i1 i2 i3 ra rn rc v0 v1 v2 v3), .int .i64 kind, .agg (caV ck co c0 c1 c2 c3 cn)] w fun e w' => e = .returned (.tuple #[.agg (itA k cap wd rt f t i0 i1 i2 i3 ra rn rc v0 v1 v2 v3), .agg (resA 12 0 0 0 0), .bool false, .bool false]) ∧ Upd [] w w' := by
  have hmf : ∀ (fn : Fn) (first cap : Array Value) (w : World), (Instr.makeFunc fn first cap).run Try.prog w = .ok (.func fn first cap) w := fun _ _ _ _ => rfl
  have HK := Lib.hid fun w => kind_c k cap wd rt f t i0 i1 i2 i3 ra rn rc v0 v1 v2 v3 w
  rw [hk] at HK
  have hq : ∀ (a b : Int), (a, b) ∈ spec13 → ∀ w, (binOp .eql 157 (.agg #[.int .i64 kind, .int .i64 kd]) (.agg #[.int .i64 a, .int .i64 b])).run Try.prog w = .ok (.bool false) w := fun a b hm w => by
    rw [key_eq, Bool.and_true, show ((kind == a) && (kd == b)) = false from ?_]
    by_cases h : kind = a ∧ kd = b
    · exfalso
      obtain ⟨rfl, rfl⟩ := h
      exact hn hm
    · rw [Bool.eq_false_iff]
      simpa using h
  have q0 := hq 1 1 (by decide)
  have q1 := hq 2 1 (by decide)
  have q2 := hq 3 2 (by decide)
  have q3 := hq 3 3 (by decide)
  have q4 := hq 4 2 (by decide)
  have q5 := hq 5 3 (by decide)
  have q6 := hq 6 3 (by decide)
  have q7 := hq 7 4 (by decide)
  have q8 := hq 8 4 (by decide)
  have q9 := hq 16 4 (by decide)
  have q10 := hq 17 4 (by decide)
  have q11 := hq 9 4 (by decide)
  clear hq hn
  unfold itA caV resA at *
  go_enter Try.func48, Try.ntmps48
  go_wp2_with fail
  (with_reducible refine (HK.out _).mono ?_)
  rintro e w2 ⟨rfl, rfl⟩
  go_wp2
  (
      refine bodyPost_ret (results_done rfl _ _ _ _ 112 31 (#[.int .i64 k, .int .i64 cap, .int .i64 wd, .int .i64 rt, .int .i64 f, .int .i64 t, .int .u32 i0, .int .u32 i1, .int .u32 i2, .int .u32 i3, .slice ra rn rc, .int .u32 v0, .int .u32 v1, .int .u32 v2, .int .u32 v3]) (#[.int .i64 12, .int .u32 0, .int .u32 0, .int .u32 0, .int .u32 0]) (0, 0) (0, 0) _ _ _ _ rfl rfl rfl rfl ?hg1 ?hg2 Try.underlying112 rfl (info_it _ _ _ _ _ _ _ _ _ _ _ _ _ _ _) Try.underlying31 rfl (info_res _ _ _ _ _)) rfl ?hp
      case hg1 => (repeat (first | ((with_reducible refine heap_alloc_at _ ?_); (simp; done)) | (with_reducible apply heap_drewS) | (with_reducible apply heap_alloc')))
      case hg2 => (repeat (first | ((with_reducible refine heap_alloc_at _ ?_); (simp; done)) | (with_reducible apply heap_drewS) | (with_reducible apply heap_alloc')))
      case hp => (refine ⟨rfl, ?_⟩; (repeat (first | (with_reducible exact Upd.refl _ _) | (with_reducible refine Upd.drew ?_) | (with_reducible refine Upd.alloc ?_ _)))))
end
end Go.Proofs.Ytdbgnnkbcebpcaa
namespace Go.Proofs.Ytdbgnnkbcebpcaa
open Go.RowKit
section
variable (k cap wd rt f t i0 i1 i2 i3 : Int) (ra : Option Addr) (rn rc : Nat) (v0 v1 v2 v3 : Int) (ck co c0 c1 c2 c3 cn : Int) (w : World)
set_option maxRecDepth 100000 in
set_option maxHeartbeats 8000000 in
theorem done_w17n (hk : kindP k cap wd rt = 4) (hb : holdsB 5 v0 c0 = false) : Calls Try.prog 48 #[.agg (itA k cap wd rt f t i0 i1 i2 i3 ra rn rc v0 v1 v2 v3), .int .i64 17, .agg (caV ck co c0 c1 c2 c3 cn)] w fun e w' => e = .returned (.tuple #[.agg (itA k cap wd rt f t i0 i1 i2 i3 ra rn rc v0 v1 v2 v3), .agg (resA 7 0 0 0 0), .bool false, .bool true]) ∧ Upd [] w w' := by
  have hmf : ∀ (fn : Fn) (first cap : Array Value) (w : World), (Instr.makeFunc fn first cap).run Try.prog w = .ok (.func fn first cap) w := fun _ _ _ _ => rfl
  have HK := Lib.hid fun w => kind_c k cap wd rt f t i0 i1 i2 i3 ra rn rc v0 v1 v2 v3 w
  rw [hk] at HK
  have HH := Lib.hid fun w => holds5_ex v0 c0 w
  rw [hb] at HH
  unfold itA caV resA at *
  go_enter Try.func48, Try.ntmps48
  go_wp2_with fail
  (with_reducible refine (HK.out _).mono ?_)
  rintro e w2 ⟨rfl, rfl⟩
  go_wp2_with (go_at_call 74; (with_reducible refine (HH.out _).mono ?_); rintro e w3 ⟨rfl, rfl⟩)
  (
      refine bodyPost_ret (results_done rfl _ _ _ _ 112 31 (#[.int .i64 k, .int .i64 cap, .int .i64 wd, .int .i64 rt, .int .i64 f, .int .i64 t, .int .u32 i0, .int .u32 i1, .int .u32 i2, .int .u32 i3, .slice ra rn rc, .int .u32 v0, .int .u32 v1, .int .u32 v2, .int .u32 v3]) (#[.int .i64 7, .int .u32 0, .int .u32 0, .int .u32 0, .int .u32 0]) (0, 0) (0, 0) _ _ _ _ rfl rfl rfl rfl ?hg1 ?hg2 Try.underlying112 rfl (info_it _ _ _ _ _ _ _ _ _ _ _ _ _ _ _) Try.underlying31 rfl (info_res _ _ _ _ _)) rfl ?hp
      case hg1 => (repeat (first | ((with_reducible refine heap_alloc_at _ ?_); (simp; done)) | (with_reducible apply heap_drewS) | (with_reducible apply heap_alloc')))
      case hg2 => (repeat (first | ((with_reducible refine heap_alloc_at _ ?_); (simp; done)) | (with_reducible apply heap_drewS) | (with_reducible apply heap_alloc')))
      case hp => (refine ⟨rfl, ?_⟩; (repeat (first | (with_reducible exact Upd.refl _ _) | (with_reducible refine Upd.drew ?_) | (with_reducible refine Upd.alloc ?_ _)))))
end
end Go.Proofs.Ytdbgnnkbcebpcaa
namespace Go.Proofs.Ytdbgnnkbcebpcaa
open Go.RowKit
section
variable (k cap wd rt f t i0 i1 i2 i3 : Int) (ra : Option Addr) (rn rc : Nat) (v0 v1 v2 v3 : Int) (ck co c0 c1 c2 c3 cn : Int) (w : World)
set_option maxRecDepth 100000 in
set_option maxHeartbeats 8000000 in
theorem done_w17y (hk : kindP k cap wd rt = 4) (hb : holdsB 5 v0 c0 = true) : Calls Try.prog 48 #[.agg (itA k cap wd rt f t i0 i1 i2 i3 ra rn rc v0 v1 v2 v3), .int .i64 17, .agg (caV ck co c0 c1 c2 c3 cn)] w fun e w' => e = .returned (.tuple #[.agg (itA k cap wd rt f t i0 i1 i2 i3 ra rn rc v0 v1 v2 v3), .agg (resA 0 v0 0 0 0), .bool false, .bool true]) ∧ Upd [] w w' := by
  have hmf : ∀ (fn : Fn) (first cap : Array Value) (w : World), (Instr.makeFunc fn first cap).run Try.prog w = .ok (.func fn first cap) w := fun _ _ _ _ => rfl
  have HK := Lib.hid fun w => kind_c k cap wd rt f t i0 i1 i2 i3 ra rn rc v0 v1 v2 v3 w
  rw [hk] at HK
  have HH := Lib.hid fun w => holds5_ex v0 c0 w
  rw [hb] at HH
  have HD := Lib.hid fun (w : World) b hb => done1_c v0 w b hb
  unfold v4A at HD
  unfold itA caV resA at *
  go_enter Try.func48, Try.ntmps48
  go_wp2_with fail
  (with_reducible refine (HK.out _).mono ?_)
  rintro e w2 ⟨rfl, rfl⟩
  go_wp2_with (go_at_call 74; (with_reducible refine (HH.out _).mono ?_); rintro e w3 ⟨rfl, rfl⟩)
  go_region_with (go_at_call 73; (with_reducible refine (HD.out _ _ ?_).mono ?_); (focus (refine Eq.trans (cell_of_heap (t := 112) (f := (0, 0)) (c := #[.int .i64 k, .int .i64 cap, .int .i64 wd, .int .i64 rt, .int .i64 f, .int .i64 t, .int .u32 i0, .int .u32 i1, .int .u32 i2, .int .u32 i3, .slice ra rn rc, .int .u32 v0, .int .u32 v1, .int .u32 v2, .int .u32 v3]) ?_ 11) rfl; repeat (first | ((with_reducible refine heap_alloc_at _ ?_); (simp; done)) | (with_reducible apply heap_drewS) | (with_reducible apply heap_alloc')))); rintro e w3 ⟨rfl, rfl⟩)
  all_goals
    go_wp2
    (
        refine bodyPost_ret (results_done rfl _ _ _ _ 112 31 (#[.int .i64 k, .int .i64 cap, .int .i64 wd, .int .i64 rt, .int .i64 f, .int .i64 t, .int .u32 i0, .int .u32 i1, .int .u32 i2, .int .u32 i3, .slice ra rn rc, .int .u32 v0, .int .u32 v1, .int .u32 v2, .int .u32 v3]) (#[.int .i64 0, .int .u32 v0, .int .u32 0, .int .u32 0, .int .u32 0]) (0, 0) (0, 0) _ _ _ _ rfl rfl rfl rfl ?hg1 ?hg2 Try.underlying112 rfl (info_it _ _ _ _ _ _ _ _ _ _ _ _ _ _ _) Try.underlying31 rfl (info_res _ _ _ _ _)) rfl ?hp
        case hg1 => (repeat (first | ((with_reducible refine heap_alloc_at _ ?_); (simp; done)) | (with_reducible apply heap_drewS) | (with_reducible apply heap_alloc')))
        case hg2 => (repeat (first | ((with_reducible refine heap_alloc_at _ ?_); (simp; done)) | (with_reducible apply heap_drewS) | (with_reducible apply heap_alloc')))
        case hp => (refine ⟨rfl, ?_⟩; (repeat (first | (with_reducible exact Upd.refl _ _) | (with_reducible refine Upd.drew ?_) | (with_reducible refine Upd.alloc ?_ _)))))
end
end Go.Proofs.Ytdbgnnkbcebpcaa
namespace Go.Proofs.Ytdbgnnkbcebpcaa
open Go.RowKit
section
variable (k cap wd rt f t i0 i1 i2 i3 : Int) (ra : Option Addr) (rn rc : Nat) (v0 v1 v2 v3 : Int) (ck co c0 c1 c2 c3 cn : Int) (w : World)
set_option maxRecDepth 100000 in
set_option maxHeartbeats 8000000 in
theorem done_r1 (hk : kindP k cap wd rt = 1) (rb ro : Nat) (y0 y1 y2 y3 : Int) (hr0 : w.cell? ⟨rb, ro, none⟩ = some (.int .u32 y0)) (hr1 : w.cell? ⟨rb, ro + 1, none⟩ = some (.int .u32 y1)) (hr2 : w.cell? ⟨rb, ro + 2, none⟩ = some (.int .u32 y2)) (hr3 : w.cell? ⟨rb, ro + 3, none⟩ = some (.int .u32 y3)) : Calls Try.prog 48 #[.agg (itA k cap wd rt f t i0 i1 i2 i3 (some ⟨rb, ro, none⟩) 1 1 v0 v1 v2 v3), .int .i64 2, .agg (caV ck co c0 c1 c2 c3 cn)] w fun e w' => e = .returned (.tuple #[.agg (itA k cap wd rt f t i0 i1 i2 i3 (some ⟨rb, ro, none⟩) 0 0 v0 v1 v2 v3), .agg (resA 0 y0 y1 y2 y3), .bool true, .bool true]) ∧ Upd [] w w' := by
  have hmf : ∀ (fn : Fn) (first cap : Array Value) (w : World), (Instr.makeFunc fn first cap).run Try.prog w = .ok (.func fn first cap) w := fun _ _ _ _ => rfl
  have HK := Lib.hid fun w => kind_c k cap wd rt f t i0 i1 i2 i3 (some ⟨rb, ro, none⟩) 1 1 v0 v1 v2 v3 w
  rw [hk] at HK
  have HS := Lib.hid fun (w' : World) (h0 : w'.heap[w.heap.size]? = some (.cells #[.int .i64 k, .int .i64 cap, .int .i64 wd, .int .i64 rt, .int .i64 f, .int .i64 t, .int .u32 i0, .int .u32 i1, .int .u32 i2, .int .u32 i3, .slice (some ⟨rb, ro, none⟩) 1 1, .int .u32 v0, .int .u32 v1, .int .u32 v2, .int .u32 v3] 112)) (g0 : w'.cell? ⟨rb, ro, none⟩ = some (.int .u32 y0)) (g1 : w'.cell? ⟨rb, ro + 1, none⟩ = some (.int .u32 y1)) (g2 : w'.cell? ⟨rb, ro + 2, none⟩ = some (.int .u32 y2)) (g3 : w'.cell? ⟨rb, ro + 3, none⟩ = some (.int .u32 y3)) => (show w'.cell? ⟨w.heap.size, 0, none⟩ = some (.int .i64 k) ∧ w'.cell? ⟨w.heap.size, 1, none⟩ = some (.int .i64 cap) ∧ w'.cell? ⟨w.heap.size, 2, none⟩ = some (.int .i64 wd) ∧ w'.cell? ⟨w.heap.size, 3, none⟩ = some (.int .i64 rt) ∧ w'.cell? ⟨w.heap.size, 4, none⟩ = some (.int .i64 f) ∧ w'.cell? ⟨w.heap.size, 5, none⟩ = some (.int .i64 t) ∧ w'.cell? ⟨w.heap.size, 6, none⟩ = some (.int .u32 i0) ∧ w'.cell? ⟨w.heap.size, 7, none⟩ = some (.int .u32 i1) ∧ w'.cell? ⟨w.heap.size, 8, none⟩ = some (.int .u32 i2) ∧ w'.cell? ⟨w.heap.size, 9, none⟩ = some (.int .u32 i3) ∧ w'.cell? ⟨w.heap.size, 10, none⟩ = some (.slice (some ⟨rb, ro, none⟩) 1 1) ∧ w'.cell? ⟨w.heap.size, 11, none⟩ = some (.int .u32 v0) ∧ w'.cell? ⟨w.heap.size, 12, none⟩ = some (.int .u32 v1) ∧ w'.cell? ⟨w.heap.size, 13, none⟩ = some (.int .u32 v2) ∧ w'.cell? ⟨w.heap.size, 14, none⟩ = some (.int .u32 v3) ∧ w'.cell? ⟨rb, ro, none⟩ = some (.int .u32 y0) ∧ w'.cell? ⟨rb, ro + 1, none⟩ = some (.int .u32 y1) ∧ w'.cell? ⟨rb, ro + 2, none⟩ = some (.int .u32 y2) ∧ w'.cell? ⟨rb, ro + 3, none⟩ = some (.int .u32 y3) from by
    obtain ⟨p0, p1, p2, p3, p4, p5, p6, p7, p8, p9, p10, p11, p12, p13, p14⟩ := cells15 h0
    exact ⟨p0, p1, p2, p3, p4, p5, p6, p7, p8, p9, p10, p11, p12, p13, p14, g0, g1, g2, g3⟩)
  have R0 := Lib.hid hr0
  have R1 := Lib.hid hr1
  have R2 := Lib.hid hr2
  have R3 := Lib.hid hr3
  have hl := World.block_lt_of_cell? w _ hr0
  clear hr0 hr1 hr2 hr3
  skip
  unfold itA caV resA at *
  go_enter Try.func48, Try.ntmps48
  go_wp2_with fail
  (with_reducible refine (HK.out _).mono ?_)
  rintro e w2 ⟨rfl, rfl⟩
  go_wp2_with fail
  go_region_held3 (fun w' => w'.cell? ⟨w.heap.size, 0, none⟩ = some (.int .i64 k) ∧ w'.cell? ⟨w.heap.size, 1, none⟩ = some (.int .i64 cap) ∧ w'.cell? ⟨w.heap.size, 2, none⟩ = some (.int .i64 wd) ∧ w'.cell? ⟨w.heap.size, 3, none⟩ = some (.int .i64 rt) ∧ w'.cell? ⟨w.heap.size, 4, none⟩ = some (.int .i64 f) ∧ w'.cell? ⟨w.heap.size, 5, none⟩ = some (.int .i64 t) ∧ w'.cell? ⟨w.heap.size, 6, none⟩ = some (.int .u32 i0) ∧ w'.cell? ⟨w.heap.size, 7, none⟩ = some (.int .u32 i1) ∧ w'.cell? ⟨w.heap.size, 8, none⟩ = some (.int .u32 i2) ∧ w'.cell? ⟨w.heap.size, 9, none⟩ = some (.int .u32 i3) ∧ w'.cell? ⟨w.heap.size, 10, none⟩ = some (.slice (some ⟨rb, ro, none⟩) 1 1) ∧ w'.cell? ⟨w.heap.size, 11, none⟩ = some (.int .u32 v0) ∧ w'.cell? ⟨w.heap.size, 12, none⟩ = some (.int .u32 v1) ∧ w'.cell? ⟨w.heap.size, 13, none⟩ = some (.int .u32 v2) ∧ w'.cell? ⟨w.heap.size, 14, none⟩ = some (.int .u32 v3) ∧ w'.cell? ⟨rb, ro, none⟩ = some (.int .u32 y0) ∧ w'.cell? ⟨rb, ro + 1, none⟩ = some (.int .u32 y1) ∧ w'.cell? ⟨rb, ro + 2, none⟩ = some (.int .u32 y2) ∧ w'.cell? ⟨rb, ro + 3, none⟩ = some (.int .u32 y3))
    (refine HS.out _ ?_ ?_ ?_ ?_ ?_ <;> (repeat (first | ((with_reducible refine heap_alloc_at _ ?_); (simp; done)) | (with_reducible apply heap_drewS) | (with_reducible apply heap_alloc') | (with_reducible exact R0.out) | (with_reducible exact R1.out) | (with_reducible exact R2.out) | (with_reducible exact R3.out) | (with_reducible apply cell_drewE) | (with_reducible apply cell_allocE))))
    (fail)
  all_goals
    go_wp2
    (
        refine bodyPost_ret (results_done rfl _ _ _ _ 112 31 (#[.int .i64 k, .int .i64 cap, .int .i64 wd, .int .i64 rt, .int .i64 f, .int .i64 t, .int .u32 i0, .int .u32 i1, .int .u32 i2, .int .u32 i3, .slice (some ⟨rb, ro, none⟩) 0 0, .int .u32 v0, .int .u32 v1, .int .u32 v2, .int .u32 v3]) (#[.int .i64 0, .int .u32 y0, .int .u32 y1, .int .u32 y2, .int .u32 y3]) (0, 0) (0, 0) _ _ _ _ rfl rfl rfl rfl ?hg1 ?hg2 Try.underlying112 rfl (info_it _ _ _ _ _ _ _ _ _ _ _ _ _ _ _) Try.underlying31 rfl (info_res _ _ _ _ _)) rfl ?hp
        case hg1 => (repeat (first | ((with_reducible refine heap_alloc_at _ ?_); (simp; done)) | (with_reducible apply heap_drewS) | (with_reducible apply heap_alloc')))
        case hg2 => (repeat (first | ((with_reducible refine heap_alloc_at _ ?_); (simp; done)) | (with_reducible apply heap_drewS) | (with_reducible apply heap_alloc')))
        case hp => (refine ⟨rfl, ?_⟩; (repeat (first | (with_reducible exact Upd.refl _ _) | (with_reducible refine Upd.drew ?_) | (with_reducible refine Upd.alloc ?_ _)))))
end
end Go.Proofs.Ytdbgnnkbcebpcaa
