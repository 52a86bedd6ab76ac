/- Package spec: an item behind a call, case by case (printed by gensp4.py). -/
import Derived.Test.YtdbgnnkbcebpcaaSP3
set_option linter.unusedVariables false
set_option linter.unusedSimpArgs false
namespace Go.Proofs.Ytdbgnnkbcebpcaa
open Go.RowKit
section
variable (k cap wd rt f t i0 i1 i2 i3 : Int) (ra : Option Addr) (rn rc : Nat) (v0 v1 v2 v3 : Int) (ck co c0 c1 c2 c3 cn : Int) (w : World)
set_option maxRecDepth 100000 in
set_option maxHeartbeats 8000000 in
theorem done_rN (hk : kindP k cap wd rt = 1) (rb ro n c : Nat) (y0 y1 y2 y3 : Int) (hn : n ≤ c + 1) (hm : c + 2 ≤ maxLen) (hr0 : w.cell? ⟨rb, ro, none⟩ = some (.int .u32 y0)) (hr1 : w.cell? ⟨rb, ro + 1, none⟩ = some (.int .u32 y1)) (hr2 : w.cell? ⟨rb, ro + 2, none⟩ = some (.int .u32 y2)) (hr3 : w.cell? ⟨rb, ro + 3, none⟩ = some (.int .u32 y3)) : Calls Try.prog 48 #[.agg (itA k cap wd rt f t i0 i1 i2 i3 (some ⟨rb, ro, none⟩) (n + 1) (c + 2) v0 v1 v2 v3), .int .i64 2, .agg (caV ck co c0 c1 c2 c3 cn)] w fun e w' => e = .returned (.tuple #[.agg (itA k cap wd rt f t i0 i1 i2 i3 (some ⟨rb, ro + 4, none⟩) n (c + 1) v0 v1 v2 v3), .agg (resA 0 y0 y1 y2 y3), .bool true, .bool true]) ∧ Upd [] w w' := by
  have hmf : ∀ (fn : Fn) (first cap : Array Value) (w : World), (Instr.makeFunc fn first cap).run Try.prog w = .ok (.func fn first cap) w := fun _ _ _ _ => rfl
  have HK := Lib.hid fun w => kind_c k cap wd rt f t i0 i1 i2 i3 (some ⟨rb, ro, none⟩) (n + 1) (c + 2) v0 v1 v2 v3 w
  rw [hk] at HK
  have HS := Lib.hid fun (w' : World) (h0 : w'.heap[w.heap.size]? = some (.cells #[.int .i64 k, .int .i64 cap, .int .i64 wd, .int .i64 rt, .int .i64 f, .int .i64 t, .int .u32 i0, .int .u32 i1, .int .u32 i2, .int .u32 i3, .slice (some ⟨rb, ro, none⟩) (n + 1) (c + 2), .int .u32 v0, .int .u32 v1, .int .u32 v2, .int .u32 v3] 112)) (g0 : w'.cell? ⟨rb, ro, none⟩ = some (.int .u32 y0)) (g1 : w'.cell? ⟨rb, ro + 1, none⟩ = some (.int .u32 y1)) (g2 : w'.cell? ⟨rb, ro + 2, none⟩ = some (.int .u32 y2)) (g3 : w'.cell? ⟨rb, ro + 3, none⟩ = some (.int .u32 y3)) => (show w'.cell? ⟨w.heap.size, 0, none⟩ = some (.int .i64 k) ∧ w'.cell? ⟨w.heap.size, 1, none⟩ = some (.int .i64 cap) ∧ w'.cell? ⟨w.heap.size, 2, none⟩ = some (.int .i64 wd) ∧ w'.cell? ⟨w.heap.size, 3, none⟩ = some (.int .i64 rt) ∧ w'.cell? ⟨w.heap.size, 4, none⟩ = some (.int .i64 f) ∧ w'.cell? ⟨w.heap.size, 5, none⟩ = some (.int .i64 t) ∧ w'.cell? ⟨w.heap.size, 6, none⟩ = some (.int .u32 i0) ∧ w'.cell? ⟨w.heap.size, 7, none⟩ = some (.int .u32 i1) ∧ w'.cell? ⟨w.heap.size, 8, none⟩ = some (.int .u32 i2) ∧ w'.cell? ⟨w.heap.size, 9, none⟩ = some (.int .u32 i3) ∧ w'.cell? ⟨w.heap.size, 10, none⟩ = some (.slice (some ⟨rb, ro, none⟩) (n + 1) (c + 2)) ∧ w'.cell? ⟨w.heap.size, 11, none⟩ = some (.int .u32 v0) ∧ w'.cell? ⟨w.heap.size, 12, none⟩ = some (.int .u32 v1) ∧ w'.cell? ⟨w.heap.size, 13, none⟩ = some (.int .u32 v2) ∧ w'.cell? ⟨w.heap.size, 14, none⟩ = some (.int .u32 v3) ∧ w'.cell? ⟨rb, ro, none⟩ = some (.int .u32 y0) ∧ w'.cell? ⟨rb, ro + 1, none⟩ = some (.int .u32 y1) ∧ w'.cell? ⟨rb, ro + 2, none⟩ = some (.int .u32 y2) ∧ w'.cell? ⟨rb, ro + 3, none⟩ = some (.int .u32 y3) from by
    obtain ⟨p0, p1, p2, p3, p4, p5, p6, p7, p8, p9, p10, p11, p12, p13, p14⟩ := cells15 h0
    exact ⟨p0, p1, p2, p3, p4, p5, p6, p7, p8, p9, p10, p11, p12, p13, p14, g0, g1, g2, g3⟩)
  have R0 := Lib.hid hr0
  have R1 := Lib.hid hr1
  have R2 := Lib.hid hr2
  have R3 := Lib.hid hr3
  have hl := World.block_lt_of_cell? w _ hr0
  clear hr0 hr1 hr2 hr3
  have e0 : (((n + 1 : Nat) : Int) == 0) = false := by simp; omega
  have e1 : n + 1 - 1 = n := rfl
  unfold itA caV resA at *
  go_enter Try.func48, Try.ntmps48
  go_wp2_with fail
  (with_reducible refine (HK.out _).mono ?_)
  rintro e w2 ⟨rfl, rfl⟩
  go_wp2_with fail
  refine wp_region_held_drew (S := (fun w' => w'.cell? ⟨w.heap.size, 0, none⟩ = some (.int .i64 k) ∧ w'.cell? ⟨w.heap.size, 1, none⟩ = some (.int .i64 cap) ∧ w'.cell? ⟨w.heap.size, 2, none⟩ = some (.int .i64 wd) ∧ w'.cell? ⟨w.heap.size, 3, none⟩ = some (.int .i64 rt) ∧ w'.cell? ⟨w.heap.size, 4, none⟩ = some (.int .i64 f) ∧ w'.cell? ⟨w.heap.size, 5, none⟩ = some (.int .i64 t) ∧ w'.cell? ⟨w.heap.size, 6, none⟩ = some (.int .u32 i0) ∧ w'.cell? ⟨w.heap.size, 7, none⟩ = some (.int .u32 i1) ∧ w'.cell? ⟨w.heap.size, 8, none⟩ = some (.int .u32 i2) ∧ w'.cell? ⟨w.heap.size, 9, none⟩ = some (.int .u32 i3) ∧ w'.cell? ⟨w.heap.size, 10, none⟩ = some (.slice (some ⟨rb, ro, none⟩) (n + 1) (c + 2)) ∧ w'.cell? ⟨w.heap.size, 11, none⟩ = some (.int .u32 v0) ∧ w'.cell? ⟨w.heap.size, 12, none⟩ = some (.int .u32 v1) ∧ w'.cell? ⟨w.heap.size, 13, none⟩ = some (.int .u32 v2) ∧ w'.cell? ⟨w.heap.size, 14, none⟩ = some (.int .u32 v3) ∧ w'.cell? ⟨rb, ro, none⟩ = some (.int .u32 y0) ∧ w'.cell? ⟨rb, ro + 1, none⟩ = some (.int .u32 y1) ∧ w'.cell? ⟨rb, ro + 2, none⟩ = some (.int .u32 y2) ∧ w'.cell? ⟨rb, ro + 3, none⟩ = some (.int .u32 y3))) (by kernel_rfl) ?_ (fun hHeld => ?_)
  · refine HS.out _ ?_ ?_ ?_ ?_ ?_ <;> (repeat (first | ((with_reducible refine heap_alloc_at _ ?_); (simp; done)) | (with_reducible apply heap_drewS) | (with_reducible apply heap_alloc') | (with_reducible exact R0.out) | (with_reducible exact R1.out) | (with_reducible exact R2.out) | (with_reducible exact R3.out) | (with_reducible apply cell_drewE) | (with_reducible apply cell_allocE)))
  refine wpAnyH_take (i := 0) (oi := { dst := some 88, op := Op.fieldAddr 112 (Operand.tmp 3) 0, type := 0, pos := "spec.go:74", after := #[], guard := none }) (v := .pointer (some ⟨w.heap.size, 0, none⟩)) rfl (by kernel_rfl) (by kernel_rfl) (by kernel_rfl) (fun _ _ _ h => h) (Or.inl ⟨by rfl, ?_⟩) hHeld ?_
  · intro w1 hSw
    (try dsimp only at hSw)
    go_simp
  (try simp only [Act.put, List.setIfInBounds_toArray, List.set_cons_zero, List.set_cons_succ])
  refine wpAnyH_take (i := 1) (oi := { dst := some 89, op := Op.load 109 (Operand.tmp 88), type := 109, pos := "spec.go:74", after := #[{ on := 0, ground := Ground.data }], guard := none }) (v := .agg #[.int .i64 k, .int .i64 cap, .int .i64 wd, .int .i64 rt, .int .i64 f, .int .i64 t, .int .u32 i0, .int .u32 i1, .int .u32 i2, .int .u32 i3]) rfl (by kernel_rfl) (by kernel_rfl) (by kernel_rfl) (fun _ _ _ h => h) (Or.inl ⟨by rfl, ?_⟩) hHeld ?_
  · intro w1 hSw
    (try dsimp only at hSw)
    go_simp
  (try simp only [Act.put, List.setIfInBounds_toArray, List.set_cons_zero, List.set_cons_succ])
  refine wpAnyH_take (i := 2) (oi := { dst := some 90, op := Op.fieldAddr 112 (Operand.tmp 3) 1, type := 0, pos := "spec.go:74", after := #[], guard := none }) (v := .pointer (some ⟨w.heap.size, 10, none⟩)) rfl (by kernel_rfl) (by kernel_rfl) (by kernel_rfl) (fun _ _ _ h => h) (Or.inl ⟨by rfl, ?_⟩) hHeld ?_
  · intro w1 hSw
    (try dsimp only at hSw)
    go_simp
  (try simp only [Act.put, List.setIfInBounds_toArray, List.set_cons_zero, List.set_cons_succ])
  refine wpAnyH_take (i := 3) (oi := { dst := some 91, op := Op.load 110 (Operand.tmp 90), type := 110, pos := "spec.go:74", after := #[{ on := 2, ground := Ground.data }], guard := none }) (v := .slice (some ⟨rb, ro, none⟩) (n + 1) (c + 2)) rfl (by kernel_rfl) (by kernel_rfl) (by kernel_rfl) (fun _ _ _ h => h) (Or.inl ⟨by rfl, ?_⟩) hHeld ?_
  · intro w1 hSw
    (try dsimp only at hSw)
    go_simp
  (try simp only [Act.put, List.setIfInBounds_toArray, List.set_cons_zero, List.set_cons_succ])
  refine wpAnyH_take (i := 4) (oi := { dst := some 92, op := Op.slice 110 (Operand.tmp 91) (some (Operand.const (Value.int IntKind.i64 1))) none none, type := 110, pos := "spec.go:74", after := #[{ on := 3, ground := Ground.data }], guard := none }) (v := .slice (some ⟨rb, ro + 4, none⟩) n (c + 1)) rfl (by kernel_rfl) (by kernel_rfl) (by kernel_rfl) (fun _ _ _ h => h) (Or.inl ⟨by rfl, ?_⟩) hHeld ?_
  · intro w1 hSw
    (try dsimp only at hSw)
    go_simp
    (intro h; omega)
  (try simp only [Act.put, List.setIfInBounds_toArray, List.set_cons_zero, List.set_cons_succ])
  refine wpAnyH_take (i := 5) (oi := { dst := some 93, op := Op.fieldAddr 112 (Operand.tmp 3) 2, type := 0, pos := "spec.go:74", after := #[], guard := none }) (v := .pointer (some ⟨w.heap.size, 11, none⟩)) rfl (by kernel_rfl) (by kernel_rfl) (by kernel_rfl) (fun _ _ _ h => h) (Or.inl ⟨by rfl, ?_⟩) hHeld ?_
  · intro w1 hSw
    (try dsimp only at hSw)
    go_simp
  (try simp only [Act.put, List.setIfInBounds_toArray, List.set_cons_zero, List.set_cons_succ])
  refine wpAnyH_take (i := 6) (oi := { dst := some 94, op := Op.load 26 (Operand.tmp 93), type := 26, pos := "spec.go:74", after := #[{ on := 5, ground := Ground.data }], guard := none }) (v := .agg #[.int .u32 v0, .int .u32 v1, .int .u32 v2, .int .u32 v3]) rfl (by kernel_rfl) (by kernel_rfl) (by kernel_rfl) (fun _ _ _ h => h) (Or.inl ⟨by rfl, ?_⟩) hHeld ?_
  · intro w1 hSw
    (try dsimp only at hSw)
    go_simp
  (try simp only [Act.put, List.setIfInBounds_toArray, List.set_cons_zero, List.set_cons_succ])
  refine wpAnyH_take (i := 7) (oi := { dst := some 95, op := Op.build 112 #[(0, Operand.tmp 89), (1, Operand.tmp 92), (2, Operand.tmp 94)], type := 112, pos := "spec.go:74", after := #[{ on := 1, ground := Ground.data }, { on := 4, ground := Ground.data }, { on := 6, ground := Ground.data }], guard := none }) (v := .agg #[.int .i64 k, .int .i64 cap, .int .i64 wd, .int .i64 rt, .int .i64 f, .int .i64 t, .int .u32 i0, .int .u32 i1, .int .u32 i2, .int .u32 i3, .slice (some ⟨rb, ro + 4, none⟩) n (c + 1), .int .u32 v0, .int .u32 v1, .int .u32 v2, .int .u32 v3]) rfl (by kernel_rfl) (by kernel_rfl) (by kernel_rfl) (fun _ _ _ h => h) (Or.inl ⟨by rfl, ?_⟩) hHeld ?_
  · intro w1 hSw
    (try dsimp only at hSw)
    go_simp
  (try simp only [Act.put, List.setIfInBounds_toArray, List.set_cons_zero, List.set_cons_succ])
  refine wpAnyH_take (i := 8) (oi := { dst := some 96, op := Op.fieldAddr 112 (Operand.tmp 3) 1, type := 0, pos := "spec.go:74", after := #[{ on := 13, ground := Ground.gcOnly Departure.lateStores }], guard := none }) (v := .pointer (some ⟨w.heap.size, 10, none⟩)) rfl (by kernel_rfl) (by kernel_rfl) (by kernel_rfl) (fun _ _ _ h => h) (Or.inl ⟨by rfl, ?_⟩) hHeld ?_
  · intro w1 hSw
    (try dsimp only at hSw)
    go_simp
  (try simp only [Act.put, List.setIfInBounds_toArray, List.set_cons_zero, List.set_cons_succ])
  refine wpAnyH_take (i := 9) (oi := { dst := some 97, op := Op.load 110 (Operand.tmp 96), type := 110, pos := "spec.go:74", after := #[{ on := 8, ground := Ground.data }, { on := 13, ground := Ground.gcOnly Departure.lateStores }], guard := none }) (v := .slice (some ⟨rb, ro, none⟩) (n + 1) (c + 2)) rfl (by kernel_rfl) (by kernel_rfl) (by kernel_rfl) (fun _ _ _ h => h) (Or.inl ⟨by rfl, ?_⟩) hHeld ?_
  · intro w1 hSw
    (try dsimp only at hSw)
    go_simp
  (try simp only [Act.put, List.setIfInBounds_toArray, List.set_cons_zero, List.set_cons_succ])
  refine wpAnyH_take (i := 10) (oi := { dst := some 98, op := Op.indexAddr 110 (Operand.tmp 97) (Operand.const (Value.int IntKind.i64 0)), type := 0, pos := "spec.go:74", after := #[{ on := 9, ground := Ground.data }, { on := 13, ground := Ground.gcOnly Departure.lateStores }], guard := none }) (v := .pointer (some ⟨rb, ro, none⟩)) rfl (by kernel_rfl) (by kernel_rfl) (by kernel_rfl) (fun _ _ _ h => h) (Or.inl ⟨by rfl, ?_⟩) hHeld ?_
  · intro w1 hSw
    (try dsimp only at hSw)
    go_simp
  (try simp only [Act.put, List.setIfInBounds_toArray, List.set_cons_zero, List.set_cons_succ])
  refine wpAnyH_take (i := 11) (oi := { dst := some 99, op := Op.load 26 (Operand.tmp 98), type := 26, pos := "spec.go:74", after := #[{ on := 10, ground := Ground.data }, { on := 13, ground := Ground.gcOnly Departure.lateStores }], guard := none }) (v := .agg #[.int .u32 y0, .int .u32 y1, .int .u32 y2, .int .u32 y3]) rfl (by kernel_rfl) (by kernel_rfl) (by kernel_rfl) (fun _ _ _ h => h) (Or.inl ⟨by rfl, ?_⟩) hHeld ?_
  · intro w1 hSw
    (try dsimp only at hSw)
    go_simp
  (try simp only [Act.put, List.setIfInBounds_toArray, List.set_cons_zero, List.set_cons_succ])
  refine wpAnyH_take (i := 12) (oi := { dst := some 100, op := Op.build 31 #[(1, Operand.tmp 99)], type := 31, pos := "spec.go:74", after := #[{ on := 11, ground := Ground.data }, { on := 13, ground := Ground.gcOnly Departure.lateStores }], guard := none }) (v := .agg #[.int .i64 0, .int .u32 y0, .int .u32 y1, .int .u32 y2, .int .u32 y3]) rfl (by kernel_rfl) (by kernel_rfl) (by kernel_rfl) (fun _ _ _ h => h) (Or.inl ⟨by rfl, ?_⟩) hHeld ?_
  · intro w1 hSw
    (try dsimp only at hSw)
    go_simp
  (try simp only [Act.put, List.setIfInBounds_toArray, List.set_cons_zero, List.set_cons_succ])
  refine wpAnyH_ready (rs := [13]) (by kernel_rfl) (by simp) ?_
  refine AllReadyH.cons (o := { dst := none, op := Op.store 112 (Operand.tmp 6) (Operand.tmp 95), type := 0, pos := "spec.go:74", after := #[{ on := 7, ground := Ground.data }, { on := 0, ground := Ground.phase }, { on := 1, ground := Ground.phase }, { on := 2, ground := Ground.phase }, { on := 3, ground := Ground.phase }, { on := 4, ground := Ground.phase }, { on := 5, ground := Ground.phase }, { on := 6, ground := Ground.phase }, { on := 7, ground := Ground.phase }, { on := 8, ground := Ground.textOnly Departure.lateStores }, { on := 9, ground := Ground.textOnly Departure.lateStores }, { on := 10, ground := Ground.textOnly Departure.lateStores }, { on := 11, ground := Ground.textOnly Departure.lateStores }, { on := 12, ground := Ground.textOnly Departure.lateStores }], guard := none }) rfl (fun K hK => ?_) AllReadyH.nil
  go_simp
  refine hK.out _ _ (by refine HS.out _ ?_ ?_ ?_ ?_ ?_ <;> (repeat (first | ((with_reducible refine heap_alloc_at _ ?_); (simp; done)) | (with_reducible apply heap_drewS) | (with_reducible apply heap_alloc') | (with_reducible exact R0.out) | (with_reducible exact R1.out) | (with_reducible exact R2.out) | (with_reducible exact R3.out) | (with_reducible apply cell_drewE) | (with_reducible apply cell_allocE)))) (fun hHeld => ?_)
  clear hK K
  (try simp only [Act.put, List.setIfInBounds_toArray, List.set_cons_zero, List.set_cons_succ])
  refine wpAnyH_ready (rs := [14]) (by kernel_rfl) (by simp) ?_
  refine AllReadyH.cons (o := { dst := none, op := Op.store 31 (Operand.tmp 7) (Operand.tmp 100), type := 0, pos := "spec.go:74", after := #[{ on := 12, ground := Ground.data }, { on := 13, ground := Ground.chain }, { on := 0, ground := Ground.phase }, { on := 1, ground := Ground.phase }, { on := 2, ground := Ground.phase }, { on := 3, ground := Ground.phase }, { on := 4, ground := Ground.phase }, { on := 5, ground := Ground.phase }, { on := 6, ground := Ground.phase }, { on := 7, ground := Ground.phase }, { on := 8, ground := Ground.phase }, { on := 9, ground := Ground.phase }, { on := 10, ground := Ground.phase }, { on := 11, ground := Ground.phase }, { on := 12, ground := Ground.phase }, { on := 13, ground := Ground.phase }], guard := none }) rfl (fun K hK => ?_) AllReadyH.nil
  go_simp
  refine hK.out _ _ (by refine HS.out _ ?_ ?_ ?_ ?_ ?_ <;> (repeat (first | ((with_reducible refine heap_alloc_at _ ?_); (simp; done)) | (with_reducible apply heap_drewS) | (with_reducible apply heap_alloc') | (with_reducible exact R0.out) | (with_reducible exact R1.out) | (with_reducible exact R2.out) | (with_reducible exact R3.out) | (with_reducible apply cell_drewE) | (with_reducible apply cell_allocE)))) (fun hHeld => ?_)
  clear hK K
  (try simp only [Act.put, List.setIfInBounds_toArray, List.set_cons_zero, List.set_cons_succ])
  refine wpAnyH_take (i := 15) (oi := { dst := some 8, op := Op.assign (Operand.const (Value.bool true)), type := 4, pos := "spec.go:74", after := #[{ on := 14, ground := Ground.chain }, { on := 0, ground := Ground.phase }, { on := 1, ground := Ground.phase }, { on := 2, ground := Ground.phase }, { on := 3, ground := Ground.phase }, { on := 4, ground := Ground.phase }, { on := 5, ground := Ground.phase }, { on := 6, ground := Ground.phase }, { on := 7, ground := Ground.phase }, { on := 8, ground := Ground.phase }, { on := 9, ground := Ground.phase }, { on := 10, ground := Ground.phase }, { on := 11, ground := Ground.phase }, { on := 12, ground := Ground.phase }, { on := 13, ground := Ground.phase }, { on := 14, ground := Ground.phase }], guard := none }) (v := .bool true) rfl (by kernel_rfl) (by kernel_rfl) (by kernel_rfl) (fun _ _ _ h => h) (Or.inl ⟨by rfl, ?_⟩) hHeld ?_
  · intro w1 hSw
    (try dsimp only at hSw)
    go_simp
  (try simp only [Act.put, List.setIfInBounds_toArray, List.set_cons_zero, List.set_cons_succ])
  refine wpAnyH_take (i := 16) (oi := { dst := some 9, op := Op.assign (Operand.const (Value.bool true)), type := 4, pos := "spec.go:74", after := #[{ on := 15, ground := Ground.chain }, { on := 0, ground := Ground.phase }, { on := 1, ground := Ground.phase }, { on := 2, ground := Ground.phase }, { on := 3, ground := Ground.phase }, { on := 4, ground := Ground.phase }, { on := 5, ground := Ground.phase }, { on := 6, ground := Ground.phase }, { on := 7, ground := Ground.phase }, { on := 8, ground := Ground.phase }, { on := 9, ground := Ground.phase }, { on := 10, ground := Ground.phase }, { on := 11, ground := Ground.phase }, { on := 12, ground := Ground.phase }, { on := 13, ground := Ground.phase }, { on := 14, ground := Ground.phase }, { on := 15, ground := Ground.phase }], guard := none }) (v := .bool true) rfl (by kernel_rfl) (by kernel_rfl) (by kernel_rfl) (fun _ _ _ h => h) (Or.inl ⟨by rfl, ?_⟩) hHeld ?_
  · intro w1 hSw
    (try dsimp only at hSw)
    go_simp
  (try simp only [Act.put, List.setIfInBounds_toArray, List.set_cons_zero, List.set_cons_succ])
  refine wpAnyH_done (by kernel_rfl) ?_ _
  all_goals
    go_wp2
    (
        refine bodyPost_ret (results_done rfl _ _ _ _ 112 31 (#[.int .i64 k, .int .i64 cap, .int .i64 wd, .int .i64 rt, .int .i64 f, .int .i64 t, .int .u32 i0, .int .u32 i1, .int .u32 i2, .int .u32 i3, .slice (some ⟨rb, ro + 4, none⟩) n (c + 1), .int .u32 v0, .int .u32 v1, .int .u32 v2, .int .u32 v3]) (#[.int .i64 0, .int .u32 y0, .int .u32 y1, .int .u32 y2, .int .u32 y3]) (0, 0) (0, 0) _ _ _ _ rfl rfl rfl rfl ?hg1 ?hg2 Try.underlying112 rfl (info_it _ _ _ _ _ _ _ _ _ _ _ _ _ _ _) Try.underlying31 rfl (info_res _ _ _ _ _)) rfl ?hp
        case hg1 => (repeat (first | ((with_reducible refine heap_alloc_at _ ?_); (simp; done)) | (with_reducible apply heap_drewS) | (with_reducible apply heap_alloc')))
        case hg2 => (repeat (first | ((with_reducible refine heap_alloc_at _ ?_); (simp; done)) | (with_reducible apply heap_drewS) | (with_reducible apply heap_alloc')))
        case hp => (refine ⟨rfl, ?_⟩; (repeat (first | (with_reducible exact Upd.refl _ _) | (with_reducible refine Upd.drew ?_) | (with_reducible refine Upd.alloc ?_ _)))))
end
end Go.Proofs.Ytdbgnnkbcebpcaa
