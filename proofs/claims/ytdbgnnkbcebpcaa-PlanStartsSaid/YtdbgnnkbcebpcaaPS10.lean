/- Package plan: size, and whether a cell lies in a place. (printed by genct.py out of PS10.base) -/
import Derived.Test.YtdbgnnkbcebpcaaPS9
set_option linter.unusedVariables false
set_option linter.unusedSimpArgs false
namespace Go.Proofs.Ytdbgnnkbcebpcaa
open Go.RowKit
def inB (k a cap wd rt n : Int) : Bool := decide (a ≤ n) && decide (n < a + sizeP k cap wd rt)
def PL.has (p : PL) (n : Int) : Bool := inB p.k p.a p.cap p.wd p.rt n
set_option maxRecDepth 100000 in
set_option maxHeartbeats 1000000 in
theorem psize_c (k a cap wd rt : Int) (w : World) : Calls Try.prog 69 #[.agg #[.int .i64 k, .int .i64 a, .int .i64 cap, .int .i64 wd, .int .i64 rt]] w fun e w' => e = .returned (.int .i64 (sizeP k cap wd rt)) ∧ Upd [] w w' := by
  have HS := Lib.hid fun w => osize_c k cap wd rt 0 0 0 0 0 0 w
  unfold obA at HS
  generalize sizeP k cap wd rt = m at *
  go_enter Try.func69, Try.ntmps69
  go_wp2_with (go_at_call 62; (with_reducible refine (HS.out _).mono ?_); rintro e w1 ⟨rfl, hu1⟩; obtain ⟨p1, rfl⟩ := hu1.grown; clear hu1)
  go_ret
  exact ⟨rfl, by repeat (first | (with_reducible exact Upd.refl _ _) | (with_reducible apply Upd.drew) | (with_reducible refine Upd.grE ?_ _) | (with_reducible refine Upd.alloc ?_ _))⟩
set_option maxRecDepth 100000 in
set_option maxHeartbeats 4000000 in
theorem in_c (k a cap wd rt n : Int) (ab : Nat) (w : World) (ha : 0 ≤ a ∧ a < 1000000) (hc : w.cell? ⟨ab, 0, none⟩ = some (.int .i64 n)) : Calls Try.prog 68 #[.agg #[.int .i64 k, .int .i64 a, .int .i64 cap, .int .i64 wd, .int .i64 rt], .pointer (some ⟨ab, 0, none⟩)] w fun e w' => e = .returned (.bool (inB k a cap wd rt n)) ∧ Upd [] w w' := by
  have HS := Lib.hid fun w => psize_c k a cap wd rt w
  have hb := sizeP_bounds k cap wd rt
  unfold inB
  generalize sizeP k cap wd rt = m at *
  have ha0 : ab < w.heap.size := World.block_lt_of_cell? w _ hc
  have HX := Lib.hid (heap_alloc_new w (.cells #[.int .i64 k, .int .i64 a, .int .i64 cap, .int .i64 wd, .int .i64 rt] 107))
  have HC := Lib.hid (cell_allocE (o := .cells #[.int .i64 k, .int .i64 a, .int .i64 cap, .int .i64 wd, .int .i64 rt] 107) hc)
  have HU := Lib.hid (show Upd [] w (w.alloc (.cells #[.int .i64 k, .int .i64 a, .int .i64 cap, .int .i64 wd, .int .i64 rt] 107)) from (Upd.refl _ _).alloc _)
  have hw : IntKind.i64.wrap (a + m) = a + m := by rw [IntKind.wrap_i64]; omega
  clear ha hb
  by_cases h1 : a ≤ n
  · have q1 : decide (a ≤ n) = true := by simpa using h1
    rw [q1]
    clear h1
    go_enter Try.func68, Try.ntmps68
    go_upto_region 1 with (fail)
    generalize w.alloc (.cells #[.int .i64 k, .int .i64 a, .int .i64 cap, .int .i64 wd, .int .i64 rt] 107) = wx at *
    obtain ⟨x0, x1, x2, x3, x4⟩ := cells5p HX.out
    have lx := heap_lt HX.out
    have hcx := HC.out
    have la := World.block_lt_of_cell? wx _ hcx
    have R0 : ∀ w1 : World, Upd [] wx w1 → w1.cell? ⟨w.heap.size, 0, none⟩ = some (.int .i64 k) := fun w1 h => (h.cell (p := ⟨w.heap.size, 0, none⟩) lx (by simp)).trans x0
    have R1 : ∀ w1 : World, Upd [] wx w1 → w1.cell? ⟨w.heap.size, 1, none⟩ = some (.int .i64 a) := fun w1 h => (h.cell (p := ⟨w.heap.size, 1, none⟩) lx (by simp)).trans x1
    have R2 : ∀ w1 : World, Upd [] wx w1 → w1.cell? ⟨w.heap.size, 2, none⟩ = some (.int .i64 cap) := fun w1 h => (h.cell (p := ⟨w.heap.size, 2, none⟩) lx (by simp)).trans x2
    have R3 : ∀ w1 : World, Upd [] wx w1 → w1.cell? ⟨w.heap.size, 3, none⟩ = some (.int .i64 wd) := fun w1 h => (h.cell (p := ⟨w.heap.size, 3, none⟩) lx (by simp)).trans x3
    have R4 : ∀ w1 : World, Upd [] wx w1 → w1.cell? ⟨w.heap.size, 4, none⟩ = some (.int .i64 rt) := fun w1 h => (h.cell (p := ⟨w.heap.size, 4, none⟩) lx (by simp)).trans x4
    have R5 : ∀ w1 : World, Upd [] wx w1 → w1.cell? ⟨ab, 0, none⟩ = some (.int .i64 n) := fun w1 h => (h.cell (p := ⟨ab, 0, none⟩) la (by simp)).trans hcx
    clear x0 x1 x2 x3 x4
    refine wp_region_held_drew (S := fun w1 => Upd [] wx w1) (by kernel_rfl) ?_ (fun hHeld => ?_)
    · exact (Upd.refl _ wx).drew
    refine wpAnyH_take (i := 0) (oi := { dst := some 4, op := Op.load 3 (Operand.tmp 1), type := 3, pos := "plan.go:72", after := #[], guard := none }) (v := .int .i64 n) rfl (by kernel_rfl) (by kernel_rfl) (by kernel_rfl) (fun _ _ _ h => h) (Or.inl ⟨by rfl, ?_⟩) hHeld ?_
    · intro w1 hSw
      (try dsimp only at hSw)
      go_simp
    (try simp only [Act.put, List.setIfInBounds_toArray, List.set_cons_zero, List.set_cons_succ])
    refine wpAnyH_take (i := 1) (oi := { dst := some 5, op := Op.fieldAddr 107 (Operand.tmp 2) 1, type := 0, pos := "plan.go:72", after := #[], guard := none }) (v := .pointer (some ⟨w.heap.size, 1, none⟩)) rfl (by kernel_rfl) (by kernel_rfl) (by kernel_rfl) (fun _ _ _ h => h) (Or.inl ⟨by rfl, ?_⟩) hHeld ?_
    · intro w1 hSw
      (try dsimp only at hSw)
      go_simp
    (try simp only [Act.put, List.setIfInBounds_toArray, List.set_cons_zero, List.set_cons_succ])
    refine wpAnyH_take (i := 2) (oi := { dst := some 6, op := Op.load 3 (Operand.tmp 5), type := 3, pos := "plan.go:72", after := #[{ on := 1, ground := Ground.data }], guard := none }) (v := .int .i64 a) rfl (by kernel_rfl) (by kernel_rfl) (by kernel_rfl) (fun _ _ _ h => h) (Or.inl ⟨by rfl, ?_⟩) hHeld ?_
    · intro w1 hSw
      (try dsimp only at hSw)
      go_simp
    (try simp only [Act.put, List.setIfInBounds_toArray, List.set_cons_zero, List.set_cons_succ])
    refine wpAnyH_take (i := 3) (oi := { dst := some 7, op := Op.binOp BinOp.geq 3 (Operand.tmp 4) (Operand.tmp 6) 3, type := 4, pos := "plan.go:72", after := #[{ on := 0, ground := Ground.data }, { on := 2, ground := Ground.data }], guard := none }) (v := .bool true) rfl (by kernel_rfl) (by kernel_rfl) (by kernel_rfl) (fun _ _ _ h => h) (Or.inl ⟨by rfl, ?_⟩) hHeld ?_
    · intro w1 hSw
      (try dsimp only at hSw)
      go_simp
    (try simp only [Act.put, List.setIfInBounds_toArray, List.set_cons_zero, List.set_cons_succ])
    refine wpAnyH_take (i := 4) (oi := { dst := some 8, op := Op.move (Operand.tmp 7), type := 4, pos := "plan.go:72", after := #[{ on := 3, ground := Ground.data }], guard := none }) (v := .bool true) rfl (by kernel_rfl) (by kernel_rfl) (by kernel_rfl) (fun _ _ _ h => h) (Or.inl ⟨by rfl, ?_⟩) hHeld ?_
    · intro w1 hSw
      (try dsimp only at hSw)
      go_simp
    (try simp only [Act.put, List.setIfInBounds_toArray, List.set_cons_zero, List.set_cons_succ])
    refine wpAnyH_take (i := 5) (oi := { dst := some 9, op := Op.load 3 (Operand.tmp 1), type := 3, pos := "plan.go:72", after := #[{ on := 4, ground := Ground.guard }], guard := some (4, true) }) (v := .int .i64 n) rfl (by kernel_rfl) (by kernel_rfl) (by kernel_rfl) (fun _ _ _ h => h) (Or.inl ⟨by rfl, ?_⟩) hHeld ?_
    · intro w1 hSw
      (try dsimp only at hSw)
      go_simp
    (try simp only [Act.put, List.setIfInBounds_toArray, List.set_cons_zero, List.set_cons_succ])
    refine wpAnyH_take (i := 6) (oi := { dst := some 10, op := Op.fieldAddr 107 (Operand.tmp 2) 1, type := 0, pos := "plan.go:72", after := #[{ on := 4, ground := Ground.guard }], guard := some (4, true) }) (v := .pointer (some ⟨w.heap.size, 1, none⟩)) rfl (by kernel_rfl) (by kernel_rfl) (by kernel_rfl) (fun _ _ _ h => h) (Or.inl ⟨by rfl, ?_⟩) hHeld ?_
    · intro w1 hSw
      (try dsimp only at hSw)
      go_simp
    (try simp only [Act.put, List.setIfInBounds_toArray, List.set_cons_zero, List.set_cons_succ])
    refine wpAnyH_take (i := 7) (oi := { dst := some 11, op := Op.load 3 (Operand.tmp 10), type := 3, pos := "plan.go:72", after := #[{ on := 6, ground := Ground.data }, { on := 4, ground := Ground.guard }], guard := some (4, true) }) (v := .int .i64 a) rfl (by kernel_rfl) (by kernel_rfl) (by kernel_rfl) (fun _ _ _ h => h) (Or.inl ⟨by rfl, ?_⟩) hHeld ?_
    · intro w1 hSw
      (try dsimp only at hSw)
      go_simp
    (try simp only [Act.put, List.setIfInBounds_toArray, List.set_cons_zero, List.set_cons_succ])
    refine wpAnyH_take (i := 8) (oi := { dst := some 12, op := Op.load 107 (Operand.tmp 2), type := 107, pos := "plan.go:72", after := #[{ on := 4, ground := Ground.guard }], guard := some (4, true) }) (v := .agg #[.int .i64 k, .int .i64 a, .int .i64 cap, .int .i64 wd, .int .i64 rt]) rfl (by kernel_rfl) (by kernel_rfl) (by kernel_rfl) (fun _ _ _ h => h) (Or.inl ⟨by rfl, ?_⟩) hHeld ?_
    · intro w1 hSw
      (try dsimp only at hSw)
      go_simp
    (try simp only [Act.put, List.setIfInBounds_toArray, List.set_cons_zero, List.set_cons_succ])
    refine wpAnyH_ready (rs := [9]) (by kernel_rfl) (by simp) ?_
    refine AllReadyH.cons (o := { dst := some 13, op := Op.call { callee := Callee.value (Operand.func 69), args := #[Operand.tmp 12], argTypes := #[107] }, type := 3, pos := "plan.go:72", after := #[{ on := 8, ground := Ground.data }, { on := 4, ground := Ground.chain }, { on := 4, ground := Ground.guard }], guard := some (4, true) }) rfl (fun K hK => ?_) AllReadyH.nil
    go_simp
    (with_reducible refine (HS.out _).mono ?_)
    rintro e w5 ⟨rfl, hu5⟩
    have hHeld := hHeld.trans (show Upd [] _ _ from hu5)
    refine hK.out _ _ (by repeat (first | (with_reducible exact Upd.refl _ _) | (with_reducible exact hHeld) | (with_reducible apply Upd.drew) | (with_reducible refine Upd.grE ?_ _))) (fun hHeld => ?_)
    clear hK K
    (try simp only [Act.put, List.setIfInBounds_toArray, List.set_cons_zero, List.set_cons_succ])
    refine wpAnyH_take (i := 10) (oi := { dst := some 14, op := Op.binOp BinOp.add 3 (Operand.tmp 11) (Operand.tmp 13) 3, type := 3, pos := "plan.go:72", after := #[{ on := 7, ground := Ground.data }, { on := 9, ground := Ground.data }, { on := 4, ground := Ground.guard }], guard := some (4, true) }) (v := .int .i64 (a + m)) rfl (by kernel_rfl) (by kernel_rfl) (by kernel_rfl) (fun _ _ _ h => h) (Or.inl ⟨by rfl, ?_⟩) hHeld ?_
    · intro w1 hSw
      (try dsimp only at hSw)
      go_simp
    (try simp only [Act.put, List.setIfInBounds_toArray, List.set_cons_zero, List.set_cons_succ])
    refine wpAnyH_take (i := 11) (oi := { dst := some 15, op := Op.binOp BinOp.lss 3 (Operand.tmp 9) (Operand.tmp 14) 3, type := 4, pos := "plan.go:72", after := #[{ on := 5, ground := Ground.data }, { on := 10, ground := Ground.data }, { on := 4, ground := Ground.guard }], guard := some (4, true) }) (v := .bool (decide (n < a + m))) rfl (by kernel_rfl) (by kernel_rfl) (by kernel_rfl) (fun _ _ _ h => h) (Or.inl ⟨by rfl, ?_⟩) hHeld ?_
    · intro w1 hSw
      (try dsimp only at hSw)
      go_simp
    (try simp only [Act.put, List.setIfInBounds_toArray, List.set_cons_zero, List.set_cons_succ])
    refine wpAnyH_take (i := 12) (oi := { dst := some 16, op := Op.pick (Operand.tmp 8) (Operand.tmp 15) (Operand.const (Value.bool false)), type := 4, pos := "plan.go:72", after := #[{ on := 4, ground := Ground.data }, { on := 11, ground := Ground.data }], guard := none }) (v := .bool (decide (n < a + m))) rfl (by kernel_rfl) (by kernel_rfl) (by kernel_rfl) (fun _ _ _ h => h) (Or.inl ⟨by rfl, ?_⟩) hHeld ?_
    · intro w1 hSw
      (try dsimp only at hSw)
      go_simp
    (try simp only [Act.put, List.setIfInBounds_toArray, List.set_cons_zero, List.set_cons_succ])
    refine wpAnyH_take (i := 13) (oi := { dst := some 3, op := Op.assign (Operand.tmp 16), type := 4, pos := "plan.go:72", after := #[{ on := 12, ground := Ground.data }, { on := 9, ground := Ground.chain }, { on := 0, ground := Ground.phase }, { on := 1, ground := Ground.phase }, { on := 2, ground := Ground.phase }, { on := 3, ground := Ground.phase }, { on := 4, ground := Ground.phase }, { on := 5, ground := Ground.phase }, { on := 6, ground := Ground.phase }, { on := 7, ground := Ground.phase }, { on := 8, ground := Ground.phase }, { on := 9, ground := Ground.phase }, { on := 10, ground := Ground.phase }, { on := 11, ground := Ground.phase }, { on := 12, ground := Ground.phase }], guard := none }) (v := .bool (decide (n < a + m))) rfl (by kernel_rfl) (by kernel_rfl) (by kernel_rfl) (fun _ _ _ h => h) (Or.inl ⟨by rfl, ?_⟩) hHeld ?_
    · intro w1 hSw
      (try dsimp only at hSw)
      go_simp
    (try simp only [Act.put, List.setIfInBounds_toArray, List.set_cons_zero, List.set_cons_succ])
    refine wpAnyH_done (by kernel_rfl) ?_ _
    clear R0 R1 R2 R3 R4 R5
    go_wp2
    go_ret
    exact ⟨by simp, HU.out.trans hHeld⟩
  · have q1 : decide (a ≤ n) = false := by simpa using h1
    rw [q1]
    clear h1
    go_enter Try.func68, Try.ntmps68
    go_upto_region 1 with (fail)
    generalize w.alloc (.cells #[.int .i64 k, .int .i64 a, .int .i64 cap, .int .i64 wd, .int .i64 rt] 107) = wx at *
    obtain ⟨x0, x1, x2, x3, x4⟩ := cells5p HX.out
    have lx := heap_lt HX.out
    have hcx := HC.out
    have la := World.block_lt_of_cell? wx _ hcx
    have R1 : ∀ w1 : World, Upd [] wx w1 → w1.cell? ⟨w.heap.size, 1, none⟩ = some (.int .i64 a) := fun w1 h => (h.cell (p := ⟨w.heap.size, 1, none⟩) lx (by simp)).trans x1
    have R5 : ∀ w1 : World, Upd [] wx w1 → w1.cell? ⟨ab, 0, none⟩ = some (.int .i64 n) := fun w1 h => (h.cell (p := ⟨ab, 0, none⟩) la (by simp)).trans hcx
    clear x0 x1 x2 x3 x4
    refine wp_region_held_drew (S := fun w1 => Upd [] wx w1) (by kernel_rfl) ?_ (fun hHeld => ?_)
    · exact (Upd.refl _ wx).drew
    refine wpAnyH_take (i := 0) (oi := { dst := some 4, op := Op.load 3 (Operand.tmp 1), type := 3, pos := "plan.go:72", after := #[], guard := none }) (v := .int .i64 n) rfl (by kernel_rfl) (by kernel_rfl) (by kernel_rfl) (fun _ _ _ h => h) (Or.inl ⟨by rfl, ?_⟩) hHeld ?_
    · intro w1 hSw
      (try dsimp only at hSw)
      go_simp
    (try simp only [Act.put, List.setIfInBounds_toArray, List.set_cons_zero, List.set_cons_succ])
    refine wpAnyH_take (i := 1) (oi := { dst := some 5, op := Op.fieldAddr 107 (Operand.tmp 2) 1, type := 0, pos := "plan.go:72", after := #[], guard := none }) (v := .pointer (some ⟨w.heap.size, 1, none⟩)) rfl (by kernel_rfl) (by kernel_rfl) (by kernel_rfl) (fun _ _ _ h => h) (Or.inl ⟨by rfl, ?_⟩) hHeld ?_
    · intro w1 hSw
      (try dsimp only at hSw)
      go_simp
    (try simp only [Act.put, List.setIfInBounds_toArray, List.set_cons_zero, List.set_cons_succ])
    refine wpAnyH_take (i := 2) (oi := { dst := some 6, op := Op.load 3 (Operand.tmp 5), type := 3, pos := "plan.go:72", after := #[{ on := 1, ground := Ground.data }], guard := none }) (v := .int .i64 a) rfl (by kernel_rfl) (by kernel_rfl) (by kernel_rfl) (fun _ _ _ h => h) (Or.inl ⟨by rfl, ?_⟩) hHeld ?_
    · intro w1 hSw
      (try dsimp only at hSw)
      go_simp
    (try simp only [Act.put, List.setIfInBounds_toArray, List.set_cons_zero, List.set_cons_succ])
    refine wpAnyH_take (i := 3) (oi := { dst := some 7, op := Op.binOp BinOp.geq 3 (Operand.tmp 4) (Operand.tmp 6) 3, type := 4, pos := "plan.go:72", after := #[{ on := 0, ground := Ground.data }, { on := 2, ground := Ground.data }], guard := none }) (v := .bool false) rfl (by kernel_rfl) (by kernel_rfl) (by kernel_rfl) (fun _ _ _ h => h) (Or.inl ⟨by rfl, ?_⟩) hHeld ?_
    · intro w1 hSw
      (try dsimp only at hSw)
      go_simp
    (try simp only [Act.put, List.setIfInBounds_toArray, List.set_cons_zero, List.set_cons_succ])
    refine wpAnyH_take (i := 4) (oi := { dst := some 8, op := Op.move (Operand.tmp 7), type := 4, pos := "plan.go:72", after := #[{ on := 3, ground := Ground.data }], guard := none }) (v := .bool false) rfl (by kernel_rfl) (by kernel_rfl) (by kernel_rfl) (fun _ _ _ h => h) (Or.inl ⟨by rfl, ?_⟩) hHeld ?_
    · intro w1 hSw
      (try dsimp only at hSw)
      go_simp
    (try simp only [Act.put, List.setIfInBounds_toArray, List.set_cons_zero, List.set_cons_succ])
    refine wpAnyH_take (i := 5) (oi := { dst := some 9, op := Op.load 3 (Operand.tmp 1), type := 3, pos := "plan.go:72", after := #[{ on := 4, ground := Ground.guard }], guard := some (4, true) }) (v := undef) rfl (by kernel_rfl) (by kernel_rfl) (by kernel_rfl) (fun _ _ _ h => h) (Or.inr ⟨by rfl, rfl⟩) hHeld ?_
    (try simp only [Act.put, List.setIfInBounds_toArray, List.set_cons_zero, List.set_cons_succ])
    refine wpAnyH_take (i := 6) (oi := { dst := some 10, op := Op.fieldAddr 107 (Operand.tmp 2) 1, type := 0, pos := "plan.go:72", after := #[{ on := 4, ground := Ground.guard }], guard := some (4, true) }) (v := undef) rfl (by kernel_rfl) (by kernel_rfl) (by kernel_rfl) (fun _ _ _ h => h) (Or.inr ⟨by rfl, rfl⟩) hHeld ?_
    (try simp only [Act.put, List.setIfInBounds_toArray, List.set_cons_zero, List.set_cons_succ])
    refine wpAnyH_take (i := 7) (oi := { dst := some 11, op := Op.load 3 (Operand.tmp 10), type := 3, pos := "plan.go:72", after := #[{ on := 6, ground := Ground.data }, { on := 4, ground := Ground.guard }], guard := some (4, true) }) (v := undef) rfl (by kernel_rfl) (by kernel_rfl) (by kernel_rfl) (fun _ _ _ h => h) (Or.inr ⟨by rfl, rfl⟩) hHeld ?_
    (try simp only [Act.put, List.setIfInBounds_toArray, List.set_cons_zero, List.set_cons_succ])
    refine wpAnyH_take (i := 8) (oi := { dst := some 12, op := Op.load 107 (Operand.tmp 2), type := 107, pos := "plan.go:72", after := #[{ on := 4, ground := Ground.guard }], guard := some (4, true) }) (v := undef) rfl (by kernel_rfl) (by kernel_rfl) (by kernel_rfl) (fun _ _ _ h => h) (Or.inr ⟨by rfl, rfl⟩) hHeld ?_
    (try simp only [Act.put, List.setIfInBounds_toArray, List.set_cons_zero, List.set_cons_succ])
    refine wpAnyH_take (i := 9) (oi := { dst := some 13, op := Op.call { callee := Callee.value (Operand.func 69), args := #[Operand.tmp 12], argTypes := #[107] }, type := 3, pos := "plan.go:72", after := #[{ on := 8, ground := Ground.data }, { on := 4, ground := Ground.chain }, { on := 4, ground := Ground.guard }], guard := some (4, true) }) (v := undef) rfl (by kernel_rfl) (by kernel_rfl) (by kernel_rfl) (fun _ _ _ h => h) (Or.inr ⟨by rfl, rfl⟩) hHeld ?_
    (try simp only [Act.put, List.setIfInBounds_toArray, List.set_cons_zero, List.set_cons_succ])
    refine wpAnyH_take (i := 10) (oi := { dst := some 14, op := Op.binOp BinOp.add 3 (Operand.tmp 11) (Operand.tmp 13) 3, type := 3, pos := "plan.go:72", after := #[{ on := 7, ground := Ground.data }, { on := 9, ground := Ground.data }, { on := 4, ground := Ground.guard }], guard := some (4, true) }) (v := undef) rfl (by kernel_rfl) (by kernel_rfl) (by kernel_rfl) (fun _ _ _ h => h) (Or.inr ⟨by rfl, rfl⟩) hHeld ?_
    (try simp only [Act.put, List.setIfInBounds_toArray, List.set_cons_zero, List.set_cons_succ])
    refine wpAnyH_take (i := 11) (oi := { dst := some 15, op := Op.binOp BinOp.lss 3 (Operand.tmp 9) (Operand.tmp 14) 3, type := 4, pos := "plan.go:72", after := #[{ on := 5, ground := Ground.data }, { on := 10, ground := Ground.data }, { on := 4, ground := Ground.guard }], guard := some (4, true) }) (v := undef) rfl (by kernel_rfl) (by kernel_rfl) (by kernel_rfl) (fun _ _ _ h => h) (Or.inr ⟨by rfl, rfl⟩) hHeld ?_
    (try simp only [Act.put, List.setIfInBounds_toArray, List.set_cons_zero, List.set_cons_succ])
    refine wpAnyH_take (i := 12) (oi := { dst := some 16, op := Op.pick (Operand.tmp 8) (Operand.tmp 15) (Operand.const (Value.bool false)), type := 4, pos := "plan.go:72", after := #[{ on := 4, ground := Ground.data }, { on := 11, ground := Ground.data }], guard := none }) (v := .bool false) rfl (by kernel_rfl) (by kernel_rfl) (by kernel_rfl) (fun _ _ _ h => h) (Or.inl ⟨by rfl, ?_⟩) hHeld ?_
    · intro w1 hSw
      (try dsimp only at hSw)
      go_simp
    (try simp only [Act.put, List.setIfInBounds_toArray, List.set_cons_zero, List.set_cons_succ])
    refine wpAnyH_take (i := 13) (oi := { dst := some 3, op := Op.assign (Operand.tmp 16), type := 4, pos := "plan.go:72", after := #[{ on := 12, ground := Ground.data }, { on := 9, ground := Ground.chain }, { on := 0, ground := Ground.phase }, { on := 1, ground := Ground.phase }, { on := 2, ground := Ground.phase }, { on := 3, ground := Ground.phase }, { on := 4, ground := Ground.phase }, { on := 5, ground := Ground.phase }, { on := 6, ground := Ground.phase }, { on := 7, ground := Ground.phase }, { on := 8, ground := Ground.phase }, { on := 9, ground := Ground.phase }, { on := 10, ground := Ground.phase }, { on := 11, ground := Ground.phase }, { on := 12, ground := Ground.phase }], guard := none }) (v := .bool false) rfl (by kernel_rfl) (by kernel_rfl) (by kernel_rfl) (fun _ _ _ h => h) (Or.inl ⟨by rfl, ?_⟩) hHeld ?_
    · intro w1 hSw
      (try dsimp only at hSw)
      go_simp
    (try simp only [Act.put, List.setIfInBounds_toArray, List.set_cons_zero, List.set_cons_succ])
    refine wpAnyH_done (by kernel_rfl) ?_ _
    clear R1 R5
    go_wp2
    go_ret
    exact ⟨by simp, HU.out.trans hHeld⟩
end Go.Proofs.Ytdbgnnkbcebpcaa
