/- The walk, part 18: FS3. -/
import Derived.Test.YtnnakiojfpnphaaZi08
import Derived.Deep.RegionHeld3
import Derived.Deep.CutRange
import Derived.Deep.MidRow
set_option linter.unusedVariables false
set_option linter.unusedSimpArgs false

namespace Go.Proofs.Ytnnakiojfpnphaa
open Go.RowKit
section
variable (a wd : Int) {w : World} {b : Nat} {t : TypeId} {s : FSt}
set_option maxRecDepth 100000 in
set_option maxHeartbeats 4000000 in
theorem four_data (k : Int) (h : FG a wd w b t s) (hw : 1 ≤ wd ∧ wd ≤ 4) (ha : 0 ≤ a ∧ a < 1000000) (hp : 0 ≤ s.p ∧ s.p ≤ 1) (hi : 0 ≤ s.i ∧ s.i ≤ 1) (hk : 0 ≤ k ∧ k < wd) :
    Calls Try.prog 30 #[.pointer (some ⟨b, 0, none⟩), .int .i64 k] w fun e w' => e = .returned (.int .i64 (a + 4 + (2 * s.p + s.i) * wd + k)) ∧ Upd [] w w' := by
  obtain ⟨x0, x1, x2, x3, x4, -, x6, x7, -⟩ := h.pl
  have lb := heap_lt h.h
  have HC := Lib.hid (fun w => c4_data a wd w (2 * s.p + s.i) k hw ha (by omega) hk)
  have w1 : IntKind.i64.wrap (2 * s.p) = 2 * s.p := by rw [IntKind.wrap_i64]; omega
  have w2 : IntKind.i64.wrap (2 * s.p + s.i) = 2 * s.p + s.i := by rw [IntKind.wrap_i64]; omega
  generalize s.p = p at *
  generalize s.i = i at *
  clear h hw ha hp hi hk
  have R0 : ∀ w1 : World, Upd [] w w1 → w1.cell? ⟨b, 0, none⟩ = some (.int .i64 2) := fun w1 h => (h.cell (p := ⟨b, 0, none⟩) lb (by simp)).trans x0
  have R1 : ∀ w1 : World, Upd [] w w1 → w1.cell? ⟨b, 1, none⟩ = some (.int .i64 a) := fun w1 h => (h.cell (p := ⟨b, 1, none⟩) lb (by simp)).trans x1
  have R2 : ∀ w1 : World, Upd [] w w1 → w1.cell? ⟨b, 2, none⟩ = some (.int .i64 0) := fun w1 h => (h.cell (p := ⟨b, 2, none⟩) lb (by simp)).trans x2
  have R3 : ∀ w1 : World, Upd [] w w1 → w1.cell? ⟨b, 3, none⟩ = some (.int .i64 wd) := fun w1 h => (h.cell (p := ⟨b, 3, none⟩) lb (by simp)).trans x3
  have R4 : ∀ w1 : World, Upd [] w w1 → w1.cell? ⟨b, 4, none⟩ = some (.int .i64 0) := fun w1 h => (h.cell (p := ⟨b, 4, none⟩) lb (by simp)).trans x4
  have R6 : ∀ w1 : World, Upd [] w w1 → w1.cell? ⟨b, 6, none⟩ = some (.int .i64 p) := fun w1 h => (h.cell (p := ⟨b, 6, none⟩) lb (by simp)).trans x6
  have R7 : ∀ w1 : World, Upd [] w w1 → w1.cell? ⟨b, 7, none⟩ = some (.int .i64 i) := fun w1 h => (h.cell (p := ⟨b, 7, none⟩) lb (by simp)).trans x7
  clear x0 x1 x2 x3 x4 x6 x7
  go_enter Try.func30, Try.ntmps30
  go_upto_region 1 with (fail)
  refine wp_region_held_drew (S := fun w1 => Upd [] w w1) (by kernel_rfl) ?_ (fun hHeld => ?_)
  · exact (Upd.refl _ w).drew
  apply wpAnyH_take (i := 0) (oi := { dst := some 5, op := Op.move (Operand.tmp 0), type := 109, pos := "four.go:38", after := #[], guard := none }) rfl (by kernel_rfl) (by kernel_rfl) (by kernel_rfl) (fun _ _ _ h => h) (Or.inl ⟨by rfl, ?_⟩) hHeld ?_
  rotate_left 1
  · intro w1 hSw
    (try dsimp only at hSw)
    go_simp
    rfl
  (try simp only [Act.put, List.setIfInBounds_toArray, List.set_cons_zero, List.set_cons_succ])
  apply wpAnyH_take (i := 1) (oi := { dst := some 6, op := Op.nilCheck (Operand.tmp 5), type := 0, pos := "four.go:38", after := #[{ on := 0, ground := Ground.data }], guard := none }) rfl (by kernel_rfl) (by kernel_rfl) (by kernel_rfl) (fun _ _ _ h => h) (Or.inl ⟨by rfl, ?_⟩) hHeld ?_
  rotate_left 1
  · intro w1 hSw
    (try dsimp only at hSw)
    go_simp
    rfl
  (try simp only [Act.put, List.setIfInBounds_toArray, List.set_cons_zero, List.set_cons_succ])
  apply wpAnyH_take (i := 2) (oi := { dst := some 7, op := Op.fieldAddr 81 (Operand.tmp 6) 0, type := 0, pos := "four.go:38", after := #[{ on := 1, ground := Ground.data }], guard := none }) rfl (by kernel_rfl) (by kernel_rfl) (by kernel_rfl) (fun _ _ _ h => h) (Or.inl ⟨by rfl, ?_⟩) hHeld ?_
  rotate_left 1
  · intro w1 hSw
    (try dsimp only at hSw)
    go_simp
    rfl
  (try simp only [Act.put, List.setIfInBounds_toArray, List.set_cons_zero, List.set_cons_succ])
  apply wpAnyH_take (i := 3) (oi := { dst := some 8, op := Op.load 27 (Operand.tmp 7), type := 27, pos := "four.go:38", after := #[{ on := 2, ground := Ground.data }], guard := none }) rfl (by kernel_rfl) (by kernel_rfl) (by kernel_rfl) (fun _ _ _ h => h) (Or.inl ⟨by rfl, ?_⟩) hHeld ?_
  rotate_left 1
  · intro w1 hSw
    (try dsimp only at hSw)
    go_simp
    rfl
  (try simp only [Act.put, List.setIfInBounds_toArray, List.set_cons_zero, List.set_cons_succ])
  apply wpAnyH_take (i := 4) (oi := { dst := some 9, op := Op.move (Operand.tmp 0), type := 109, pos := "four.go:38", after := #[], guard := none }) rfl (by kernel_rfl) (by kernel_rfl) (by kernel_rfl) (fun _ _ _ h => h) (Or.inl ⟨by rfl, ?_⟩) hHeld ?_
  rotate_left 1
  · intro w1 hSw
    (try dsimp only at hSw)
    go_simp
    rfl
  (try simp only [Act.put, List.setIfInBounds_toArray, List.set_cons_zero, List.set_cons_succ])
  apply wpAnyH_take (i := 5) (oi := { dst := some 10, op := Op.nilCheck (Operand.tmp 9), type := 0, pos := "four.go:38", after := #[{ on := 4, ground := Ground.data }], guard := none }) rfl (by kernel_rfl) (by kernel_rfl) (by kernel_rfl) (fun _ _ _ h => h) (Or.inl ⟨by rfl, ?_⟩) hHeld ?_
  rotate_left 1
  · intro w1 hSw
    (try dsimp only at hSw)
    go_simp
    rfl
  (try simp only [Act.put, List.setIfInBounds_toArray, List.set_cons_zero, List.set_cons_succ])
  apply wpAnyH_take (i := 6) (oi := { dst := some 11, op := Op.fieldAddr 81 (Operand.tmp 10) 2, type := 0, pos := "four.go:38", after := #[{ on := 5, ground := Ground.data }], guard := none }) rfl (by kernel_rfl) (by kernel_rfl) (by kernel_rfl) (fun _ _ _ h => h) (Or.inl ⟨by rfl, ?_⟩) hHeld ?_
  rotate_left 1
  · intro w1 hSw
    (try dsimp only at hSw)
    go_simp
    rfl
  (try simp only [Act.put, List.setIfInBounds_toArray, List.set_cons_zero, List.set_cons_succ])
  apply wpAnyH_take (i := 7) (oi := { dst := some 12, op := Op.indexAddr 79 (Operand.tmp 11) (Operand.const (Value.int IntKind.i64 0)), type := 0, pos := "four.go:38", after := #[{ on := 6, ground := Ground.data }], guard := none }) rfl (by kernel_rfl) (by kernel_rfl) (by kernel_rfl) (fun _ _ _ h => h) (Or.inl ⟨by rfl, ?_⟩) hHeld ?_
  rotate_left 1
  · intro w1 hSw
    (try dsimp only at hSw)
    go_simp
    rfl
  (try simp only [Act.put, List.setIfInBounds_toArray, List.set_cons_zero, List.set_cons_succ])
  apply wpAnyH_take (i := 8) (oi := { dst := some 13, op := Op.load 3 (Operand.tmp 12), type := 3, pos := "four.go:38", after := #[{ on := 7, ground := Ground.data }], guard := none }) rfl (by kernel_rfl) (by kernel_rfl) (by kernel_rfl) (fun _ _ _ h => h) (Or.inl ⟨by rfl, ?_⟩) hHeld ?_
  rotate_left 1
  · intro w1 hSw
    (try dsimp only at hSw)
    go_simp
    rfl
  (try simp only [Act.put, List.setIfInBounds_toArray, List.set_cons_zero, List.set_cons_succ])
  apply wpAnyH_take (i := 9) (oi := { dst := some 14, op := Op.binOp BinOp.mul 3 (Operand.const (Value.int IntKind.i64 2)) (Operand.tmp 13) 3, type := 3, pos := "four.go:38", after := #[{ on := 8, ground := Ground.data }], guard := none }) rfl (by kernel_rfl) (by kernel_rfl) (by kernel_rfl) (fun _ _ _ h => h) (Or.inl ⟨by rfl, ?_⟩) hHeld ?_
  rotate_left 1
  · intro w1 hSw
    (try dsimp only at hSw)
    go_simp
    rfl
  (try simp only [Act.put, List.setIfInBounds_toArray, List.set_cons_zero, List.set_cons_succ])
  apply wpAnyH_take (i := 10) (oi := { dst := some 15, op := Op.move (Operand.tmp 0), type := 109, pos := "four.go:38", after := #[], guard := none }) rfl (by kernel_rfl) (by kernel_rfl) (by kernel_rfl) (fun _ _ _ h => h) (Or.inl ⟨by rfl, ?_⟩) hHeld ?_
  rotate_left 1
  · intro w1 hSw
    (try dsimp only at hSw)
    go_simp
    rfl
  (try simp only [Act.put, List.setIfInBounds_toArray, List.set_cons_zero, List.set_cons_succ])
  apply wpAnyH_take (i := 11) (oi := { dst := some 16, op := Op.nilCheck (Operand.tmp 15), type := 0, pos := "four.go:38", after := #[{ on := 10, ground := Ground.data }], guard := none }) rfl (by kernel_rfl) (by kernel_rfl) (by kernel_rfl) (fun _ _ _ h => h) (Or.inl ⟨by rfl, ?_⟩) hHeld ?_
  rotate_left 1
  · intro w1 hSw
    (try dsimp only at hSw)
    go_simp
    rfl
  (try simp only [Act.put, List.setIfInBounds_toArray, List.set_cons_zero, List.set_cons_succ])
  apply wpAnyH_take (i := 12) (oi := { dst := some 17, op := Op.fieldAddr 81 (Operand.tmp 16) 2, type := 0, pos := "four.go:38", after := #[{ on := 11, ground := Ground.data }], guard := none }) rfl (by kernel_rfl) (by kernel_rfl) (by kernel_rfl) (fun _ _ _ h => h) (Or.inl ⟨by rfl, ?_⟩) hHeld ?_
  rotate_left 1
  · intro w1 hSw
    (try dsimp only at hSw)
    go_simp
    rfl
  (try simp only [Act.put, List.setIfInBounds_toArray, List.set_cons_zero, List.set_cons_succ])
  apply wpAnyH_take (i := 13) (oi := { dst := some 18, op := Op.indexAddr 79 (Operand.tmp 17) (Operand.const (Value.int IntKind.i64 1)), type := 0, pos := "four.go:38", after := #[{ on := 12, ground := Ground.data }], guard := none }) rfl (by kernel_rfl) (by kernel_rfl) (by kernel_rfl) (fun _ _ _ h => h) (Or.inl ⟨by rfl, ?_⟩) hHeld ?_
  rotate_left 1
  · intro w1 hSw
    (try dsimp only at hSw)
    go_simp
    rfl
  (try simp only [Act.put, List.setIfInBounds_toArray, List.set_cons_zero, List.set_cons_succ])
  apply wpAnyH_take (i := 14) (oi := { dst := some 19, op := Op.load 3 (Operand.tmp 18), type := 3, pos := "four.go:38", after := #[{ on := 13, ground := Ground.data }], guard := none }) rfl (by kernel_rfl) (by kernel_rfl) (by kernel_rfl) (fun _ _ _ h => h) (Or.inl ⟨by rfl, ?_⟩) hHeld ?_
  rotate_left 1
  · intro w1 hSw
    (try dsimp only at hSw)
    go_simp
    rfl
  (try simp only [Act.put, List.setIfInBounds_toArray, List.set_cons_zero, List.set_cons_succ])
  apply wpAnyH_take (i := 15) (oi := { dst := some 20, op := Op.binOp BinOp.add 3 (Operand.tmp 14) (Operand.tmp 19) 3, type := 3, pos := "four.go:38", after := #[{ on := 9, ground := Ground.data }, { on := 14, ground := Ground.data }], guard := none }) rfl (by kernel_rfl) (by kernel_rfl) (by kernel_rfl) (fun _ _ _ h => h) (Or.inl ⟨by rfl, ?_⟩) hHeld ?_
  rotate_left 1
  · intro w1 hSw
    (try dsimp only at hSw)
    go_simp
    rfl
  (try simp only [Act.put, List.setIfInBounds_toArray, List.set_cons_zero, List.set_cons_succ])
  apply wpAnyH_take (i := 16) (oi := { dst := some 21, op := Op.move (Operand.tmp 1), type := 3, pos := "four.go:38", after := #[], guard := none }) rfl (by kernel_rfl) (by kernel_rfl) (by kernel_rfl) (fun _ _ _ h => h) (Or.inl ⟨by rfl, ?_⟩) hHeld ?_
  rotate_left 1
  · intro w1 hSw
    (try dsimp only at hSw)
    go_simp
    rfl
  (try simp only [Act.put, List.setIfInBounds_toArray, List.set_cons_zero, List.set_cons_succ])
  refine wpAnyH_ready (rs := [17]) (by kernel_rfl) (by simp) ?_
  refine AllReadyH.cons (o := { dst := some 22, op := Op.call { callee := Callee.value (Operand.func 54), args := #[Operand.tmp 8, Operand.const (Value.int IntKind.i64 3), Operand.tmp 20, Operand.tmp 21], argTypes := #[27, 3, 3, 3] }, type := 3, pos := "four.go:38", after := #[{ on := 3, ground := Ground.data }, { on := 15, ground := Ground.data }, { on := 16, ground := Ground.data }], guard := none }) rfl (fun K hK => ?_) AllReadyH.nil
  go_simp
  (with_reducible refine (HC.out _).mono ?_)
  rintro e w5 ⟨rfl, hu5⟩
  have hHeld := hHeld.trans (show Upd [] _ _ from hu5)
  refine hK.out _ _ (by repeat (first | (with_reducible exact Upd.refl _ _) | (with_reducible exact hHeld) | (with_reducible apply Upd.drew) | (with_reducible refine Upd.grE ?_ _))) (fun hHeld => ?_)
  clear hK K
  (try simp only [Act.put, List.setIfInBounds_toArray, List.set_cons_zero, List.set_cons_succ])
  apply wpAnyH_take (i := 18) (oi := { dst := some 4, op := Op.assign (Operand.tmp 22), type := 3, pos := "four.go:38", after := #[{ on := 17, ground := Ground.data }, { on := 17, ground := Ground.chain }, { on := 0, ground := Ground.phase }, { on := 1, ground := Ground.phase }, { on := 2, ground := Ground.phase }, { on := 3, ground := Ground.phase }, { on := 4, ground := Ground.phase }, { on := 5, ground := Ground.phase }, { on := 6, ground := Ground.phase }, { on := 7, ground := Ground.phase }, { on := 8, ground := Ground.phase }, { on := 9, ground := Ground.phase }, { on := 10, ground := Ground.phase }, { on := 11, ground := Ground.phase }, { on := 12, ground := Ground.phase }, { on := 13, ground := Ground.phase }, { on := 14, ground := Ground.phase }, { on := 15, ground := Ground.phase }, { on := 16, ground := Ground.phase }, { on := 17, ground := Ground.phase }], guard := none }) rfl (by kernel_rfl) (by kernel_rfl) (by kernel_rfl) (fun _ _ _ h => h) (Or.inl ⟨by rfl, ?_⟩) hHeld ?_
  rotate_left 1
  · intro w1 hSw
    (try dsimp only at hSw)
    go_simp
    rfl
  (try simp only [Act.put, List.setIfInBounds_toArray, List.set_cons_zero, List.set_cons_succ])
  refine wpAnyH_done (by kernel_rfl) ?_ _
  clear R0 R1 R2 R3 R4 R6 R7
  go_wp2
  go_ret
  exact ⟨rfl, hHeld⟩
end
end Go.Proofs.Ytnnakiojfpnphaa
