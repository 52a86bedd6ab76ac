/- The walk, part 20: FS5. -/
import Derived.Test.YtnnakiojfpnphaaZi19
import Derived.Test.YtnnakiojfpnphaaZi04
set_option linter.unusedVariables false
set_option linter.unusedSimpArgs false

namespace Go.Proofs.Ytnnakiojfpnphaa
open Go.RowKit
section
variable (a wd : Int) {w : World} {b : Nat} {s : FSt}
set_option maxRecDepth 100000 in
set_option maxHeartbeats 2000000 in
theorem fr_act0 (h : FG a wd w b 84 s) (hw : 1 ≤ wd ∧ wd ≤ 4) (ha : 0 ≤ a ∧ a < 1000000) (hn : s.n = 0) (hon : s.on = true) :
    Calls Try.prog 11 #[.pointer (some ⟨b, 0, none⟩)] w fun e w' => e = .returned (.tuple #[.agg #[.int .i64 1, .int .i64 a, .int .u32 0], .bool true]) ∧ Upd [] w w' := by
  obtain ⟨x0, x1, x2, x3, x4, x5, x6, x7, x18⟩ := h.pl
  obtain ⟨x8, x9, x10, x11⟩ := h.vs
  rw [hn] at x5
  rw [hon] at x18
  have lb := heap_lt h.h
  have HC := Lib.hid (fun (w1 : World) (hu : Upd [] w w1) => four_cell a wd 4 0 a (h.keep hu (by simp)) (fun w => c4_latest a wd w hw))
  clear h hn hon hw ha
  go_enter Try.func11, Try.ntmps11
  go_wp2
  refine wp_scope_jump1 0 rfl ?_
  intro K HK
  go_wp2
  go_step3
  refine And.intro rfl (HK.out _ _ ?_)
  clear HK
  go_wp2_with (first
    | (go_at_call 31; (with_reducible refine (HC.out _ (by repeat (first | (with_reducible exact Upd.refl _ _) | (with_reducible apply Upd.drew) | (with_reducible refine Upd.grE ?_ _) | (with_reducible refine Upd.alloc ?_ _)))).mono ?_); rintro e w1 ⟨rfl, hu1⟩; obtain ⟨p1, rfl⟩ := hu1.grown; clear hu1)
    | (go_at_call 29; (with_reducible refine (fr_load1 _ _).mono ?_); rintro e w6 ⟨rfl, hu6⟩; obtain ⟨p6, rfl⟩ := hu6.grown; clear hu6))
  rw [Exit.noGoto_ret]
  refine ret_act' rfl (g := w.heap.size) (t := 41) (fr := (0, 0)) (x := .int .i64 1) (y := .int .i64 a) (z := .int .u32 0) rfl rfl rfl (hg := ?hg) ?_
  case hg => repeat (first | ((with_reducible refine heap_alloc_at _ ?_); (first | rfl | (simp; done))) | (with_reducible apply heap_drewE) | (with_reducible apply heap_grE) | (with_reducible apply heap_alloc'))
  exact ⟨rfl, (by repeat (first | (with_reducible exact Upd.refl _ _) | (with_reducible apply Upd.drew) | (with_reducible refine Upd.grE ?_ _) | (with_reducible refine Upd.alloc ?_ _)))⟩
set_option maxRecDepth 100000 in
set_option maxHeartbeats 4000000 in
theorem fr_act1 (h : FG a wd w b 84 s) (hw : 1 ≤ wd ∧ wd ≤ 4) (ha : 0 ≤ a ∧ a < 1000000) (hn : s.n = 1) (hon : s.on = true) (hp : 0 ≤ s.p ∧ s.p ≤ 1) :
    Calls Try.prog 11 #[.pointer (some ⟨b, 0, none⟩)] w fun e w' => e = .returned (.tuple #[.agg #[.int .i64 2, .int .i64 (a + 1), .int .u32 s.p], .bool true]) ∧ Upd [] w w' := by
  obtain ⟨x0, x1, x2, x3, x4, x5, x6, x7, x18⟩ := h.pl
  obtain ⟨x8, x9, x10, x11⟩ := h.vs
  rw [hn] at x5
  rw [hon] at x18
  have lb := heap_lt h.h
  have HC := Lib.hid (fun (w1 : World) (hu : Upd [] w w1) => four_cell a wd 5 0 (a + 1) (h.keep hu (by simp)) (fun w => c4_reading a wd w hw ha))
  have q4 : IntKind.u32.wrap s.p = s.p := by rw [IntKind.wrap_u32]; omega
  generalize s.p = p at *
  generalize s.i = i at *
  generalize s.v0 = v0 at *
  generalize s.v1 = v1 at *
  generalize s.v2 = v2 at *
  generalize s.v3 = v3 at *
  clear h hn hon hw ha hp
  go_enter Try.func11, Try.ntmps11
  go_wp2
  refine wp_scope_jump1 1 rfl ?_
  intro K HK
  go_wp2
  go_step3
  refine And.intro rfl (HK.out _ _ ?_)
  clear HK
  go_upto_region 10 with (fail)
  have HUX := Lib.hid (show Upd [] w (w.alloc (.cells #[.int .i64 0, .int .i64 0, .int .u32 0] 41)) from (Upd.refl _ _).alloc _)
  have HAX := Lib.hid (heap_alloc_new w (.cells #[.int .i64 0, .int .i64 0, .int .u32 0] 41))
  generalize w.alloc (.cells #[.int .i64 0, .int .i64 0, .int .u32 0] 41) = wx at *
  have lx : b < wx.heap.size := Nat.lt_of_lt_of_le lb HUX.out.size
  have hbn : b ∉ [w.heap.size] := by simp; omega
  have R6 : ∀ w1 : World, Upd [w.heap.size] wx w1 → w1.cell? ⟨b, 6, none⟩ = some (.int .i64 p) := fun w1 h => (h.cell (p := ⟨b, 6, none⟩) lx hbn).trans ((HUX.out.cell (p := ⟨b, 6, none⟩) lb (by simp)).trans x6)
  clear x0 x1 x2 x3 x4 x5 x6 x7 x8 x9 x10 x11 x18
  refine wp_region_held_drew (S := fun w1 => Upd [w.heap.size] wx w1) (by kernel_rfl) ?_ (fun hHeld => ?_)
  · exact (Upd.refl _ wx).drew
  apply wpAnyH_take (i := 0) (oi := { dst := some 46, op := Op.move (Operand.tmp 0), type := 38, pos := "four.go:120", after := #[], guard := none }) rfl (by kernel_rfl) (by kernel_rfl) (by kernel_rfl) (fun _ _ _ h => h) (Or.inl ⟨by rfl, ?_⟩) hHeld ?_
  rotate_left 1
  · intro w1 hSw
    (try dsimp only at hSw)
    go_simp
    rfl
  (try simp only [Act.put, List.setIfInBounds_toArray, List.set_cons_zero, List.set_cons_succ])
  apply wpAnyH_take (i := 1) (oi := { dst := some 47, op := Op.nilCheck (Operand.tmp 46), type := 0, pos := "four.go:120", after := #[{ on := 0, ground := Ground.data }], guard := none }) rfl (by kernel_rfl) (by kernel_rfl) (by kernel_rfl) (fun _ _ _ h => h) (Or.inl ⟨by rfl, ?_⟩) hHeld ?_
  rotate_left 1
  · intro w1 hSw
    (try dsimp only at hSw)
    go_simp
    rfl
  (try simp only [Act.put, List.setIfInBounds_toArray, List.set_cons_zero, List.set_cons_succ])
  apply wpAnyH_take (i := 2) (oi := { dst := some 48, op := Op.fieldAddr 84 (Operand.tmp 47) 0, type := 0, pos := "four.go:120", after := #[{ on := 1, ground := Ground.data }], guard := none }) rfl (by kernel_rfl) (by kernel_rfl) (by kernel_rfl) (fun _ _ _ h => h) (Or.inl ⟨by rfl, ?_⟩) hHeld ?_
  rotate_left 1
  · intro w1 hSw
    (try dsimp only at hSw)
    go_simp
    rfl
  (try simp only [Act.put, List.setIfInBounds_toArray, List.set_cons_zero, List.set_cons_succ])
  apply wpAnyH_take (i := 4) (oi := { dst := some 50, op := Op.move (Operand.tmp 0), type := 38, pos := "four.go:120", after := #[], guard := none }) rfl (by kernel_rfl) (by kernel_rfl) (by kernel_rfl) (fun _ _ _ h => h) (Or.inl ⟨by rfl, ?_⟩) hHeld ?_
  rotate_left 1
  · intro w1 hSw
    (try dsimp only at hSw)
    go_simp
    rfl
  (try simp only [Act.put, List.setIfInBounds_toArray, List.set_cons_zero, List.set_cons_succ])
  apply wpAnyH_take (i := 5) (oi := { dst := some 51, op := Op.nilCheck (Operand.tmp 50), type := 0, pos := "four.go:120", after := #[{ on := 4, ground := Ground.data }], guard := none }) rfl (by kernel_rfl) (by kernel_rfl) (by kernel_rfl) (fun _ _ _ h => h) (Or.inl ⟨by rfl, ?_⟩) hHeld ?_
  rotate_left 1
  · intro w1 hSw
    (try dsimp only at hSw)
    go_simp
    rfl
  (try simp only [Act.put, List.setIfInBounds_toArray, List.set_cons_zero, List.set_cons_succ])
  apply wpAnyH_take (i := 6) (oi := { dst := some 52, op := Op.fieldAddr 84 (Operand.tmp 51) 0, type := 0, pos := "four.go:120", after := #[{ on := 5, ground := Ground.data }], guard := none }) rfl (by kernel_rfl) (by kernel_rfl) (by kernel_rfl) (fun _ _ _ h => h) (Or.inl ⟨by rfl, ?_⟩) hHeld ?_
  rotate_left 1
  · intro w1 hSw
    (try dsimp only at hSw)
    go_simp
    rfl
  (try simp only [Act.put, List.setIfInBounds_toArray, List.set_cons_zero, List.set_cons_succ])
  apply wpAnyH_take (i := 7) (oi := { dst := some 53, op := Op.fieldAddr 81 (Operand.tmp 52) 2, type := 0, pos := "four.go:120", after := #[{ on := 6, ground := Ground.data }], guard := none }) rfl (by kernel_rfl) (by kernel_rfl) (by kernel_rfl) (fun _ _ _ h => h) (Or.inl ⟨by rfl, ?_⟩) hHeld ?_
  rotate_left 1
  · intro w1 hSw
    (try dsimp only at hSw)
    go_simp
    rfl
  (try simp only [Act.put, List.setIfInBounds_toArray, List.set_cons_zero, List.set_cons_succ])
  apply wpAnyH_take (i := 8) (oi := { dst := some 54, op := Op.indexAddr 79 (Operand.tmp 53) (Operand.const (Value.int IntKind.i64 0)), type := 0, pos := "four.go:120", after := #[{ on := 7, ground := Ground.data }], guard := none }) rfl (by kernel_rfl) (by kernel_rfl) (by kernel_rfl) (fun _ _ _ h => h) (Or.inl ⟨by rfl, ?_⟩) hHeld ?_
  rotate_left 1
  · intro w1 hSw
    (try dsimp only at hSw)
    go_simp
    rfl
  (try simp only [Act.put, List.setIfInBounds_toArray, List.set_cons_zero, List.set_cons_succ])
  apply wpAnyH_take (i := 9) (oi := { dst := some 55, op := Op.load 3 (Operand.tmp 54), type := 3, pos := "four.go:120", after := #[{ on := 8, ground := Ground.data }], guard := none }) rfl (by kernel_rfl) (by kernel_rfl) (by kernel_rfl) (fun _ _ _ h => h) (Or.inl ⟨by rfl, ?_⟩) hHeld ?_
  rotate_left 1
  · intro w1 hSw
    (try dsimp only at hSw)
    go_simp
    rfl
  (try simp only [Act.put, List.setIfInBounds_toArray, List.set_cons_zero, List.set_cons_succ])
  apply wpAnyH_take (i := 10) (oi := { dst := some 56, op := Op.convert 3 32 (Operand.tmp 55), type := 32, pos := "four.go:120", after := #[{ on := 9, ground := Ground.data }], guard := none }) rfl (by kernel_rfl) (by kernel_rfl) (by kernel_rfl) (fun _ _ _ h => h) (Or.inl ⟨by rfl, ?_⟩) hHeld ?_
  rotate_left 1
  · intro w1 hSw
    (try dsimp only at hSw)
    go_simp
    rfl
  (try simp only [Act.put, List.setIfInBounds_toArray, List.set_cons_zero, List.set_cons_succ])
  refine wpAnyH_ready (rs := [3]) (by kernel_rfl) (by simp) ?_
  refine AllReadyH.cons (o := { dst := some 49, op := Op.call { callee := Callee.value (Operand.func 31), args := #[Operand.tmp 48, Operand.const (Value.int IntKind.i64 5), Operand.const (Value.int IntKind.i64 0)], argTypes := #[81, 3, 3] }, type := 3, pos := "four.go:120", after := #[{ on := 2, ground := Ground.data }], guard := none }) rfl (fun K hK => ?_) AllReadyH.nil
  go_simp
  (with_reducible refine (HC.out _ (HUX.out.trans (by repeat (first | (with_reducible exact Upd.refl _ _) | (with_reducible apply Upd.drew) | (with_reducible refine Upd.grE ?_ _) | (with_reducible refine Upd.alloc ?_ _))))).mono ?_)
  rintro e w5 ⟨rfl, hu5⟩
  obtain ⟨p5, rfl⟩ := hu5.grown
  clear hu5
  refine hK.out _ _ (by repeat (first | (with_reducible exact Upd.refl _ _) | (with_reducible exact hHeld) | (with_reducible apply Upd.drew) | (with_reducible refine Upd.grE ?_ _) | (with_reducible refine Upd.alloc ?_ _) | (with_reducible refine updR ?_ (.inl (by simp))))) (fun hHeld => ?_)
  clear hK K
  (try simp only [Act.put, List.setIfInBounds_toArray, List.set_cons_zero, List.set_cons_succ])
  apply wpAnyH_take (i := 11) (oi := { dst := some 57, op := Op.build 41 #[(0, Operand.const (Value.int IntKind.i64 2)), (1, Operand.tmp 49), (2, Operand.tmp 56)], type := 41, pos := "four.go:120", after := #[{ on := 3, ground := Ground.data }, { on := 10, ground := Ground.data }], guard := none }) rfl (by kernel_rfl) (by kernel_rfl) (by kernel_rfl) (fun _ _ _ h => h) (Or.inl ⟨by rfl, ?_⟩) hHeld ?_
  rotate_left 1
  · intro w1 hSw
    (try dsimp only at hSw)
    go_simp
    rfl
  (try simp only [Act.put, List.setIfInBounds_toArray, List.set_cons_zero, List.set_cons_succ])
  refine wpAnyH_ready (rs := [12]) (by kernel_rfl) (by simp) ?_
  refine AllReadyH.cons (o := { dst := none, op := Op.store 41 (Operand.tmp 2) (Operand.tmp 57), type := 0, pos := "four.go:120", after := #[{ on := 11, ground := Ground.data }, { on := 3, ground := Ground.chain }, { on := 0, ground := Ground.phase }, { on := 1, ground := Ground.phase }, { on := 2, ground := Ground.phase }, { on := 3, ground := Ground.phase }, { on := 4, ground := Ground.phase }, { on := 5, ground := Ground.phase }, { on := 6, ground := Ground.phase }, { on := 7, ground := Ground.phase }, { on := 8, ground := Ground.phase }, { on := 9, ground := Ground.phase }, { on := 10, ground := Ground.phase }, { on := 11, ground := Ground.phase }], guard := none }) rfl (fun K hK => ?_) AllReadyH.nil
  rw [if_pos (by rfl)]
  refine wp_store_row 41 _ _ rfl w.heap.size #[.int .i64 2, .int .i64 (a + 1), .int .u32 p] rfl rfl 41 #[.int .i64 0, .int .i64 0, .int .u32 0] (by repeat (first | (with_reducible exact HAX.out) | (with_reducible apply heap_drewE) | (with_reducible apply heap_grE) | (with_reducible apply heap_alloc'))) (info_act3 _ _ _) rfl (act_one _ _ _) ?_
  refine hK.out _ _ (by repeat (first | (with_reducible exact Upd.refl _ _) | (with_reducible exact hHeld) | (with_reducible apply Upd.drew) | (with_reducible refine Upd.grE ?_ _) | (with_reducible refine Upd.alloc ?_ _) | (with_reducible refine updR ?_ (.inl (by simp))))) (fun hHeld => ?_)
  clear hK K
  (try simp only [Act.put, List.setIfInBounds_toArray, List.set_cons_zero, List.set_cons_succ])
  apply wpAnyH_take (i := 13) (oi := { dst := some 3, op := Op.assign (Operand.const (Value.bool true)), type := 4, pos := "four.go:120", after := #[{ on := 12, ground := Ground.chain }, { on := 0, ground := Ground.phase }, { on := 1, ground := Ground.phase }, { on := 2, ground := Ground.phase }, { on := 3, ground := Ground.phase }, { on := 4, ground := Ground.phase }, { on := 5, ground := Ground.phase }, { on := 6, ground := Ground.phase }, { on := 7, ground := Ground.phase }, { on := 8, ground := Ground.phase }, { on := 9, ground := Ground.phase }, { on := 10, ground := Ground.phase }, { on := 11, ground := Ground.phase }, { on := 12, ground := Ground.phase }], guard := none }) rfl (by kernel_rfl) (by kernel_rfl) (by kernel_rfl) (fun _ _ _ h => h) (Or.inl ⟨by rfl, ?_⟩) hHeld ?_
  rotate_left 1
  · intro w1 hSw
    (try dsimp only at hSw)
    go_simp
    rfl
  (try simp only [Act.put, List.setIfInBounds_toArray, List.set_cons_zero, List.set_cons_succ])
  refine wpAnyH_done (by kernel_rfl) ?_ _
  go_wp2
  rw [Exit.noGoto_ret]
  refine ret_act' rfl (g := w.heap.size) (t := 41) (fr := (0, 0)) (x := .int .i64 2) (y := .int .i64 (a + 1)) (z := .int .u32 p) rfl rfl rfl (setRow_heap _ _ #[.int .i64 0, .int .i64 0, .int .u32 0] _ _ _ (by repeat (first | (with_reducible exact HAX.out) | (with_reducible apply heap_drewE) | (with_reducible apply heap_grE) | (with_reducible apply heap_alloc')))) ?_
  exact ⟨rfl, HUX.out.then hHeld (fun i hi => .inr (by simp at hi; omega))⟩
set_option maxRecDepth 100000 in
set_option maxHeartbeats 4000000 in
theorem fr_act2 (h : FG a wd w b 84 s) (hw : 1 ≤ wd ∧ wd ≤ 4) (ha : 0 ≤ a ∧ a < 1000000) (hn : s.n = 2) (hon : s.on = true) (hp : 0 ≤ s.p ∧ s.p ≤ 1) :
    Calls Try.prog 11 #[.pointer (some ⟨b, 0, none⟩)] w fun e w' => e = .returned (.tuple #[.agg #[.int .i64 1, .int .i64 (a + 2 + s.p), .int .u32 0], .bool true]) ∧ Upd [] w w' := by
  obtain ⟨x0, x1, x2, x3, x4, x5, x6, x7, x18⟩ := h.pl
  obtain ⟨x8, x9, x10, x11⟩ := h.vs
  rw [hn] at x5
  rw [hon] at x18
  have lb := heap_lt h.h
  have HC := Lib.hid (fun (w1 : World) (hu : Upd [] w w1) => four_cell a wd 6 s.p (a + 2 + s.p) (h.keep hu (by simp)) (fun w => c4_slot a wd w s.p hw ha hp))
  generalize s.p = p at *
  generalize s.i = i at *
  generalize s.v0 = v0 at *
  generalize s.v1 = v1 at *
  generalize s.v2 = v2 at *
  generalize s.v3 = v3 at *
  clear h hn hon hw ha hp
  go_enter Try.func11, Try.ntmps11
  go_wp2
  refine wp_scope_jump1 2 rfl ?_
  intro K HK
  go_wp2
  go_step3
  refine And.intro rfl (HK.out _ _ ?_)
  clear HK
  go_upto_region 11 with (fail)
  have HUX := Lib.hid (show Upd [] w (w.alloc (.cells #[.int .i64 0, .int .i64 0, .int .u32 0] 41)) from (Upd.refl _ _).alloc _)
  have HAX := Lib.hid (heap_alloc_new w (.cells #[.int .i64 0, .int .i64 0, .int .u32 0] 41))
  generalize w.alloc (.cells #[.int .i64 0, .int .i64 0, .int .u32 0] 41) = wx at *
  have lx : b < wx.heap.size := Nat.lt_of_lt_of_le lb HUX.out.size
  have hbn : b ∉ [w.heap.size] := by simp; omega
  have R6 : ∀ w1 : World, Upd [w.heap.size] wx w1 → w1.cell? ⟨b, 6, none⟩ = some (.int .i64 p) := fun w1 h => (h.cell (p := ⟨b, 6, none⟩) lx hbn).trans ((HUX.out.cell (p := ⟨b, 6, none⟩) lb (by simp)).trans x6)
  clear x0 x1 x2 x3 x4 x5 x6 x7 x8 x9 x10 x11 x18
  refine wp_region_held_drew (S := fun w1 => Upd [w.heap.size] wx w1) (by kernel_rfl) ?_ (fun hHeld => ?_)
  · exact (Upd.refl _ wx).drew
  apply wpAnyH_take (i := 0) (oi := { dst := some 58, op := Op.move (Operand.tmp 4), type := 85, pos := "four.go:122", after := #[], guard := none }) rfl (by kernel_rfl) (by kernel_rfl) (by kernel_rfl) (fun _ _ _ h => h) (Or.inl ⟨by rfl, ?_⟩) hHeld ?_
  rotate_left 1
  · intro w1 hSw
    (try dsimp only at hSw)
    go_simp
    rfl
  (try simp only [Act.put, List.setIfInBounds_toArray, List.set_cons_zero, List.set_cons_succ])
  apply wpAnyH_take (i := 1) (oi := { dst := some 59, op := Op.move (Operand.tmp 0), type := 38, pos := "four.go:122", after := #[], guard := none }) rfl (by kernel_rfl) (by kernel_rfl) (by kernel_rfl) (fun _ _ _ h => h) (Or.inl ⟨by rfl, ?_⟩) hHeld ?_
  rotate_left 1
  · intro w1 hSw
    (try dsimp only at hSw)
    go_simp
    rfl
  (try simp only [Act.put, List.setIfInBounds_toArray, List.set_cons_zero, List.set_cons_succ])
  apply wpAnyH_take (i := 2) (oi := { dst := some 60, op := Op.nilCheck (Operand.tmp 59), type := 0, pos := "four.go:122", after := #[{ on := 1, ground := Ground.data }], guard := none }) rfl (by kernel_rfl) (by kernel_rfl) (by kernel_rfl) (fun _ _ _ h => h) (Or.inl ⟨by rfl, ?_⟩) hHeld ?_
  rotate_left 1
  · intro w1 hSw
    (try dsimp only at hSw)
    go_simp
    rfl
  (try simp only [Act.put, List.setIfInBounds_toArray, List.set_cons_zero, List.set_cons_succ])
  apply wpAnyH_take (i := 3) (oi := { dst := some 61, op := Op.fieldAddr 84 (Operand.tmp 60) 0, type := 0, pos := "four.go:122", after := #[{ on := 2, ground := Ground.data }], guard := none }) rfl (by kernel_rfl) (by kernel_rfl) (by kernel_rfl) (fun _ _ _ h => h) (Or.inl ⟨by rfl, ?_⟩) hHeld ?_
  rotate_left 1
  · intro w1 hSw
    (try dsimp only at hSw)
    go_simp
    rfl
  (try simp only [Act.put, List.setIfInBounds_toArray, List.set_cons_zero, List.set_cons_succ])
  apply wpAnyH_take (i := 4) (oi := { dst := some 62, op := Op.move (Operand.tmp 0), type := 38, pos := "four.go:122", after := #[], guard := none }) rfl (by kernel_rfl) (by kernel_rfl) (by kernel_rfl) (fun _ _ _ h => h) (Or.inl ⟨by rfl, ?_⟩) hHeld ?_
  rotate_left 1
  · intro w1 hSw
    (try dsimp only at hSw)
    go_simp
    rfl
  (try simp only [Act.put, List.setIfInBounds_toArray, List.set_cons_zero, List.set_cons_succ])
  apply wpAnyH_take (i := 5) (oi := { dst := some 63, op := Op.nilCheck (Operand.tmp 62), type := 0, pos := "four.go:122", after := #[{ on := 4, ground := Ground.data }], guard := none }) rfl (by kernel_rfl) (by kernel_rfl) (by kernel_rfl) (fun _ _ _ h => h) (Or.inl ⟨by rfl, ?_⟩) hHeld ?_
  rotate_left 1
  · intro w1 hSw
    (try dsimp only at hSw)
    go_simp
    rfl
  (try simp only [Act.put, List.setIfInBounds_toArray, List.set_cons_zero, List.set_cons_succ])
  apply wpAnyH_take (i := 6) (oi := { dst := some 64, op := Op.fieldAddr 84 (Operand.tmp 63) 0, type := 0, pos := "four.go:122", after := #[{ on := 5, ground := Ground.data }], guard := none }) rfl (by kernel_rfl) (by kernel_rfl) (by kernel_rfl) (fun _ _ _ h => h) (Or.inl ⟨by rfl, ?_⟩) hHeld ?_
  rotate_left 1
  · intro w1 hSw
    (try dsimp only at hSw)
    go_simp
    rfl
  (try simp only [Act.put, List.setIfInBounds_toArray, List.set_cons_zero, List.set_cons_succ])
  apply wpAnyH_take (i := 7) (oi := { dst := some 65, op := Op.fieldAddr 81 (Operand.tmp 64) 2, type := 0, pos := "four.go:122", after := #[{ on := 6, ground := Ground.data }], guard := none }) rfl (by kernel_rfl) (by kernel_rfl) (by kernel_rfl) (fun _ _ _ h => h) (Or.inl ⟨by rfl, ?_⟩) hHeld ?_
  rotate_left 1
  · intro w1 hSw
    (try dsimp only at hSw)
    go_simp
    rfl
  (try simp only [Act.put, List.setIfInBounds_toArray, List.set_cons_zero, List.set_cons_succ])
  apply wpAnyH_take (i := 8) (oi := { dst := some 66, op := Op.indexAddr 79 (Operand.tmp 65) (Operand.const (Value.int IntKind.i64 0)), type := 0, pos := "four.go:122", after := #[{ on := 7, ground := Ground.data }], guard := none }) rfl (by kernel_rfl) (by kernel_rfl) (by kernel_rfl) (fun _ _ _ h => h) (Or.inl ⟨by rfl, ?_⟩) hHeld ?_
  rotate_left 1
  · intro w1 hSw
    (try dsimp only at hSw)
    go_simp
    rfl
  (try simp only [Act.put, List.setIfInBounds_toArray, List.set_cons_zero, List.set_cons_succ])
  apply wpAnyH_take (i := 9) (oi := { dst := some 67, op := Op.load 3 (Operand.tmp 66), type := 3, pos := "four.go:122", after := #[{ on := 8, ground := Ground.data }], guard := none }) rfl (by kernel_rfl) (by kernel_rfl) (by kernel_rfl) (fun _ _ _ h => h) (Or.inl ⟨by rfl, ?_⟩) hHeld ?_
  rotate_left 1
  · intro w1 hSw
    (try dsimp only at hSw)
    go_simp
    rfl
  (try simp only [Act.put, List.setIfInBounds_toArray, List.set_cons_zero, List.set_cons_succ])
  refine wpAnyH_ready (rs := [10]) (by kernel_rfl) (by simp) ?_
  refine AllReadyH.cons (o := { dst := some 68, op := Op.call { callee := Callee.value (Operand.func 31), args := #[Operand.tmp 61, Operand.const (Value.int IntKind.i64 6), Operand.tmp 67], argTypes := #[81, 3, 3] }, type := 3, pos := "four.go:122", after := #[{ on := 3, ground := Ground.data }, { on := 9, ground := Ground.data }], guard := none }) rfl (fun K hK => ?_) AllReadyH.nil
  go_simp
  (with_reducible refine (HC.out _ (HUX.out.trans (by repeat (first | (with_reducible exact Upd.refl _ _) | (with_reducible apply Upd.drew) | (with_reducible refine Upd.grE ?_ _) | (with_reducible refine Upd.alloc ?_ _))))).mono ?_)
  rintro e w5 ⟨rfl, hu5⟩
  obtain ⟨p5, rfl⟩ := hu5.grown
  clear hu5
  refine hK.out _ _ (by repeat (first | (with_reducible exact Upd.refl _ _) | (with_reducible exact hHeld) | (with_reducible apply Upd.drew) | (with_reducible refine Upd.grE ?_ _) | (with_reducible refine Upd.alloc ?_ _) | (with_reducible refine updR ?_ (.inl (by simp))))) (fun hHeld => ?_)
  clear hK K
  (try simp only [Act.put, List.setIfInBounds_toArray, List.set_cons_zero, List.set_cons_succ])
  refine wpAnyH_ready (rs := [11]) (by kernel_rfl) (by simp) ?_
  refine AllReadyH.cons (o := { dst := some 69, op := Op.call { callee := Callee.value (Operand.tmp 58), args := #[Operand.tmp 68], argTypes := #[3] }, type := 41, pos := "four.go:122", after := #[{ on := 0, ground := Ground.data }, { on := 10, ground := Ground.data }, { on := 10, ground := Ground.chain }], guard := none }) rfl (fun K hK => ?_) AllReadyH.nil
  go_simp
  (with_reducible refine (fr_load1 _ _).mono ?_)
  rintro e w6 ⟨rfl, hu6⟩
  obtain ⟨p6, rfl⟩ := hu6.grown
  clear hu6
  refine hK.out _ _ (by repeat (first | (with_reducible exact Upd.refl _ _) | (with_reducible exact hHeld) | (with_reducible apply Upd.drew) | (with_reducible refine Upd.grE ?_ _) | (with_reducible refine Upd.alloc ?_ _) | (with_reducible refine updR ?_ (.inl (by simp))))) (fun hHeld => ?_)
  clear hK K
  (try simp only [Act.put, List.setIfInBounds_toArray, List.set_cons_zero, List.set_cons_succ])
  refine wpAnyH_ready (rs := [12]) (by kernel_rfl) (by simp) ?_
  refine AllReadyH.cons (o := { dst := none, op := Op.store 41 (Operand.tmp 2) (Operand.tmp 69), type := 0, pos := "four.go:122", after := #[{ on := 11, ground := Ground.data }, { on := 11, ground := Ground.chain }, { on := 0, ground := Ground.phase }, { on := 1, ground := Ground.phase }, { on := 2, ground := Ground.phase }, { on := 3, ground := Ground.phase }, { on := 4, ground := Ground.phase }, { on := 5, ground := Ground.phase }, { on := 6, ground := Ground.phase }, { on := 7, ground := Ground.phase }, { on := 8, ground := Ground.phase }, { on := 9, ground := Ground.phase }, { on := 10, ground := Ground.phase }, { on := 11, ground := Ground.phase }], guard := none }) rfl (fun K hK => ?_) AllReadyH.nil
  rw [if_pos (by rfl)]
  refine wp_store_row 41 _ _ rfl w.heap.size #[.int .i64 1, .int .i64 (a + 2 + p), .int .u32 0] rfl rfl 41 #[.int .i64 0, .int .i64 0, .int .u32 0] (by repeat (first | (with_reducible exact HAX.out) | (with_reducible apply heap_drewE) | (with_reducible apply heap_grE) | (with_reducible apply heap_alloc'))) (info_act3 _ _ _) rfl (act_one _ _ _) ?_
  refine hK.out _ _ (by repeat (first | (with_reducible exact Upd.refl _ _) | (with_reducible exact hHeld) | (with_reducible apply Upd.drew) | (with_reducible refine Upd.grE ?_ _) | (with_reducible refine Upd.alloc ?_ _) | (with_reducible refine updR ?_ (.inl (by simp))))) (fun hHeld => ?_)
  clear hK K
  (try simp only [Act.put, List.setIfInBounds_toArray, List.set_cons_zero, List.set_cons_succ])
  apply wpAnyH_take (i := 13) (oi := { dst := some 3, op := Op.assign (Operand.const (Value.bool true)), type := 4, pos := "four.go:122", after := #[{ on := 12, ground := Ground.chain }, { on := 0, ground := Ground.phase }, { on := 1, ground := Ground.phase }, { on := 2, ground := Ground.phase }, { on := 3, ground := Ground.phase }, { on := 4, ground := Ground.phase }, { on := 5, ground := Ground.phase }, { on := 6, ground := Ground.phase }, { on := 7, ground := Ground.phase }, { on := 8, ground := Ground.phase }, { on := 9, ground := Ground.phase }, { on := 10, ground := Ground.phase }, { on := 11, ground := Ground.phase }, { on := 12, ground := Ground.phase }], guard := none }) rfl (by kernel_rfl) (by kernel_rfl) (by kernel_rfl) (fun _ _ _ h => h) (Or.inl ⟨by rfl, ?_⟩) hHeld ?_
  rotate_left 1
  · intro w1 hSw
    (try dsimp only at hSw)
    go_simp
    rfl
  (try simp only [Act.put, List.setIfInBounds_toArray, List.set_cons_zero, List.set_cons_succ])
  refine wpAnyH_done (by kernel_rfl) ?_ _
  go_wp2
  rw [Exit.noGoto_ret]
  refine ret_act' rfl (g := w.heap.size) (t := 41) (fr := (0, 0)) (x := .int .i64 1) (y := .int .i64 (a + 2 + p)) (z := .int .u32 0) rfl rfl rfl (setRow_heap _ _ #[.int .i64 0, .int .i64 0, .int .u32 0] _ _ _ (by repeat (first | (with_reducible exact HAX.out) | (with_reducible apply heap_drewE) | (with_reducible apply heap_grE) | (with_reducible apply heap_alloc')))) ?_
  exact ⟨rfl, HUX.out.then hHeld (fun i hi => .inr (by simp at hi; omega))⟩
set_option maxRecDepth 100000 in
set_option maxHeartbeats 4000000 in
theorem fr_actd0 (h : FG a wd w b 84 s) (hw : 1 ≤ wd ∧ wd ≤ 4) (ha : 0 ≤ a ∧ a < 1000000) (hn : s.n = 3) (hon : s.on = true) (hp : 0 ≤ s.p ∧ s.p ≤ 1) (hi : 0 ≤ s.i ∧ s.i ≤ 1) (hk : (0 : Int) ≤ 0 ∧ 0 < wd) :
    Calls Try.prog 11 #[.pointer (some ⟨b, 0, none⟩)] w fun e w' => e = .returned (.tuple #[.agg #[.int .i64 1, .int .i64 (a + 4 + (2 * s.p + s.i) * wd), .int .u32 0], .bool true]) ∧ Upd [] w w' := by
  obtain ⟨x0, x1, x2, x3, x4, x5, x6, x7, x18⟩ := h.pl
  obtain ⟨x8, x9, x10, x11⟩ := h.vs
  rw [hn] at x5
  rw [hon] at x18
  have lb := heap_lt h.h
  have HC := Lib.hid (fun (w1 : World) (hu : Upd [] w w1) => four_data a wd 0 (h.keep hu (by simp)) hw ha hp hi hk)
  generalize s.p = p at *
  generalize s.i = i at *
  generalize s.v0 = v0 at *
  generalize s.v1 = v1 at *
  generalize s.v2 = v2 at *
  generalize s.v3 = v3 at *
  clear h hn hon hw ha hp hi hk
  go_enter Try.func11, Try.ntmps11
  go_wp2
  go_step3
  go_upto_region 8 with (fail)
  have HUX := Lib.hid (show Upd [] w (w.alloc (.cells #[.int .i64 0, .int .i64 0, .int .u32 0] 41)) from (Upd.refl _ _).alloc _)
  have HAX := Lib.hid (heap_alloc_new w (.cells #[.int .i64 0, .int .i64 0, .int .u32 0] 41))
  generalize w.alloc (.cells #[.int .i64 0, .int .i64 0, .int .u32 0] 41) = wx at *
  have lx : b < wx.heap.size := Nat.lt_of_lt_of_le lb HUX.out.size
  have hbn : b ∉ [w.heap.size] := by simp; omega
  have R5 : ∀ w1 : World, Upd [w.heap.size] wx w1 → w1.cell? ⟨b, 5, none⟩ = some (.int .i64 (3)) := fun w1 h => (h.cell (p := ⟨b, 5, none⟩) lx hbn).trans ((HUX.out.cell (p := ⟨b, 5, none⟩) lb (by simp)).trans x5)
  clear x0 x1 x2 x3 x4 x5 x6 x7 x8 x9 x10 x11 x18
  refine wp_region_held_drew (S := fun w1 => Upd [w.heap.size] wx w1) (by kernel_rfl) ?_ (fun hHeld => ?_)
  · exact (Upd.refl _ wx).drew
  apply wpAnyH_take (i := 0) (oi := { dst := some 27, op := Op.move (Operand.tmp 4), type := 85, pos := "four.go:116", after := #[], guard := none }) rfl (by kernel_rfl) (by kernel_rfl) (by kernel_rfl) (fun _ _ _ h => h) (Or.inl ⟨by rfl, ?_⟩) hHeld ?_
  rotate_left 1
  · intro w1 hSw
    (try dsimp only at hSw)
    go_simp
    rfl
  (try simp only [Act.put, List.setIfInBounds_toArray, List.set_cons_zero, List.set_cons_succ])
  apply wpAnyH_take (i := 1) (oi := { dst := some 28, op := Op.move (Operand.tmp 0), type := 38, pos := "four.go:116", after := #[], guard := none }) rfl (by kernel_rfl) (by kernel_rfl) (by kernel_rfl) (fun _ _ _ h => h) (Or.inl ⟨by rfl, ?_⟩) hHeld ?_
  rotate_left 1
  · intro w1 hSw
    (try dsimp only at hSw)
    go_simp
    rfl
  (try simp only [Act.put, List.setIfInBounds_toArray, List.set_cons_zero, List.set_cons_succ])
  apply wpAnyH_take (i := 2) (oi := { dst := some 29, op := Op.nilCheck (Operand.tmp 28), type := 0, pos := "four.go:116", after := #[{ on := 1, ground := Ground.data }], guard := none }) rfl (by kernel_rfl) (by kernel_rfl) (by kernel_rfl) (fun _ _ _ h => h) (Or.inl ⟨by rfl, ?_⟩) hHeld ?_
  rotate_left 1
  · intro w1 hSw
    (try dsimp only at hSw)
    go_simp
    rfl
  (try simp only [Act.put, List.setIfInBounds_toArray, List.set_cons_zero, List.set_cons_succ])
  apply wpAnyH_take (i := 3) (oi := { dst := some 30, op := Op.fieldAddr 84 (Operand.tmp 29) 0, type := 0, pos := "four.go:116", after := #[{ on := 2, ground := Ground.data }], guard := none }) rfl (by kernel_rfl) (by kernel_rfl) (by kernel_rfl) (fun _ _ _ h => h) (Or.inl ⟨by rfl, ?_⟩) hHeld ?_
  rotate_left 1
  · intro w1 hSw
    (try dsimp only at hSw)
    go_simp
    rfl
  (try simp only [Act.put, List.setIfInBounds_toArray, List.set_cons_zero, List.set_cons_succ])
  apply wpAnyH_take (i := 4) (oi := { dst := some 31, op := Op.move (Operand.tmp 0), type := 38, pos := "four.go:116", after := #[], guard := none }) rfl (by kernel_rfl) (by kernel_rfl) (by kernel_rfl) (fun _ _ _ h => h) (Or.inl ⟨by rfl, ?_⟩) hHeld ?_
  rotate_left 1
  · intro w1 hSw
    (try dsimp only at hSw)
    go_simp
    rfl
  (try simp only [Act.put, List.setIfInBounds_toArray, List.set_cons_zero, List.set_cons_succ])
  apply wpAnyH_take (i := 5) (oi := { dst := some 32, op := Op.nilCheck (Operand.tmp 31), type := 0, pos := "four.go:116", after := #[{ on := 4, ground := Ground.data }], guard := none }) rfl (by kernel_rfl) (by kernel_rfl) (by kernel_rfl) (fun _ _ _ h => h) (Or.inl ⟨by rfl, ?_⟩) hHeld ?_
  rotate_left 1
  · intro w1 hSw
    (try dsimp only at hSw)
    go_simp
    rfl
  (try simp only [Act.put, List.setIfInBounds_toArray, List.set_cons_zero, List.set_cons_succ])
  apply wpAnyH_take (i := 6) (oi := { dst := some 33, op := Op.fieldAddr 84 (Operand.tmp 32) 0, type := 0, pos := "four.go:116", after := #[{ on := 5, ground := Ground.data }], guard := none }) rfl (by kernel_rfl) (by kernel_rfl) (by kernel_rfl) (fun _ _ _ h => h) (Or.inl ⟨by rfl, ?_⟩) hHeld ?_
  rotate_left 1
  · intro w1 hSw
    (try dsimp only at hSw)
    go_simp
    rfl
  (try simp only [Act.put, List.setIfInBounds_toArray, List.set_cons_zero, List.set_cons_succ])
  apply wpAnyH_take (i := 7) (oi := { dst := some 34, op := Op.fieldAddr 81 (Operand.tmp 33) 1, type := 0, pos := "four.go:116", after := #[{ on := 6, ground := Ground.data }], guard := none }) rfl (by kernel_rfl) (by kernel_rfl) (by kernel_rfl) (fun _ _ _ h => h) (Or.inl ⟨by rfl, ?_⟩) hHeld ?_
  rotate_left 1
  · intro w1 hSw
    (try dsimp only at hSw)
    go_simp
    rfl
  (try simp only [Act.put, List.setIfInBounds_toArray, List.set_cons_zero, List.set_cons_succ])
  apply wpAnyH_take (i := 8) (oi := { dst := some 35, op := Op.load 3 (Operand.tmp 34), type := 3, pos := "four.go:116", after := #[{ on := 7, ground := Ground.data }], guard := none }) rfl (by kernel_rfl) (by kernel_rfl) (by kernel_rfl) (fun _ _ _ h => h) (Or.inl ⟨by rfl, ?_⟩) hHeld ?_
  rotate_left 1
  · intro w1 hSw
    (try dsimp only at hSw)
    go_simp
    rfl
  (try simp only [Act.put, List.setIfInBounds_toArray, List.set_cons_zero, List.set_cons_succ])
  refine wpAnyH_take (i := 9) (oi := { dst := some 36, op := Op.binOp BinOp.sub 3 (Operand.tmp 35) (Operand.const (Value.int IntKind.i64 2)) 3, type := 3, pos := "four.go:116", after := #[{ on := 8, ground := Ground.data }], guard := none }) (v := .int .i64 1) rfl (by kernel_rfl) (by kernel_rfl) (by kernel_rfl) (fun _ _ _ h => h) (Or.inl ⟨by rfl, ?_⟩) hHeld ?_
  · intro w1 hSw
    (try dsimp only at hSw)
    go_simp
    all_goals rfl
  (try simp only [Act.put, List.setIfInBounds_toArray, List.set_cons_zero, List.set_cons_succ])
  refine wpAnyH_take (i := 10) (oi := { dst := some 37, op := Op.binOp BinOp.sub 3 (Operand.tmp 36) (Operand.const (Value.int IntKind.i64 1)) 3, type := 3, pos := "four.go:116", after := #[{ on := 9, ground := Ground.data }], guard := none }) (v := .int .i64 0) rfl (by kernel_rfl) (by kernel_rfl) (by kernel_rfl) (fun _ _ _ h => h) (Or.inl ⟨by rfl, ?_⟩) hHeld ?_
  · intro w1 hSw
    (try dsimp only at hSw)
    go_simp
    all_goals rfl
  (try simp only [Act.put, List.setIfInBounds_toArray, List.set_cons_zero, List.set_cons_succ])
  refine wpAnyH_ready (rs := [11]) (by kernel_rfl) (by simp) ?_
  refine AllReadyH.cons (o := { dst := some 38, op := Op.call { callee := Callee.value (Operand.func 30), args := #[Operand.tmp 30, Operand.tmp 37], argTypes := #[81, 3] }, type := 3, pos := "four.go:116", after := #[{ on := 3, ground := Ground.data }, { on := 10, ground := Ground.data }], guard := none }) rfl (fun K hK => ?_) AllReadyH.nil
  go_simp
  (with_reducible refine (HC.out _ (HUX.out.trans (by repeat (first | (with_reducible exact Upd.refl _ _) | (with_reducible apply Upd.drew) | (with_reducible refine Upd.grE ?_ _) | (with_reducible refine Upd.alloc ?_ _))))).mono ?_)
  rintro e w5 ⟨rfl, hu5⟩
  obtain ⟨p5, rfl⟩ := hu5.grown
  clear hu5
  refine hK.out _ _ (by repeat (first | (with_reducible exact Upd.refl _ _) | (with_reducible exact hHeld) | (with_reducible apply Upd.drew) | (with_reducible refine Upd.grE ?_ _) | (with_reducible refine Upd.alloc ?_ _) | (with_reducible refine updR ?_ (.inl (by simp))))) (fun hHeld => ?_)
  clear hK K
  (try simp only [Act.put, List.setIfInBounds_toArray, List.set_cons_zero, List.set_cons_succ])
  refine wpAnyH_ready (rs := [12]) (by kernel_rfl) (by simp) ?_
  refine AllReadyH.cons (o := { dst := some 39, op := Op.call { callee := Callee.value (Operand.tmp 27), args := #[Operand.tmp 38], argTypes := #[3] }, type := 41, pos := "four.go:116", after := #[{ on := 0, ground := Ground.data }, { on := 11, ground := Ground.data }, { on := 11, ground := Ground.chain }], guard := none }) rfl (fun K hK => ?_) AllReadyH.nil
  go_simp
  (with_reducible refine (fr_load1 _ _).mono ?_)
  rintro e w6 ⟨rfl, hu6⟩
  obtain ⟨p6, rfl⟩ := hu6.grown
  clear hu6
  refine hK.out _ _ (by repeat (first | (with_reducible exact Upd.refl _ _) | (with_reducible exact hHeld) | (with_reducible apply Upd.drew) | (with_reducible refine Upd.grE ?_ _) | (with_reducible refine Upd.alloc ?_ _) | (with_reducible refine updR ?_ (.inl (by simp))))) (fun hHeld => ?_)
  clear hK K
  (try simp only [Act.put, List.setIfInBounds_toArray, List.set_cons_zero, List.set_cons_succ])
  refine wpAnyH_ready (rs := [13]) (by kernel_rfl) (by simp) ?_
  refine AllReadyH.cons (o := { dst := none, op := Op.store 41 (Operand.tmp 2) (Operand.tmp 39), type := 0, pos := "four.go:116", after := #[{ on := 12, ground := Ground.data }, { on := 12, ground := Ground.chain }, { on := 0, ground := Ground.phase }, { on := 1, ground := Ground.phase }, { on := 2, ground := Ground.phase }, { on := 3, ground := Ground.phase }, { on := 4, ground := Ground.phase }, { on := 5, ground := Ground.phase }, { on := 6, ground := Ground.phase }, { on := 7, ground := Ground.phase }, { on := 8, ground := Ground.phase }, { on := 9, ground := Ground.phase }, { on := 10, ground := Ground.phase }, { on := 11, ground := Ground.phase }, { on := 12, ground := Ground.phase }], guard := none }) rfl (fun K hK => ?_) AllReadyH.nil
  rw [if_pos (by rfl)]
  refine wp_store_row 41 _ _ rfl w.heap.size #[.int .i64 1, .int .i64 (a + 4 + (2 * p + i) * wd), .int .u32 0] rfl rfl 41 #[.int .i64 0, .int .i64 0, .int .u32 0] (by repeat (first | (with_reducible exact HAX.out) | (with_reducible apply heap_drewE) | (with_reducible apply heap_grE) | (with_reducible apply heap_alloc'))) (info_act3 _ _ _) rfl (act_one _ _ _) ?_
  refine hK.out _ _ (by repeat (first | (with_reducible exact Upd.refl _ _) | (with_reducible exact hHeld) | (with_reducible apply Upd.drew) | (with_reducible refine Upd.grE ?_ _) | (with_reducible refine Upd.alloc ?_ _) | (with_reducible refine updR ?_ (.inl (by simp))))) (fun hHeld => ?_)
  clear hK K
  (try simp only [Act.put, List.setIfInBounds_toArray, List.set_cons_zero, List.set_cons_succ])
  apply wpAnyH_take (i := 14) (oi := { dst := some 3, op := Op.assign (Operand.const (Value.bool true)), type := 4, pos := "four.go:116", after := #[{ on := 13, ground := Ground.chain }, { on := 0, ground := Ground.phase }, { on := 1, ground := Ground.phase }, { on := 2, ground := Ground.phase }, { on := 3, ground := Ground.phase }, { on := 4, ground := Ground.phase }, { on := 5, ground := Ground.phase }, { on := 6, ground := Ground.phase }, { on := 7, ground := Ground.phase }, { on := 8, ground := Ground.phase }, { on := 9, ground := Ground.phase }, { on := 10, ground := Ground.phase }, { on := 11, ground := Ground.phase }, { on := 12, ground := Ground.phase }, { on := 13, ground := Ground.phase }], guard := none }) rfl (by kernel_rfl) (by kernel_rfl) (by kernel_rfl) (fun _ _ _ h => h) (Or.inl ⟨by rfl, ?_⟩) hHeld ?_
  rotate_left 1
  · intro w1 hSw
    (try dsimp only at hSw)
    go_simp
    rfl
  (try simp only [Act.put, List.setIfInBounds_toArray, List.set_cons_zero, List.set_cons_succ])
  refine wpAnyH_done (by kernel_rfl) ?_ _
  go_wp2
  rw [Exit.noGoto_ret]
  refine ret_act' rfl (g := w.heap.size) (t := 41) (fr := (0, 0)) (x := .int .i64 1) (y := .int .i64 (a + 4 + (2 * p + i) * wd)) (z := .int .u32 0) rfl rfl rfl (setRow_heap _ _ #[.int .i64 0, .int .i64 0, .int .u32 0] _ _ _ (by repeat (first | (with_reducible exact HAX.out) | (with_reducible apply heap_drewE) | (with_reducible apply heap_grE) | (with_reducible apply heap_alloc')))) ?_
  exact ⟨rfl, HUX.out.then hHeld (fun i hi => .inr (by simp at hi; omega))⟩
set_option maxRecDepth 100000 in
set_option maxHeartbeats 4000000 in
theorem fr_actd1 (h : FG a wd w b 84 s) (hw : 1 ≤ wd ∧ wd ≤ 4) (ha : 0 ≤ a ∧ a < 1000000) (hn : s.n = 4) (hon : s.on = true) (hp : 0 ≤ s.p ∧ s.p ≤ 1) (hi : 0 ≤ s.i ∧ s.i ≤ 1) (hk : (0 : Int) ≤ 1 ∧ 1 < wd) :
    Calls Try.prog 11 #[.pointer (some ⟨b, 0, none⟩)] w fun e w' => e = .returned (.tuple #[.agg #[.int .i64 1, .int .i64 (a + 4 + (2 * s.p + s.i) * wd + 1), .int .u32 0], .bool true]) ∧ Upd [] w w' := by
  obtain ⟨x0, x1, x2, x3, x4, x5, x6, x7, x18⟩ := h.pl
  obtain ⟨x8, x9, x10, x11⟩ := h.vs
  rw [hn] at x5
  rw [hon] at x18
  have lb := heap_lt h.h
  have HC := Lib.hid (fun (w1 : World) (hu : Upd [] w w1) => four_data a wd 1 (h.keep hu (by simp)) hw ha hp hi hk)
  generalize s.p = p at *
  generalize s.i = i at *
  generalize s.v0 = v0 at *
  generalize s.v1 = v1 at *
  generalize s.v2 = v2 at *
  generalize s.v3 = v3 at *
  clear h hn hon hw ha hp hi hk
  go_enter Try.func11, Try.ntmps11
  go_wp2
  go_step3
  go_upto_region 8 with (fail)
  have HUX := Lib.hid (show Upd [] w (w.alloc (.cells #[.int .i64 0, .int .i64 0, .int .u32 0] 41)) from (Upd.refl _ _).alloc _)
  have HAX := Lib.hid (heap_alloc_new w (.cells #[.int .i64 0, .int .i64 0, .int .u32 0] 41))
  generalize w.alloc (.cells #[.int .i64 0, .int .i64 0, .int .u32 0] 41) = wx at *
  have lx : b < wx.heap.size := Nat.lt_of_lt_of_le lb HUX.out.size
  have hbn : b ∉ [w.heap.size] := by simp; omega
  have R5 : ∀ w1 : World, Upd [w.heap.size] wx w1 → w1.cell? ⟨b, 5, none⟩ = some (.int .i64 (4)) := fun w1 h => (h.cell (p := ⟨b, 5, none⟩) lx hbn).trans ((HUX.out.cell (p := ⟨b, 5, none⟩) lb (by simp)).trans x5)
  clear x0 x1 x2 x3 x4 x5 x6 x7 x8 x9 x10 x11 x18
  refine wp_region_held_drew (S := fun w1 => Upd [w.heap.size] wx w1) (by kernel_rfl) ?_ (fun hHeld => ?_)
  · exact (Upd.refl _ wx).drew
  apply wpAnyH_take (i := 0) (oi := { dst := some 27, op := Op.move (Operand.tmp 4), type := 85, pos := "four.go:116", after := #[], guard := none }) rfl (by kernel_rfl) (by kernel_rfl) (by kernel_rfl) (fun _ _ _ h => h) (Or.inl ⟨by rfl, ?_⟩) hHeld ?_
  rotate_left 1
  · intro w1 hSw
    (try dsimp only at hSw)
    go_simp
    rfl
  (try simp only [Act.put, List.setIfInBounds_toArray, List.set_cons_zero, List.set_cons_succ])
  apply wpAnyH_take (i := 1) (oi := { dst := some 28, op := Op.move (Operand.tmp 0), type := 38, pos := "four.go:116", after := #[], guard := none }) rfl (by kernel_rfl) (by kernel_rfl) (by kernel_rfl) (fun _ _ _ h => h) (Or.inl ⟨by rfl, ?_⟩) hHeld ?_
  rotate_left 1
  · intro w1 hSw
    (try dsimp only at hSw)
    go_simp
    rfl
  (try simp only [Act.put, List.setIfInBounds_toArray, List.set_cons_zero, List.set_cons_succ])
  apply wpAnyH_take (i := 2) (oi := { dst := some 29, op := Op.nilCheck (Operand.tmp 28), type := 0, pos := "four.go:116", after := #[{ on := 1, ground := Ground.data }], guard := none }) rfl (by kernel_rfl) (by kernel_rfl) (by kernel_rfl) (fun _ _ _ h => h) (Or.inl ⟨by rfl, ?_⟩) hHeld ?_
  rotate_left 1
  · intro w1 hSw
    (try dsimp only at hSw)
    go_simp
    rfl
  (try simp only [Act.put, List.setIfInBounds_toArray, List.set_cons_zero, List.set_cons_succ])
  apply wpAnyH_take (i := 3) (oi := { dst := some 30, op := Op.fieldAddr 84 (Operand.tmp 29) 0, type := 0, pos := "four.go:116", after := #[{ on := 2, ground := Ground.data }], guard := none }) rfl (by kernel_rfl) (by kernel_rfl) (by kernel_rfl) (fun _ _ _ h => h) (Or.inl ⟨by rfl, ?_⟩) hHeld ?_
  rotate_left 1
  · intro w1 hSw
    (try dsimp only at hSw)
    go_simp
    rfl
  (try simp only [Act.put, List.setIfInBounds_toArray, List.set_cons_zero, List.set_cons_succ])
  apply wpAnyH_take (i := 4) (oi := { dst := some 31, op := Op.move (Operand.tmp 0), type := 38, pos := "four.go:116", after := #[], guard := none }) rfl (by kernel_rfl) (by kernel_rfl) (by kernel_rfl) (fun _ _ _ h => h) (Or.inl ⟨by rfl, ?_⟩) hHeld ?_
  rotate_left 1
  · intro w1 hSw
    (try dsimp only at hSw)
    go_simp
    rfl
  (try simp only [Act.put, List.setIfInBounds_toArray, List.set_cons_zero, List.set_cons_succ])
  apply wpAnyH_take (i := 5) (oi := { dst := some 32, op := Op.nilCheck (Operand.tmp 31), type := 0, pos := "four.go:116", after := #[{ on := 4, ground := Ground.data }], guard := none }) rfl (by kernel_rfl) (by kernel_rfl) (by kernel_rfl) (fun _ _ _ h => h) (Or.inl ⟨by rfl, ?_⟩) hHeld ?_
  rotate_left 1
  · intro w1 hSw
    (try dsimp only at hSw)
    go_simp
    rfl
  (try simp only [Act.put, List.setIfInBounds_toArray, List.set_cons_zero, List.set_cons_succ])
  apply wpAnyH_take (i := 6) (oi := { dst := some 33, op := Op.fieldAddr 84 (Operand.tmp 32) 0, type := 0, pos := "four.go:116", after := #[{ on := 5, ground := Ground.data }], guard := none }) rfl (by kernel_rfl) (by kernel_rfl) (by kernel_rfl) (fun _ _ _ h => h) (Or.inl ⟨by rfl, ?_⟩) hHeld ?_
  rotate_left 1
  · intro w1 hSw
    (try dsimp only at hSw)
    go_simp
    rfl
  (try simp only [Act.put, List.setIfInBounds_toArray, List.set_cons_zero, List.set_cons_succ])
  apply wpAnyH_take (i := 7) (oi := { dst := some 34, op := Op.fieldAddr 81 (Operand.tmp 33) 1, type := 0, pos := "four.go:116", after := #[{ on := 6, ground := Ground.data }], guard := none }) rfl (by kernel_rfl) (by kernel_rfl) (by kernel_rfl) (fun _ _ _ h => h) (Or.inl ⟨by rfl, ?_⟩) hHeld ?_
  rotate_left 1
  · intro w1 hSw
    (try dsimp only at hSw)
    go_simp
    rfl
  (try simp only [Act.put, List.setIfInBounds_toArray, List.set_cons_zero, List.set_cons_succ])
  apply wpAnyH_take (i := 8) (oi := { dst := some 35, op := Op.load 3 (Operand.tmp 34), type := 3, pos := "four.go:116", after := #[{ on := 7, ground := Ground.data }], guard := none }) rfl (by kernel_rfl) (by kernel_rfl) (by kernel_rfl) (fun _ _ _ h => h) (Or.inl ⟨by rfl, ?_⟩) hHeld ?_
  rotate_left 1
  · intro w1 hSw
    (try dsimp only at hSw)
    go_simp
    rfl
  (try simp only [Act.put, List.setIfInBounds_toArray, List.set_cons_zero, List.set_cons_succ])
  refine wpAnyH_take (i := 9) (oi := { dst := some 36, op := Op.binOp BinOp.sub 3 (Operand.tmp 35) (Operand.const (Value.int IntKind.i64 2)) 3, type := 3, pos := "four.go:116", after := #[{ on := 8, ground := Ground.data }], guard := none }) (v := .int .i64 2) rfl (by kernel_rfl) (by kernel_rfl) (by kernel_rfl) (fun _ _ _ h => h) (Or.inl ⟨by rfl, ?_⟩) hHeld ?_
  · intro w1 hSw
    (try dsimp only at hSw)
    go_simp
    all_goals rfl
  (try simp only [Act.put, List.setIfInBounds_toArray, List.set_cons_zero, List.set_cons_succ])
  refine wpAnyH_take (i := 10) (oi := { dst := some 37, op := Op.binOp BinOp.sub 3 (Operand.tmp 36) (Operand.const (Value.int IntKind.i64 1)) 3, type := 3, pos := "four.go:116", after := #[{ on := 9, ground := Ground.data }], guard := none }) (v := .int .i64 1) rfl (by kernel_rfl) (by kernel_rfl) (by kernel_rfl) (fun _ _ _ h => h) (Or.inl ⟨by rfl, ?_⟩) hHeld ?_
  · intro w1 hSw
    (try dsimp only at hSw)
    go_simp
    all_goals rfl
  (try simp only [Act.put, List.setIfInBounds_toArray, List.set_cons_zero, List.set_cons_succ])
  refine wpAnyH_ready (rs := [11]) (by kernel_rfl) (by simp) ?_
  refine AllReadyH.cons (o := { dst := some 38, op := Op.call { callee := Callee.value (Operand.func 30), args := #[Operand.tmp 30, Operand.tmp 37], argTypes := #[81, 3] }, type := 3, pos := "four.go:116", after := #[{ on := 3, ground := Ground.data }, { on := 10, ground := Ground.data }], guard := none }) rfl (fun K hK => ?_) AllReadyH.nil
  go_simp
  (with_reducible refine (HC.out _ (HUX.out.trans (by repeat (first | (with_reducible exact Upd.refl _ _) | (with_reducible apply Upd.drew) | (with_reducible refine Upd.grE ?_ _) | (with_reducible refine Upd.alloc ?_ _))))).mono ?_)
  rintro e w5 ⟨rfl, hu5⟩
  obtain ⟨p5, rfl⟩ := hu5.grown
  clear hu5
  refine hK.out _ _ (by repeat (first | (with_reducible exact Upd.refl _ _) | (with_reducible exact hHeld) | (with_reducible apply Upd.drew) | (with_reducible refine Upd.grE ?_ _) | (with_reducible refine Upd.alloc ?_ _) | (with_reducible refine updR ?_ (.inl (by simp))))) (fun hHeld => ?_)
  clear hK K
  (try simp only [Act.put, List.setIfInBounds_toArray, List.set_cons_zero, List.set_cons_succ])
  refine wpAnyH_ready (rs := [12]) (by kernel_rfl) (by simp) ?_
  refine AllReadyH.cons (o := { dst := some 39, op := Op.call { callee := Callee.value (Operand.tmp 27), args := #[Operand.tmp 38], argTypes := #[3] }, type := 41, pos := "four.go:116", after := #[{ on := 0, ground := Ground.data }, { on := 11, ground := Ground.data }, { on := 11, ground := Ground.chain }], guard := none }) rfl (fun K hK => ?_) AllReadyH.nil
  go_simp
  (with_reducible refine (fr_load1 _ _).mono ?_)
  rintro e w6 ⟨rfl, hu6⟩
  obtain ⟨p6, rfl⟩ := hu6.grown
  clear hu6
  refine hK.out _ _ (by repeat (first | (with_reducible exact Upd.refl _ _) | (with_reducible exact hHeld) | (with_reducible apply Upd.drew) | (with_reducible refine Upd.grE ?_ _) | (with_reducible refine Upd.alloc ?_ _) | (with_reducible refine updR ?_ (.inl (by simp))))) (fun hHeld => ?_)
  clear hK K
  (try simp only [Act.put, List.setIfInBounds_toArray, List.set_cons_zero, List.set_cons_succ])
  refine wpAnyH_ready (rs := [13]) (by kernel_rfl) (by simp) ?_
  refine AllReadyH.cons (o := { dst := none, op := Op.store 41 (Operand.tmp 2) (Operand.tmp 39), type := 0, pos := "four.go:116", after := #[{ on := 12, ground := Ground.data }, { on := 12, ground := Ground.chain }, { on := 0, ground := Ground.phase }, { on := 1, ground := Ground.phase }, { on := 2, ground := Ground.phase }, { on := 3, ground := Ground.phase }, { on := 4, ground := Ground.phase }, { on := 5, ground := Ground.phase }, { on := 6, ground := Ground.phase }, { on := 7, ground := Ground.phase }, { on := 8, ground := Ground.phase }, { on := 9, ground := Ground.phase }, { on := 10, ground := Ground.phase }, { on := 11, ground := Ground.phase }, { on := 12, ground := Ground.phase }], guard := none }) rfl (fun K hK => ?_) AllReadyH.nil
  rw [if_pos (by rfl)]
  refine wp_store_row 41 _ _ rfl w.heap.size #[.int .i64 1, .int .i64 (a + 4 + (2 * p + i) * wd + 1), .int .u32 0] rfl rfl 41 #[.int .i64 0, .int .i64 0, .int .u32 0] (by repeat (first | (with_reducible exact HAX.out) | (with_reducible apply heap_drewE) | (with_reducible apply heap_grE) | (with_reducible apply heap_alloc'))) (info_act3 _ _ _) rfl (act_one _ _ _) ?_
  refine hK.out _ _ (by repeat (first | (with_reducible exact Upd.refl _ _) | (with_reducible exact hHeld) | (with_reducible apply Upd.drew) | (with_reducible refine Upd.grE ?_ _) | (with_reducible refine Upd.alloc ?_ _) | (with_reducible refine updR ?_ (.inl (by simp))))) (fun hHeld => ?_)
  clear hK K
  (try simp only [Act.put, List.setIfInBounds_toArray, List.set_cons_zero, List.set_cons_succ])
  apply wpAnyH_take (i := 14) (oi := { dst := some 3, op := Op.assign (Operand.const (Value.bool true)), type := 4, pos := "four.go:116", after := #[{ on := 13, ground := Ground.chain }, { on := 0, ground := Ground.phase }, { on := 1, ground := Ground.phase }, { on := 2, ground := Ground.phase }, { on := 3, ground := Ground.phase }, { on := 4, ground := Ground.phase }, { on := 5, ground := Ground.phase }, { on := 6, ground := Ground.phase }, { on := 7, ground := Ground.phase }, { on := 8, ground := Ground.phase }, { on := 9, ground := Ground.phase }, { on := 10, ground := Ground.phase }, { on := 11, ground := Ground.phase }, { on := 12, ground := Ground.phase }, { on := 13, ground := Ground.phase }], guard := none }) rfl (by kernel_rfl) (by kernel_rfl) (by kernel_rfl) (fun _ _ _ h => h) (Or.inl ⟨by rfl, ?_⟩) hHeld ?_
  rotate_left 1
  · intro w1 hSw
    (try dsimp only at hSw)
    go_simp
    rfl
  (try simp only [Act.put, List.setIfInBounds_toArray, List.set_cons_zero, List.set_cons_succ])
  refine wpAnyH_done (by kernel_rfl) ?_ _
  go_wp2
  rw [Exit.noGoto_ret]
  refine ret_act' rfl (g := w.heap.size) (t := 41) (fr := (0, 0)) (x := .int .i64 1) (y := .int .i64 (a + 4 + (2 * p + i) * wd + 1)) (z := .int .u32 0) rfl rfl rfl (setRow_heap _ _ #[.int .i64 0, .int .i64 0, .int .u32 0] _ _ _ (by repeat (first | (with_reducible exact HAX.out) | (with_reducible apply heap_drewE) | (with_reducible apply heap_grE) | (with_reducible apply heap_alloc')))) ?_
  exact ⟨rfl, HUX.out.then hHeld (fun i hi => .inr (by simp at hi; omega))⟩
set_option maxRecDepth 100000 in
set_option maxHeartbeats 4000000 in
theorem fr_actd2 (h : FG a wd w b 84 s) (hw : 1 ≤ wd ∧ wd ≤ 4) (ha : 0 ≤ a ∧ a < 1000000) (hn : s.n = 5) (hon : s.on = true) (hp : 0 ≤ s.p ∧ s.p ≤ 1) (hi : 0 ≤ s.i ∧ s.i ≤ 1) (hk : (0 : Int) ≤ 2 ∧ 2 < wd) :
    Calls Try.prog 11 #[.pointer (some ⟨b, 0, none⟩)] w fun e w' => e = .returned (.tuple #[.agg #[.int .i64 1, .int .i64 (a + 4 + (2 * s.p + s.i) * wd + 2), .int .u32 0], .bool true]) ∧ Upd [] w w' := by
  obtain ⟨x0, x1, x2, x3, x4, x5, x6, x7, x18⟩ := h.pl
  obtain ⟨x8, x9, x10, x11⟩ := h.vs
  rw [hn] at x5
  rw [hon] at x18
  have lb := heap_lt h.h
  have HC := Lib.hid (fun (w1 : World) (hu : Upd [] w w1) => four_data a wd 2 (h.keep hu (by simp)) hw ha hp hi hk)
  generalize s.p = p at *
  generalize s.i = i at *
  generalize s.v0 = v0 at *
  generalize s.v1 = v1 at *
  generalize s.v2 = v2 at *
  generalize s.v3 = v3 at *
  clear h hn hon hw ha hp hi hk
  go_enter Try.func11, Try.ntmps11
  go_wp2
  go_step3
  go_upto_region 8 with (fail)
  have HUX := Lib.hid (show Upd [] w (w.alloc (.cells #[.int .i64 0, .int .i64 0, .int .u32 0] 41)) from (Upd.refl _ _).alloc _)
  have HAX := Lib.hid (heap_alloc_new w (.cells #[.int .i64 0, .int .i64 0, .int .u32 0] 41))
  generalize w.alloc (.cells #[.int .i64 0, .int .i64 0, .int .u32 0] 41) = wx at *
  have lx : b < wx.heap.size := Nat.lt_of_lt_of_le lb HUX.out.size
  have hbn : b ∉ [w.heap.size] := by simp; omega
  have R5 : ∀ w1 : World, Upd [w.heap.size] wx w1 → w1.cell? ⟨b, 5, none⟩ = some (.int .i64 (5)) := fun w1 h => (h.cell (p := ⟨b, 5, none⟩) lx hbn).trans ((HUX.out.cell (p := ⟨b, 5, none⟩) lb (by simp)).trans x5)
  clear x0 x1 x2 x3 x4 x5 x6 x7 x8 x9 x10 x11 x18
  refine wp_region_held_drew (S := fun w1 => Upd [w.heap.size] wx w1) (by kernel_rfl) ?_ (fun hHeld => ?_)
  · exact (Upd.refl _ wx).drew
  apply wpAnyH_take (i := 0) (oi := { dst := some 27, op := Op.move (Operand.tmp 4), type := 85, pos := "four.go:116", after := #[], guard := none }) rfl (by kernel_rfl) (by kernel_rfl) (by kernel_rfl) (fun _ _ _ h => h) (Or.inl ⟨by rfl, ?_⟩) hHeld ?_
  rotate_left 1
  · intro w1 hSw
    (try dsimp only at hSw)
    go_simp
    rfl
  (try simp only [Act.put, List.setIfInBounds_toArray, List.set_cons_zero, List.set_cons_succ])
  apply wpAnyH_take (i := 1) (oi := { dst := some 28, op := Op.move (Operand.tmp 0), type := 38, pos := "four.go:116", after := #[], guard := none }) rfl (by kernel_rfl) (by kernel_rfl) (by kernel_rfl) (fun _ _ _ h => h) (Or.inl ⟨by rfl, ?_⟩) hHeld ?_
  rotate_left 1
  · intro w1 hSw
    (try dsimp only at hSw)
    go_simp
    rfl
  (try simp only [Act.put, List.setIfInBounds_toArray, List.set_cons_zero, List.set_cons_succ])
  apply wpAnyH_take (i := 2) (oi := { dst := some 29, op := Op.nilCheck (Operand.tmp 28), type := 0, pos := "four.go:116", after := #[{ on := 1, ground := Ground.data }], guard := none }) rfl (by kernel_rfl) (by kernel_rfl) (by kernel_rfl) (fun _ _ _ h => h) (Or.inl ⟨by rfl, ?_⟩) hHeld ?_
  rotate_left 1
  · intro w1 hSw
    (try dsimp only at hSw)
    go_simp
    rfl
  (try simp only [Act.put, List.setIfInBounds_toArray, List.set_cons_zero, List.set_cons_succ])
  apply wpAnyH_take (i := 3) (oi := { dst := some 30, op := Op.fieldAddr 84 (Operand.tmp 29) 0, type := 0, pos := "four.go:116", after := #[{ on := 2, ground := Ground.data }], guard := none }) rfl (by kernel_rfl) (by kernel_rfl) (by kernel_rfl) (fun _ _ _ h => h) (Or.inl ⟨by rfl, ?_⟩) hHeld ?_
  rotate_left 1
  · intro w1 hSw
    (try dsimp only at hSw)
    go_simp
    rfl
  (try simp only [Act.put, List.setIfInBounds_toArray, List.set_cons_zero, List.set_cons_succ])
  apply wpAnyH_take (i := 4) (oi := { dst := some 31, op := Op.move (Operand.tmp 0), type := 38, pos := "four.go:116", after := #[], guard := none }) rfl (by kernel_rfl) (by kernel_rfl) (by kernel_rfl) (fun _ _ _ h => h) (Or.inl ⟨by rfl, ?_⟩) hHeld ?_
  rotate_left 1
  · intro w1 hSw
    (try dsimp only at hSw)
    go_simp
    rfl
  (try simp only [Act.put, List.setIfInBounds_toArray, List.set_cons_zero, List.set_cons_succ])
  apply wpAnyH_take (i := 5) (oi := { dst := some 32, op := Op.nilCheck (Operand.tmp 31), type := 0, pos := "four.go:116", after := #[{ on := 4, ground := Ground.data }], guard := none }) rfl (by kernel_rfl) (by kernel_rfl) (by kernel_rfl) (fun _ _ _ h => h) (Or.inl ⟨by rfl, ?_⟩) hHeld ?_
  rotate_left 1
  · intro w1 hSw
    (try dsimp only at hSw)
    go_simp
    rfl
  (try simp only [Act.put, List.setIfInBounds_toArray, List.set_cons_zero, List.set_cons_succ])
  apply wpAnyH_take (i := 6) (oi := { dst := some 33, op := Op.fieldAddr 84 (Operand.tmp 32) 0, type := 0, pos := "four.go:116", after := #[{ on := 5, ground := Ground.data }], guard := none }) rfl (by kernel_rfl) (by kernel_rfl) (by kernel_rfl) (fun _ _ _ h => h) (Or.inl ⟨by rfl, ?_⟩) hHeld ?_
  rotate_left 1
  · intro w1 hSw
    (try dsimp only at hSw)
    go_simp
    rfl
  (try simp only [Act.put, List.setIfInBounds_toArray, List.set_cons_zero, List.set_cons_succ])
  apply wpAnyH_take (i := 7) (oi := { dst := some 34, op := Op.fieldAddr 81 (Operand.tmp 33) 1, type := 0, pos := "four.go:116", after := #[{ on := 6, ground := Ground.data }], guard := none }) rfl (by kernel_rfl) (by kernel_rfl) (by kernel_rfl) (fun _ _ _ h => h) (Or.inl ⟨by rfl, ?_⟩) hHeld ?_
  rotate_left 1
  · intro w1 hSw
    (try dsimp only at hSw)
    go_simp
    rfl
  (try simp only [Act.put, List.setIfInBounds_toArray, List.set_cons_zero, List.set_cons_succ])
  apply wpAnyH_take (i := 8) (oi := { dst := some 35, op := Op.load 3 (Operand.tmp 34), type := 3, pos := "four.go:116", after := #[{ on := 7, ground := Ground.data }], guard := none }) rfl (by kernel_rfl) (by kernel_rfl) (by kernel_rfl) (fun _ _ _ h => h) (Or.inl ⟨by rfl, ?_⟩) hHeld ?_
  rotate_left 1
  · intro w1 hSw
    (try dsimp only at hSw)
    go_simp
    rfl
  (try simp only [Act.put, List.setIfInBounds_toArray, List.set_cons_zero, List.set_cons_succ])
  refine wpAnyH_take (i := 9) (oi := { dst := some 36, op := Op.binOp BinOp.sub 3 (Operand.tmp 35) (Operand.const (Value.int IntKind.i64 2)) 3, type := 3, pos := "four.go:116", after := #[{ on := 8, ground := Ground.data }], guard := none }) (v := .int .i64 3) rfl (by kernel_rfl) (by kernel_rfl) (by kernel_rfl) (fun _ _ _ h => h) (Or.inl ⟨by rfl, ?_⟩) hHeld ?_
  · intro w1 hSw
    (try dsimp only at hSw)
    go_simp
    all_goals rfl
  (try simp only [Act.put, List.setIfInBounds_toArray, List.set_cons_zero, List.set_cons_succ])
  refine wpAnyH_take (i := 10) (oi := { dst := some 37, op := Op.binOp BinOp.sub 3 (Operand.tmp 36) (Operand.const (Value.int IntKind.i64 1)) 3, type := 3, pos := "four.go:116", after := #[{ on := 9, ground := Ground.data }], guard := none }) (v := .int .i64 2) rfl (by kernel_rfl) (by kernel_rfl) (by kernel_rfl) (fun _ _ _ h => h) (Or.inl ⟨by rfl, ?_⟩) hHeld ?_
  · intro w1 hSw
    (try dsimp only at hSw)
    go_simp
    all_goals rfl
  (try simp only [Act.put, List.setIfInBounds_toArray, List.set_cons_zero, List.set_cons_succ])
  refine wpAnyH_ready (rs := [11]) (by kernel_rfl) (by simp) ?_
  refine AllReadyH.cons (o := { dst := some 38, op := Op.call { callee := Callee.value (Operand.func 30), args := #[Operand.tmp 30, Operand.tmp 37], argTypes := #[81, 3] }, type := 3, pos := "four.go:116", after := #[{ on := 3, ground := Ground.data }, { on := 10, ground := Ground.data }], guard := none }) rfl (fun K hK => ?_) AllReadyH.nil
  go_simp
  (with_reducible refine (HC.out _ (HUX.out.trans (by repeat (first | (with_reducible exact Upd.refl _ _) | (with_reducible apply Upd.drew) | (with_reducible refine Upd.grE ?_ _) | (with_reducible refine Upd.alloc ?_ _))))).mono ?_)
  rintro e w5 ⟨rfl, hu5⟩
  obtain ⟨p5, rfl⟩ := hu5.grown
  clear hu5
  refine hK.out _ _ (by repeat (first | (with_reducible exact Upd.refl _ _) | (with_reducible exact hHeld) | (with_reducible apply Upd.drew) | (with_reducible refine Upd.grE ?_ _) | (with_reducible refine Upd.alloc ?_ _) | (with_reducible refine updR ?_ (.inl (by simp))))) (fun hHeld => ?_)
  clear hK K
  (try simp only [Act.put, List.setIfInBounds_toArray, List.set_cons_zero, List.set_cons_succ])
  refine wpAnyH_ready (rs := [12]) (by kernel_rfl) (by simp) ?_
  refine AllReadyH.cons (o := { dst := some 39, op := Op.call { callee := Callee.value (Operand.tmp 27), args := #[Operand.tmp 38], argTypes := #[3] }, type := 41, pos := "four.go:116", after := #[{ on := 0, ground := Ground.data }, { on := 11, ground := Ground.data }, { on := 11, ground := Ground.chain }], guard := none }) rfl (fun K hK => ?_) AllReadyH.nil
  go_simp
  (with_reducible refine (fr_load1 _ _).mono ?_)
  rintro e w6 ⟨rfl, hu6⟩
  obtain ⟨p6, rfl⟩ := hu6.grown
  clear hu6
  refine hK.out _ _ (by repeat (first | (with_reducible exact Upd.refl _ _) | (with_reducible exact hHeld) | (with_reducible apply Upd.drew) | (with_reducible refine Upd.grE ?_ _) | (with_reducible refine Upd.alloc ?_ _) | (with_reducible refine updR ?_ (.inl (by simp))))) (fun hHeld => ?_)
  clear hK K
  (try simp only [Act.put, List.setIfInBounds_toArray, List.set_cons_zero, List.set_cons_succ])
  refine wpAnyH_ready (rs := [13]) (by kernel_rfl) (by simp) ?_
  refine AllReadyH.cons (o := { dst := none, op := Op.store 41 (Operand.tmp 2) (Operand.tmp 39), type := 0, pos := "four.go:116", after := #[{ on := 12, ground := Ground.data }, { on := 12, ground := Ground.chain }, { on := 0, ground := Ground.phase }, { on := 1, ground := Ground.phase }, { on := 2, ground := Ground.phase }, { on := 3, ground := Ground.phase }, { on := 4, ground := Ground.phase }, { on := 5, ground := Ground.phase }, { on := 6, ground := Ground.phase }, { on := 7, ground := Ground.phase }, { on := 8, ground := Ground.phase }, { on := 9, ground := Ground.phase }, { on := 10, ground := Ground.phase }, { on := 11, ground := Ground.phase }, { on := 12, ground := Ground.phase }], guard := none }) rfl (fun K hK => ?_) AllReadyH.nil
  rw [if_pos (by rfl)]
  refine wp_store_row 41 _ _ rfl w.heap.size #[.int .i64 1, .int .i64 (a + 4 + (2 * p + i) * wd + 2), .int .u32 0] rfl rfl 41 #[.int .i64 0, .int .i64 0, .int .u32 0] (by repeat (first | (with_reducible exact HAX.out) | (with_reducible apply heap_drewE) | (with_reducible apply heap_grE) | (with_reducible apply heap_alloc'))) (info_act3 _ _ _) rfl (act_one _ _ _) ?_
  refine hK.out _ _ (by repeat (first | (with_reducible exact Upd.refl _ _) | (with_reducible exact hHeld) | (with_reducible apply Upd.drew) | (with_reducible refine Upd.grE ?_ _) | (with_reducible refine Upd.alloc ?_ _) | (with_reducible refine updR ?_ (.inl (by simp))))) (fun hHeld => ?_)
  clear hK K
  (try simp only [Act.put, List.setIfInBounds_toArray, List.set_cons_zero, List.set_cons_succ])
  apply wpAnyH_take (i := 14) (oi := { dst := some 3, op := Op.assign (Operand.const (Value.bool true)), type := 4, pos := "four.go:116", after := #[{ on := 13, ground := Ground.chain }, { on := 0, ground := Ground.phase }, { on := 1, ground := Ground.phase }, { on := 2, ground := Ground.phase }, { on := 3, ground := Ground.phase }, { on := 4, ground := Ground.phase }, { on := 5, ground := Ground.phase }, { on := 6, ground := Ground.phase }, { on := 7, ground := Ground.phase }, { on := 8, ground := Ground.phase }, { on := 9, ground := Ground.phase }, { on := 10, ground := Ground.phase }, { on := 11, ground := Ground.phase }, { on := 12, ground := Ground.phase }, { on := 13, ground := Ground.phase }], guard := none }) rfl (by kernel_rfl) (by kernel_rfl) (by kernel_rfl) (fun _ _ _ h => h) (Or.inl ⟨by rfl, ?_⟩) hHeld ?_
  rotate_left 1
  · intro w1 hSw
    (try dsimp only at hSw)
    go_simp
    rfl
  (try simp only [Act.put, List.setIfInBounds_toArray, List.set_cons_zero, List.set_cons_succ])
  refine wpAnyH_done (by kernel_rfl) ?_ _
  go_wp2
  rw [Exit.noGoto_ret]
  refine ret_act' rfl (g := w.heap.size) (t := 41) (fr := (0, 0)) (x := .int .i64 1) (y := .int .i64 (a + 4 + (2 * p + i) * wd + 2)) (z := .int .u32 0) rfl rfl rfl (setRow_heap _ _ #[.int .i64 0, .int .i64 0, .int .u32 0] _ _ _ (by repeat (first | (with_reducible exact HAX.out) | (with_reducible apply heap_drewE) | (with_reducible apply heap_grE) | (with_reducible apply heap_alloc')))) ?_
  exact ⟨rfl, HUX.out.then hHeld (fun i hi => .inr (by simp at hi; omega))⟩
set_option maxRecDepth 100000 in
set_option maxHeartbeats 4000000 in
theorem fr_actd3 (h : FG a wd w b 84 s) (hw : 1 ≤ wd ∧ wd ≤ 4) (ha : 0 ≤ a ∧ a < 1000000) (hn : s.n = 6) (hon : s.on = true) (hp : 0 ≤ s.p ∧ s.p ≤ 1) (hi : 0 ≤ s.i ∧ s.i ≤ 1) (hk : (0 : Int) ≤ 3 ∧ 3 < wd) :
    Calls Try.prog 11 #[.pointer (some ⟨b, 0, none⟩)] w fun e w' => e = .returned (.tuple #[.agg #[.int .i64 1, .int .i64 (a + 4 + (2 * s.p + s.i) * wd + 3), .int .u32 0], .bool true]) ∧ Upd [] w w' := by
  obtain ⟨x0, x1, x2, x3, x4, x5, x6, x7, x18⟩ := h.pl
  obtain ⟨x8, x9, x10, x11⟩ := h.vs
  rw [hn] at x5
  rw [hon] at x18
  have lb := heap_lt h.h
  have HC := Lib.hid (fun (w1 : World) (hu : Upd [] w w1) => four_data a wd 3 (h.keep hu (by simp)) hw ha hp hi hk)
  generalize s.p = p at *
  generalize s.i = i at *
  generalize s.v0 = v0 at *
  generalize s.v1 = v1 at *
  generalize s.v2 = v2 at *
  generalize s.v3 = v3 at *
  clear h hn hon hw ha hp hi hk
  go_enter Try.func11, Try.ntmps11
  go_wp2
  go_step3
  go_upto_region 8 with (fail)
  have HUX := Lib.hid (show Upd [] w (w.alloc (.cells #[.int .i64 0, .int .i64 0, .int .u32 0] 41)) from (Upd.refl _ _).alloc _)
  have HAX := Lib.hid (heap_alloc_new w (.cells #[.int .i64 0, .int .i64 0, .int .u32 0] 41))
  generalize w.alloc (.cells #[.int .i64 0, .int .i64 0, .int .u32 0] 41) = wx at *
  have lx : b < wx.heap.size := Nat.lt_of_lt_of_le lb HUX.out.size
  have hbn : b ∉ [w.heap.size] := by simp; omega
  have R5 : ∀ w1 : World, Upd [w.heap.size] wx w1 → w1.cell? ⟨b, 5, none⟩ = some (.int .i64 (6)) := fun w1 h => (h.cell (p := ⟨b, 5, none⟩) lx hbn).trans ((HUX.out.cell (p := ⟨b, 5, none⟩) lb (by simp)).trans x5)
  clear x0 x1 x2 x3 x4 x5 x6 x7 x8 x9 x10 x11 x18
  refine wp_region_held_drew (S := fun w1 => Upd [w.heap.size] wx w1) (by kernel_rfl) ?_ (fun hHeld => ?_)
  · exact (Upd.refl _ wx).drew
  apply wpAnyH_take (i := 0) (oi := { dst := some 27, op := Op.move (Operand.tmp 4), type := 85, pos := "four.go:116", after := #[], guard := none }) rfl (by kernel_rfl) (by kernel_rfl) (by kernel_rfl) (fun _ _ _ h => h) (Or.inl ⟨by rfl, ?_⟩) hHeld ?_
  rotate_left 1
  · intro w1 hSw
    (try dsimp only at hSw)
    go_simp
    rfl
  (try simp only [Act.put, List.setIfInBounds_toArray, List.set_cons_zero, List.set_cons_succ])
  apply wpAnyH_take (i := 1) (oi := { dst := some 28, op := Op.move (Operand.tmp 0), type := 38, pos := "four.go:116", after := #[], guard := none }) rfl (by kernel_rfl) (by kernel_rfl) (by kernel_rfl) (fun _ _ _ h => h) (Or.inl ⟨by rfl, ?_⟩) hHeld ?_
  rotate_left 1
  · intro w1 hSw
    (try dsimp only at hSw)
    go_simp
    rfl
  (try simp only [Act.put, List.setIfInBounds_toArray, List.set_cons_zero, List.set_cons_succ])
  apply wpAnyH_take (i := 2) (oi := { dst := some 29, op := Op.nilCheck (Operand.tmp 28), type := 0, pos := "four.go:116", after := #[{ on := 1, ground := Ground.data }], guard := none }) rfl (by kernel_rfl) (by kernel_rfl) (by kernel_rfl) (fun _ _ _ h => h) (Or.inl ⟨by rfl, ?_⟩) hHeld ?_
  rotate_left 1
  · intro w1 hSw
    (try dsimp only at hSw)
    go_simp
    rfl
  (try simp only [Act.put, List.setIfInBounds_toArray, List.set_cons_zero, List.set_cons_succ])
  apply wpAnyH_take (i := 3) (oi := { dst := some 30, op := Op.fieldAddr 84 (Operand.tmp 29) 0, type := 0, pos := "four.go:116", after := #[{ on := 2, ground := Ground.data }], guard := none }) rfl (by kernel_rfl) (by kernel_rfl) (by kernel_rfl) (fun _ _ _ h => h) (Or.inl ⟨by rfl, ?_⟩) hHeld ?_
  rotate_left 1
  · intro w1 hSw
    (try dsimp only at hSw)
    go_simp
    rfl
  (try simp only [Act.put, List.setIfInBounds_toArray, List.set_cons_zero, List.set_cons_succ])
  apply wpAnyH_take (i := 4) (oi := { dst := some 31, op := Op.move (Operand.tmp 0), type := 38, pos := "four.go:116", after := #[], guard := none }) rfl (by kernel_rfl) (by kernel_rfl) (by kernel_rfl) (fun _ _ _ h => h) (Or.inl ⟨by rfl, ?_⟩) hHeld ?_
  rotate_left 1
  · intro w1 hSw
    (try dsimp only at hSw)
    go_simp
    rfl
  (try simp only [Act.put, List.setIfInBounds_toArray, List.set_cons_zero, List.set_cons_succ])
  apply wpAnyH_take (i := 5) (oi := { dst := some 32, op := Op.nilCheck (Operand.tmp 31), type := 0, pos := "four.go:116", after := #[{ on := 4, ground := Ground.data }], guard := none }) rfl (by kernel_rfl) (by kernel_rfl) (by kernel_rfl) (fun _ _ _ h => h) (Or.inl ⟨by rfl, ?_⟩) hHeld ?_
  rotate_left 1
  · intro w1 hSw
    (try dsimp only at hSw)
    go_simp
    rfl
  (try simp only [Act.put, List.setIfInBounds_toArray, List.set_cons_zero, List.set_cons_succ])
  apply wpAnyH_take (i := 6) (oi := { dst := some 33, op := Op.fieldAddr 84 (Operand.tmp 32) 0, type := 0, pos := "four.go:116", after := #[{ on := 5, ground := Ground.data }], guard := none }) rfl (by kernel_rfl) (by kernel_rfl) (by kernel_rfl) (fun _ _ _ h => h) (Or.inl ⟨by rfl, ?_⟩) hHeld ?_
  rotate_left 1
  · intro w1 hSw
    (try dsimp only at hSw)
    go_simp
    rfl
  (try simp only [Act.put, List.setIfInBounds_toArray, List.set_cons_zero, List.set_cons_succ])
  apply wpAnyH_take (i := 7) (oi := { dst := some 34, op := Op.fieldAddr 81 (Operand.tmp 33) 1, type := 0, pos := "four.go:116", after := #[{ on := 6, ground := Ground.data }], guard := none }) rfl (by kernel_rfl) (by kernel_rfl) (by kernel_rfl) (fun _ _ _ h => h) (Or.inl ⟨by rfl, ?_⟩) hHeld ?_
  rotate_left 1
  · intro w1 hSw
    (try dsimp only at hSw)
    go_simp
    rfl
  (try simp only [Act.put, List.setIfInBounds_toArray, List.set_cons_zero, List.set_cons_succ])
  apply wpAnyH_take (i := 8) (oi := { dst := some 35, op := Op.load 3 (Operand.tmp 34), type := 3, pos := "four.go:116", after := #[{ on := 7, ground := Ground.data }], guard := none }) rfl (by kernel_rfl) (by kernel_rfl) (by kernel_rfl) (fun _ _ _ h => h) (Or.inl ⟨by rfl, ?_⟩) hHeld ?_
  rotate_left 1
  · intro w1 hSw
    (try dsimp only at hSw)
    go_simp
    rfl
  (try simp only [Act.put, List.setIfInBounds_toArray, List.set_cons_zero, List.set_cons_succ])
  refine wpAnyH_take (i := 9) (oi := { dst := some 36, op := Op.binOp BinOp.sub 3 (Operand.tmp 35) (Operand.const (Value.int IntKind.i64 2)) 3, type := 3, pos := "four.go:116", after := #[{ on := 8, ground := Ground.data }], guard := none }) (v := .int .i64 4) rfl (by kernel_rfl) (by kernel_rfl) (by kernel_rfl) (fun _ _ _ h => h) (Or.inl ⟨by rfl, ?_⟩) hHeld ?_
  · intro w1 hSw
    (try dsimp only at hSw)
    go_simp
    all_goals rfl
  (try simp only [Act.put, List.setIfInBounds_toArray, List.set_cons_zero, List.set_cons_succ])
  refine wpAnyH_take (i := 10) (oi := { dst := some 37, op := Op.binOp BinOp.sub 3 (Operand.tmp 36) (Operand.const (Value.int IntKind.i64 1)) 3, type := 3, pos := "four.go:116", after := #[{ on := 9, ground := Ground.data }], guard := none }) (v := .int .i64 3) rfl (by kernel_rfl) (by kernel_rfl) (by kernel_rfl) (fun _ _ _ h => h) (Or.inl ⟨by rfl, ?_⟩) hHeld ?_
  · intro w1 hSw
    (try dsimp only at hSw)
    go_simp
    all_goals rfl
  (try simp only [Act.put, List.setIfInBounds_toArray, List.set_cons_zero, List.set_cons_succ])
  refine wpAnyH_ready (rs := [11]) (by kernel_rfl) (by simp) ?_
  refine AllReadyH.cons (o := { dst := some 38, op := Op.call { callee := Callee.value (Operand.func 30), args := #[Operand.tmp 30, Operand.tmp 37], argTypes := #[81, 3] }, type := 3, pos := "four.go:116", after := #[{ on := 3, ground := Ground.data }, { on := 10, ground := Ground.data }], guard := none }) rfl (fun K hK => ?_) AllReadyH.nil
  go_simp
  (with_reducible refine (HC.out _ (HUX.out.trans (by repeat (first | (with_reducible exact Upd.refl _ _) | (with_reducible apply Upd.drew) | (with_reducible refine Upd.grE ?_ _) | (with_reducible refine Upd.alloc ?_ _))))).mono ?_)
  rintro e w5 ⟨rfl, hu5⟩
  obtain ⟨p5, rfl⟩ := hu5.grown
  clear hu5
  refine hK.out _ _ (by repeat (first | (with_reducible exact Upd.refl _ _) | (with_reducible exact hHeld) | (with_reducible apply Upd.drew) | (with_reducible refine Upd.grE ?_ _) | (with_reducible refine Upd.alloc ?_ _) | (with_reducible refine updR ?_ (.inl (by simp))))) (fun hHeld => ?_)
  clear hK K
  (try simp only [Act.put, List.setIfInBounds_toArray, List.set_cons_zero, List.set_cons_succ])
  refine wpAnyH_ready (rs := [12]) (by kernel_rfl) (by simp) ?_
  refine AllReadyH.cons (o := { dst := some 39, op := Op.call { callee := Callee.value (Operand.tmp 27), args := #[Operand.tmp 38], argTypes := #[3] }, type := 41, pos := "four.go:116", after := #[{ on := 0, ground := Ground.data }, { on := 11, ground := Ground.data }, { on := 11, ground := Ground.chain }], guard := none }) rfl (fun K hK => ?_) AllReadyH.nil
  go_simp
  (with_reducible refine (fr_load1 _ _).mono ?_)
  rintro e w6 ⟨rfl, hu6⟩
  obtain ⟨p6, rfl⟩ := hu6.grown
  clear hu6
  refine hK.out _ _ (by repeat (first | (with_reducible exact Upd.refl _ _) | (with_reducible exact hHeld) | (with_reducible apply Upd.drew) | (with_reducible refine Upd.grE ?_ _) | (with_reducible refine Upd.alloc ?_ _) | (with_reducible refine updR ?_ (.inl (by simp))))) (fun hHeld => ?_)
  clear hK K
  (try simp only [Act.put, List.setIfInBounds_toArray, List.set_cons_zero, List.set_cons_succ])
  refine wpAnyH_ready (rs := [13]) (by kernel_rfl) (by simp) ?_
  refine AllReadyH.cons (o := { dst := none, op := Op.store 41 (Operand.tmp 2) (Operand.tmp 39), type := 0, pos := "four.go:116", after := #[{ on := 12, ground := Ground.data }, { on := 12, ground := Ground.chain }, { on := 0, ground := Ground.phase }, { on := 1, ground := Ground.phase }, { on := 2, ground := Ground.phase }, { on := 3, ground := Ground.phase }, { on := 4, ground := Ground.phase }, { on := 5, ground := Ground.phase }, { on := 6, ground := Ground.phase }, { on := 7, ground := Ground.phase }, { on := 8, ground := Ground.phase }, { on := 9, ground := Ground.phase }, { on := 10, ground := Ground.phase }, { on := 11, ground := Ground.phase }, { on := 12, ground := Ground.phase }], guard := none }) rfl (fun K hK => ?_) AllReadyH.nil
  rw [if_pos (by rfl)]
  refine wp_store_row 41 _ _ rfl w.heap.size #[.int .i64 1, .int .i64 (a + 4 + (2 * p + i) * wd + 3), .int .u32 0] rfl rfl 41 #[.int .i64 0, .int .i64 0, .int .u32 0] (by repeat (first | (with_reducible exact HAX.out) | (with_reducible apply heap_drewE) | (with_reducible apply heap_grE) | (with_reducible apply heap_alloc'))) (info_act3 _ _ _) rfl (act_one _ _ _) ?_
  refine hK.out _ _ (by repeat (first | (with_reducible exact Upd.refl _ _) | (with_reducible exact hHeld) | (with_reducible apply Upd.drew) | (with_reducible refine Upd.grE ?_ _) | (with_reducible refine Upd.alloc ?_ _) | (with_reducible refine updR ?_ (.inl (by simp))))) (fun hHeld => ?_)
  clear hK K
  (try simp only [Act.put, List.setIfInBounds_toArray, List.set_cons_zero, List.set_cons_succ])
  apply wpAnyH_take (i := 14) (oi := { dst := some 3, op := Op.assign (Operand.const (Value.bool true)), type := 4, pos := "four.go:116", after := #[{ on := 13, ground := Ground.chain }, { on := 0, ground := Ground.phase }, { on := 1, ground := Ground.phase }, { on := 2, ground := Ground.phase }, { on := 3, ground := Ground.phase }, { on := 4, ground := Ground.phase }, { on := 5, ground := Ground.phase }, { on := 6, ground := Ground.phase }, { on := 7, ground := Ground.phase }, { on := 8, ground := Ground.phase }, { on := 9, ground := Ground.phase }, { on := 10, ground := Ground.phase }, { on := 11, ground := Ground.phase }, { on := 12, ground := Ground.phase }, { on := 13, ground := Ground.phase }], guard := none }) rfl (by kernel_rfl) (by kernel_rfl) (by kernel_rfl) (fun _ _ _ h => h) (Or.inl ⟨by rfl, ?_⟩) hHeld ?_
  rotate_left 1
  · intro w1 hSw
    (try dsimp only at hSw)
    go_simp
    rfl
  (try simp only [Act.put, List.setIfInBounds_toArray, List.set_cons_zero, List.set_cons_succ])
  refine wpAnyH_done (by kernel_rfl) ?_ _
  go_wp2
  rw [Exit.noGoto_ret]
  refine ret_act' rfl (g := w.heap.size) (t := 41) (fr := (0, 0)) (x := .int .i64 1) (y := .int .i64 (a + 4 + (2 * p + i) * wd + 3)) (z := .int .u32 0) rfl rfl rfl (setRow_heap _ _ #[.int .i64 0, .int .i64 0, .int .u32 0] _ _ _ (by repeat (first | (with_reducible exact HAX.out) | (with_reducible apply heap_drewE) | (with_reducible apply heap_grE) | (with_reducible apply heap_alloc')))) ?_
  exact ⟨rfl, HUX.out.then hHeld (fun i hi => .inr (by simp at hi; omega))⟩
end
end Go.Proofs.Ytnnakiojfpnphaa
