/- The walk, part 19: FS4. -/
import Derived.Test.YtnnakiojfpnphaaZi18
import Derived.Test.YtnnakiojfpnphaaZi04
set_option linter.unusedVariables false
set_option linter.unusedSimpArgs false

namespace Go.Proofs.Ytnnakiojfpnphaa
open Go.RowKit
theorem act_one (a b c : Int) : (#[.int .i64 a, .int .i64 b, .int .u32 c] : Array Value).all (·.oneCell') = true := by simp [Value.oneCell']
theorem ret_act' {fn : Func} {p q : Tmp} (h : fn.results = #[.cell p 41, .tmp q]) {R : Ending → World → Prop} {a : Act} {w : World} {g : Nat} {t : TypeId} {fr : Nat × Nat} {x y z v : Value}
    (hp : a.tmps.getD p undef = .pointer (some ⟨g, 0, none⟩)) (hq : a.tmps.getD q undef = v) (hd : a.defers = []) (hg : w.heap[g]? = some (.cells #[x, y, z] t fr)) (hR : R (.returned (.tuple #[.agg #[x, y, z], v])) w) : bodyPost Try.prog fn R .ret a w :=
  ret_act h hp hq hd hg hR
section
variable (a wd : Int) {w : World} {b : Nat} {s : FSt}
set_option maxRecDepth 100000 in
set_option maxHeartbeats 1000000 in
theorem fw_store1 (x v : Int) (w : World) : Calls Try.prog 40 #[.int .i64 x, .int .u32 v] w fun e w' => e = .returned (.agg #[.int .i64 2, .int .i64 x, .int .u32 v]) ∧ Upd [] w w' := by
  go_enter Try.func40, Try.ntmps40
  go_wp2
  refine bodyPost_ret (v := .agg #[.int .i64 2, .int .i64 x, .int .u32 v]) (by simp [results, Try.results40, go_sem]) rfl ?_
  exact ⟨rfl, by repeat (first | (with_reducible exact Upd.refl _ _) | (with_reducible apply Upd.drew) | (with_reducible refine Upd.grE ?_ _) | (with_reducible refine Upd.alloc ?_ _))⟩
set_option maxRecDepth 100000 in
set_option maxHeartbeats 1000000 in
theorem fr_load1 (x : Int) (w : World) : Calls Try.prog 29 #[.int .i64 x] w fun e w' => e = .returned (.agg #[.int .i64 1, .int .i64 x, .int .u32 0]) ∧ Upd [] w w' := by
  go_enter Try.func29, Try.ntmps29
  go_wp2
  refine bodyPost_ret (v := .agg #[.int .i64 1, .int .i64 x, .int .u32 0]) (by simp [results, Try.results29, go_sem]) rfl ?_
  exact ⟨rfl, by repeat (first | (with_reducible exact Upd.refl _ _) | (with_reducible apply Upd.drew) | (with_reducible refine Upd.grE ?_ _) | (with_reducible refine Upd.alloc ?_ _))⟩
set_option maxRecDepth 100000 in
set_option maxHeartbeats 2000000 in
theorem fw_act0 (h : FG a wd w b 95 s) (hw : 1 ≤ wd ∧ wd ≤ 4) (ha : 0 ≤ a ∧ a < 1000000) (hn : s.n = 0) (hon : s.on = true) :
    Calls Try.prog 16 #[.pointer (some ⟨b, 0, none⟩)] w fun e w' => e = .returned (.tuple #[.agg #[.int .i64 1, .int .i64 (a + 1), .int .u32 0], .bool true]) ∧ Upd [] w w' := by
  obtain ⟨x0, x1, x2, x3, x4, x5, x6, x7, x18⟩ := h.pl
  obtain ⟨x8, x9, x10, x11⟩ := h.vs
  rw [hn] at x5
  rw [hon] at x18
  have lb := heap_lt h.h
  have HC := Lib.hid (fun (w1 : World) (hu : Upd [] w w1) => four_cell a wd 5 0 (a + 1) (h.keep hu (by simp)) (fun w => c4_reading a wd w hw ha))
  clear h hn hon hw ha
  go_enter Try.func16, Try.ntmps16
  go_wp2
  refine wp_scope_jump1 0 rfl ?_
  intro K HK
  go_wp2
  go_step3
  refine And.intro rfl (HK.out _ _ ?_)
  clear HK
  go_wp2_with (go_at_call 31; (with_reducible refine (HC.out _ (by repeat (first | (with_reducible exact Upd.refl _ _) | (with_reducible apply Upd.drew) | (with_reducible refine Upd.grE ?_ _) | (with_reducible refine Upd.alloc ?_ _)))).mono ?_); rintro e w1 ⟨rfl, hu1⟩; obtain ⟨p1, rfl⟩ := hu1.grown; clear hu1)
  rw [Exit.noGoto_ret]
  refine ret_act' rfl (g := w.heap.size) (t := 41) (fr := (0, 0)) (x := .int .i64 1) (y := .int .i64 (a + 1)) (z := .int .u32 0) rfl rfl rfl (hg := ?hg) ?_
  case hg => repeat (first | ((with_reducible refine heap_alloc_at _ ?_); (first | rfl | (simp; done))) | (with_reducible apply heap_drewE) | (with_reducible apply heap_grE) | (with_reducible apply heap_alloc'))
  exact ⟨rfl, (by repeat (first | (with_reducible exact Upd.refl _ _) | (with_reducible apply Upd.drew) | (with_reducible refine Upd.grE ?_ _) | (with_reducible refine Upd.alloc ?_ _)))⟩
set_option maxRecDepth 100000 in
set_option maxHeartbeats 4000000 in
theorem fw_act1 (h : FG a wd w b 95 s) (hw : 1 ≤ wd ∧ wd ≤ 4) (ha : 0 ≤ a ∧ a < 1000000) (hn : s.n = 1) (hon : s.on = true) (hp : 0 ≤ s.p ∧ s.p ≤ 1) :
    Calls Try.prog 16 #[.pointer (some ⟨b, 0, none⟩)] w fun e w' => e = .returned (.tuple #[.agg #[.int .i64 1, .int .i64 (a + 2 + s.p), .int .u32 0], .bool true]) ∧ Upd [] w w' := by
  obtain ⟨x0, x1, x2, x3, x4, x5, x6, x7, x18⟩ := h.pl
  obtain ⟨x8, x9, x10, x11⟩ := h.vs
  rw [hn] at x5
  rw [hon] at x18
  have lb := heap_lt h.h
  have HC := Lib.hid (fun (w1 : World) (hu : Upd [] w w1) => four_cell a wd 6 s.p (a + 2 + s.p) (h.keep hu (by simp)) (fun w => c4_slot a wd w s.p hw ha hp))
  generalize s.p = p at *
  generalize s.i = i at *
  generalize s.v0 = v0 at *
  generalize s.v1 = v1 at *
  generalize s.v2 = v2 at *
  generalize s.v3 = v3 at *
  clear h hn hon hw ha hp
  go_enter Try.func16, Try.ntmps16
  go_wp2
  refine wp_scope_jump1 1 rfl ?_
  intro K HK
  go_wp2
  go_step3
  refine And.intro rfl (HK.out _ _ ?_)
  clear HK
  go_upto_region 13 with (fail)
  have HUX := Lib.hid (show Upd [] w (w.alloc (.cells #[.int .i64 0, .int .i64 0, .int .u32 0] 41)) from (Upd.refl _ _).alloc _)
  have HAX := Lib.hid (heap_alloc_new w (.cells #[.int .i64 0, .int .i64 0, .int .u32 0] 41))
  generalize w.alloc (.cells #[.int .i64 0, .int .i64 0, .int .u32 0] 41) = wx at *
  have lx : b < wx.heap.size := Nat.lt_of_lt_of_le lb HUX.out.size
  have hbn : b ∉ [w.heap.size] := by simp; omega
  have R6 : ∀ w1 : World, Upd [w.heap.size] wx w1 → w1.cell? ⟨b, 6, none⟩ = some (.int .i64 p) := fun w1 h => (h.cell (p := ⟨b, 6, none⟩) lx hbn).trans ((HUX.out.cell (p := ⟨b, 6, none⟩) lb (by simp)).trans x6)
  clear x0 x1 x2 x3 x4 x5 x6 x7 x8 x9 x10 x11 x18
  refine wp_region_held_drew (S := fun w1 => Upd [w.heap.size] wx w1) (by kernel_rfl) ?_ (fun hHeld => ?_)
  · exact (Upd.refl _ wx).drew
  apply wpAnyH_take (i := 0) (oi := { dst := some 106, op := Op.move (Operand.tmp 0), type := 37, pos := "four.go:77", after := #[], guard := none }) rfl (by kernel_rfl) (by kernel_rfl) (by kernel_rfl) (fun _ _ _ h => h) (Or.inl ⟨by rfl, ?_⟩) hHeld ?_
  rotate_left 1
  · intro w1 hSw
    (try dsimp only at hSw)
    go_simp
    rfl
  (try simp only [Act.put, List.setIfInBounds_toArray, List.set_cons_zero, List.set_cons_succ])
  apply wpAnyH_take (i := 1) (oi := { dst := some 107, op := Op.nilCheck (Operand.tmp 106), type := 0, pos := "four.go:77", after := #[{ on := 0, ground := Ground.data }], guard := none }) rfl (by kernel_rfl) (by kernel_rfl) (by kernel_rfl) (fun _ _ _ h => h) (Or.inl ⟨by rfl, ?_⟩) hHeld ?_
  rotate_left 1
  · intro w1 hSw
    (try dsimp only at hSw)
    go_simp
    rfl
  (try simp only [Act.put, List.setIfInBounds_toArray, List.set_cons_zero, List.set_cons_succ])
  apply wpAnyH_take (i := 2) (oi := { dst := some 108, op := Op.fieldAddr 95 (Operand.tmp 107) 0, type := 0, pos := "four.go:77", after := #[{ on := 1, ground := Ground.data }], guard := none }) rfl (by kernel_rfl) (by kernel_rfl) (by kernel_rfl) (fun _ _ _ h => h) (Or.inl ⟨by rfl, ?_⟩) hHeld ?_
  rotate_left 1
  · intro w1 hSw
    (try dsimp only at hSw)
    go_simp
    rfl
  (try simp only [Act.put, List.setIfInBounds_toArray, List.set_cons_zero, List.set_cons_succ])
  apply wpAnyH_take (i := 3) (oi := { dst := some 109, op := Op.move (Operand.tmp 0), type := 37, pos := "four.go:77", after := #[], guard := none }) rfl (by kernel_rfl) (by kernel_rfl) (by kernel_rfl) (fun _ _ _ h => h) (Or.inl ⟨by rfl, ?_⟩) hHeld ?_
  rotate_left 1
  · intro w1 hSw
    (try dsimp only at hSw)
    go_simp
    rfl
  (try simp only [Act.put, List.setIfInBounds_toArray, List.set_cons_zero, List.set_cons_succ])
  apply wpAnyH_take (i := 4) (oi := { dst := some 110, op := Op.nilCheck (Operand.tmp 109), type := 0, pos := "four.go:77", after := #[{ on := 3, ground := Ground.data }], guard := none }) rfl (by kernel_rfl) (by kernel_rfl) (by kernel_rfl) (fun _ _ _ h => h) (Or.inl ⟨by rfl, ?_⟩) hHeld ?_
  rotate_left 1
  · intro w1 hSw
    (try dsimp only at hSw)
    go_simp
    rfl
  (try simp only [Act.put, List.setIfInBounds_toArray, List.set_cons_zero, List.set_cons_succ])
  apply wpAnyH_take (i := 5) (oi := { dst := some 111, op := Op.fieldAddr 95 (Operand.tmp 110) 0, type := 0, pos := "four.go:77", after := #[{ on := 4, ground := Ground.data }], guard := none }) rfl (by kernel_rfl) (by kernel_rfl) (by kernel_rfl) (fun _ _ _ h => h) (Or.inl ⟨by rfl, ?_⟩) hHeld ?_
  rotate_left 1
  · intro w1 hSw
    (try dsimp only at hSw)
    go_simp
    rfl
  (try simp only [Act.put, List.setIfInBounds_toArray, List.set_cons_zero, List.set_cons_succ])
  apply wpAnyH_take (i := 6) (oi := { dst := some 112, op := Op.fieldAddr 81 (Operand.tmp 111) 2, type := 0, pos := "four.go:77", after := #[{ on := 5, ground := Ground.data }], guard := none }) rfl (by kernel_rfl) (by kernel_rfl) (by kernel_rfl) (fun _ _ _ h => h) (Or.inl ⟨by rfl, ?_⟩) hHeld ?_
  rotate_left 1
  · intro w1 hSw
    (try dsimp only at hSw)
    go_simp
    rfl
  (try simp only [Act.put, List.setIfInBounds_toArray, List.set_cons_zero, List.set_cons_succ])
  apply wpAnyH_take (i := 7) (oi := { dst := some 113, op := Op.indexAddr 79 (Operand.tmp 112) (Operand.const (Value.int IntKind.i64 0)), type := 0, pos := "four.go:77", after := #[{ on := 6, ground := Ground.data }], guard := none }) rfl (by kernel_rfl) (by kernel_rfl) (by kernel_rfl) (fun _ _ _ h => h) (Or.inl ⟨by rfl, ?_⟩) hHeld ?_
  rotate_left 1
  · intro w1 hSw
    (try dsimp only at hSw)
    go_simp
    rfl
  (try simp only [Act.put, List.setIfInBounds_toArray, List.set_cons_zero, List.set_cons_succ])
  apply wpAnyH_take (i := 8) (oi := { dst := some 114, op := Op.load 3 (Operand.tmp 113), type := 3, pos := "four.go:77", after := #[{ on := 7, ground := Ground.data }], guard := none }) rfl (by kernel_rfl) (by kernel_rfl) (by kernel_rfl) (fun _ _ _ h => h) (Or.inl ⟨by rfl, ?_⟩) hHeld ?_
  rotate_left 1
  · intro w1 hSw
    (try dsimp only at hSw)
    go_simp
    rfl
  (try simp only [Act.put, List.setIfInBounds_toArray, List.set_cons_zero, List.set_cons_succ])
  refine wpAnyH_ready (rs := [9]) (by kernel_rfl) (by simp) ?_
  refine AllReadyH.cons (o := { dst := some 115, op := Op.call { callee := Callee.value (Operand.func 31), args := #[Operand.tmp 108, Operand.const (Value.int IntKind.i64 6), Operand.tmp 114], argTypes := #[81, 3, 3] }, type := 3, pos := "four.go:77", after := #[{ on := 2, ground := Ground.data }, { on := 8, ground := Ground.data }], guard := none }) rfl (fun K hK => ?_) AllReadyH.nil
  go_simp
  (with_reducible refine (HC.out _ (HUX.out.trans (by repeat (first | (with_reducible exact Upd.refl _ _) | (with_reducible apply Upd.drew) | (with_reducible refine Upd.grE ?_ _) | (with_reducible refine Upd.alloc ?_ _))))).mono ?_)
  rintro e w5 ⟨rfl, hu5⟩
  obtain ⟨p5, rfl⟩ := hu5.grown
  clear hu5
  refine hK.out _ _ (by repeat (first | (with_reducible exact Upd.refl _ _) | (with_reducible exact hHeld) | (with_reducible apply Upd.drew) | (with_reducible refine Upd.grE ?_ _) | (with_reducible refine Upd.alloc ?_ _) | (with_reducible refine updR ?_ (.inl (by simp))))) (fun hHeld => ?_)
  clear hK K
  (try simp only [Act.put, List.setIfInBounds_toArray, List.set_cons_zero, List.set_cons_succ])
  apply wpAnyH_take (i := 10) (oi := { dst := some 116, op := Op.build 41 #[(0, Operand.const (Value.int IntKind.i64 1)), (1, Operand.tmp 115)], type := 41, pos := "four.go:77", after := #[{ on := 9, ground := Ground.data }], guard := none }) rfl (by kernel_rfl) (by kernel_rfl) (by kernel_rfl) (fun _ _ _ h => h) (Or.inl ⟨by rfl, ?_⟩) hHeld ?_
  rotate_left 1
  · intro w1 hSw
    (try dsimp only at hSw)
    go_simp
    rfl
  (try simp only [Act.put, List.setIfInBounds_toArray, List.set_cons_zero, List.set_cons_succ])
  refine wpAnyH_ready (rs := [11]) (by kernel_rfl) (by simp) ?_
  refine AllReadyH.cons (o := { dst := none, op := Op.store 41 (Operand.tmp 2) (Operand.tmp 116), type := 0, pos := "four.go:77", after := #[{ on := 10, ground := Ground.data }, { on := 9, ground := Ground.chain }, { on := 0, ground := Ground.phase }, { on := 1, ground := Ground.phase }, { on := 2, ground := Ground.phase }, { on := 3, ground := Ground.phase }, { on := 4, ground := Ground.phase }, { on := 5, ground := Ground.phase }, { on := 6, ground := Ground.phase }, { on := 7, ground := Ground.phase }, { on := 8, ground := Ground.phase }, { on := 9, ground := Ground.phase }, { on := 10, ground := Ground.phase }], guard := none }) rfl (fun K hK => ?_) AllReadyH.nil
  rw [if_pos (by rfl)]
  refine wp_store_row 41 _ _ rfl w.heap.size #[.int .i64 1, .int .i64 (a + 2 + p), .int .u32 0] rfl rfl 41 #[.int .i64 0, .int .i64 0, .int .u32 0] (by repeat (first | (with_reducible exact HAX.out) | (with_reducible apply heap_drewE) | (with_reducible apply heap_grE) | (with_reducible apply heap_alloc'))) (info_act3 _ _ _) rfl (act_one _ _ _) ?_
  refine hK.out _ _ (by repeat (first | (with_reducible exact Upd.refl _ _) | (with_reducible exact hHeld) | (with_reducible apply Upd.drew) | (with_reducible refine Upd.grE ?_ _) | (with_reducible refine Upd.alloc ?_ _) | (with_reducible refine updR ?_ (.inl (by simp))))) (fun hHeld => ?_)
  clear hK K
  (try simp only [Act.put, List.setIfInBounds_toArray, List.set_cons_zero, List.set_cons_succ])
  apply wpAnyH_take (i := 12) (oi := { dst := some 3, op := Op.assign (Operand.const (Value.bool true)), type := 4, pos := "four.go:77", after := #[{ on := 11, ground := Ground.chain }, { on := 0, ground := Ground.phase }, { on := 1, ground := Ground.phase }, { on := 2, ground := Ground.phase }, { on := 3, ground := Ground.phase }, { on := 4, ground := Ground.phase }, { on := 5, ground := Ground.phase }, { on := 6, ground := Ground.phase }, { on := 7, ground := Ground.phase }, { on := 8, ground := Ground.phase }, { on := 9, ground := Ground.phase }, { on := 10, ground := Ground.phase }, { on := 11, ground := Ground.phase }], guard := none }) rfl (by kernel_rfl) (by kernel_rfl) (by kernel_rfl) (fun _ _ _ h => h) (Or.inl ⟨by rfl, ?_⟩) hHeld ?_
  rotate_left 1
  · intro w1 hSw
    (try dsimp only at hSw)
    go_simp
    rfl
  (try simp only [Act.put, List.setIfInBounds_toArray, List.set_cons_zero, List.set_cons_succ])
  refine wpAnyH_done (by kernel_rfl) ?_ _
  go_wp2
  rw [Exit.noGoto_ret]
  refine ret_act' rfl (g := w.heap.size) (t := 41) (fr := (0, 0)) (x := .int .i64 1) (y := .int .i64 (a + 2 + p)) (z := .int .u32 0) rfl rfl rfl (setRow_heap _ _ #[.int .i64 0, .int .i64 0, .int .u32 0] _ _ _ (by repeat (first | (with_reducible exact HAX.out) | (with_reducible apply heap_drewE) | (with_reducible apply heap_grE) | (with_reducible apply heap_alloc')))) ?_
  exact ⟨rfl, HUX.out.then hHeld (fun i hi => .inr (by simp at hi; omega))⟩
set_option maxRecDepth 100000 in
set_option maxHeartbeats 4000000 in
theorem fw_actd0 (h : FG a wd w b 95 s) (hw : 1 ≤ wd ∧ wd ≤ 4) (ha : 0 ≤ a ∧ a < 1000000) (hn : s.n = 2) (hon : s.on = true) (hp : 0 ≤ s.p ∧ s.p ≤ 1) (hi : 0 ≤ s.i ∧ s.i ≤ 1) (hk : (0 : Int) ≤ 0 ∧ 0 < wd) :
    Calls Try.prog 16 #[.pointer (some ⟨b, 0, none⟩)] w fun e w' => e = .returned (.tuple #[.agg #[.int .i64 2, .int .i64 (a + 4 + (2 * s.p + s.i) * wd), .int .u32 s.v0], .bool true]) ∧ Upd [] w w' := by
  obtain ⟨x0, x1, x2, x3, x4, x5, x6, x7, x18⟩ := h.pl
  obtain ⟨x8, x9, x10, x11⟩ := h.vs
  rw [hn] at x5
  rw [hon] at x18
  have lb := heap_lt h.h
  have HC := Lib.hid (fun (w1 : World) (hu : Upd [] w w1) => four_data a wd 0 (h.keep hu (by simp)) hw ha hp hi hk)
  have qk : decide ((0 : Int) < wd) = true := by simp; omega
  generalize s.p = p at *
  generalize s.i = i at *
  generalize s.v0 = v0 at *
  generalize s.v1 = v1 at *
  generalize s.v2 = v2 at *
  generalize s.v3 = v3 at *
  clear h hn hon hw ha hp hi hk
  go_enter Try.func16, Try.ntmps16
  go_wp2
  go_step3
  go_upto_region 8 with (fail)
  have HUX := Lib.hid (show Upd [] w (w.alloc (.cells #[.int .i64 0, .int .i64 0, .int .u32 0] 41)) from (Upd.refl _ _).alloc _)
  have HAX := Lib.hid (heap_alloc_new w (.cells #[.int .i64 0, .int .i64 0, .int .u32 0] 41))
  generalize w.alloc (.cells #[.int .i64 0, .int .i64 0, .int .u32 0] 41) = wx at *
  have lx : b < wx.heap.size := Nat.lt_of_lt_of_le lb HUX.out.size
  have hbn : b ∉ [w.heap.size] := by simp; omega
  have R3 : ∀ w1 : World, Upd [w.heap.size] wx w1 → w1.cell? ⟨b, 3, none⟩ = some (.int .i64 wd) := fun w1 h => (h.cell (p := ⟨b, 3, none⟩) lx hbn).trans ((HUX.out.cell (p := ⟨b, 3, none⟩) lb (by simp)).trans x3)
  have R5 : ∀ w1 : World, Upd [w.heap.size] wx w1 → w1.cell? ⟨b, 5, none⟩ = some (.int .i64 (2)) := fun w1 h => (h.cell (p := ⟨b, 5, none⟩) lx hbn).trans ((HUX.out.cell (p := ⟨b, 5, none⟩) lb (by simp)).trans x5)
  have R8 : ∀ w1 : World, Upd [w.heap.size] wx w1 → w1.cell? ⟨b, 8, none⟩ = some (.int .u32 v0) := fun w1 h => (h.cell (p := ⟨b, 8, none⟩) lx hbn).trans ((HUX.out.cell (p := ⟨b, 8, none⟩) lb (by simp)).trans x8)
  clear x0 x1 x2 x3 x4 x5 x6 x7 x8 x9 x10 x11 x18
  refine wp_region_held_drew (S := fun w1 => Upd [w.heap.size] wx w1) (by kernel_rfl) ?_ (fun hHeld => ?_)
  · exact (Upd.refl _ wx).drew
  apply wpAnyH_take (i := 0) (oi := { dst := some 46, op := Op.move (Operand.tmp 4), type := 96, pos := "four.go:69", after := #[], guard := none }) rfl (by kernel_rfl) (by kernel_rfl) (by kernel_rfl) (fun _ _ _ h => h) (Or.inl ⟨by rfl, ?_⟩) hHeld ?_
  rotate_left 1
  · intro w1 hSw
    (try dsimp only at hSw)
    go_simp
    rfl
  (try simp only [Act.put, List.setIfInBounds_toArray, List.set_cons_zero, List.set_cons_succ])
  apply wpAnyH_take (i := 1) (oi := { dst := some 47, op := Op.move (Operand.tmp 0), type := 37, pos := "four.go:69", after := #[], guard := none }) rfl (by kernel_rfl) (by kernel_rfl) (by kernel_rfl) (fun _ _ _ h => h) (Or.inl ⟨by rfl, ?_⟩) hHeld ?_
  rotate_left 1
  · intro w1 hSw
    (try dsimp only at hSw)
    go_simp
    rfl
  (try simp only [Act.put, List.setIfInBounds_toArray, List.set_cons_zero, List.set_cons_succ])
  apply wpAnyH_take (i := 2) (oi := { dst := some 48, op := Op.nilCheck (Operand.tmp 47), type := 0, pos := "four.go:69", after := #[{ on := 1, ground := Ground.data }], guard := none }) rfl (by kernel_rfl) (by kernel_rfl) (by kernel_rfl) (fun _ _ _ h => h) (Or.inl ⟨by rfl, ?_⟩) hHeld ?_
  rotate_left 1
  · intro w1 hSw
    (try dsimp only at hSw)
    go_simp
    rfl
  (try simp only [Act.put, List.setIfInBounds_toArray, List.set_cons_zero, List.set_cons_succ])
  apply wpAnyH_take (i := 3) (oi := { dst := some 49, op := Op.fieldAddr 95 (Operand.tmp 48) 0, type := 0, pos := "four.go:69", after := #[{ on := 2, ground := Ground.data }], guard := none }) rfl (by kernel_rfl) (by kernel_rfl) (by kernel_rfl) (fun _ _ _ h => h) (Or.inl ⟨by rfl, ?_⟩) hHeld ?_
  rotate_left 1
  · intro w1 hSw
    (try dsimp only at hSw)
    go_simp
    rfl
  (try simp only [Act.put, List.setIfInBounds_toArray, List.set_cons_zero, List.set_cons_succ])
  apply wpAnyH_take (i := 4) (oi := { dst := some 50, op := Op.move (Operand.tmp 5), type := 3, pos := "four.go:69", after := #[], guard := none }) rfl (by kernel_rfl) (by kernel_rfl) (by kernel_rfl) (fun _ _ _ h => h) (Or.inl ⟨by rfl, ?_⟩) hHeld ?_
  rotate_left 1
  · intro w1 hSw
    (try dsimp only at hSw)
    go_simp
    rfl
  (try simp only [Act.put, List.setIfInBounds_toArray, List.set_cons_zero, List.set_cons_succ])
  apply wpAnyH_take (i := 6) (oi := { dst := some 52, op := Op.move (Operand.tmp 0), type := 37, pos := "four.go:69", after := #[], guard := none }) rfl (by kernel_rfl) (by kernel_rfl) (by kernel_rfl) (fun _ _ _ h => h) (Or.inl ⟨by rfl, ?_⟩) hHeld ?_
  rotate_left 1
  · intro w1 hSw
    (try dsimp only at hSw)
    go_simp
    rfl
  (try simp only [Act.put, List.setIfInBounds_toArray, List.set_cons_zero, List.set_cons_succ])
  apply wpAnyH_take (i := 7) (oi := { dst := some 53, op := Op.move (Operand.tmp 5), type := 3, pos := "four.go:69", after := #[], guard := none }) rfl (by kernel_rfl) (by kernel_rfl) (by kernel_rfl) (fun _ _ _ h => h) (Or.inl ⟨by rfl, ?_⟩) hHeld ?_
  rotate_left 1
  · intro w1 hSw
    (try dsimp only at hSw)
    go_simp
    rfl
  (try simp only [Act.put, List.setIfInBounds_toArray, List.set_cons_zero, List.set_cons_succ])
  apply wpAnyH_take (i := 8) (oi := { dst := some 54, op := Op.nilCheck (Operand.tmp 52), type := 0, pos := "four.go:69", after := #[{ on := 6, ground := Ground.data }], guard := none }) rfl (by kernel_rfl) (by kernel_rfl) (by kernel_rfl) (fun _ _ _ h => h) (Or.inl ⟨by rfl, ?_⟩) hHeld ?_
  rotate_left 1
  · intro w1 hSw
    (try dsimp only at hSw)
    go_simp
    rfl
  (try simp only [Act.put, List.setIfInBounds_toArray, List.set_cons_zero, List.set_cons_succ])
  apply wpAnyH_take (i := 9) (oi := { dst := some 55, op := Op.fieldAddr 95 (Operand.tmp 54) 0, type := 0, pos := "four.go:69", after := #[{ on := 8, ground := Ground.data }], guard := none }) rfl (by kernel_rfl) (by kernel_rfl) (by kernel_rfl) (fun _ _ _ h => h) (Or.inl ⟨by rfl, ?_⟩) hHeld ?_
  rotate_left 1
  · intro w1 hSw
    (try dsimp only at hSw)
    go_simp
    rfl
  (try simp only [Act.put, List.setIfInBounds_toArray, List.set_cons_zero, List.set_cons_succ])
  apply wpAnyH_take (i := 10) (oi := { dst := some 56, op := Op.fieldAddr 81 (Operand.tmp 55) 3, type := 0, pos := "four.go:69", after := #[{ on := 9, ground := Ground.data }], guard := none }) rfl (by kernel_rfl) (by kernel_rfl) (by kernel_rfl) (fun _ _ _ h => h) (Or.inl ⟨by rfl, ?_⟩) hHeld ?_
  rotate_left 1
  · intro w1 hSw
    (try dsimp only at hSw)
    go_simp
    rfl
  (try simp only [Act.put, List.setIfInBounds_toArray, List.set_cons_zero, List.set_cons_succ])
  apply wpAnyH_take (i := 11) (oi := { dst := some 57, op := Op.indexAddr 34 (Operand.tmp 56) (Operand.tmp 53), type := 0, pos := "four.go:69", after := #[{ on := 10, ground := Ground.data }, { on := 7, ground := Ground.data }], guard := none }) rfl (by kernel_rfl) (by kernel_rfl) (by kernel_rfl) (fun _ _ _ h => h) (Or.inl ⟨by rfl, ?_⟩) hHeld ?_
  rotate_left 1
  · intro w1 hSw
    (try dsimp only at hSw)
    go_simp
    rfl
  (try simp only [Act.put, List.setIfInBounds_toArray, List.set_cons_zero, List.set_cons_succ])
  apply wpAnyH_take (i := 12) (oi := { dst := some 58, op := Op.load 32 (Operand.tmp 57), type := 32, pos := "four.go:69", after := #[{ on := 11, ground := Ground.data }], guard := none }) rfl (by kernel_rfl) (by kernel_rfl) (by kernel_rfl) (fun _ _ _ h => h) (Or.inl ⟨by rfl, ?_⟩) hHeld ?_
  rotate_left 1
  · intro w1 hSw
    (try dsimp only at hSw)
    go_simp
    rfl
  (try simp only [Act.put, List.setIfInBounds_toArray, List.set_cons_zero, List.set_cons_succ])
  refine wpAnyH_ready (rs := [5]) (by kernel_rfl) (by simp) ?_
  refine AllReadyH.cons (o := { dst := some 51, op := Op.call { callee := Callee.value (Operand.func 30), args := #[Operand.tmp 49, Operand.tmp 50], argTypes := #[81, 3] }, type := 3, pos := "four.go:69", after := #[{ on := 3, ground := Ground.data }, { on := 4, ground := Ground.data }], guard := none }) rfl (fun K hK => ?_) AllReadyH.nil
  go_simp
  (with_reducible refine (HC.out _ (HUX.out.trans (by repeat (first | (with_reducible exact Upd.refl _ _) | (with_reducible apply Upd.drew) | (with_reducible refine Upd.grE ?_ _) | (with_reducible refine Upd.alloc ?_ _))))).mono ?_)
  rintro e w5 ⟨rfl, hu5⟩
  obtain ⟨p5, rfl⟩ := hu5.grown
  clear hu5
  refine hK.out _ _ (by repeat (first | (with_reducible exact Upd.refl _ _) | (with_reducible exact hHeld) | (with_reducible apply Upd.drew) | (with_reducible refine Upd.grE ?_ _) | (with_reducible refine Upd.alloc ?_ _) | (with_reducible refine updR ?_ (.inl (by simp))))) (fun hHeld => ?_)
  clear hK K
  (try simp only [Act.put, List.setIfInBounds_toArray, List.set_cons_zero, List.set_cons_succ])
  refine wpAnyH_ready (rs := [13]) (by kernel_rfl) (by simp) ?_
  refine AllReadyH.cons (o := { dst := some 59, op := Op.call { callee := Callee.value (Operand.tmp 46), args := #[Operand.tmp 51, Operand.tmp 58], argTypes := #[3, 32] }, type := 41, pos := "four.go:69", after := #[{ on := 0, ground := Ground.data }, { on := 5, ground := Ground.data }, { on := 12, ground := Ground.data }, { on := 5, ground := Ground.chain }], guard := none }) rfl (fun K hK => ?_) AllReadyH.nil
  go_simp
  (with_reducible refine (fw_store1 _ _ _).mono ?_)
  rintro e w6 ⟨rfl, hu6⟩
  obtain ⟨p6, rfl⟩ := hu6.grown
  clear hu6
  refine hK.out _ _ (by repeat (first | (with_reducible exact Upd.refl _ _) | (with_reducible exact hHeld) | (with_reducible apply Upd.drew) | (with_reducible refine Upd.grE ?_ _) | (with_reducible refine Upd.alloc ?_ _) | (with_reducible refine updR ?_ (.inl (by simp))))) (fun hHeld => ?_)
  clear hK K
  (try simp only [Act.put, List.setIfInBounds_toArray, List.set_cons_zero, List.set_cons_succ])
  refine wpAnyH_ready (rs := [14]) (by kernel_rfl) (by simp) ?_
  refine AllReadyH.cons (o := { dst := none, op := Op.store 41 (Operand.tmp 2) (Operand.tmp 59), type := 0, pos := "four.go:69", after := #[{ on := 13, ground := Ground.data }, { on := 13, ground := Ground.chain }, { on := 0, ground := Ground.phase }, { on := 1, ground := Ground.phase }, { on := 2, ground := Ground.phase }, { on := 3, ground := Ground.phase }, { on := 4, ground := Ground.phase }, { on := 5, ground := Ground.phase }, { on := 6, ground := Ground.phase }, { on := 7, ground := Ground.phase }, { on := 8, ground := Ground.phase }, { on := 9, ground := Ground.phase }, { on := 10, ground := Ground.phase }, { on := 11, ground := Ground.phase }, { on := 12, ground := Ground.phase }, { on := 13, ground := Ground.phase }], guard := none }) rfl (fun K hK => ?_) AllReadyH.nil
  rw [if_pos (by rfl)]
  refine wp_store_row 41 _ _ rfl w.heap.size #[.int .i64 2, .int .i64 (a + 4 + (2 * p + i) * wd), .int .u32 v0] rfl rfl 41 #[.int .i64 0, .int .i64 0, .int .u32 0] (by repeat (first | (with_reducible exact HAX.out) | (with_reducible apply heap_drewE) | (with_reducible apply heap_grE) | (with_reducible apply heap_alloc'))) (info_act3 _ _ _) rfl (act_one _ _ _) ?_
  refine hK.out _ _ (by repeat (first | (with_reducible exact Upd.refl _ _) | (with_reducible exact hHeld) | (with_reducible apply Upd.drew) | (with_reducible refine Upd.grE ?_ _) | (with_reducible refine Upd.alloc ?_ _) | (with_reducible refine updR ?_ (.inl (by simp))))) (fun hHeld => ?_)
  clear hK K
  (try simp only [Act.put, List.setIfInBounds_toArray, List.set_cons_zero, List.set_cons_succ])
  apply wpAnyH_take (i := 15) (oi := { dst := some 3, op := Op.assign (Operand.const (Value.bool true)), type := 4, pos := "four.go:69", after := #[{ on := 14, ground := Ground.chain }, { on := 0, ground := Ground.phase }, { on := 1, ground := Ground.phase }, { on := 2, ground := Ground.phase }, { on := 3, ground := Ground.phase }, { on := 4, ground := Ground.phase }, { on := 5, ground := Ground.phase }, { on := 6, ground := Ground.phase }, { on := 7, ground := Ground.phase }, { on := 8, ground := Ground.phase }, { on := 9, ground := Ground.phase }, { on := 10, ground := Ground.phase }, { on := 11, ground := Ground.phase }, { on := 12, ground := Ground.phase }, { on := 13, ground := Ground.phase }, { on := 14, ground := Ground.phase }], guard := none }) rfl (by kernel_rfl) (by kernel_rfl) (by kernel_rfl) (fun _ _ _ h => h) (Or.inl ⟨by rfl, ?_⟩) hHeld ?_
  rotate_left 1
  · intro w1 hSw
    (try dsimp only at hSw)
    go_simp
    rfl
  (try simp only [Act.put, List.setIfInBounds_toArray, List.set_cons_zero, List.set_cons_succ])
  refine wpAnyH_done (by kernel_rfl) ?_ _
  go_wp2
  rw [Exit.noGoto_ret]
  refine ret_act' rfl (g := w.heap.size) (t := 41) (fr := (0, 0)) (x := .int .i64 2) (y := .int .i64 (a + 4 + (2 * p + i) * wd)) (z := .int .u32 v0) rfl rfl rfl (setRow_heap _ _ #[.int .i64 0, .int .i64 0, .int .u32 0] _ _ _ (by repeat (first | (with_reducible exact HAX.out) | (with_reducible apply heap_drewE) | (with_reducible apply heap_grE) | (with_reducible apply heap_alloc')))) ?_
  exact ⟨rfl, HUX.out.then hHeld (fun i hi => .inr (by simp at hi; omega))⟩
set_option maxRecDepth 100000 in
set_option maxHeartbeats 4000000 in
theorem fw_actd1 (h : FG a wd w b 95 s) (hw : 1 ≤ wd ∧ wd ≤ 4) (ha : 0 ≤ a ∧ a < 1000000) (hn : s.n = 3) (hon : s.on = true) (hp : 0 ≤ s.p ∧ s.p ≤ 1) (hi : 0 ≤ s.i ∧ s.i ≤ 1) (hk : (0 : Int) ≤ 1 ∧ 1 < wd) :
    Calls Try.prog 16 #[.pointer (some ⟨b, 0, none⟩)] w fun e w' => e = .returned (.tuple #[.agg #[.int .i64 2, .int .i64 (a + 4 + (2 * s.p + s.i) * wd + 1), .int .u32 s.v1], .bool true]) ∧ Upd [] w w' := by
  obtain ⟨x0, x1, x2, x3, x4, x5, x6, x7, x18⟩ := h.pl
  obtain ⟨x8, x9, x10, x11⟩ := h.vs
  rw [hn] at x5
  rw [hon] at x18
  have lb := heap_lt h.h
  have HC := Lib.hid (fun (w1 : World) (hu : Upd [] w w1) => four_data a wd 1 (h.keep hu (by simp)) hw ha hp hi hk)
  have qk : decide ((1 : Int) < wd) = true := by simp; omega
  generalize s.p = p at *
  generalize s.i = i at *
  generalize s.v0 = v0 at *
  generalize s.v1 = v1 at *
  generalize s.v2 = v2 at *
  generalize s.v3 = v3 at *
  clear h hn hon hw ha hp hi hk
  go_enter Try.func16, Try.ntmps16
  go_wp2
  go_step3
  go_upto_region 8 with (fail)
  have HUX := Lib.hid (show Upd [] w (w.alloc (.cells #[.int .i64 0, .int .i64 0, .int .u32 0] 41)) from (Upd.refl _ _).alloc _)
  have HAX := Lib.hid (heap_alloc_new w (.cells #[.int .i64 0, .int .i64 0, .int .u32 0] 41))
  generalize w.alloc (.cells #[.int .i64 0, .int .i64 0, .int .u32 0] 41) = wx at *
  have lx : b < wx.heap.size := Nat.lt_of_lt_of_le lb HUX.out.size
  have hbn : b ∉ [w.heap.size] := by simp; omega
  have R3 : ∀ w1 : World, Upd [w.heap.size] wx w1 → w1.cell? ⟨b, 3, none⟩ = some (.int .i64 wd) := fun w1 h => (h.cell (p := ⟨b, 3, none⟩) lx hbn).trans ((HUX.out.cell (p := ⟨b, 3, none⟩) lb (by simp)).trans x3)
  have R5 : ∀ w1 : World, Upd [w.heap.size] wx w1 → w1.cell? ⟨b, 5, none⟩ = some (.int .i64 (3)) := fun w1 h => (h.cell (p := ⟨b, 5, none⟩) lx hbn).trans ((HUX.out.cell (p := ⟨b, 5, none⟩) lb (by simp)).trans x5)
  have R9 : ∀ w1 : World, Upd [w.heap.size] wx w1 → w1.cell? ⟨b, 9, none⟩ = some (.int .u32 v1) := fun w1 h => (h.cell (p := ⟨b, 9, none⟩) lx hbn).trans ((HUX.out.cell (p := ⟨b, 9, none⟩) lb (by simp)).trans x9)
  clear x0 x1 x2 x3 x4 x5 x6 x7 x8 x9 x10 x11 x18
  refine wp_region_held_drew (S := fun w1 => Upd [w.heap.size] wx w1) (by kernel_rfl) ?_ (fun hHeld => ?_)
  · exact (Upd.refl _ wx).drew
  apply wpAnyH_take (i := 0) (oi := { dst := some 46, op := Op.move (Operand.tmp 4), type := 96, pos := "four.go:69", after := #[], guard := none }) rfl (by kernel_rfl) (by kernel_rfl) (by kernel_rfl) (fun _ _ _ h => h) (Or.inl ⟨by rfl, ?_⟩) hHeld ?_
  rotate_left 1
  · intro w1 hSw
    (try dsimp only at hSw)
    go_simp
    rfl
  (try simp only [Act.put, List.setIfInBounds_toArray, List.set_cons_zero, List.set_cons_succ])
  apply wpAnyH_take (i := 1) (oi := { dst := some 47, op := Op.move (Operand.tmp 0), type := 37, pos := "four.go:69", after := #[], guard := none }) rfl (by kernel_rfl) (by kernel_rfl) (by kernel_rfl) (fun _ _ _ h => h) (Or.inl ⟨by rfl, ?_⟩) hHeld ?_
  rotate_left 1
  · intro w1 hSw
    (try dsimp only at hSw)
    go_simp
    rfl
  (try simp only [Act.put, List.setIfInBounds_toArray, List.set_cons_zero, List.set_cons_succ])
  apply wpAnyH_take (i := 2) (oi := { dst := some 48, op := Op.nilCheck (Operand.tmp 47), type := 0, pos := "four.go:69", after := #[{ on := 1, ground := Ground.data }], guard := none }) rfl (by kernel_rfl) (by kernel_rfl) (by kernel_rfl) (fun _ _ _ h => h) (Or.inl ⟨by rfl, ?_⟩) hHeld ?_
  rotate_left 1
  · intro w1 hSw
    (try dsimp only at hSw)
    go_simp
    rfl
  (try simp only [Act.put, List.setIfInBounds_toArray, List.set_cons_zero, List.set_cons_succ])
  apply wpAnyH_take (i := 3) (oi := { dst := some 49, op := Op.fieldAddr 95 (Operand.tmp 48) 0, type := 0, pos := "four.go:69", after := #[{ on := 2, ground := Ground.data }], guard := none }) rfl (by kernel_rfl) (by kernel_rfl) (by kernel_rfl) (fun _ _ _ h => h) (Or.inl ⟨by rfl, ?_⟩) hHeld ?_
  rotate_left 1
  · intro w1 hSw
    (try dsimp only at hSw)
    go_simp
    rfl
  (try simp only [Act.put, List.setIfInBounds_toArray, List.set_cons_zero, List.set_cons_succ])
  apply wpAnyH_take (i := 4) (oi := { dst := some 50, op := Op.move (Operand.tmp 5), type := 3, pos := "four.go:69", after := #[], guard := none }) rfl (by kernel_rfl) (by kernel_rfl) (by kernel_rfl) (fun _ _ _ h => h) (Or.inl ⟨by rfl, ?_⟩) hHeld ?_
  rotate_left 1
  · intro w1 hSw
    (try dsimp only at hSw)
    go_simp
    rfl
  (try simp only [Act.put, List.setIfInBounds_toArray, List.set_cons_zero, List.set_cons_succ])
  apply wpAnyH_take (i := 6) (oi := { dst := some 52, op := Op.move (Operand.tmp 0), type := 37, pos := "four.go:69", after := #[], guard := none }) rfl (by kernel_rfl) (by kernel_rfl) (by kernel_rfl) (fun _ _ _ h => h) (Or.inl ⟨by rfl, ?_⟩) hHeld ?_
  rotate_left 1
  · intro w1 hSw
    (try dsimp only at hSw)
    go_simp
    rfl
  (try simp only [Act.put, List.setIfInBounds_toArray, List.set_cons_zero, List.set_cons_succ])
  apply wpAnyH_take (i := 7) (oi := { dst := some 53, op := Op.move (Operand.tmp 5), type := 3, pos := "four.go:69", after := #[], guard := none }) rfl (by kernel_rfl) (by kernel_rfl) (by kernel_rfl) (fun _ _ _ h => h) (Or.inl ⟨by rfl, ?_⟩) hHeld ?_
  rotate_left 1
  · intro w1 hSw
    (try dsimp only at hSw)
    go_simp
    rfl
  (try simp only [Act.put, List.setIfInBounds_toArray, List.set_cons_zero, List.set_cons_succ])
  apply wpAnyH_take (i := 8) (oi := { dst := some 54, op := Op.nilCheck (Operand.tmp 52), type := 0, pos := "four.go:69", after := #[{ on := 6, ground := Ground.data }], guard := none }) rfl (by kernel_rfl) (by kernel_rfl) (by kernel_rfl) (fun _ _ _ h => h) (Or.inl ⟨by rfl, ?_⟩) hHeld ?_
  rotate_left 1
  · intro w1 hSw
    (try dsimp only at hSw)
    go_simp
    rfl
  (try simp only [Act.put, List.setIfInBounds_toArray, List.set_cons_zero, List.set_cons_succ])
  apply wpAnyH_take (i := 9) (oi := { dst := some 55, op := Op.fieldAddr 95 (Operand.tmp 54) 0, type := 0, pos := "four.go:69", after := #[{ on := 8, ground := Ground.data }], guard := none }) rfl (by kernel_rfl) (by kernel_rfl) (by kernel_rfl) (fun _ _ _ h => h) (Or.inl ⟨by rfl, ?_⟩) hHeld ?_
  rotate_left 1
  · intro w1 hSw
    (try dsimp only at hSw)
    go_simp
    rfl
  (try simp only [Act.put, List.setIfInBounds_toArray, List.set_cons_zero, List.set_cons_succ])
  apply wpAnyH_take (i := 10) (oi := { dst := some 56, op := Op.fieldAddr 81 (Operand.tmp 55) 3, type := 0, pos := "four.go:69", after := #[{ on := 9, ground := Ground.data }], guard := none }) rfl (by kernel_rfl) (by kernel_rfl) (by kernel_rfl) (fun _ _ _ h => h) (Or.inl ⟨by rfl, ?_⟩) hHeld ?_
  rotate_left 1
  · intro w1 hSw
    (try dsimp only at hSw)
    go_simp
    rfl
  (try simp only [Act.put, List.setIfInBounds_toArray, List.set_cons_zero, List.set_cons_succ])
  apply wpAnyH_take (i := 11) (oi := { dst := some 57, op := Op.indexAddr 34 (Operand.tmp 56) (Operand.tmp 53), type := 0, pos := "four.go:69", after := #[{ on := 10, ground := Ground.data }, { on := 7, ground := Ground.data }], guard := none }) rfl (by kernel_rfl) (by kernel_rfl) (by kernel_rfl) (fun _ _ _ h => h) (Or.inl ⟨by rfl, ?_⟩) hHeld ?_
  rotate_left 1
  · intro w1 hSw
    (try dsimp only at hSw)
    go_simp
    rfl
  (try simp only [Act.put, List.setIfInBounds_toArray, List.set_cons_zero, List.set_cons_succ])
  apply wpAnyH_take (i := 12) (oi := { dst := some 58, op := Op.load 32 (Operand.tmp 57), type := 32, pos := "four.go:69", after := #[{ on := 11, ground := Ground.data }], guard := none }) rfl (by kernel_rfl) (by kernel_rfl) (by kernel_rfl) (fun _ _ _ h => h) (Or.inl ⟨by rfl, ?_⟩) hHeld ?_
  rotate_left 1
  · intro w1 hSw
    (try dsimp only at hSw)
    go_simp
    rfl
  (try simp only [Act.put, List.setIfInBounds_toArray, List.set_cons_zero, List.set_cons_succ])
  refine wpAnyH_ready (rs := [5]) (by kernel_rfl) (by simp) ?_
  refine AllReadyH.cons (o := { dst := some 51, op := Op.call { callee := Callee.value (Operand.func 30), args := #[Operand.tmp 49, Operand.tmp 50], argTypes := #[81, 3] }, type := 3, pos := "four.go:69", after := #[{ on := 3, ground := Ground.data }, { on := 4, ground := Ground.data }], guard := none }) rfl (fun K hK => ?_) AllReadyH.nil
  go_simp
  (with_reducible refine (HC.out _ (HUX.out.trans (by repeat (first | (with_reducible exact Upd.refl _ _) | (with_reducible apply Upd.drew) | (with_reducible refine Upd.grE ?_ _) | (with_reducible refine Upd.alloc ?_ _))))).mono ?_)
  rintro e w5 ⟨rfl, hu5⟩
  obtain ⟨p5, rfl⟩ := hu5.grown
  clear hu5
  refine hK.out _ _ (by repeat (first | (with_reducible exact Upd.refl _ _) | (with_reducible exact hHeld) | (with_reducible apply Upd.drew) | (with_reducible refine Upd.grE ?_ _) | (with_reducible refine Upd.alloc ?_ _) | (with_reducible refine updR ?_ (.inl (by simp))))) (fun hHeld => ?_)
  clear hK K
  (try simp only [Act.put, List.setIfInBounds_toArray, List.set_cons_zero, List.set_cons_succ])
  refine wpAnyH_ready (rs := [13]) (by kernel_rfl) (by simp) ?_
  refine AllReadyH.cons (o := { dst := some 59, op := Op.call { callee := Callee.value (Operand.tmp 46), args := #[Operand.tmp 51, Operand.tmp 58], argTypes := #[3, 32] }, type := 41, pos := "four.go:69", after := #[{ on := 0, ground := Ground.data }, { on := 5, ground := Ground.data }, { on := 12, ground := Ground.data }, { on := 5, ground := Ground.chain }], guard := none }) rfl (fun K hK => ?_) AllReadyH.nil
  go_simp
  (with_reducible refine (fw_store1 _ _ _).mono ?_)
  rintro e w6 ⟨rfl, hu6⟩
  obtain ⟨p6, rfl⟩ := hu6.grown
  clear hu6
  refine hK.out _ _ (by repeat (first | (with_reducible exact Upd.refl _ _) | (with_reducible exact hHeld) | (with_reducible apply Upd.drew) | (with_reducible refine Upd.grE ?_ _) | (with_reducible refine Upd.alloc ?_ _) | (with_reducible refine updR ?_ (.inl (by simp))))) (fun hHeld => ?_)
  clear hK K
  (try simp only [Act.put, List.setIfInBounds_toArray, List.set_cons_zero, List.set_cons_succ])
  refine wpAnyH_ready (rs := [14]) (by kernel_rfl) (by simp) ?_
  refine AllReadyH.cons (o := { dst := none, op := Op.store 41 (Operand.tmp 2) (Operand.tmp 59), type := 0, pos := "four.go:69", after := #[{ on := 13, ground := Ground.data }, { on := 13, ground := Ground.chain }, { on := 0, ground := Ground.phase }, { on := 1, ground := Ground.phase }, { on := 2, ground := Ground.phase }, { on := 3, ground := Ground.phase }, { on := 4, ground := Ground.phase }, { on := 5, ground := Ground.phase }, { on := 6, ground := Ground.phase }, { on := 7, ground := Ground.phase }, { on := 8, ground := Ground.phase }, { on := 9, ground := Ground.phase }, { on := 10, ground := Ground.phase }, { on := 11, ground := Ground.phase }, { on := 12, ground := Ground.phase }, { on := 13, ground := Ground.phase }], guard := none }) rfl (fun K hK => ?_) AllReadyH.nil
  rw [if_pos (by rfl)]
  refine wp_store_row 41 _ _ rfl w.heap.size #[.int .i64 2, .int .i64 (a + 4 + (2 * p + i) * wd + 1), .int .u32 v1] rfl rfl 41 #[.int .i64 0, .int .i64 0, .int .u32 0] (by repeat (first | (with_reducible exact HAX.out) | (with_reducible apply heap_drewE) | (with_reducible apply heap_grE) | (with_reducible apply heap_alloc'))) (info_act3 _ _ _) rfl (act_one _ _ _) ?_
  refine hK.out _ _ (by repeat (first | (with_reducible exact Upd.refl _ _) | (with_reducible exact hHeld) | (with_reducible apply Upd.drew) | (with_reducible refine Upd.grE ?_ _) | (with_reducible refine Upd.alloc ?_ _) | (with_reducible refine updR ?_ (.inl (by simp))))) (fun hHeld => ?_)
  clear hK K
  (try simp only [Act.put, List.setIfInBounds_toArray, List.set_cons_zero, List.set_cons_succ])
  apply wpAnyH_take (i := 15) (oi := { dst := some 3, op := Op.assign (Operand.const (Value.bool true)), type := 4, pos := "four.go:69", after := #[{ on := 14, ground := Ground.chain }, { on := 0, ground := Ground.phase }, { on := 1, ground := Ground.phase }, { on := 2, ground := Ground.phase }, { on := 3, ground := Ground.phase }, { on := 4, ground := Ground.phase }, { on := 5, ground := Ground.phase }, { on := 6, ground := Ground.phase }, { on := 7, ground := Ground.phase }, { on := 8, ground := Ground.phase }, { on := 9, ground := Ground.phase }, { on := 10, ground := Ground.phase }, { on := 11, ground := Ground.phase }, { on := 12, ground := Ground.phase }, { on := 13, ground := Ground.phase }, { on := 14, ground := Ground.phase }], guard := none }) rfl (by kernel_rfl) (by kernel_rfl) (by kernel_rfl) (fun _ _ _ h => h) (Or.inl ⟨by rfl, ?_⟩) hHeld ?_
  rotate_left 1
  · intro w1 hSw
    (try dsimp only at hSw)
    go_simp
    rfl
  (try simp only [Act.put, List.setIfInBounds_toArray, List.set_cons_zero, List.set_cons_succ])
  refine wpAnyH_done (by kernel_rfl) ?_ _
  go_wp2
  rw [Exit.noGoto_ret]
  refine ret_act' rfl (g := w.heap.size) (t := 41) (fr := (0, 0)) (x := .int .i64 2) (y := .int .i64 (a + 4 + (2 * p + i) * wd + 1)) (z := .int .u32 v1) rfl rfl rfl (setRow_heap _ _ #[.int .i64 0, .int .i64 0, .int .u32 0] _ _ _ (by repeat (first | (with_reducible exact HAX.out) | (with_reducible apply heap_drewE) | (with_reducible apply heap_grE) | (with_reducible apply heap_alloc')))) ?_
  exact ⟨rfl, HUX.out.then hHeld (fun i hi => .inr (by simp at hi; omega))⟩
set_option maxRecDepth 100000 in
set_option maxHeartbeats 4000000 in
theorem fw_actd2 (h : FG a wd w b 95 s) (hw : 1 ≤ wd ∧ wd ≤ 4) (ha : 0 ≤ a ∧ a < 1000000) (hn : s.n = 4) (hon : s.on = true) (hp : 0 ≤ s.p ∧ s.p ≤ 1) (hi : 0 ≤ s.i ∧ s.i ≤ 1) (hk : (0 : Int) ≤ 2 ∧ 2 < wd) :
    Calls Try.prog 16 #[.pointer (some ⟨b, 0, none⟩)] w fun e w' => e = .returned (.tuple #[.agg #[.int .i64 2, .int .i64 (a + 4 + (2 * s.p + s.i) * wd + 2), .int .u32 s.v2], .bool true]) ∧ Upd [] w w' := by
  obtain ⟨x0, x1, x2, x3, x4, x5, x6, x7, x18⟩ := h.pl
  obtain ⟨x8, x9, x10, x11⟩ := h.vs
  rw [hn] at x5
  rw [hon] at x18
  have lb := heap_lt h.h
  have HC := Lib.hid (fun (w1 : World) (hu : Upd [] w w1) => four_data a wd 2 (h.keep hu (by simp)) hw ha hp hi hk)
  have qk : decide ((2 : Int) < wd) = true := by simp; omega
  generalize s.p = p at *
  generalize s.i = i at *
  generalize s.v0 = v0 at *
  generalize s.v1 = v1 at *
  generalize s.v2 = v2 at *
  generalize s.v3 = v3 at *
  clear h hn hon hw ha hp hi hk
  go_enter Try.func16, Try.ntmps16
  go_wp2
  go_step3
  go_upto_region 8 with (fail)
  have HUX := Lib.hid (show Upd [] w (w.alloc (.cells #[.int .i64 0, .int .i64 0, .int .u32 0] 41)) from (Upd.refl _ _).alloc _)
  have HAX := Lib.hid (heap_alloc_new w (.cells #[.int .i64 0, .int .i64 0, .int .u32 0] 41))
  generalize w.alloc (.cells #[.int .i64 0, .int .i64 0, .int .u32 0] 41) = wx at *
  have lx : b < wx.heap.size := Nat.lt_of_lt_of_le lb HUX.out.size
  have hbn : b ∉ [w.heap.size] := by simp; omega
  have R3 : ∀ w1 : World, Upd [w.heap.size] wx w1 → w1.cell? ⟨b, 3, none⟩ = some (.int .i64 wd) := fun w1 h => (h.cell (p := ⟨b, 3, none⟩) lx hbn).trans ((HUX.out.cell (p := ⟨b, 3, none⟩) lb (by simp)).trans x3)
  have R5 : ∀ w1 : World, Upd [w.heap.size] wx w1 → w1.cell? ⟨b, 5, none⟩ = some (.int .i64 (4)) := fun w1 h => (h.cell (p := ⟨b, 5, none⟩) lx hbn).trans ((HUX.out.cell (p := ⟨b, 5, none⟩) lb (by simp)).trans x5)
  have R10 : ∀ w1 : World, Upd [w.heap.size] wx w1 → w1.cell? ⟨b, 10, none⟩ = some (.int .u32 v2) := fun w1 h => (h.cell (p := ⟨b, 10, none⟩) lx hbn).trans ((HUX.out.cell (p := ⟨b, 10, none⟩) lb (by simp)).trans x10)
  clear x0 x1 x2 x3 x4 x5 x6 x7 x8 x9 x10 x11 x18
  refine wp_region_held_drew (S := fun w1 => Upd [w.heap.size] wx w1) (by kernel_rfl) ?_ (fun hHeld => ?_)
  · exact (Upd.refl _ wx).drew
  apply wpAnyH_take (i := 0) (oi := { dst := some 46, op := Op.move (Operand.tmp 4), type := 96, pos := "four.go:69", after := #[], guard := none }) rfl (by kernel_rfl) (by kernel_rfl) (by kernel_rfl) (fun _ _ _ h => h) (Or.inl ⟨by rfl, ?_⟩) hHeld ?_
  rotate_left 1
  · intro w1 hSw
    (try dsimp only at hSw)
    go_simp
    rfl
  (try simp only [Act.put, List.setIfInBounds_toArray, List.set_cons_zero, List.set_cons_succ])
  apply wpAnyH_take (i := 1) (oi := { dst := some 47, op := Op.move (Operand.tmp 0), type := 37, pos := "four.go:69", after := #[], guard := none }) rfl (by kernel_rfl) (by kernel_rfl) (by kernel_rfl) (fun _ _ _ h => h) (Or.inl ⟨by rfl, ?_⟩) hHeld ?_
  rotate_left 1
  · intro w1 hSw
    (try dsimp only at hSw)
    go_simp
    rfl
  (try simp only [Act.put, List.setIfInBounds_toArray, List.set_cons_zero, List.set_cons_succ])
  apply wpAnyH_take (i := 2) (oi := { dst := some 48, op := Op.nilCheck (Operand.tmp 47), type := 0, pos := "four.go:69", after := #[{ on := 1, ground := Ground.data }], guard := none }) rfl (by kernel_rfl) (by kernel_rfl) (by kernel_rfl) (fun _ _ _ h => h) (Or.inl ⟨by rfl, ?_⟩) hHeld ?_
  rotate_left 1
  · intro w1 hSw
    (try dsimp only at hSw)
    go_simp
    rfl
  (try simp only [Act.put, List.setIfInBounds_toArray, List.set_cons_zero, List.set_cons_succ])
  apply wpAnyH_take (i := 3) (oi := { dst := some 49, op := Op.fieldAddr 95 (Operand.tmp 48) 0, type := 0, pos := "four.go:69", after := #[{ on := 2, ground := Ground.data }], guard := none }) rfl (by kernel_rfl) (by kernel_rfl) (by kernel_rfl) (fun _ _ _ h => h) (Or.inl ⟨by rfl, ?_⟩) hHeld ?_
  rotate_left 1
  · intro w1 hSw
    (try dsimp only at hSw)
    go_simp
    rfl
  (try simp only [Act.put, List.setIfInBounds_toArray, List.set_cons_zero, List.set_cons_succ])
  apply wpAnyH_take (i := 4) (oi := { dst := some 50, op := Op.move (Operand.tmp 5), type := 3, pos := "four.go:69", after := #[], guard := none }) rfl (by kernel_rfl) (by kernel_rfl) (by kernel_rfl) (fun _ _ _ h => h) (Or.inl ⟨by rfl, ?_⟩) hHeld ?_
  rotate_left 1
  · intro w1 hSw
    (try dsimp only at hSw)
    go_simp
    rfl
  (try simp only [Act.put, List.setIfInBounds_toArray, List.set_cons_zero, List.set_cons_succ])
  apply wpAnyH_take (i := 6) (oi := { dst := some 52, op := Op.move (Operand.tmp 0), type := 37, pos := "four.go:69", after := #[], guard := none }) rfl (by kernel_rfl) (by kernel_rfl) (by kernel_rfl) (fun _ _ _ h => h) (Or.inl ⟨by rfl, ?_⟩) hHeld ?_
  rotate_left 1
  · intro w1 hSw
    (try dsimp only at hSw)
    go_simp
    rfl
  (try simp only [Act.put, List.setIfInBounds_toArray, List.set_cons_zero, List.set_cons_succ])
  apply wpAnyH_take (i := 7) (oi := { dst := some 53, op := Op.move (Operand.tmp 5), type := 3, pos := "four.go:69", after := #[], guard := none }) rfl (by kernel_rfl) (by kernel_rfl) (by kernel_rfl) (fun _ _ _ h => h) (Or.inl ⟨by rfl, ?_⟩) hHeld ?_
  rotate_left 1
  · intro w1 hSw
    (try dsimp only at hSw)
    go_simp
    rfl
  (try simp only [Act.put, List.setIfInBounds_toArray, List.set_cons_zero, List.set_cons_succ])
  apply wpAnyH_take (i := 8) (oi := { dst := some 54, op := Op.nilCheck (Operand.tmp 52), type := 0, pos := "four.go:69", after := #[{ on := 6, ground := Ground.data }], guard := none }) rfl (by kernel_rfl) (by kernel_rfl) (by kernel_rfl) (fun _ _ _ h => h) (Or.inl ⟨by rfl, ?_⟩) hHeld ?_
  rotate_left 1
  · intro w1 hSw
    (try dsimp only at hSw)
    go_simp
    rfl
  (try simp only [Act.put, List.setIfInBounds_toArray, List.set_cons_zero, List.set_cons_succ])
  apply wpAnyH_take (i := 9) (oi := { dst := some 55, op := Op.fieldAddr 95 (Operand.tmp 54) 0, type := 0, pos := "four.go:69", after := #[{ on := 8, ground := Ground.data }], guard := none }) rfl (by kernel_rfl) (by kernel_rfl) (by kernel_rfl) (fun _ _ _ h => h) (Or.inl ⟨by rfl, ?_⟩) hHeld ?_
  rotate_left 1
  · intro w1 hSw
    (try dsimp only at hSw)
    go_simp
    rfl
  (try simp only [Act.put, List.setIfInBounds_toArray, List.set_cons_zero, List.set_cons_succ])
  apply wpAnyH_take (i := 10) (oi := { dst := some 56, op := Op.fieldAddr 81 (Operand.tmp 55) 3, type := 0, pos := "four.go:69", after := #[{ on := 9, ground := Ground.data }], guard := none }) rfl (by kernel_rfl) (by kernel_rfl) (by kernel_rfl) (fun _ _ _ h => h) (Or.inl ⟨by rfl, ?_⟩) hHeld ?_
  rotate_left 1
  · intro w1 hSw
    (try dsimp only at hSw)
    go_simp
    rfl
  (try simp only [Act.put, List.setIfInBounds_toArray, List.set_cons_zero, List.set_cons_succ])
  apply wpAnyH_take (i := 11) (oi := { dst := some 57, op := Op.indexAddr 34 (Operand.tmp 56) (Operand.tmp 53), type := 0, pos := "four.go:69", after := #[{ on := 10, ground := Ground.data }, { on := 7, ground := Ground.data }], guard := none }) rfl (by kernel_rfl) (by kernel_rfl) (by kernel_rfl) (fun _ _ _ h => h) (Or.inl ⟨by rfl, ?_⟩) hHeld ?_
  rotate_left 1
  · intro w1 hSw
    (try dsimp only at hSw)
    go_simp
    rfl
  (try simp only [Act.put, List.setIfInBounds_toArray, List.set_cons_zero, List.set_cons_succ])
  apply wpAnyH_take (i := 12) (oi := { dst := some 58, op := Op.load 32 (Operand.tmp 57), type := 32, pos := "four.go:69", after := #[{ on := 11, ground := Ground.data }], guard := none }) rfl (by kernel_rfl) (by kernel_rfl) (by kernel_rfl) (fun _ _ _ h => h) (Or.inl ⟨by rfl, ?_⟩) hHeld ?_
  rotate_left 1
  · intro w1 hSw
    (try dsimp only at hSw)
    go_simp
    rfl
  (try simp only [Act.put, List.setIfInBounds_toArray, List.set_cons_zero, List.set_cons_succ])
  refine wpAnyH_ready (rs := [5]) (by kernel_rfl) (by simp) ?_
  refine AllReadyH.cons (o := { dst := some 51, op := Op.call { callee := Callee.value (Operand.func 30), args := #[Operand.tmp 49, Operand.tmp 50], argTypes := #[81, 3] }, type := 3, pos := "four.go:69", after := #[{ on := 3, ground := Ground.data }, { on := 4, ground := Ground.data }], guard := none }) rfl (fun K hK => ?_) AllReadyH.nil
  go_simp
  (with_reducible refine (HC.out _ (HUX.out.trans (by repeat (first | (with_reducible exact Upd.refl _ _) | (with_reducible apply Upd.drew) | (with_reducible refine Upd.grE ?_ _) | (with_reducible refine Upd.alloc ?_ _))))).mono ?_)
  rintro e w5 ⟨rfl, hu5⟩
  obtain ⟨p5, rfl⟩ := hu5.grown
  clear hu5
  refine hK.out _ _ (by repeat (first | (with_reducible exact Upd.refl _ _) | (with_reducible exact hHeld) | (with_reducible apply Upd.drew) | (with_reducible refine Upd.grE ?_ _) | (with_reducible refine Upd.alloc ?_ _) | (with_reducible refine updR ?_ (.inl (by simp))))) (fun hHeld => ?_)
  clear hK K
  (try simp only [Act.put, List.setIfInBounds_toArray, List.set_cons_zero, List.set_cons_succ])
  refine wpAnyH_ready (rs := [13]) (by kernel_rfl) (by simp) ?_
  refine AllReadyH.cons (o := { dst := some 59, op := Op.call { callee := Callee.value (Operand.tmp 46), args := #[Operand.tmp 51, Operand.tmp 58], argTypes := #[3, 32] }, type := 41, pos := "four.go:69", after := #[{ on := 0, ground := Ground.data }, { on := 5, ground := Ground.data }, { on := 12, ground := Ground.data }, { on := 5, ground := Ground.chain }], guard := none }) rfl (fun K hK => ?_) AllReadyH.nil
  go_simp
  (with_reducible refine (fw_store1 _ _ _).mono ?_)
  rintro e w6 ⟨rfl, hu6⟩
  obtain ⟨p6, rfl⟩ := hu6.grown
  clear hu6
  refine hK.out _ _ (by repeat (first | (with_reducible exact Upd.refl _ _) | (with_reducible exact hHeld) | (with_reducible apply Upd.drew) | (with_reducible refine Upd.grE ?_ _) | (with_reducible refine Upd.alloc ?_ _) | (with_reducible refine updR ?_ (.inl (by simp))))) (fun hHeld => ?_)
  clear hK K
  (try simp only [Act.put, List.setIfInBounds_toArray, List.set_cons_zero, List.set_cons_succ])
  refine wpAnyH_ready (rs := [14]) (by kernel_rfl) (by simp) ?_
  refine AllReadyH.cons (o := { dst := none, op := Op.store 41 (Operand.tmp 2) (Operand.tmp 59), type := 0, pos := "four.go:69", after := #[{ on := 13, ground := Ground.data }, { on := 13, ground := Ground.chain }, { on := 0, ground := Ground.phase }, { on := 1, ground := Ground.phase }, { on := 2, ground := Ground.phase }, { on := 3, ground := Ground.phase }, { on := 4, ground := Ground.phase }, { on := 5, ground := Ground.phase }, { on := 6, ground := Ground.phase }, { on := 7, ground := Ground.phase }, { on := 8, ground := Ground.phase }, { on := 9, ground := Ground.phase }, { on := 10, ground := Ground.phase }, { on := 11, ground := Ground.phase }, { on := 12, ground := Ground.phase }, { on := 13, ground := Ground.phase }], guard := none }) rfl (fun K hK => ?_) AllReadyH.nil
  rw [if_pos (by rfl)]
  refine wp_store_row 41 _ _ rfl w.heap.size #[.int .i64 2, .int .i64 (a + 4 + (2 * p + i) * wd + 2), .int .u32 v2] rfl rfl 41 #[.int .i64 0, .int .i64 0, .int .u32 0] (by repeat (first | (with_reducible exact HAX.out) | (with_reducible apply heap_drewE) | (with_reducible apply heap_grE) | (with_reducible apply heap_alloc'))) (info_act3 _ _ _) rfl (act_one _ _ _) ?_
  refine hK.out _ _ (by repeat (first | (with_reducible exact Upd.refl _ _) | (with_reducible exact hHeld) | (with_reducible apply Upd.drew) | (with_reducible refine Upd.grE ?_ _) | (with_reducible refine Upd.alloc ?_ _) | (with_reducible refine updR ?_ (.inl (by simp))))) (fun hHeld => ?_)
  clear hK K
  (try simp only [Act.put, List.setIfInBounds_toArray, List.set_cons_zero, List.set_cons_succ])
  apply wpAnyH_take (i := 15) (oi := { dst := some 3, op := Op.assign (Operand.const (Value.bool true)), type := 4, pos := "four.go:69", after := #[{ on := 14, ground := Ground.chain }, { on := 0, ground := Ground.phase }, { on := 1, ground := Ground.phase }, { on := 2, ground := Ground.phase }, { on := 3, ground := Ground.phase }, { on := 4, ground := Ground.phase }, { on := 5, ground := Ground.phase }, { on := 6, ground := Ground.phase }, { on := 7, ground := Ground.phase }, { on := 8, ground := Ground.phase }, { on := 9, ground := Ground.phase }, { on := 10, ground := Ground.phase }, { on := 11, ground := Ground.phase }, { on := 12, ground := Ground.phase }, { on := 13, ground := Ground.phase }, { on := 14, ground := Ground.phase }], guard := none }) rfl (by kernel_rfl) (by kernel_rfl) (by kernel_rfl) (fun _ _ _ h => h) (Or.inl ⟨by rfl, ?_⟩) hHeld ?_
  rotate_left 1
  · intro w1 hSw
    (try dsimp only at hSw)
    go_simp
    rfl
  (try simp only [Act.put, List.setIfInBounds_toArray, List.set_cons_zero, List.set_cons_succ])
  refine wpAnyH_done (by kernel_rfl) ?_ _
  go_wp2
  rw [Exit.noGoto_ret]
  refine ret_act' rfl (g := w.heap.size) (t := 41) (fr := (0, 0)) (x := .int .i64 2) (y := .int .i64 (a + 4 + (2 * p + i) * wd + 2)) (z := .int .u32 v2) rfl rfl rfl (setRow_heap _ _ #[.int .i64 0, .int .i64 0, .int .u32 0] _ _ _ (by repeat (first | (with_reducible exact HAX.out) | (with_reducible apply heap_drewE) | (with_reducible apply heap_grE) | (with_reducible apply heap_alloc')))) ?_
  exact ⟨rfl, HUX.out.then hHeld (fun i hi => .inr (by simp at hi; omega))⟩
set_option maxRecDepth 100000 in
set_option maxHeartbeats 4000000 in
theorem fw_actd3 (h : FG a wd w b 95 s) (hw : 1 ≤ wd ∧ wd ≤ 4) (ha : 0 ≤ a ∧ a < 1000000) (hn : s.n = 5) (hon : s.on = true) (hp : 0 ≤ s.p ∧ s.p ≤ 1) (hi : 0 ≤ s.i ∧ s.i ≤ 1) (hk : (0 : Int) ≤ 3 ∧ 3 < wd) :
    Calls Try.prog 16 #[.pointer (some ⟨b, 0, none⟩)] w fun e w' => e = .returned (.tuple #[.agg #[.int .i64 2, .int .i64 (a + 4 + (2 * s.p + s.i) * wd + 3), .int .u32 s.v3], .bool true]) ∧ Upd [] w w' := by
  obtain ⟨x0, x1, x2, x3, x4, x5, x6, x7, x18⟩ := h.pl
  obtain ⟨x8, x9, x10, x11⟩ := h.vs
  rw [hn] at x5
  rw [hon] at x18
  have lb := heap_lt h.h
  have HC := Lib.hid (fun (w1 : World) (hu : Upd [] w w1) => four_data a wd 3 (h.keep hu (by simp)) hw ha hp hi hk)
  have qk : decide ((3 : Int) < wd) = true := by simp; omega
  generalize s.p = p at *
  generalize s.i = i at *
  generalize s.v0 = v0 at *
  generalize s.v1 = v1 at *
  generalize s.v2 = v2 at *
  generalize s.v3 = v3 at *
  clear h hn hon hw ha hp hi hk
  go_enter Try.func16, Try.ntmps16
  go_wp2
  go_step3
  go_upto_region 8 with (fail)
  have HUX := Lib.hid (show Upd [] w (w.alloc (.cells #[.int .i64 0, .int .i64 0, .int .u32 0] 41)) from (Upd.refl _ _).alloc _)
  have HAX := Lib.hid (heap_alloc_new w (.cells #[.int .i64 0, .int .i64 0, .int .u32 0] 41))
  generalize w.alloc (.cells #[.int .i64 0, .int .i64 0, .int .u32 0] 41) = wx at *
  have lx : b < wx.heap.size := Nat.lt_of_lt_of_le lb HUX.out.size
  have hbn : b ∉ [w.heap.size] := by simp; omega
  have R3 : ∀ w1 : World, Upd [w.heap.size] wx w1 → w1.cell? ⟨b, 3, none⟩ = some (.int .i64 wd) := fun w1 h => (h.cell (p := ⟨b, 3, none⟩) lx hbn).trans ((HUX.out.cell (p := ⟨b, 3, none⟩) lb (by simp)).trans x3)
  have R5 : ∀ w1 : World, Upd [w.heap.size] wx w1 → w1.cell? ⟨b, 5, none⟩ = some (.int .i64 (5)) := fun w1 h => (h.cell (p := ⟨b, 5, none⟩) lx hbn).trans ((HUX.out.cell (p := ⟨b, 5, none⟩) lb (by simp)).trans x5)
  have R11 : ∀ w1 : World, Upd [w.heap.size] wx w1 → w1.cell? ⟨b, 11, none⟩ = some (.int .u32 v3) := fun w1 h => (h.cell (p := ⟨b, 11, none⟩) lx hbn).trans ((HUX.out.cell (p := ⟨b, 11, none⟩) lb (by simp)).trans x11)
  clear x0 x1 x2 x3 x4 x5 x6 x7 x8 x9 x10 x11 x18
  refine wp_region_held_drew (S := fun w1 => Upd [w.heap.size] wx w1) (by kernel_rfl) ?_ (fun hHeld => ?_)
  · exact (Upd.refl _ wx).drew
  apply wpAnyH_take (i := 0) (oi := { dst := some 46, op := Op.move (Operand.tmp 4), type := 96, pos := "four.go:69", after := #[], guard := none }) rfl (by kernel_rfl) (by kernel_rfl) (by kernel_rfl) (fun _ _ _ h => h) (Or.inl ⟨by rfl, ?_⟩) hHeld ?_
  rotate_left 1
  · intro w1 hSw
    (try dsimp only at hSw)
    go_simp
    rfl
  (try simp only [Act.put, List.setIfInBounds_toArray, List.set_cons_zero, List.set_cons_succ])
  apply wpAnyH_take (i := 1) (oi := { dst := some 47, op := Op.move (Operand.tmp 0), type := 37, pos := "four.go:69", after := #[], guard := none }) rfl (by kernel_rfl) (by kernel_rfl) (by kernel_rfl) (fun _ _ _ h => h) (Or.inl ⟨by rfl, ?_⟩) hHeld ?_
  rotate_left 1
  · intro w1 hSw
    (try dsimp only at hSw)
    go_simp
    rfl
  (try simp only [Act.put, List.setIfInBounds_toArray, List.set_cons_zero, List.set_cons_succ])
  apply wpAnyH_take (i := 2) (oi := { dst := some 48, op := Op.nilCheck (Operand.tmp 47), type := 0, pos := "four.go:69", after := #[{ on := 1, ground := Ground.data }], guard := none }) rfl (by kernel_rfl) (by kernel_rfl) (by kernel_rfl) (fun _ _ _ h => h) (Or.inl ⟨by rfl, ?_⟩) hHeld ?_
  rotate_left 1
  · intro w1 hSw
    (try dsimp only at hSw)
    go_simp
    rfl
  (try simp only [Act.put, List.setIfInBounds_toArray, List.set_cons_zero, List.set_cons_succ])
  apply wpAnyH_take (i := 3) (oi := { dst := some 49, op := Op.fieldAddr 95 (Operand.tmp 48) 0, type := 0, pos := "four.go:69", after := #[{ on := 2, ground := Ground.data }], guard := none }) rfl (by kernel_rfl) (by kernel_rfl) (by kernel_rfl) (fun _ _ _ h => h) (Or.inl ⟨by rfl, ?_⟩) hHeld ?_
  rotate_left 1
  · intro w1 hSw
    (try dsimp only at hSw)
    go_simp
    rfl
  (try simp only [Act.put, List.setIfInBounds_toArray, List.set_cons_zero, List.set_cons_succ])
  apply wpAnyH_take (i := 4) (oi := { dst := some 50, op := Op.move (Operand.tmp 5), type := 3, pos := "four.go:69", after := #[], guard := none }) rfl (by kernel_rfl) (by kernel_rfl) (by kernel_rfl) (fun _ _ _ h => h) (Or.inl ⟨by rfl, ?_⟩) hHeld ?_
  rotate_left 1
  · intro w1 hSw
    (try dsimp only at hSw)
    go_simp
    rfl
  (try simp only [Act.put, List.setIfInBounds_toArray, List.set_cons_zero, List.set_cons_succ])
  apply wpAnyH_take (i := 6) (oi := { dst := some 52, op := Op.move (Operand.tmp 0), type := 37, pos := "four.go:69", after := #[], guard := none }) rfl (by kernel_rfl) (by kernel_rfl) (by kernel_rfl) (fun _ _ _ h => h) (Or.inl ⟨by rfl, ?_⟩) hHeld ?_
  rotate_left 1
  · intro w1 hSw
    (try dsimp only at hSw)
    go_simp
    rfl
  (try simp only [Act.put, List.setIfInBounds_toArray, List.set_cons_zero, List.set_cons_succ])
  apply wpAnyH_take (i := 7) (oi := { dst := some 53, op := Op.move (Operand.tmp 5), type := 3, pos := "four.go:69", after := #[], guard := none }) rfl (by kernel_rfl) (by kernel_rfl) (by kernel_rfl) (fun _ _ _ h => h) (Or.inl ⟨by rfl, ?_⟩) hHeld ?_
  rotate_left 1
  · intro w1 hSw
    (try dsimp only at hSw)
    go_simp
    rfl
  (try simp only [Act.put, List.setIfInBounds_toArray, List.set_cons_zero, List.set_cons_succ])
  apply wpAnyH_take (i := 8) (oi := { dst := some 54, op := Op.nilCheck (Operand.tmp 52), type := 0, pos := "four.go:69", after := #[{ on := 6, ground := Ground.data }], guard := none }) rfl (by kernel_rfl) (by kernel_rfl) (by kernel_rfl) (fun _ _ _ h => h) (Or.inl ⟨by rfl, ?_⟩) hHeld ?_
  rotate_left 1
  · intro w1 hSw
    (try dsimp only at hSw)
    go_simp
    rfl
  (try simp only [Act.put, List.setIfInBounds_toArray, List.set_cons_zero, List.set_cons_succ])
  apply wpAnyH_take (i := 9) (oi := { dst := some 55, op := Op.fieldAddr 95 (Operand.tmp 54) 0, type := 0, pos := "four.go:69", after := #[{ on := 8, ground := Ground.data }], guard := none }) rfl (by kernel_rfl) (by kernel_rfl) (by kernel_rfl) (fun _ _ _ h => h) (Or.inl ⟨by rfl, ?_⟩) hHeld ?_
  rotate_left 1
  · intro w1 hSw
    (try dsimp only at hSw)
    go_simp
    rfl
  (try simp only [Act.put, List.setIfInBounds_toArray, List.set_cons_zero, List.set_cons_succ])
  apply wpAnyH_take (i := 10) (oi := { dst := some 56, op := Op.fieldAddr 81 (Operand.tmp 55) 3, type := 0, pos := "four.go:69", after := #[{ on := 9, ground := Ground.data }], guard := none }) rfl (by kernel_rfl) (by kernel_rfl) (by kernel_rfl) (fun _ _ _ h => h) (Or.inl ⟨by rfl, ?_⟩) hHeld ?_
  rotate_left 1
  · intro w1 hSw
    (try dsimp only at hSw)
    go_simp
    rfl
  (try simp only [Act.put, List.setIfInBounds_toArray, List.set_cons_zero, List.set_cons_succ])
  apply wpAnyH_take (i := 11) (oi := { dst := some 57, op := Op.indexAddr 34 (Operand.tmp 56) (Operand.tmp 53), type := 0, pos := "four.go:69", after := #[{ on := 10, ground := Ground.data }, { on := 7, ground := Ground.data }], guard := none }) rfl (by kernel_rfl) (by kernel_rfl) (by kernel_rfl) (fun _ _ _ h => h) (Or.inl ⟨by rfl, ?_⟩) hHeld ?_
  rotate_left 1
  · intro w1 hSw
    (try dsimp only at hSw)
    go_simp
    rfl
  (try simp only [Act.put, List.setIfInBounds_toArray, List.set_cons_zero, List.set_cons_succ])
  apply wpAnyH_take (i := 12) (oi := { dst := some 58, op := Op.load 32 (Operand.tmp 57), type := 32, pos := "four.go:69", after := #[{ on := 11, ground := Ground.data }], guard := none }) rfl (by kernel_rfl) (by kernel_rfl) (by kernel_rfl) (fun _ _ _ h => h) (Or.inl ⟨by rfl, ?_⟩) hHeld ?_
  rotate_left 1
  · intro w1 hSw
    (try dsimp only at hSw)
    go_simp
    rfl
  (try simp only [Act.put, List.setIfInBounds_toArray, List.set_cons_zero, List.set_cons_succ])
  refine wpAnyH_ready (rs := [5]) (by kernel_rfl) (by simp) ?_
  refine AllReadyH.cons (o := { dst := some 51, op := Op.call { callee := Callee.value (Operand.func 30), args := #[Operand.tmp 49, Operand.tmp 50], argTypes := #[81, 3] }, type := 3, pos := "four.go:69", after := #[{ on := 3, ground := Ground.data }, { on := 4, ground := Ground.data }], guard := none }) rfl (fun K hK => ?_) AllReadyH.nil
  go_simp
  (with_reducible refine (HC.out _ (HUX.out.trans (by repeat (first | (with_reducible exact Upd.refl _ _) | (with_reducible apply Upd.drew) | (with_reducible refine Upd.grE ?_ _) | (with_reducible refine Upd.alloc ?_ _))))).mono ?_)
  rintro e w5 ⟨rfl, hu5⟩
  obtain ⟨p5, rfl⟩ := hu5.grown
  clear hu5
  refine hK.out _ _ (by repeat (first | (with_reducible exact Upd.refl _ _) | (with_reducible exact hHeld) | (with_reducible apply Upd.drew) | (with_reducible refine Upd.grE ?_ _) | (with_reducible refine Upd.alloc ?_ _) | (with_reducible refine updR ?_ (.inl (by simp))))) (fun hHeld => ?_)
  clear hK K
  (try simp only [Act.put, List.setIfInBounds_toArray, List.set_cons_zero, List.set_cons_succ])
  refine wpAnyH_ready (rs := [13]) (by kernel_rfl) (by simp) ?_
  refine AllReadyH.cons (o := { dst := some 59, op := Op.call { callee := Callee.value (Operand.tmp 46), args := #[Operand.tmp 51, Operand.tmp 58], argTypes := #[3, 32] }, type := 41, pos := "four.go:69", after := #[{ on := 0, ground := Ground.data }, { on := 5, ground := Ground.data }, { on := 12, ground := Ground.data }, { on := 5, ground := Ground.chain }], guard := none }) rfl (fun K hK => ?_) AllReadyH.nil
  go_simp
  (with_reducible refine (fw_store1 _ _ _).mono ?_)
  rintro e w6 ⟨rfl, hu6⟩
  obtain ⟨p6, rfl⟩ := hu6.grown
  clear hu6
  refine hK.out _ _ (by repeat (first | (with_reducible exact Upd.refl _ _) | (with_reducible exact hHeld) | (with_reducible apply Upd.drew) | (with_reducible refine Upd.grE ?_ _) | (with_reducible refine Upd.alloc ?_ _) | (with_reducible refine updR ?_ (.inl (by simp))))) (fun hHeld => ?_)
  clear hK K
  (try simp only [Act.put, List.setIfInBounds_toArray, List.set_cons_zero, List.set_cons_succ])
  refine wpAnyH_ready (rs := [14]) (by kernel_rfl) (by simp) ?_
  refine AllReadyH.cons (o := { dst := none, op := Op.store 41 (Operand.tmp 2) (Operand.tmp 59), type := 0, pos := "four.go:69", after := #[{ on := 13, ground := Ground.data }, { on := 13, ground := Ground.chain }, { on := 0, ground := Ground.phase }, { on := 1, ground := Ground.phase }, { on := 2, ground := Ground.phase }, { on := 3, ground := Ground.phase }, { on := 4, ground := Ground.phase }, { on := 5, ground := Ground.phase }, { on := 6, ground := Ground.phase }, { on := 7, ground := Ground.phase }, { on := 8, ground := Ground.phase }, { on := 9, ground := Ground.phase }, { on := 10, ground := Ground.phase }, { on := 11, ground := Ground.phase }, { on := 12, ground := Ground.phase }, { on := 13, ground := Ground.phase }], guard := none }) rfl (fun K hK => ?_) AllReadyH.nil
  rw [if_pos (by rfl)]
  refine wp_store_row 41 _ _ rfl w.heap.size #[.int .i64 2, .int .i64 (a + 4 + (2 * p + i) * wd + 3), .int .u32 v3] rfl rfl 41 #[.int .i64 0, .int .i64 0, .int .u32 0] (by repeat (first | (with_reducible exact HAX.out) | (with_reducible apply heap_drewE) | (with_reducible apply heap_grE) | (with_reducible apply heap_alloc'))) (info_act3 _ _ _) rfl (act_one _ _ _) ?_
  refine hK.out _ _ (by repeat (first | (with_reducible exact Upd.refl _ _) | (with_reducible exact hHeld) | (with_reducible apply Upd.drew) | (with_reducible refine Upd.grE ?_ _) | (with_reducible refine Upd.alloc ?_ _) | (with_reducible refine updR ?_ (.inl (by simp))))) (fun hHeld => ?_)
  clear hK K
  (try simp only [Act.put, List.setIfInBounds_toArray, List.set_cons_zero, List.set_cons_succ])
  apply wpAnyH_take (i := 15) (oi := { dst := some 3, op := Op.assign (Operand.const (Value.bool true)), type := 4, pos := "four.go:69", after := #[{ on := 14, ground := Ground.chain }, { on := 0, ground := Ground.phase }, { on := 1, ground := Ground.phase }, { on := 2, ground := Ground.phase }, { on := 3, ground := Ground.phase }, { on := 4, ground := Ground.phase }, { on := 5, ground := Ground.phase }, { on := 6, ground := Ground.phase }, { on := 7, ground := Ground.phase }, { on := 8, ground := Ground.phase }, { on := 9, ground := Ground.phase }, { on := 10, ground := Ground.phase }, { on := 11, ground := Ground.phase }, { on := 12, ground := Ground.phase }, { on := 13, ground := Ground.phase }, { on := 14, ground := Ground.phase }], guard := none }) rfl (by kernel_rfl) (by kernel_rfl) (by kernel_rfl) (fun _ _ _ h => h) (Or.inl ⟨by rfl, ?_⟩) hHeld ?_
  rotate_left 1
  · intro w1 hSw
    (try dsimp only at hSw)
    go_simp
    rfl
  (try simp only [Act.put, List.setIfInBounds_toArray, List.set_cons_zero, List.set_cons_succ])
  refine wpAnyH_done (by kernel_rfl) ?_ _
  go_wp2
  rw [Exit.noGoto_ret]
  refine ret_act' rfl (g := w.heap.size) (t := 41) (fr := (0, 0)) (x := .int .i64 2) (y := .int .i64 (a + 4 + (2 * p + i) * wd + 3)) (z := .int .u32 v3) rfl rfl rfl (setRow_heap _ _ #[.int .i64 0, .int .i64 0, .int .u32 0] _ _ _ (by repeat (first | (with_reducible exact HAX.out) | (with_reducible apply heap_drewE) | (with_reducible apply heap_grE) | (with_reducible apply heap_alloc')))) ?_
  exact ⟨rfl, HUX.out.then hHeld (fun i hi => .inr (by simp at hi; omega))⟩
set_option maxRecDepth 100000 in
set_option maxHeartbeats 4000000 in
theorem fw_acts (h : FG a wd w b 95 s) (hw : 1 ≤ wd ∧ wd ≤ 4) (ha : 0 ≤ a ∧ a < 1000000) (hn : s.n = wd + 2) (hon : s.on = true) (hp : 0 ≤ s.p ∧ s.p ≤ 1) (hi : 0 ≤ s.i ∧ s.i ≤ 1) :
    Calls Try.prog 16 #[.pointer (some ⟨b, 0, none⟩)] w fun e w' => e = .returned (.tuple #[.agg #[.int .i64 2, .int .i64 (a + 2 + s.p), .int .u32 s.i], .bool true]) ∧ Upd [] w w' := by
  obtain ⟨x0, x1, x2, x3, x4, x5, x6, x7, x18⟩ := h.pl
  obtain ⟨x8, x9, x10, x11⟩ := h.vs
  rw [hn] at x5
  rw [hon] at x18
  have lb := heap_lt h.h
  have HC := Lib.hid (fun (w1 : World) (hu : Upd [] w w1) => four_cell a wd 6 s.p (a + 2 + s.p) (h.keep hu (by simp)) (fun w => c4_slot a wd w s.p hw ha hp))
  have q1 : (wd + 2 == 0) = false := by simp; omega
  have q2 : (wd + 2 == 1) = false := by simp; omega
  have q3 : wrap64 wd = wd := by unfold wrap64; omega
  have q4 : IntKind.u32.wrap s.i = s.i := by rw [IntKind.wrap_u32]; omega
  generalize s.p = p at *
  generalize s.i = i at *
  generalize s.v0 = v0 at *
  generalize s.v1 = v1 at *
  generalize s.v2 = v2 at *
  generalize s.v3 = v3 at *
  clear h hn hon hw ha hp hi
  go_enter Try.func16, Try.ntmps16
  go_wp2
  go_step3
  go_upto_region 10 with (fail)
  have HUX := Lib.hid (show Upd [] w (w.alloc (.cells #[.int .i64 0, .int .i64 0, .int .u32 0] 41)) from (Upd.refl _ _).alloc _)
  have HAX := Lib.hid (heap_alloc_new w (.cells #[.int .i64 0, .int .i64 0, .int .u32 0] 41))
  generalize w.alloc (.cells #[.int .i64 0, .int .i64 0, .int .u32 0] 41) = wx at *
  have lx : b < wx.heap.size := Nat.lt_of_lt_of_le lb HUX.out.size
  have hbn : b ∉ [w.heap.size] := by simp; omega
  have R6 : ∀ w1 : World, Upd [w.heap.size] wx w1 → w1.cell? ⟨b, 6, none⟩ = some (.int .i64 p) := fun w1 h => (h.cell (p := ⟨b, 6, none⟩) lx hbn).trans ((HUX.out.cell (p := ⟨b, 6, none⟩) lb (by simp)).trans x6)
  have R7 : ∀ w1 : World, Upd [w.heap.size] wx w1 → w1.cell? ⟨b, 7, none⟩ = some (.int .i64 i) := fun w1 h => (h.cell (p := ⟨b, 7, none⟩) lx hbn).trans ((HUX.out.cell (p := ⟨b, 7, none⟩) lb (by simp)).trans x7)
  clear x0 x1 x2 x3 x4 x5 x6 x7 x8 x9 x10 x11 x18
  refine wp_region_held_drew (S := fun w1 => Upd [w.heap.size] wx w1) (by kernel_rfl) ?_ (fun hHeld => ?_)
  · exact (Upd.refl _ wx).drew
  apply wpAnyH_take (i := 0) (oi := { dst := some 69, op := Op.move (Operand.tmp 4), type := 96, pos := "four.go:71", after := #[], guard := none }) rfl (by kernel_rfl) (by kernel_rfl) (by kernel_rfl) (fun _ _ _ h => h) (Or.inl ⟨by rfl, ?_⟩) hHeld ?_
  rotate_left 1
  · intro w1 hSw
    (try dsimp only at hSw)
    go_simp
    rfl
  (try simp only [Act.put, List.setIfInBounds_toArray, List.set_cons_zero, List.set_cons_succ])
  apply wpAnyH_take (i := 1) (oi := { dst := some 70, op := Op.move (Operand.tmp 0), type := 37, pos := "four.go:71", after := #[], guard := none }) rfl (by kernel_rfl) (by kernel_rfl) (by kernel_rfl) (fun _ _ _ h => h) (Or.inl ⟨by rfl, ?_⟩) hHeld ?_
  rotate_left 1
  · intro w1 hSw
    (try dsimp only at hSw)
    go_simp
    rfl
  (try simp only [Act.put, List.setIfInBounds_toArray, List.set_cons_zero, List.set_cons_succ])
  apply wpAnyH_take (i := 2) (oi := { dst := some 71, op := Op.nilCheck (Operand.tmp 70), type := 0, pos := "four.go:71", after := #[{ on := 1, ground := Ground.data }], guard := none }) rfl (by kernel_rfl) (by kernel_rfl) (by kernel_rfl) (fun _ _ _ h => h) (Or.inl ⟨by rfl, ?_⟩) hHeld ?_
  rotate_left 1
  · intro w1 hSw
    (try dsimp only at hSw)
    go_simp
    rfl
  (try simp only [Act.put, List.setIfInBounds_toArray, List.set_cons_zero, List.set_cons_succ])
  apply wpAnyH_take (i := 3) (oi := { dst := some 72, op := Op.fieldAddr 95 (Operand.tmp 71) 0, type := 0, pos := "four.go:71", after := #[{ on := 2, ground := Ground.data }], guard := none }) rfl (by kernel_rfl) (by kernel_rfl) (by kernel_rfl) (fun _ _ _ h => h) (Or.inl ⟨by rfl, ?_⟩) hHeld ?_
  rotate_left 1
  · intro w1 hSw
    (try dsimp only at hSw)
    go_simp
    rfl
  (try simp only [Act.put, List.setIfInBounds_toArray, List.set_cons_zero, List.set_cons_succ])
  apply wpAnyH_take (i := 4) (oi := { dst := some 73, op := Op.move (Operand.tmp 0), type := 37, pos := "four.go:71", after := #[], guard := none }) rfl (by kernel_rfl) (by kernel_rfl) (by kernel_rfl) (fun _ _ _ h => h) (Or.inl ⟨by rfl, ?_⟩) hHeld ?_
  rotate_left 1
  · intro w1 hSw
    (try dsimp only at hSw)
    go_simp
    rfl
  (try simp only [Act.put, List.setIfInBounds_toArray, List.set_cons_zero, List.set_cons_succ])
  apply wpAnyH_take (i := 5) (oi := { dst := some 74, op := Op.nilCheck (Operand.tmp 73), type := 0, pos := "four.go:71", after := #[{ on := 4, ground := Ground.data }], guard := none }) rfl (by kernel_rfl) (by kernel_rfl) (by kernel_rfl) (fun _ _ _ h => h) (Or.inl ⟨by rfl, ?_⟩) hHeld ?_
  rotate_left 1
  · intro w1 hSw
    (try dsimp only at hSw)
    go_simp
    rfl
  (try simp only [Act.put, List.setIfInBounds_toArray, List.set_cons_zero, List.set_cons_succ])
  apply wpAnyH_take (i := 6) (oi := { dst := some 75, op := Op.fieldAddr 95 (Operand.tmp 74) 0, type := 0, pos := "four.go:71", after := #[{ on := 5, ground := Ground.data }], guard := none }) rfl (by kernel_rfl) (by kernel_rfl) (by kernel_rfl) (fun _ _ _ h => h) (Or.inl ⟨by rfl, ?_⟩) hHeld ?_
  rotate_left 1
  · intro w1 hSw
    (try dsimp only at hSw)
    go_simp
    rfl
  (try simp only [Act.put, List.setIfInBounds_toArray, List.set_cons_zero, List.set_cons_succ])
  apply wpAnyH_take (i := 7) (oi := { dst := some 76, op := Op.fieldAddr 81 (Operand.tmp 75) 2, type := 0, pos := "four.go:71", after := #[{ on := 6, ground := Ground.data }], guard := none }) rfl (by kernel_rfl) (by kernel_rfl) (by kernel_rfl) (fun _ _ _ h => h) (Or.inl ⟨by rfl, ?_⟩) hHeld ?_
  rotate_left 1
  · intro w1 hSw
    (try dsimp only at hSw)
    go_simp
    rfl
  (try simp only [Act.put, List.setIfInBounds_toArray, List.set_cons_zero, List.set_cons_succ])
  apply wpAnyH_take (i := 8) (oi := { dst := some 77, op := Op.indexAddr 79 (Operand.tmp 76) (Operand.const (Value.int IntKind.i64 0)), type := 0, pos := "four.go:71", after := #[{ on := 7, ground := Ground.data }], guard := none }) rfl (by kernel_rfl) (by kernel_rfl) (by kernel_rfl) (fun _ _ _ h => h) (Or.inl ⟨by rfl, ?_⟩) hHeld ?_
  rotate_left 1
  · intro w1 hSw
    (try dsimp only at hSw)
    go_simp
    rfl
  (try simp only [Act.put, List.setIfInBounds_toArray, List.set_cons_zero, List.set_cons_succ])
  apply wpAnyH_take (i := 9) (oi := { dst := some 78, op := Op.load 3 (Operand.tmp 77), type := 3, pos := "four.go:71", after := #[{ on := 8, ground := Ground.data }], guard := none }) rfl (by kernel_rfl) (by kernel_rfl) (by kernel_rfl) (fun _ _ _ h => h) (Or.inl ⟨by rfl, ?_⟩) hHeld ?_
  rotate_left 1
  · intro w1 hSw
    (try dsimp only at hSw)
    go_simp
    rfl
  (try simp only [Act.put, List.setIfInBounds_toArray, List.set_cons_zero, List.set_cons_succ])
  apply wpAnyH_take (i := 11) (oi := { dst := some 80, op := Op.move (Operand.tmp 0), type := 37, pos := "four.go:71", after := #[], guard := none }) rfl (by kernel_rfl) (by kernel_rfl) (by kernel_rfl) (fun _ _ _ h => h) (Or.inl ⟨by rfl, ?_⟩) hHeld ?_
  rotate_left 1
  · intro w1 hSw
    (try dsimp only at hSw)
    go_simp
    rfl
  (try simp only [Act.put, List.setIfInBounds_toArray, List.set_cons_zero, List.set_cons_succ])
  apply wpAnyH_take (i := 12) (oi := { dst := some 81, op := Op.nilCheck (Operand.tmp 80), type := 0, pos := "four.go:71", after := #[{ on := 11, ground := Ground.data }], guard := none }) rfl (by kernel_rfl) (by kernel_rfl) (by kernel_rfl) (fun _ _ _ h => h) (Or.inl ⟨by rfl, ?_⟩) hHeld ?_
  rotate_left 1
  · intro w1 hSw
    (try dsimp only at hSw)
    go_simp
    rfl
  (try simp only [Act.put, List.setIfInBounds_toArray, List.set_cons_zero, List.set_cons_succ])
  apply wpAnyH_take (i := 13) (oi := { dst := some 82, op := Op.fieldAddr 95 (Operand.tmp 81) 0, type := 0, pos := "four.go:71", after := #[{ on := 12, ground := Ground.data }], guard := none }) rfl (by kernel_rfl) (by kernel_rfl) (by kernel_rfl) (fun _ _ _ h => h) (Or.inl ⟨by rfl, ?_⟩) hHeld ?_
  rotate_left 1
  · intro w1 hSw
    (try dsimp only at hSw)
    go_simp
    rfl
  (try simp only [Act.put, List.setIfInBounds_toArray, List.set_cons_zero, List.set_cons_succ])
  apply wpAnyH_take (i := 14) (oi := { dst := some 83, op := Op.fieldAddr 81 (Operand.tmp 82) 2, type := 0, pos := "four.go:71", after := #[{ on := 13, ground := Ground.data }], guard := none }) rfl (by kernel_rfl) (by kernel_rfl) (by kernel_rfl) (fun _ _ _ h => h) (Or.inl ⟨by rfl, ?_⟩) hHeld ?_
  rotate_left 1
  · intro w1 hSw
    (try dsimp only at hSw)
    go_simp
    rfl
  (try simp only [Act.put, List.setIfInBounds_toArray, List.set_cons_zero, List.set_cons_succ])
  apply wpAnyH_take (i := 15) (oi := { dst := some 84, op := Op.indexAddr 79 (Operand.tmp 83) (Operand.const (Value.int IntKind.i64 1)), type := 0, pos := "four.go:71", after := #[{ on := 14, ground := Ground.data }], guard := none }) rfl (by kernel_rfl) (by kernel_rfl) (by kernel_rfl) (fun _ _ _ h => h) (Or.inl ⟨by rfl, ?_⟩) hHeld ?_
  rotate_left 1
  · intro w1 hSw
    (try dsimp only at hSw)
    go_simp
    rfl
  (try simp only [Act.put, List.setIfInBounds_toArray, List.set_cons_zero, List.set_cons_succ])
  apply wpAnyH_take (i := 16) (oi := { dst := some 85, op := Op.load 3 (Operand.tmp 84), type := 3, pos := "four.go:71", after := #[{ on := 15, ground := Ground.data }], guard := none }) rfl (by kernel_rfl) (by kernel_rfl) (by kernel_rfl) (fun _ _ _ h => h) (Or.inl ⟨by rfl, ?_⟩) hHeld ?_
  rotate_left 1
  · intro w1 hSw
    (try dsimp only at hSw)
    go_simp
    rfl
  (try simp only [Act.put, List.setIfInBounds_toArray, List.set_cons_zero, List.set_cons_succ])
  apply wpAnyH_take (i := 17) (oi := { dst := some 86, op := Op.convert 3 32 (Operand.tmp 85), type := 32, pos := "four.go:71", after := #[{ on := 16, ground := Ground.data }], guard := none }) rfl (by kernel_rfl) (by kernel_rfl) (by kernel_rfl) (fun _ _ _ h => h) (Or.inl ⟨by rfl, ?_⟩) hHeld ?_
  rotate_left 1
  · intro w1 hSw
    (try dsimp only at hSw)
    go_simp
    rfl
  (try simp only [Act.put, List.setIfInBounds_toArray, List.set_cons_zero, List.set_cons_succ])
  refine wpAnyH_ready (rs := [10]) (by kernel_rfl) (by simp) ?_
  refine AllReadyH.cons (o := { dst := some 79, op := Op.call { callee := Callee.value (Operand.func 31), args := #[Operand.tmp 72, Operand.const (Value.int IntKind.i64 6), Operand.tmp 78], argTypes := #[81, 3, 3] }, type := 3, pos := "four.go:71", after := #[{ on := 3, ground := Ground.data }, { on := 9, ground := Ground.data }], guard := none }) rfl (fun K hK => ?_) AllReadyH.nil
  go_simp
  (with_reducible refine (HC.out _ (HUX.out.trans (by repeat (first | (with_reducible exact Upd.refl _ _) | (with_reducible apply Upd.drew) | (with_reducible refine Upd.grE ?_ _) | (with_reducible refine Upd.alloc ?_ _))))).mono ?_)
  rintro e w5 ⟨rfl, hu5⟩
  obtain ⟨p5, rfl⟩ := hu5.grown
  clear hu5
  refine hK.out _ _ (by repeat (first | (with_reducible exact Upd.refl _ _) | (with_reducible exact hHeld) | (with_reducible apply Upd.drew) | (with_reducible refine Upd.grE ?_ _) | (with_reducible refine Upd.alloc ?_ _) | (with_reducible refine updR ?_ (.inl (by simp))))) (fun hHeld => ?_)
  clear hK K
  (try simp only [Act.put, List.setIfInBounds_toArray, List.set_cons_zero, List.set_cons_succ])
  refine wpAnyH_ready (rs := [18]) (by kernel_rfl) (by simp) ?_
  refine AllReadyH.cons (o := { dst := some 87, op := Op.call { callee := Callee.value (Operand.tmp 69), args := #[Operand.tmp 79, Operand.tmp 86], argTypes := #[3, 32] }, type := 41, pos := "four.go:71", after := #[{ on := 0, ground := Ground.data }, { on := 10, ground := Ground.data }, { on := 17, ground := Ground.data }, { on := 10, ground := Ground.chain }], guard := none }) rfl (fun K hK => ?_) AllReadyH.nil
  go_simp
  (with_reducible refine (fw_store1 _ _ _).mono ?_)
  rintro e w6 ⟨rfl, hu6⟩
  obtain ⟨p6, rfl⟩ := hu6.grown
  clear hu6
  refine hK.out _ _ (by repeat (first | (with_reducible exact Upd.refl _ _) | (with_reducible exact hHeld) | (with_reducible apply Upd.drew) | (with_reducible refine Upd.grE ?_ _) | (with_reducible refine Upd.alloc ?_ _) | (with_reducible refine updR ?_ (.inl (by simp))))) (fun hHeld => ?_)
  clear hK K
  (try simp only [Act.put, List.setIfInBounds_toArray, List.set_cons_zero, List.set_cons_succ])
  refine wpAnyH_ready (rs := [19]) (by kernel_rfl) (by simp) ?_
  refine AllReadyH.cons (o := { dst := none, op := Op.store 41 (Operand.tmp 2) (Operand.tmp 87), type := 0, pos := "four.go:71", after := #[{ on := 18, ground := Ground.data }, { on := 18, ground := Ground.chain }, { on := 0, ground := Ground.phase }, { on := 1, ground := Ground.phase }, { on := 2, ground := Ground.phase }, { on := 3, ground := Ground.phase }, { on := 4, ground := Ground.phase }, { on := 5, ground := Ground.phase }, { on := 6, ground := Ground.phase }, { on := 7, ground := Ground.phase }, { on := 8, ground := Ground.phase }, { on := 9, ground := Ground.phase }, { on := 10, ground := Ground.phase }, { on := 11, ground := Ground.phase }, { on := 12, ground := Ground.phase }, { on := 13, ground := Ground.phase }, { on := 14, ground := Ground.phase }, { on := 15, ground := Ground.phase }, { on := 16, ground := Ground.phase }, { on := 17, ground := Ground.phase }, { on := 18, ground := Ground.phase }], guard := none }) rfl (fun K hK => ?_) AllReadyH.nil
  rw [if_pos (by rfl)]
  refine wp_store_row 41 _ _ rfl w.heap.size #[.int .i64 2, .int .i64 (a + 2 + p), .int .u32 i] rfl rfl 41 #[.int .i64 0, .int .i64 0, .int .u32 0] (by repeat (first | (with_reducible exact HAX.out) | (with_reducible apply heap_drewE) | (with_reducible apply heap_grE) | (with_reducible apply heap_alloc'))) (info_act3 _ _ _) rfl (act_one _ _ _) ?_
  refine hK.out _ _ (by repeat (first | (with_reducible exact Upd.refl _ _) | (with_reducible exact hHeld) | (with_reducible apply Upd.drew) | (with_reducible refine Upd.grE ?_ _) | (with_reducible refine Upd.alloc ?_ _) | (with_reducible refine updR ?_ (.inl (by simp))))) (fun hHeld => ?_)
  clear hK K
  (try simp only [Act.put, List.setIfInBounds_toArray, List.set_cons_zero, List.set_cons_succ])
  apply wpAnyH_take (i := 20) (oi := { dst := some 3, op := Op.assign (Operand.const (Value.bool true)), type := 4, pos := "four.go:71", after := #[{ on := 19, ground := Ground.chain }, { on := 0, ground := Ground.phase }, { on := 1, ground := Ground.phase }, { on := 2, ground := Ground.phase }, { on := 3, ground := Ground.phase }, { on := 4, ground := Ground.phase }, { on := 5, ground := Ground.phase }, { on := 6, ground := Ground.phase }, { on := 7, ground := Ground.phase }, { on := 8, ground := Ground.phase }, { on := 9, ground := Ground.phase }, { on := 10, ground := Ground.phase }, { on := 11, ground := Ground.phase }, { on := 12, ground := Ground.phase }, { on := 13, ground := Ground.phase }, { on := 14, ground := Ground.phase }, { on := 15, ground := Ground.phase }, { on := 16, ground := Ground.phase }, { on := 17, ground := Ground.phase }, { on := 18, ground := Ground.phase }, { on := 19, ground := Ground.phase }], guard := none }) rfl (by kernel_rfl) (by kernel_rfl) (by kernel_rfl) (fun _ _ _ h => h) (Or.inl ⟨by rfl, ?_⟩) hHeld ?_
  rotate_left 1
  · intro w1 hSw
    (try dsimp only at hSw)
    go_simp
    rfl
  (try simp only [Act.put, List.setIfInBounds_toArray, List.set_cons_zero, List.set_cons_succ])
  refine wpAnyH_done (by kernel_rfl) ?_ _
  go_wp2
  rw [Exit.noGoto_ret]
  refine ret_act' rfl (g := w.heap.size) (t := 41) (fr := (0, 0)) (x := .int .i64 2) (y := .int .i64 (a + 2 + p)) (z := .int .u32 i) rfl rfl rfl (setRow_heap _ _ #[.int .i64 0, .int .i64 0, .int .u32 0] _ _ _ (by repeat (first | (with_reducible exact HAX.out) | (with_reducible apply heap_drewE) | (with_reducible apply heap_grE) | (with_reducible apply heap_alloc')))) ?_
  exact ⟨rfl, HUX.out.then hHeld (fun i hi => .inr (by simp at hi; omega))⟩
set_option maxRecDepth 100000 in
set_option maxHeartbeats 4000000 in
theorem fw_actl (h : FG a wd w b 95 s) (hw : 1 ≤ wd ∧ wd ≤ 4) (ha : 0 ≤ a ∧ a < 1000000) (hn : s.n = wd + 3) (hon : s.on = true) (hp : 0 ≤ s.p ∧ s.p ≤ 1) :
    Calls Try.prog 16 #[.pointer (some ⟨b, 0, none⟩)] w fun e w' => e = .returned (.tuple #[.agg #[.int .i64 2, .int .i64 a, .int .u32 s.p], .bool true]) ∧ Upd [] w w' := by
  obtain ⟨x0, x1, x2, x3, x4, x5, x6, x7, x18⟩ := h.pl
  obtain ⟨x8, x9, x10, x11⟩ := h.vs
  rw [hn] at x5
  rw [hon] at x18
  have lb := heap_lt h.h
  have HC := Lib.hid (fun (w1 : World) (hu : Upd [] w w1) => four_cell a wd 4 0 a (h.keep hu (by simp)) (fun w => c4_latest a wd w hw))
  have q1 : (wd + 3 == 0) = false := by simp; omega
  have q2 : (wd + 3 == 1) = false := by simp; omega
  have q3 : wrap64 (wd + 3 - 2) = wd + 1 := by unfold wrap64; omega
  have q4 : IntKind.u32.wrap s.p = s.p := by rw [IntKind.wrap_u32]; omega
  have q5 : decide (wd + 1 < wd) = false := by simp; omega
  have q6 : (wd + 1 == wd) = false := by simp; omega
  generalize s.p = p at *
  generalize s.i = i at *
  generalize s.v0 = v0 at *
  generalize s.v1 = v1 at *
  generalize s.v2 = v2 at *
  generalize s.v3 = v3 at *
  clear h hn hon hw ha hp
  go_enter Try.func16, Try.ntmps16
  go_wp2
  go_step3
  go_upto_region 11 with (fail)
  have HUX := Lib.hid (show Upd [] w (w.alloc (.cells #[.int .i64 0, .int .i64 0, .int .u32 0] 41)) from (Upd.refl _ _).alloc _)
  have HAX := Lib.hid (heap_alloc_new w (.cells #[.int .i64 0, .int .i64 0, .int .u32 0] 41))
  generalize w.alloc (.cells #[.int .i64 0, .int .i64 0, .int .u32 0] 41) = wx at *
  have lx : b < wx.heap.size := Nat.lt_of_lt_of_le lb HUX.out.size
  have hbn : b ∉ [w.heap.size] := by simp; omega
  have R6 : ∀ w1 : World, Upd [w.heap.size] wx w1 → w1.cell? ⟨b, 6, none⟩ = some (.int .i64 p) := fun w1 h => (h.cell (p := ⟨b, 6, none⟩) lx hbn).trans ((HUX.out.cell (p := ⟨b, 6, none⟩) lb (by simp)).trans x6)
  clear x0 x1 x2 x3 x4 x5 x6 x7 x8 x9 x10 x11 x18
  refine wp_region_held_drew (S := fun w1 => Upd [w.heap.size] wx w1) (by kernel_rfl) ?_ (fun hHeld => ?_)
  · exact (Upd.refl _ wx).drew
  apply wpAnyH_take (i := 0) (oi := { dst := some 88, op := Op.move (Operand.tmp 4), type := 96, pos := "four.go:73", after := #[], guard := none }) rfl (by kernel_rfl) (by kernel_rfl) (by kernel_rfl) (fun _ _ _ h => h) (Or.inl ⟨by rfl, ?_⟩) hHeld ?_
  rotate_left 1
  · intro w1 hSw
    (try dsimp only at hSw)
    go_simp
    rfl
  (try simp only [Act.put, List.setIfInBounds_toArray, List.set_cons_zero, List.set_cons_succ])
  apply wpAnyH_take (i := 1) (oi := { dst := some 89, op := Op.move (Operand.tmp 0), type := 37, pos := "four.go:73", after := #[], guard := none }) rfl (by kernel_rfl) (by kernel_rfl) (by kernel_rfl) (fun _ _ _ h => h) (Or.inl ⟨by rfl, ?_⟩) hHeld ?_
  rotate_left 1
  · intro w1 hSw
    (try dsimp only at hSw)
    go_simp
    rfl
  (try simp only [Act.put, List.setIfInBounds_toArray, List.set_cons_zero, List.set_cons_succ])
  apply wpAnyH_take (i := 2) (oi := { dst := some 90, op := Op.nilCheck (Operand.tmp 89), type := 0, pos := "four.go:73", after := #[{ on := 1, ground := Ground.data }], guard := none }) rfl (by kernel_rfl) (by kernel_rfl) (by kernel_rfl) (fun _ _ _ h => h) (Or.inl ⟨by rfl, ?_⟩) hHeld ?_
  rotate_left 1
  · intro w1 hSw
    (try dsimp only at hSw)
    go_simp
    rfl
  (try simp only [Act.put, List.setIfInBounds_toArray, List.set_cons_zero, List.set_cons_succ])
  apply wpAnyH_take (i := 3) (oi := { dst := some 91, op := Op.fieldAddr 95 (Operand.tmp 90) 0, type := 0, pos := "four.go:73", after := #[{ on := 2, ground := Ground.data }], guard := none }) rfl (by kernel_rfl) (by kernel_rfl) (by kernel_rfl) (fun _ _ _ h => h) (Or.inl ⟨by rfl, ?_⟩) hHeld ?_
  rotate_left 1
  · intro w1 hSw
    (try dsimp only at hSw)
    go_simp
    rfl
  (try simp only [Act.put, List.setIfInBounds_toArray, List.set_cons_zero, List.set_cons_succ])
  apply wpAnyH_take (i := 5) (oi := { dst := some 93, op := Op.move (Operand.tmp 0), type := 37, pos := "four.go:73", after := #[], guard := none }) rfl (by kernel_rfl) (by kernel_rfl) (by kernel_rfl) (fun _ _ _ h => h) (Or.inl ⟨by rfl, ?_⟩) hHeld ?_
  rotate_left 1
  · intro w1 hSw
    (try dsimp only at hSw)
    go_simp
    rfl
  (try simp only [Act.put, List.setIfInBounds_toArray, List.set_cons_zero, List.set_cons_succ])
  apply wpAnyH_take (i := 6) (oi := { dst := some 94, op := Op.nilCheck (Operand.tmp 93), type := 0, pos := "four.go:73", after := #[{ on := 5, ground := Ground.data }], guard := none }) rfl (by kernel_rfl) (by kernel_rfl) (by kernel_rfl) (fun _ _ _ h => h) (Or.inl ⟨by rfl, ?_⟩) hHeld ?_
  rotate_left 1
  · intro w1 hSw
    (try dsimp only at hSw)
    go_simp
    rfl
  (try simp only [Act.put, List.setIfInBounds_toArray, List.set_cons_zero, List.set_cons_succ])
  apply wpAnyH_take (i := 7) (oi := { dst := some 95, op := Op.fieldAddr 95 (Operand.tmp 94) 0, type := 0, pos := "four.go:73", after := #[{ on := 6, ground := Ground.data }], guard := none }) rfl (by kernel_rfl) (by kernel_rfl) (by kernel_rfl) (fun _ _ _ h => h) (Or.inl ⟨by rfl, ?_⟩) hHeld ?_
  rotate_left 1
  · intro w1 hSw
    (try dsimp only at hSw)
    go_simp
    rfl
  (try simp only [Act.put, List.setIfInBounds_toArray, List.set_cons_zero, List.set_cons_succ])
  apply wpAnyH_take (i := 8) (oi := { dst := some 96, op := Op.fieldAddr 81 (Operand.tmp 95) 2, type := 0, pos := "four.go:73", after := #[{ on := 7, ground := Ground.data }], guard := none }) rfl (by kernel_rfl) (by kernel_rfl) (by kernel_rfl) (fun _ _ _ h => h) (Or.inl ⟨by rfl, ?_⟩) hHeld ?_
  rotate_left 1
  · intro w1 hSw
    (try dsimp only at hSw)
    go_simp
    rfl
  (try simp only [Act.put, List.setIfInBounds_toArray, List.set_cons_zero, List.set_cons_succ])
  apply wpAnyH_take (i := 9) (oi := { dst := some 97, op := Op.indexAddr 79 (Operand.tmp 96) (Operand.const (Value.int IntKind.i64 0)), type := 0, pos := "four.go:73", after := #[{ on := 8, ground := Ground.data }], guard := none }) rfl (by kernel_rfl) (by kernel_rfl) (by kernel_rfl) (fun _ _ _ h => h) (Or.inl ⟨by rfl, ?_⟩) hHeld ?_
  rotate_left 1
  · intro w1 hSw
    (try dsimp only at hSw)
    go_simp
    rfl
  (try simp only [Act.put, List.setIfInBounds_toArray, List.set_cons_zero, List.set_cons_succ])
  apply wpAnyH_take (i := 10) (oi := { dst := some 98, op := Op.load 3 (Operand.tmp 97), type := 3, pos := "four.go:73", after := #[{ on := 9, ground := Ground.data }], guard := none }) rfl (by kernel_rfl) (by kernel_rfl) (by kernel_rfl) (fun _ _ _ h => h) (Or.inl ⟨by rfl, ?_⟩) hHeld ?_
  rotate_left 1
  · intro w1 hSw
    (try dsimp only at hSw)
    go_simp
    rfl
  (try simp only [Act.put, List.setIfInBounds_toArray, List.set_cons_zero, List.set_cons_succ])
  apply wpAnyH_take (i := 11) (oi := { dst := some 99, op := Op.convert 3 32 (Operand.tmp 98), type := 32, pos := "four.go:73", after := #[{ on := 10, ground := Ground.data }], guard := none }) rfl (by kernel_rfl) (by kernel_rfl) (by kernel_rfl) (fun _ _ _ h => h) (Or.inl ⟨by rfl, ?_⟩) hHeld ?_
  rotate_left 1
  · intro w1 hSw
    (try dsimp only at hSw)
    go_simp
    rfl
  (try simp only [Act.put, List.setIfInBounds_toArray, List.set_cons_zero, List.set_cons_succ])
  refine wpAnyH_ready (rs := [4]) (by kernel_rfl) (by simp) ?_
  refine AllReadyH.cons (o := { dst := some 92, op := Op.call { callee := Callee.value (Operand.func 31), args := #[Operand.tmp 91, Operand.const (Value.int IntKind.i64 4), Operand.const (Value.int IntKind.i64 0)], argTypes := #[81, 3, 3] }, type := 3, pos := "four.go:73", after := #[{ on := 3, ground := Ground.data }], guard := none }) rfl (fun K hK => ?_) AllReadyH.nil
  go_simp
  (with_reducible refine (HC.out _ (HUX.out.trans (by repeat (first | (with_reducible exact Upd.refl _ _) | (with_reducible apply Upd.drew) | (with_reducible refine Upd.grE ?_ _) | (with_reducible refine Upd.alloc ?_ _))))).mono ?_)
  rintro e w5 ⟨rfl, hu5⟩
  obtain ⟨p5, rfl⟩ := hu5.grown
  clear hu5
  refine hK.out _ _ (by repeat (first | (with_reducible exact Upd.refl _ _) | (with_reducible exact hHeld) | (with_reducible apply Upd.drew) | (with_reducible refine Upd.grE ?_ _) | (with_reducible refine Upd.alloc ?_ _) | (with_reducible refine updR ?_ (.inl (by simp))))) (fun hHeld => ?_)
  clear hK K
  (try simp only [Act.put, List.setIfInBounds_toArray, List.set_cons_zero, List.set_cons_succ])
  refine wpAnyH_ready (rs := [12]) (by kernel_rfl) (by simp) ?_
  refine AllReadyH.cons (o := { dst := some 100, op := Op.call { callee := Callee.value (Operand.tmp 88), args := #[Operand.tmp 92, Operand.tmp 99], argTypes := #[3, 32] }, type := 41, pos := "four.go:73", after := #[{ on := 0, ground := Ground.data }, { on := 4, ground := Ground.data }, { on := 11, ground := Ground.data }, { on := 4, ground := Ground.chain }], guard := none }) rfl (fun K hK => ?_) AllReadyH.nil
  go_simp
  (with_reducible refine (fw_store1 _ _ _).mono ?_)
  rintro e w6 ⟨rfl, hu6⟩
  obtain ⟨p6, rfl⟩ := hu6.grown
  clear hu6
  refine hK.out _ _ (by repeat (first | (with_reducible exact Upd.refl _ _) | (with_reducible exact hHeld) | (with_reducible apply Upd.drew) | (with_reducible refine Upd.grE ?_ _) | (with_reducible refine Upd.alloc ?_ _) | (with_reducible refine updR ?_ (.inl (by simp))))) (fun hHeld => ?_)
  clear hK K
  (try simp only [Act.put, List.setIfInBounds_toArray, List.set_cons_zero, List.set_cons_succ])
  refine wpAnyH_ready (rs := [13]) (by kernel_rfl) (by simp) ?_
  refine AllReadyH.cons (o := { dst := none, op := Op.store 41 (Operand.tmp 2) (Operand.tmp 100), type := 0, pos := "four.go:73", after := #[{ on := 12, ground := Ground.data }, { on := 12, ground := Ground.chain }, { on := 0, ground := Ground.phase }, { on := 1, ground := Ground.phase }, { on := 2, ground := Ground.phase }, { on := 3, ground := Ground.phase }, { on := 4, ground := Ground.phase }, { on := 5, ground := Ground.phase }, { on := 6, ground := Ground.phase }, { on := 7, ground := Ground.phase }, { on := 8, ground := Ground.phase }, { on := 9, ground := Ground.phase }, { on := 10, ground := Ground.phase }, { on := 11, ground := Ground.phase }, { on := 12, ground := Ground.phase }], guard := none }) rfl (fun K hK => ?_) AllReadyH.nil
  rw [if_pos (by rfl)]
  refine wp_store_row 41 _ _ rfl w.heap.size #[.int .i64 2, .int .i64 a, .int .u32 p] rfl rfl 41 #[.int .i64 0, .int .i64 0, .int .u32 0] (by repeat (first | (with_reducible exact HAX.out) | (with_reducible apply heap_drewE) | (with_reducible apply heap_grE) | (with_reducible apply heap_alloc'))) (info_act3 _ _ _) rfl (act_one _ _ _) ?_
  refine hK.out _ _ (by repeat (first | (with_reducible exact Upd.refl _ _) | (with_reducible exact hHeld) | (with_reducible apply Upd.drew) | (with_reducible refine Upd.grE ?_ _) | (with_reducible refine Upd.alloc ?_ _) | (with_reducible refine updR ?_ (.inl (by simp))))) (fun hHeld => ?_)
  clear hK K
  (try simp only [Act.put, List.setIfInBounds_toArray, List.set_cons_zero, List.set_cons_succ])
  apply wpAnyH_take (i := 14) (oi := { dst := some 3, op := Op.assign (Operand.const (Value.bool true)), type := 4, pos := "four.go:73", after := #[{ on := 13, ground := Ground.chain }, { on := 0, ground := Ground.phase }, { on := 1, ground := Ground.phase }, { on := 2, ground := Ground.phase }, { on := 3, ground := Ground.phase }, { on := 4, ground := Ground.phase }, { on := 5, ground := Ground.phase }, { on := 6, ground := Ground.phase }, { on := 7, ground := Ground.phase }, { on := 8, ground := Ground.phase }, { on := 9, ground := Ground.phase }, { on := 10, ground := Ground.phase }, { on := 11, ground := Ground.phase }, { on := 12, ground := Ground.phase }, { on := 13, ground := Ground.phase }], guard := none }) rfl (by kernel_rfl) (by kernel_rfl) (by kernel_rfl) (fun _ _ _ h => h) (Or.inl ⟨by rfl, ?_⟩) hHeld ?_
  rotate_left 1
  · intro w1 hSw
    (try dsimp only at hSw)
    go_simp
    rfl
  (try simp only [Act.put, List.setIfInBounds_toArray, List.set_cons_zero, List.set_cons_succ])
  refine wpAnyH_done (by kernel_rfl) ?_ _
  go_wp2
  rw [Exit.noGoto_ret]
  refine ret_act' rfl (g := w.heap.size) (t := 41) (fr := (0, 0)) (x := .int .i64 2) (y := .int .i64 a) (z := .int .u32 p) rfl rfl rfl (setRow_heap _ _ #[.int .i64 0, .int .i64 0, .int .u32 0] _ _ _ (by repeat (first | (with_reducible exact HAX.out) | (with_reducible apply heap_drewE) | (with_reducible apply heap_grE) | (with_reducible apply heap_alloc')))) ?_
  exact ⟨rfl, HUX.out.then hHeld (fun i hi => .inr (by simp at hi; omega))⟩
end
end Go.Proofs.Ytnnakiojfpnphaa
