/- The walk, part 25: LK3. -/
import Derived.Test.YtnnakiojfpnphaaZi08
import Derived.Test.YtnnakiojfpnphaaZi21
import Derived.Deep.RegionHeld3
import Derived.Deep.CutRange
import Derived.Deep.MidRow
set_option linter.unusedVariables false
set_option linter.unusedSimpArgs false

namespace Go.Proofs.Ytnnakiojfpnphaa
open Go.RowKit
section
variable (a wd rt : Int)
variable {w : World} {b : Nat} {t : TypeId} {more : List Value} {s : LSt}
set_option maxRecDepth 100000 in
set_option maxHeartbeats 2000000 in
theorem lkw_act0 (h : LG a wd rt w b t more s) (hw : 1 ≤ wd ∧ wd ≤ 4) (hrt : 0 ≤ rt ∧ rt ≤ 8) (hn : s.n = 0) (hon : s.on = true) :
    Calls Try.prog 118 #[.pointer (some ⟨b, 0, none⟩)] w fun e w' => e = .returned (.tuple #[.agg #[.int .i64 1, .int .i64 a, .int .u32 0], .bool true]) ∧ Upd [] w w' := by
  obtain ⟨x0, x1, x2, x3, x4, x5, x6, x17⟩ := h.pl
  obtain ⟨x7, x8, x9, x10⟩ := h.vs
  rw [hn] at x5
  rw [hon] at x17
  have lb := heap_lt h.h
  have HC := Lib.hid (fun (w1 : World) (hu : Upd [] w w1) => lk_count a wd rt (h.keep hu (by simp)) hw hrt)
  clear h hn hon hw hrt
  go_enter Try.func118, Try.ntmps118
  go_wp2
  refine wp_scope_jump1 0 rfl ?_
  intro K HK
  go_wp2
  go_step3
  refine And.intro rfl (HK.out _ _ ?_)
  clear HK
  go_wp2_with (go_at_call 121; (with_reducible refine (HC.out _ (by repeat (first | (with_reducible exact Upd.refl _ _) | (with_reducible apply Upd.drew) | (with_reducible refine Upd.grE ?_ _) | (with_reducible refine Upd.alloc ?_ _)))).mono ?_); rintro e w1 ⟨rfl, hu1⟩; obtain ⟨p1, rfl⟩ := hu1.grown; clear hu1)
  rw [Exit.noGoto_ret]
  refine ret_act' rfl (g := w.heap.size) (t := 41) (fr := (0, 0)) (x := .int .i64 1) (y := .int .i64 a) (z := .int .u32 0) rfl rfl rfl (hg := ?hg) ?_
  case hg => repeat (first | ((with_reducible refine heap_alloc_at _ ?_); (first | rfl | (simp; done))) | (with_reducible apply heap_drewE) | (with_reducible apply heap_grE) | (with_reducible apply heap_alloc'))
  exact ⟨rfl, (by repeat (first | (with_reducible exact Upd.refl _ _) | (with_reducible apply Upd.drew) | (with_reducible refine Upd.grE ?_ _) | (with_reducible refine Upd.alloc ?_ _)))⟩
set_option maxRecDepth 100000 in
set_option maxHeartbeats 4000000 in
theorem lkw_act1 (h : LG a wd rt w b t more s) (hw : 1 ≤ wd ∧ wd ≤ 4) (hrt : 0 ≤ rt ∧ rt ≤ 8) (ha : 0 ≤ a ∧ a < 1000000) (hn : s.n = 1) (hon : s.on = true)  :
    Calls Try.prog 118 #[.pointer (some ⟨b, 0, none⟩)] w fun e w' => e = .returned (.tuple #[.agg #[.int .i64 2, .int .i64 a, .int .u32 (IntKind.u32.wrap (s.seq + 1))], .bool true]) ∧ Upd [] w w' := by
  obtain ⟨x0, x1, x2, x3, x4, x5, x6, x17⟩ := h.pl
  obtain ⟨x7, x8, x9, x10⟩ := h.vs
  rw [hn] at x5
  rw [hon] at x17
  have lb := heap_lt h.h
  have HC := Lib.hid (fun (w1 : World) (hu : Upd [] w w1) => lk_count a wd rt (h.keep hu (by simp)) hw hrt)
  generalize s.seq = seq at *
  generalize s.v0 = v0 at *
  generalize s.v1 = v1 at *
  generalize s.v2 = v2 at *
  generalize s.v3 = v3 at *
  clear h hn hon hw hrt ha
  go_enter Try.func118, Try.ntmps118
  go_wp2
  refine wp_scope_jump1 1 rfl ?_
  intro K HK
  go_wp2
  go_step3
  refine And.intro rfl (HK.out _ _ ?_)
  clear HK
  go_upto_region 9 with (fail)
  have HUX := Lib.hid (show Upd [] w (w.alloc (.cells #[.int .i64 0, .int .i64 0, .int .u32 0] 41)) from (Upd.refl _ _).alloc _)
  have HAX := Lib.hid (heap_alloc_new w (.cells #[.int .i64 0, .int .i64 0, .int .u32 0] 41))
  generalize w.alloc (.cells #[.int .i64 0, .int .i64 0, .int .u32 0] 41) = wx at *
  have lx : b < wx.heap.size := Nat.lt_of_lt_of_le lb HUX.out.size
  have hbn : b ∉ [w.heap.size] := by simp; omega
  have R6 : ∀ w1 : World, Upd [w.heap.size] wx w1 → w1.cell? ⟨b, 6, none⟩ = some (.int .u32 seq) := fun w1 h => (h.cell (p := ⟨b, 6, none⟩) lx hbn).trans ((HUX.out.cell (p := ⟨b, 6, none⟩) lb (by simp)).trans x6)
  clear x0 x1 x2 x3 x4 x5 x6 x7 x8 x9 x10 x17
  refine wp_region_held_drew (S := fun w1 => Upd [w.heap.size] wx w1) (by kernel_rfl) ?_ (fun hHeld => ?_)
  · exact (Upd.refl _ wx).drew
  apply wpAnyH_take (i := 0) (oi := { dst := some 61, op := Op.move (Operand.tmp 0), type := 126, pos := "lock.go:67", after := #[], guard := none }) rfl (by kernel_rfl) (by kernel_rfl) (by kernel_rfl) (fun _ _ _ h => h) (Or.inl ⟨by rfl, ?_⟩) hHeld ?_
  rotate_left 1
  · intro w1 hSw
    (try dsimp only at hSw)
    go_simp
    rfl
  (try simp only [Act.put, List.setIfInBounds_toArray, List.set_cons_zero, List.set_cons_succ])
  apply wpAnyH_take (i := 1) (oi := { dst := some 62, op := Op.nilCheck (Operand.tmp 61), type := 0, pos := "lock.go:67", after := #[{ on := 0, ground := Ground.data }], guard := none }) rfl (by kernel_rfl) (by kernel_rfl) (by kernel_rfl) (fun _ _ _ h => h) (Or.inl ⟨by rfl, ?_⟩) hHeld ?_
  rotate_left 1
  · intro w1 hSw
    (try dsimp only at hSw)
    go_simp
    rfl
  (try simp only [Act.put, List.setIfInBounds_toArray, List.set_cons_zero, List.set_cons_succ])
  apply wpAnyH_take (i := 2) (oi := { dst := some 63, op := Op.fieldAddr 148 (Operand.tmp 62) 0, type := 0, pos := "lock.go:67", after := #[{ on := 1, ground := Ground.data }], guard := none }) rfl (by kernel_rfl) (by kernel_rfl) (by kernel_rfl) (fun _ _ _ h => h) (Or.inl ⟨by rfl, ?_⟩) hHeld ?_
  rotate_left 1
  · intro w1 hSw
    (try dsimp only at hSw)
    go_simp
    rfl
  (try simp only [Act.put, List.setIfInBounds_toArray, List.set_cons_zero, List.set_cons_succ])
  apply wpAnyH_take (i := 4) (oi := { dst := some 65, op := Op.move (Operand.tmp 0), type := 126, pos := "lock.go:67", after := #[], guard := none }) rfl (by kernel_rfl) (by kernel_rfl) (by kernel_rfl) (fun _ _ _ h => h) (Or.inl ⟨by rfl, ?_⟩) hHeld ?_
  rotate_left 1
  · intro w1 hSw
    (try dsimp only at hSw)
    go_simp
    rfl
  (try simp only [Act.put, List.setIfInBounds_toArray, List.set_cons_zero, List.set_cons_succ])
  apply wpAnyH_take (i := 5) (oi := { dst := some 66, op := Op.nilCheck (Operand.tmp 65), type := 0, pos := "lock.go:67", after := #[{ on := 4, ground := Ground.data }], guard := none }) rfl (by kernel_rfl) (by kernel_rfl) (by kernel_rfl) (fun _ _ _ h => h) (Or.inl ⟨by rfl, ?_⟩) hHeld ?_
  rotate_left 1
  · intro w1 hSw
    (try dsimp only at hSw)
    go_simp
    rfl
  (try simp only [Act.put, List.setIfInBounds_toArray, List.set_cons_zero, List.set_cons_succ])
  apply wpAnyH_take (i := 6) (oi := { dst := some 67, op := Op.fieldAddr 148 (Operand.tmp 66) 0, type := 0, pos := "lock.go:67", after := #[{ on := 5, ground := Ground.data }], guard := none }) rfl (by kernel_rfl) (by kernel_rfl) (by kernel_rfl) (fun _ _ _ h => h) (Or.inl ⟨by rfl, ?_⟩) hHeld ?_
  rotate_left 1
  · intro w1 hSw
    (try dsimp only at hSw)
    go_simp
    rfl
  (try simp only [Act.put, List.setIfInBounds_toArray, List.set_cons_zero, List.set_cons_succ])
  apply wpAnyH_take (i := 7) (oi := { dst := some 68, op := Op.fieldAddr 145 (Operand.tmp 67) 2, type := 0, pos := "lock.go:67", after := #[{ on := 6, ground := Ground.data }], guard := none }) rfl (by kernel_rfl) (by kernel_rfl) (by kernel_rfl) (fun _ _ _ h => h) (Or.inl ⟨by rfl, ?_⟩) hHeld ?_
  rotate_left 1
  · intro w1 hSw
    (try dsimp only at hSw)
    go_simp
    rfl
  (try simp only [Act.put, List.setIfInBounds_toArray, List.set_cons_zero, List.set_cons_succ])
  apply wpAnyH_take (i := 8) (oi := { dst := some 69, op := Op.load 32 (Operand.tmp 68), type := 32, pos := "lock.go:67", after := #[{ on := 7, ground := Ground.data }], guard := none }) rfl (by kernel_rfl) (by kernel_rfl) (by kernel_rfl) (fun _ _ _ h => h) (Or.inl ⟨by rfl, ?_⟩) hHeld ?_
  rotate_left 1
  · intro w1 hSw
    (try dsimp only at hSw)
    go_simp
    rfl
  (try simp only [Act.put, List.setIfInBounds_toArray, List.set_cons_zero, List.set_cons_succ])
  apply wpAnyH_take (i := 9) (oi := { dst := some 70, op := Op.binOp BinOp.add 32 (Operand.tmp 69) (Operand.const (Value.int IntKind.u32 1)) 32, type := 32, pos := "lock.go:67", after := #[{ on := 8, ground := Ground.data }], guard := none }) rfl (by kernel_rfl) (by kernel_rfl) (by kernel_rfl) (fun _ _ _ h => h) (Or.inl ⟨by rfl, ?_⟩) hHeld ?_
  rotate_left 1
  · intro w1 hSw
    (try dsimp only at hSw)
    go_simp
    rfl
  (try simp only [Act.put, List.setIfInBounds_toArray, List.set_cons_zero, List.set_cons_succ])
  refine wpAnyH_ready (rs := [3]) (by kernel_rfl) (by simp) ?_
  refine AllReadyH.cons (o := { dst := some 64, op := Op.call { callee := Callee.value (Operand.func 121), args := #[Operand.tmp 63], argTypes := #[145] }, type := 3, pos := "lock.go:67", after := #[{ on := 2, ground := Ground.data }], guard := none }) rfl (fun K hK => ?_) AllReadyH.nil
  go_simp
  (with_reducible refine (HC.out _ (HUX.out.trans (by repeat (first | (with_reducible exact Upd.refl _ _) | (with_reducible apply Upd.drew) | (with_reducible refine Upd.grE ?_ _) | (with_reducible refine Upd.alloc ?_ _))))).mono ?_)
  rintro e w5 ⟨rfl, hu5⟩
  obtain ⟨p5, rfl⟩ := hu5.grown
  clear hu5
  refine hK.out _ _ (by repeat (first | (with_reducible exact Upd.refl _ _) | (with_reducible exact hHeld) | (with_reducible apply Upd.drew) | (with_reducible refine Upd.grE ?_ _) | (with_reducible refine Upd.alloc ?_ _) | (with_reducible refine updR ?_ (.inl (by simp))))) (fun hHeld => ?_)
  clear hK K
  (try simp only [Act.put, List.setIfInBounds_toArray, List.set_cons_zero, List.set_cons_succ])
  apply wpAnyH_take (i := 10) (oi := { dst := some 71, op := Op.build 41 #[(0, Operand.const (Value.int IntKind.i64 2)), (1, Operand.tmp 64), (2, Operand.tmp 70)], type := 41, pos := "lock.go:67", after := #[{ on := 3, ground := Ground.data }, { on := 9, ground := Ground.data }], guard := none }) rfl (by kernel_rfl) (by kernel_rfl) (by kernel_rfl) (fun _ _ _ h => h) (Or.inl ⟨by rfl, ?_⟩) hHeld ?_
  rotate_left 1
  · intro w1 hSw
    (try dsimp only at hSw)
    go_simp
    rfl
  (try simp only [Act.put, List.setIfInBounds_toArray, List.set_cons_zero, List.set_cons_succ])
  refine wpAnyH_ready (rs := [11]) (by kernel_rfl) (by simp) ?_
  refine AllReadyH.cons (o := { dst := none, op := Op.store 41 (Operand.tmp 2) (Operand.tmp 71), type := 0, pos := "lock.go:67", after := #[{ on := 10, ground := Ground.data }, { on := 3, ground := Ground.chain }, { on := 0, ground := Ground.phase }, { on := 1, ground := Ground.phase }, { on := 2, ground := Ground.phase }, { on := 3, ground := Ground.phase }, { on := 4, ground := Ground.phase }, { on := 5, ground := Ground.phase }, { on := 6, ground := Ground.phase }, { on := 7, ground := Ground.phase }, { on := 8, ground := Ground.phase }, { on := 9, ground := Ground.phase }, { on := 10, ground := Ground.phase }], guard := none }) rfl (fun K hK => ?_) AllReadyH.nil
  rw [if_pos (by rfl)]
  refine wp_store_row 41 _ _ rfl w.heap.size #[.int .i64 2, .int .i64 a, .int .u32 (IntKind.u32.wrap (seq + 1))] rfl rfl 41 #[.int .i64 0, .int .i64 0, .int .u32 0] (by repeat (first | (with_reducible exact HAX.out) | (with_reducible apply heap_drewE) | (with_reducible apply heap_grE) | (with_reducible apply heap_alloc'))) (info_act3 _ _ _) rfl (act_one _ _ _) ?_
  refine hK.out _ _ (by repeat (first | (with_reducible exact Upd.refl _ _) | (with_reducible exact hHeld) | (with_reducible apply Upd.drew) | (with_reducible refine Upd.grE ?_ _) | (with_reducible refine Upd.alloc ?_ _) | (with_reducible refine updR ?_ (.inl (by simp))))) (fun hHeld => ?_)
  clear hK K
  (try simp only [Act.put, List.setIfInBounds_toArray, List.set_cons_zero, List.set_cons_succ])
  apply wpAnyH_take (i := 12) (oi := { dst := some 3, op := Op.assign (Operand.const (Value.bool true)), type := 4, pos := "lock.go:67", after := #[{ on := 11, ground := Ground.chain }, { on := 0, ground := Ground.phase }, { on := 1, ground := Ground.phase }, { on := 2, ground := Ground.phase }, { on := 3, ground := Ground.phase }, { on := 4, ground := Ground.phase }, { on := 5, ground := Ground.phase }, { on := 6, ground := Ground.phase }, { on := 7, ground := Ground.phase }, { on := 8, ground := Ground.phase }, { on := 9, ground := Ground.phase }, { on := 10, ground := Ground.phase }, { on := 11, ground := Ground.phase }], guard := none }) rfl (by kernel_rfl) (by kernel_rfl) (by kernel_rfl) (fun _ _ _ h => h) (Or.inl ⟨by rfl, ?_⟩) hHeld ?_
  rotate_left 1
  · intro w1 hSw
    (try dsimp only at hSw)
    go_simp
    rfl
  (try simp only [Act.put, List.setIfInBounds_toArray, List.set_cons_zero, List.set_cons_succ])
  refine wpAnyH_done (by kernel_rfl) ?_ _
  go_wp2
  rw [Exit.noGoto_ret]
  refine ret_act' rfl (g := w.heap.size) (t := 41) (fr := (0, 0)) (x := .int .i64 2) (y := .int .i64 a) (z := .int .u32 (IntKind.u32.wrap (seq + 1))) rfl rfl rfl (setRow_heap _ _ #[.int .i64 0, .int .i64 0, .int .u32 0] _ _ _ (by repeat (first | (with_reducible exact HAX.out) | (with_reducible apply heap_drewE) | (with_reducible apply heap_grE) | (with_reducible apply heap_alloc')))) ?_
  exact ⟨rfl, HUX.out.then hHeld (fun i hi => .inr (by simp at hi; omega))⟩
set_option maxRecDepth 100000 in
set_option maxHeartbeats 4000000 in
theorem lkw_actd0 (h : LG a wd rt w b t more s) (hw : 1 ≤ wd ∧ wd ≤ 4) (hrt : 0 ≤ rt ∧ rt ≤ 8) (ha : 0 ≤ a ∧ a < 1000000) (hn : s.n = 2) (hon : s.on = true) (hk : (0 : Int) ≤ 0 ∧ 0 < wd) :
    Calls Try.prog 118 #[.pointer (some ⟨b, 0, none⟩)] w fun e w' => e = .returned (.tuple #[.agg #[.int .i64 2, .int .i64 (a + 1), .int .u32 s.v0], .bool true]) ∧ Upd [] w w' := by
  obtain ⟨x0, x1, x2, x3, x4, x5, x6, x17⟩ := h.pl
  obtain ⟨x7, x8, x9, x10⟩ := h.vs
  rw [hn] at x5
  rw [hon] at x17
  have lb := heap_lt h.h
  have HC := Lib.hid (fun (w1 : World) (hu : Upd [] w w1) => lk_data a wd rt 0 (h.keep hu (by simp)) hw hrt ha hk)
  have qk : decide ((0 : Int) < wd) = true := by simp; omega
  generalize s.seq = seq at *
  generalize s.v0 = v0 at *
  generalize s.v1 = v1 at *
  generalize s.v2 = v2 at *
  generalize s.v3 = v3 at *
  clear h hn hon hw hrt ha hk
  go_enter Try.func118, Try.ntmps118
  go_wp2
  refine wp_scope_jump1 2 rfl ?_
  intro K HK
  go_wp2
  go_step3
  refine And.intro rfl (HK.out _ _ ?_)
  clear HK
  go_upto_region 10 with (fail)
  have HUX := Lib.hid (show Upd [] w (w.alloc (.cells #[.int .i64 0, .int .i64 0, .int .u32 0] 41)) from (Upd.refl _ _).alloc _)
  have HAX := Lib.hid (heap_alloc_new w (.cells #[.int .i64 0, .int .i64 0, .int .u32 0] 41))
  generalize w.alloc (.cells #[.int .i64 0, .int .i64 0, .int .u32 0] 41) = wx at *
  have lx : b < wx.heap.size := Nat.lt_of_lt_of_le lb HUX.out.size
  have hbn : b ∉ [w.heap.size] := by simp; omega
  have R7 : ∀ w1 : World, Upd [w.heap.size] wx w1 → w1.cell? ⟨b, 7, none⟩ = some (.int .u32 v0) := fun w1 h => (h.cell (p := ⟨b, 7, none⟩) lx hbn).trans ((HUX.out.cell (p := ⟨b, 7, none⟩) lb (by simp)).trans x7)
  clear x0 x1 x2 x3 x4 x5 x6 x7 x8 x9 x10 x17
  refine wp_region_held_drew (S := fun w1 => Upd [w.heap.size] wx w1) (by kernel_rfl) ?_ (fun hHeld => ?_)
  · exact (Upd.refl _ wx).drew
  apply wpAnyH_take (i := 0) (oi := { dst := some 72, op := Op.move (Operand.tmp 0), type := 126, pos := "lock.go:69", after := #[], guard := none }) rfl (by kernel_rfl) (by kernel_rfl) (by kernel_rfl) (fun _ _ _ h => h) (Or.inl ⟨by rfl, ?_⟩) hHeld ?_
  rotate_left 1
  · intro w1 hSw
    (try dsimp only at hSw)
    go_simp
    rfl
  (try simp only [Act.put, List.setIfInBounds_toArray, List.set_cons_zero, List.set_cons_succ])
  apply wpAnyH_take (i := 1) (oi := { dst := some 73, op := Op.nilCheck (Operand.tmp 72), type := 0, pos := "lock.go:69", after := #[{ on := 0, ground := Ground.data }], guard := none }) rfl (by kernel_rfl) (by kernel_rfl) (by kernel_rfl) (fun _ _ _ h => h) (Or.inl ⟨by rfl, ?_⟩) hHeld ?_
  rotate_left 1
  · intro w1 hSw
    (try dsimp only at hSw)
    go_simp
    rfl
  (try simp only [Act.put, List.setIfInBounds_toArray, List.set_cons_zero, List.set_cons_succ])
  apply wpAnyH_take (i := 2) (oi := { dst := some 74, op := Op.fieldAddr 148 (Operand.tmp 73) 0, type := 0, pos := "lock.go:69", after := #[{ on := 1, ground := Ground.data }], guard := none }) rfl (by kernel_rfl) (by kernel_rfl) (by kernel_rfl) (fun _ _ _ h => h) (Or.inl ⟨by rfl, ?_⟩) hHeld ?_
  rotate_left 1
  · intro w1 hSw
    (try dsimp only at hSw)
    go_simp
    rfl
  (try simp only [Act.put, List.setIfInBounds_toArray, List.set_cons_zero, List.set_cons_succ])
  apply wpAnyH_take (i := 3) (oi := { dst := some 75, op := Op.move (Operand.tmp 4), type := 3, pos := "lock.go:69", after := #[], guard := none }) rfl (by kernel_rfl) (by kernel_rfl) (by kernel_rfl) (fun _ _ _ h => h) (Or.inl ⟨by rfl, ?_⟩) hHeld ?_
  rotate_left 1
  · intro w1 hSw
    (try dsimp only at hSw)
    go_simp
    rfl
  (try simp only [Act.put, List.setIfInBounds_toArray, List.set_cons_zero, List.set_cons_succ])
  apply wpAnyH_take (i := 5) (oi := { dst := some 77, op := Op.move (Operand.tmp 0), type := 126, pos := "lock.go:69", after := #[], guard := none }) rfl (by kernel_rfl) (by kernel_rfl) (by kernel_rfl) (fun _ _ _ h => h) (Or.inl ⟨by rfl, ?_⟩) hHeld ?_
  rotate_left 1
  · intro w1 hSw
    (try dsimp only at hSw)
    go_simp
    rfl
  (try simp only [Act.put, List.setIfInBounds_toArray, List.set_cons_zero, List.set_cons_succ])
  apply wpAnyH_take (i := 6) (oi := { dst := some 78, op := Op.move (Operand.tmp 4), type := 3, pos := "lock.go:69", after := #[], guard := none }) rfl (by kernel_rfl) (by kernel_rfl) (by kernel_rfl) (fun _ _ _ h => h) (Or.inl ⟨by rfl, ?_⟩) hHeld ?_
  rotate_left 1
  · intro w1 hSw
    (try dsimp only at hSw)
    go_simp
    rfl
  (try simp only [Act.put, List.setIfInBounds_toArray, List.set_cons_zero, List.set_cons_succ])
  apply wpAnyH_take (i := 7) (oi := { dst := some 79, op := Op.nilCheck (Operand.tmp 77), type := 0, pos := "lock.go:69", after := #[{ on := 5, ground := Ground.data }], guard := none }) rfl (by kernel_rfl) (by kernel_rfl) (by kernel_rfl) (fun _ _ _ h => h) (Or.inl ⟨by rfl, ?_⟩) hHeld ?_
  rotate_left 1
  · intro w1 hSw
    (try dsimp only at hSw)
    go_simp
    rfl
  (try simp only [Act.put, List.setIfInBounds_toArray, List.set_cons_zero, List.set_cons_succ])
  apply wpAnyH_take (i := 8) (oi := { dst := some 80, op := Op.fieldAddr 148 (Operand.tmp 79) 0, type := 0, pos := "lock.go:69", after := #[{ on := 7, ground := Ground.data }], guard := none }) rfl (by kernel_rfl) (by kernel_rfl) (by kernel_rfl) (fun _ _ _ h => h) (Or.inl ⟨by rfl, ?_⟩) hHeld ?_
  rotate_left 1
  · intro w1 hSw
    (try dsimp only at hSw)
    go_simp
    rfl
  (try simp only [Act.put, List.setIfInBounds_toArray, List.set_cons_zero, List.set_cons_succ])
  apply wpAnyH_take (i := 9) (oi := { dst := some 81, op := Op.fieldAddr 145 (Operand.tmp 80) 3, type := 0, pos := "lock.go:69", after := #[{ on := 8, ground := Ground.data }], guard := none }) rfl (by kernel_rfl) (by kernel_rfl) (by kernel_rfl) (fun _ _ _ h => h) (Or.inl ⟨by rfl, ?_⟩) hHeld ?_
  rotate_left 1
  · intro w1 hSw
    (try dsimp only at hSw)
    go_simp
    rfl
  (try simp only [Act.put, List.setIfInBounds_toArray, List.set_cons_zero, List.set_cons_succ])
  apply wpAnyH_take (i := 10) (oi := { dst := some 82, op := Op.indexAddr 34 (Operand.tmp 81) (Operand.tmp 78), type := 0, pos := "lock.go:69", after := #[{ on := 9, ground := Ground.data }, { on := 6, ground := Ground.data }], guard := none }) rfl (by kernel_rfl) (by kernel_rfl) (by kernel_rfl) (fun _ _ _ h => h) (Or.inl ⟨by rfl, ?_⟩) hHeld ?_
  rotate_left 1
  · intro w1 hSw
    (try dsimp only at hSw)
    go_simp
    rfl
  (try simp only [Act.put, List.setIfInBounds_toArray, List.set_cons_zero, List.set_cons_succ])
  apply wpAnyH_take (i := 11) (oi := { dst := some 83, op := Op.load 32 (Operand.tmp 82), type := 32, pos := "lock.go:69", after := #[{ on := 10, ground := Ground.data }], guard := none }) rfl (by kernel_rfl) (by kernel_rfl) (by kernel_rfl) (fun _ _ _ h => h) (Or.inl ⟨by rfl, ?_⟩) hHeld ?_
  rotate_left 1
  · intro w1 hSw
    (try dsimp only at hSw)
    go_simp
    rfl
  (try simp only [Act.put, List.setIfInBounds_toArray, List.set_cons_zero, List.set_cons_succ])
  refine wpAnyH_ready (rs := [4]) (by kernel_rfl) (by simp) ?_
  refine AllReadyH.cons (o := { dst := some 76, op := Op.call { callee := Callee.value (Operand.func 122), args := #[Operand.tmp 74, Operand.tmp 75], argTypes := #[145, 3] }, type := 3, pos := "lock.go:69", after := #[{ on := 2, ground := Ground.data }, { on := 3, ground := Ground.data }], guard := none }) rfl (fun K hK => ?_) AllReadyH.nil
  go_simp
  (with_reducible refine (HC.out _ (HUX.out.trans (by repeat (first | (with_reducible exact Upd.refl _ _) | (with_reducible apply Upd.drew) | (with_reducible refine Upd.grE ?_ _) | (with_reducible refine Upd.alloc ?_ _))))).mono ?_)
  rintro e w5 ⟨rfl, hu5⟩
  obtain ⟨p5, rfl⟩ := hu5.grown
  clear hu5
  refine hK.out _ _ (by repeat (first | (with_reducible exact Upd.refl _ _) | (with_reducible exact hHeld) | (with_reducible apply Upd.drew) | (with_reducible refine Upd.grE ?_ _) | (with_reducible refine Upd.alloc ?_ _) | (with_reducible refine updR ?_ (.inl (by simp))))) (fun hHeld => ?_)
  clear hK K
  (try simp only [Act.put, List.setIfInBounds_toArray, List.set_cons_zero, List.set_cons_succ])
  apply wpAnyH_take (i := 12) (oi := { dst := some 84, op := Op.build 41 #[(0, Operand.const (Value.int IntKind.i64 2)), (1, Operand.tmp 76), (2, Operand.tmp 83)], type := 41, pos := "lock.go:69", after := #[{ on := 4, ground := Ground.data }, { on := 11, ground := Ground.data }], guard := none }) rfl (by kernel_rfl) (by kernel_rfl) (by kernel_rfl) (fun _ _ _ h => h) (Or.inl ⟨by rfl, ?_⟩) hHeld ?_
  rotate_left 1
  · intro w1 hSw
    (try dsimp only at hSw)
    go_simp
    rfl
  (try simp only [Act.put, List.setIfInBounds_toArray, List.set_cons_zero, List.set_cons_succ])
  refine wpAnyH_ready (rs := [13]) (by kernel_rfl) (by simp) ?_
  refine AllReadyH.cons (o := { dst := none, op := Op.store 41 (Operand.tmp 2) (Operand.tmp 84), type := 0, pos := "lock.go:69", after := #[{ on := 12, ground := Ground.data }, { on := 4, ground := Ground.chain }, { on := 0, ground := Ground.phase }, { on := 1, ground := Ground.phase }, { on := 2, ground := Ground.phase }, { on := 3, ground := Ground.phase }, { on := 4, ground := Ground.phase }, { on := 5, ground := Ground.phase }, { on := 6, ground := Ground.phase }, { on := 7, ground := Ground.phase }, { on := 8, ground := Ground.phase }, { on := 9, ground := Ground.phase }, { on := 10, ground := Ground.phase }, { on := 11, ground := Ground.phase }, { on := 12, ground := Ground.phase }], guard := none }) rfl (fun K hK => ?_) AllReadyH.nil
  rw [if_pos (by rfl)]
  refine wp_store_row 41 _ _ rfl w.heap.size #[.int .i64 2, .int .i64 (a + 1), .int .u32 v0] rfl rfl 41 #[.int .i64 0, .int .i64 0, .int .u32 0] (by repeat (first | (with_reducible exact HAX.out) | (with_reducible apply heap_drewE) | (with_reducible apply heap_grE) | (with_reducible apply heap_alloc'))) (info_act3 _ _ _) rfl (act_one _ _ _) ?_
  refine hK.out _ _ (by repeat (first | (with_reducible exact Upd.refl _ _) | (with_reducible exact hHeld) | (with_reducible apply Upd.drew) | (with_reducible refine Upd.grE ?_ _) | (with_reducible refine Upd.alloc ?_ _) | (with_reducible refine updR ?_ (.inl (by simp))))) (fun hHeld => ?_)
  clear hK K
  (try simp only [Act.put, List.setIfInBounds_toArray, List.set_cons_zero, List.set_cons_succ])
  apply wpAnyH_take (i := 14) (oi := { dst := some 3, op := Op.assign (Operand.const (Value.bool true)), type := 4, pos := "lock.go:69", after := #[{ on := 13, ground := Ground.chain }, { on := 0, ground := Ground.phase }, { on := 1, ground := Ground.phase }, { on := 2, ground := Ground.phase }, { on := 3, ground := Ground.phase }, { on := 4, ground := Ground.phase }, { on := 5, ground := Ground.phase }, { on := 6, ground := Ground.phase }, { on := 7, ground := Ground.phase }, { on := 8, ground := Ground.phase }, { on := 9, ground := Ground.phase }, { on := 10, ground := Ground.phase }, { on := 11, ground := Ground.phase }, { on := 12, ground := Ground.phase }, { on := 13, ground := Ground.phase }], guard := none }) rfl (by kernel_rfl) (by kernel_rfl) (by kernel_rfl) (fun _ _ _ h => h) (Or.inl ⟨by rfl, ?_⟩) hHeld ?_
  rotate_left 1
  · intro w1 hSw
    (try dsimp only at hSw)
    go_simp
    rfl
  (try simp only [Act.put, List.setIfInBounds_toArray, List.set_cons_zero, List.set_cons_succ])
  refine wpAnyH_done (by kernel_rfl) ?_ _
  go_wp2
  rw [Exit.noGoto_ret]
  refine ret_act' rfl (g := w.heap.size) (t := 41) (fr := (0, 0)) (x := .int .i64 2) (y := .int .i64 (a + 1)) (z := .int .u32 v0) rfl rfl rfl (setRow_heap _ _ #[.int .i64 0, .int .i64 0, .int .u32 0] _ _ _ (by repeat (first | (with_reducible exact HAX.out) | (with_reducible apply heap_drewE) | (with_reducible apply heap_grE) | (with_reducible apply heap_alloc')))) ?_
  exact ⟨rfl, HUX.out.then hHeld (fun i hi => .inr (by simp at hi; omega))⟩
set_option maxRecDepth 100000 in
set_option maxHeartbeats 4000000 in
theorem lkw_actd1 (h : LG a wd rt w b t more s) (hw : 1 ≤ wd ∧ wd ≤ 4) (hrt : 0 ≤ rt ∧ rt ≤ 8) (ha : 0 ≤ a ∧ a < 1000000) (hn : s.n = 3) (hon : s.on = true) (hk : (0 : Int) ≤ 1 ∧ 1 < wd) :
    Calls Try.prog 118 #[.pointer (some ⟨b, 0, none⟩)] w fun e w' => e = .returned (.tuple #[.agg #[.int .i64 2, .int .i64 (a + 1 + 1), .int .u32 s.v1], .bool true]) ∧ Upd [] w w' := by
  obtain ⟨x0, x1, x2, x3, x4, x5, x6, x17⟩ := h.pl
  obtain ⟨x7, x8, x9, x10⟩ := h.vs
  rw [hn] at x5
  rw [hon] at x17
  have lb := heap_lt h.h
  have HC := Lib.hid (fun (w1 : World) (hu : Upd [] w w1) => lk_data a wd rt 1 (h.keep hu (by simp)) hw hrt ha hk)
  have qk : decide ((1 : Int) < wd) = true := by simp; omega
  generalize s.seq = seq at *
  generalize s.v0 = v0 at *
  generalize s.v1 = v1 at *
  generalize s.v2 = v2 at *
  generalize s.v3 = v3 at *
  clear h hn hon hw hrt ha hk
  go_enter Try.func118, Try.ntmps118
  go_wp2
  refine wp_scope_jump1 2 rfl ?_
  intro K HK
  go_wp2
  go_step3
  refine And.intro rfl (HK.out _ _ ?_)
  clear HK
  go_upto_region 10 with (fail)
  have HUX := Lib.hid (show Upd [] w (w.alloc (.cells #[.int .i64 0, .int .i64 0, .int .u32 0] 41)) from (Upd.refl _ _).alloc _)
  have HAX := Lib.hid (heap_alloc_new w (.cells #[.int .i64 0, .int .i64 0, .int .u32 0] 41))
  generalize w.alloc (.cells #[.int .i64 0, .int .i64 0, .int .u32 0] 41) = wx at *
  have lx : b < wx.heap.size := Nat.lt_of_lt_of_le lb HUX.out.size
  have hbn : b ∉ [w.heap.size] := by simp; omega
  have R8 : ∀ w1 : World, Upd [w.heap.size] wx w1 → w1.cell? ⟨b, 8, none⟩ = some (.int .u32 v1) := fun w1 h => (h.cell (p := ⟨b, 8, none⟩) lx hbn).trans ((HUX.out.cell (p := ⟨b, 8, none⟩) lb (by simp)).trans x8)
  clear x0 x1 x2 x3 x4 x5 x6 x7 x8 x9 x10 x17
  refine wp_region_held_drew (S := fun w1 => Upd [w.heap.size] wx w1) (by kernel_rfl) ?_ (fun hHeld => ?_)
  · exact (Upd.refl _ wx).drew
  apply wpAnyH_take (i := 0) (oi := { dst := some 72, op := Op.move (Operand.tmp 0), type := 126, pos := "lock.go:69", after := #[], guard := none }) rfl (by kernel_rfl) (by kernel_rfl) (by kernel_rfl) (fun _ _ _ h => h) (Or.inl ⟨by rfl, ?_⟩) hHeld ?_
  rotate_left 1
  · intro w1 hSw
    (try dsimp only at hSw)
    go_simp
    rfl
  (try simp only [Act.put, List.setIfInBounds_toArray, List.set_cons_zero, List.set_cons_succ])
  apply wpAnyH_take (i := 1) (oi := { dst := some 73, op := Op.nilCheck (Operand.tmp 72), type := 0, pos := "lock.go:69", after := #[{ on := 0, ground := Ground.data }], guard := none }) rfl (by kernel_rfl) (by kernel_rfl) (by kernel_rfl) (fun _ _ _ h => h) (Or.inl ⟨by rfl, ?_⟩) hHeld ?_
  rotate_left 1
  · intro w1 hSw
    (try dsimp only at hSw)
    go_simp
    rfl
  (try simp only [Act.put, List.setIfInBounds_toArray, List.set_cons_zero, List.set_cons_succ])
  apply wpAnyH_take (i := 2) (oi := { dst := some 74, op := Op.fieldAddr 148 (Operand.tmp 73) 0, type := 0, pos := "lock.go:69", after := #[{ on := 1, ground := Ground.data }], guard := none }) rfl (by kernel_rfl) (by kernel_rfl) (by kernel_rfl) (fun _ _ _ h => h) (Or.inl ⟨by rfl, ?_⟩) hHeld ?_
  rotate_left 1
  · intro w1 hSw
    (try dsimp only at hSw)
    go_simp
    rfl
  (try simp only [Act.put, List.setIfInBounds_toArray, List.set_cons_zero, List.set_cons_succ])
  apply wpAnyH_take (i := 3) (oi := { dst := some 75, op := Op.move (Operand.tmp 4), type := 3, pos := "lock.go:69", after := #[], guard := none }) rfl (by kernel_rfl) (by kernel_rfl) (by kernel_rfl) (fun _ _ _ h => h) (Or.inl ⟨by rfl, ?_⟩) hHeld ?_
  rotate_left 1
  · intro w1 hSw
    (try dsimp only at hSw)
    go_simp
    rfl
  (try simp only [Act.put, List.setIfInBounds_toArray, List.set_cons_zero, List.set_cons_succ])
  apply wpAnyH_take (i := 5) (oi := { dst := some 77, op := Op.move (Operand.tmp 0), type := 126, pos := "lock.go:69", after := #[], guard := none }) rfl (by kernel_rfl) (by kernel_rfl) (by kernel_rfl) (fun _ _ _ h => h) (Or.inl ⟨by rfl, ?_⟩) hHeld ?_
  rotate_left 1
  · intro w1 hSw
    (try dsimp only at hSw)
    go_simp
    rfl
  (try simp only [Act.put, List.setIfInBounds_toArray, List.set_cons_zero, List.set_cons_succ])
  apply wpAnyH_take (i := 6) (oi := { dst := some 78, op := Op.move (Operand.tmp 4), type := 3, pos := "lock.go:69", after := #[], guard := none }) rfl (by kernel_rfl) (by kernel_rfl) (by kernel_rfl) (fun _ _ _ h => h) (Or.inl ⟨by rfl, ?_⟩) hHeld ?_
  rotate_left 1
  · intro w1 hSw
    (try dsimp only at hSw)
    go_simp
    rfl
  (try simp only [Act.put, List.setIfInBounds_toArray, List.set_cons_zero, List.set_cons_succ])
  apply wpAnyH_take (i := 7) (oi := { dst := some 79, op := Op.nilCheck (Operand.tmp 77), type := 0, pos := "lock.go:69", after := #[{ on := 5, ground := Ground.data }], guard := none }) rfl (by kernel_rfl) (by kernel_rfl) (by kernel_rfl) (fun _ _ _ h => h) (Or.inl ⟨by rfl, ?_⟩) hHeld ?_
  rotate_left 1
  · intro w1 hSw
    (try dsimp only at hSw)
    go_simp
    rfl
  (try simp only [Act.put, List.setIfInBounds_toArray, List.set_cons_zero, List.set_cons_succ])
  apply wpAnyH_take (i := 8) (oi := { dst := some 80, op := Op.fieldAddr 148 (Operand.tmp 79) 0, type := 0, pos := "lock.go:69", after := #[{ on := 7, ground := Ground.data }], guard := none }) rfl (by kernel_rfl) (by kernel_rfl) (by kernel_rfl) (fun _ _ _ h => h) (Or.inl ⟨by rfl, ?_⟩) hHeld ?_
  rotate_left 1
  · intro w1 hSw
    (try dsimp only at hSw)
    go_simp
    rfl
  (try simp only [Act.put, List.setIfInBounds_toArray, List.set_cons_zero, List.set_cons_succ])
  apply wpAnyH_take (i := 9) (oi := { dst := some 81, op := Op.fieldAddr 145 (Operand.tmp 80) 3, type := 0, pos := "lock.go:69", after := #[{ on := 8, ground := Ground.data }], guard := none }) rfl (by kernel_rfl) (by kernel_rfl) (by kernel_rfl) (fun _ _ _ h => h) (Or.inl ⟨by rfl, ?_⟩) hHeld ?_
  rotate_left 1
  · intro w1 hSw
    (try dsimp only at hSw)
    go_simp
    rfl
  (try simp only [Act.put, List.setIfInBounds_toArray, List.set_cons_zero, List.set_cons_succ])
  apply wpAnyH_take (i := 10) (oi := { dst := some 82, op := Op.indexAddr 34 (Operand.tmp 81) (Operand.tmp 78), type := 0, pos := "lock.go:69", after := #[{ on := 9, ground := Ground.data }, { on := 6, ground := Ground.data }], guard := none }) rfl (by kernel_rfl) (by kernel_rfl) (by kernel_rfl) (fun _ _ _ h => h) (Or.inl ⟨by rfl, ?_⟩) hHeld ?_
  rotate_left 1
  · intro w1 hSw
    (try dsimp only at hSw)
    go_simp
    rfl
  (try simp only [Act.put, List.setIfInBounds_toArray, List.set_cons_zero, List.set_cons_succ])
  apply wpAnyH_take (i := 11) (oi := { dst := some 83, op := Op.load 32 (Operand.tmp 82), type := 32, pos := "lock.go:69", after := #[{ on := 10, ground := Ground.data }], guard := none }) rfl (by kernel_rfl) (by kernel_rfl) (by kernel_rfl) (fun _ _ _ h => h) (Or.inl ⟨by rfl, ?_⟩) hHeld ?_
  rotate_left 1
  · intro w1 hSw
    (try dsimp only at hSw)
    go_simp
    rfl
  (try simp only [Act.put, List.setIfInBounds_toArray, List.set_cons_zero, List.set_cons_succ])
  refine wpAnyH_ready (rs := [4]) (by kernel_rfl) (by simp) ?_
  refine AllReadyH.cons (o := { dst := some 76, op := Op.call { callee := Callee.value (Operand.func 122), args := #[Operand.tmp 74, Operand.tmp 75], argTypes := #[145, 3] }, type := 3, pos := "lock.go:69", after := #[{ on := 2, ground := Ground.data }, { on := 3, ground := Ground.data }], guard := none }) rfl (fun K hK => ?_) AllReadyH.nil
  go_simp
  (with_reducible refine (HC.out _ (HUX.out.trans (by repeat (first | (with_reducible exact Upd.refl _ _) | (with_reducible apply Upd.drew) | (with_reducible refine Upd.grE ?_ _) | (with_reducible refine Upd.alloc ?_ _))))).mono ?_)
  rintro e w5 ⟨rfl, hu5⟩
  obtain ⟨p5, rfl⟩ := hu5.grown
  clear hu5
  refine hK.out _ _ (by repeat (first | (with_reducible exact Upd.refl _ _) | (with_reducible exact hHeld) | (with_reducible apply Upd.drew) | (with_reducible refine Upd.grE ?_ _) | (with_reducible refine Upd.alloc ?_ _) | (with_reducible refine updR ?_ (.inl (by simp))))) (fun hHeld => ?_)
  clear hK K
  (try simp only [Act.put, List.setIfInBounds_toArray, List.set_cons_zero, List.set_cons_succ])
  apply wpAnyH_take (i := 12) (oi := { dst := some 84, op := Op.build 41 #[(0, Operand.const (Value.int IntKind.i64 2)), (1, Operand.tmp 76), (2, Operand.tmp 83)], type := 41, pos := "lock.go:69", after := #[{ on := 4, ground := Ground.data }, { on := 11, ground := Ground.data }], guard := none }) rfl (by kernel_rfl) (by kernel_rfl) (by kernel_rfl) (fun _ _ _ h => h) (Or.inl ⟨by rfl, ?_⟩) hHeld ?_
  rotate_left 1
  · intro w1 hSw
    (try dsimp only at hSw)
    go_simp
    rfl
  (try simp only [Act.put, List.setIfInBounds_toArray, List.set_cons_zero, List.set_cons_succ])
  refine wpAnyH_ready (rs := [13]) (by kernel_rfl) (by simp) ?_
  refine AllReadyH.cons (o := { dst := none, op := Op.store 41 (Operand.tmp 2) (Operand.tmp 84), type := 0, pos := "lock.go:69", after := #[{ on := 12, ground := Ground.data }, { on := 4, ground := Ground.chain }, { on := 0, ground := Ground.phase }, { on := 1, ground := Ground.phase }, { on := 2, ground := Ground.phase }, { on := 3, ground := Ground.phase }, { on := 4, ground := Ground.phase }, { on := 5, ground := Ground.phase }, { on := 6, ground := Ground.phase }, { on := 7, ground := Ground.phase }, { on := 8, ground := Ground.phase }, { on := 9, ground := Ground.phase }, { on := 10, ground := Ground.phase }, { on := 11, ground := Ground.phase }, { on := 12, ground := Ground.phase }], guard := none }) rfl (fun K hK => ?_) AllReadyH.nil
  rw [if_pos (by rfl)]
  refine wp_store_row 41 _ _ rfl w.heap.size #[.int .i64 2, .int .i64 (a + 1 + 1), .int .u32 v1] rfl rfl 41 #[.int .i64 0, .int .i64 0, .int .u32 0] (by repeat (first | (with_reducible exact HAX.out) | (with_reducible apply heap_drewE) | (with_reducible apply heap_grE) | (with_reducible apply heap_alloc'))) (info_act3 _ _ _) rfl (act_one _ _ _) ?_
  refine hK.out _ _ (by repeat (first | (with_reducible exact Upd.refl _ _) | (with_reducible exact hHeld) | (with_reducible apply Upd.drew) | (with_reducible refine Upd.grE ?_ _) | (with_reducible refine Upd.alloc ?_ _) | (with_reducible refine updR ?_ (.inl (by simp))))) (fun hHeld => ?_)
  clear hK K
  (try simp only [Act.put, List.setIfInBounds_toArray, List.set_cons_zero, List.set_cons_succ])
  apply wpAnyH_take (i := 14) (oi := { dst := some 3, op := Op.assign (Operand.const (Value.bool true)), type := 4, pos := "lock.go:69", after := #[{ on := 13, ground := Ground.chain }, { on := 0, ground := Ground.phase }, { on := 1, ground := Ground.phase }, { on := 2, ground := Ground.phase }, { on := 3, ground := Ground.phase }, { on := 4, ground := Ground.phase }, { on := 5, ground := Ground.phase }, { on := 6, ground := Ground.phase }, { on := 7, ground := Ground.phase }, { on := 8, ground := Ground.phase }, { on := 9, ground := Ground.phase }, { on := 10, ground := Ground.phase }, { on := 11, ground := Ground.phase }, { on := 12, ground := Ground.phase }, { on := 13, ground := Ground.phase }], guard := none }) rfl (by kernel_rfl) (by kernel_rfl) (by kernel_rfl) (fun _ _ _ h => h) (Or.inl ⟨by rfl, ?_⟩) hHeld ?_
  rotate_left 1
  · intro w1 hSw
    (try dsimp only at hSw)
    go_simp
    rfl
  (try simp only [Act.put, List.setIfInBounds_toArray, List.set_cons_zero, List.set_cons_succ])
  refine wpAnyH_done (by kernel_rfl) ?_ _
  go_wp2
  rw [Exit.noGoto_ret]
  refine ret_act' rfl (g := w.heap.size) (t := 41) (fr := (0, 0)) (x := .int .i64 2) (y := .int .i64 (a + 1 + 1)) (z := .int .u32 v1) rfl rfl rfl (setRow_heap _ _ #[.int .i64 0, .int .i64 0, .int .u32 0] _ _ _ (by repeat (first | (with_reducible exact HAX.out) | (with_reducible apply heap_drewE) | (with_reducible apply heap_grE) | (with_reducible apply heap_alloc')))) ?_
  exact ⟨rfl, HUX.out.then hHeld (fun i hi => .inr (by simp at hi; omega))⟩
set_option maxRecDepth 100000 in
set_option maxHeartbeats 4000000 in
theorem lkw_actd2 (h : LG a wd rt w b t more s) (hw : 1 ≤ wd ∧ wd ≤ 4) (hrt : 0 ≤ rt ∧ rt ≤ 8) (ha : 0 ≤ a ∧ a < 1000000) (hn : s.n = 4) (hon : s.on = true) (hk : (0 : Int) ≤ 2 ∧ 2 < wd) :
    Calls Try.prog 118 #[.pointer (some ⟨b, 0, none⟩)] w fun e w' => e = .returned (.tuple #[.agg #[.int .i64 2, .int .i64 (a + 1 + 2), .int .u32 s.v2], .bool true]) ∧ Upd [] w w' := by
  obtain ⟨x0, x1, x2, x3, x4, x5, x6, x17⟩ := h.pl
  obtain ⟨x7, x8, x9, x10⟩ := h.vs
  rw [hn] at x5
  rw [hon] at x17
  have lb := heap_lt h.h
  have HC := Lib.hid (fun (w1 : World) (hu : Upd [] w w1) => lk_data a wd rt 2 (h.keep hu (by simp)) hw hrt ha hk)
  have qk : decide ((2 : Int) < wd) = true := by simp; omega
  generalize s.seq = seq at *
  generalize s.v0 = v0 at *
  generalize s.v1 = v1 at *
  generalize s.v2 = v2 at *
  generalize s.v3 = v3 at *
  clear h hn hon hw hrt ha hk
  go_enter Try.func118, Try.ntmps118
  go_wp2
  refine wp_scope_jump1 2 rfl ?_
  intro K HK
  go_wp2
  go_step3
  refine And.intro rfl (HK.out _ _ ?_)
  clear HK
  go_upto_region 10 with (fail)
  have HUX := Lib.hid (show Upd [] w (w.alloc (.cells #[.int .i64 0, .int .i64 0, .int .u32 0] 41)) from (Upd.refl _ _).alloc _)
  have HAX := Lib.hid (heap_alloc_new w (.cells #[.int .i64 0, .int .i64 0, .int .u32 0] 41))
  generalize w.alloc (.cells #[.int .i64 0, .int .i64 0, .int .u32 0] 41) = wx at *
  have lx : b < wx.heap.size := Nat.lt_of_lt_of_le lb HUX.out.size
  have hbn : b ∉ [w.heap.size] := by simp; omega
  have R9 : ∀ w1 : World, Upd [w.heap.size] wx w1 → w1.cell? ⟨b, 9, none⟩ = some (.int .u32 v2) := fun w1 h => (h.cell (p := ⟨b, 9, none⟩) lx hbn).trans ((HUX.out.cell (p := ⟨b, 9, none⟩) lb (by simp)).trans x9)
  clear x0 x1 x2 x3 x4 x5 x6 x7 x8 x9 x10 x17
  refine wp_region_held_drew (S := fun w1 => Upd [w.heap.size] wx w1) (by kernel_rfl) ?_ (fun hHeld => ?_)
  · exact (Upd.refl _ wx).drew
  apply wpAnyH_take (i := 0) (oi := { dst := some 72, op := Op.move (Operand.tmp 0), type := 126, pos := "lock.go:69", after := #[], guard := none }) rfl (by kernel_rfl) (by kernel_rfl) (by kernel_rfl) (fun _ _ _ h => h) (Or.inl ⟨by rfl, ?_⟩) hHeld ?_
  rotate_left 1
  · intro w1 hSw
    (try dsimp only at hSw)
    go_simp
    rfl
  (try simp only [Act.put, List.setIfInBounds_toArray, List.set_cons_zero, List.set_cons_succ])
  apply wpAnyH_take (i := 1) (oi := { dst := some 73, op := Op.nilCheck (Operand.tmp 72), type := 0, pos := "lock.go:69", after := #[{ on := 0, ground := Ground.data }], guard := none }) rfl (by kernel_rfl) (by kernel_rfl) (by kernel_rfl) (fun _ _ _ h => h) (Or.inl ⟨by rfl, ?_⟩) hHeld ?_
  rotate_left 1
  · intro w1 hSw
    (try dsimp only at hSw)
    go_simp
    rfl
  (try simp only [Act.put, List.setIfInBounds_toArray, List.set_cons_zero, List.set_cons_succ])
  apply wpAnyH_take (i := 2) (oi := { dst := some 74, op := Op.fieldAddr 148 (Operand.tmp 73) 0, type := 0, pos := "lock.go:69", after := #[{ on := 1, ground := Ground.data }], guard := none }) rfl (by kernel_rfl) (by kernel_rfl) (by kernel_rfl) (fun _ _ _ h => h) (Or.inl ⟨by rfl, ?_⟩) hHeld ?_
  rotate_left 1
  · intro w1 hSw
    (try dsimp only at hSw)
    go_simp
    rfl
  (try simp only [Act.put, List.setIfInBounds_toArray, List.set_cons_zero, List.set_cons_succ])
  apply wpAnyH_take (i := 3) (oi := { dst := some 75, op := Op.move (Operand.tmp 4), type := 3, pos := "lock.go:69", after := #[], guard := none }) rfl (by kernel_rfl) (by kernel_rfl) (by kernel_rfl) (fun _ _ _ h => h) (Or.inl ⟨by rfl, ?_⟩) hHeld ?_
  rotate_left 1
  · intro w1 hSw
    (try dsimp only at hSw)
    go_simp
    rfl
  (try simp only [Act.put, List.setIfInBounds_toArray, List.set_cons_zero, List.set_cons_succ])
  apply wpAnyH_take (i := 5) (oi := { dst := some 77, op := Op.move (Operand.tmp 0), type := 126, pos := "lock.go:69", after := #[], guard := none }) rfl (by kernel_rfl) (by kernel_rfl) (by kernel_rfl) (fun _ _ _ h => h) (Or.inl ⟨by rfl, ?_⟩) hHeld ?_
  rotate_left 1
  · intro w1 hSw
    (try dsimp only at hSw)
    go_simp
    rfl
  (try simp only [Act.put, List.setIfInBounds_toArray, List.set_cons_zero, List.set_cons_succ])
  apply wpAnyH_take (i := 6) (oi := { dst := some 78, op := Op.move (Operand.tmp 4), type := 3, pos := "lock.go:69", after := #[], guard := none }) rfl (by kernel_rfl) (by kernel_rfl) (by kernel_rfl) (fun _ _ _ h => h) (Or.inl ⟨by rfl, ?_⟩) hHeld ?_
  rotate_left 1
  · intro w1 hSw
    (try dsimp only at hSw)
    go_simp
    rfl
  (try simp only [Act.put, List.setIfInBounds_toArray, List.set_cons_zero, List.set_cons_succ])
  apply wpAnyH_take (i := 7) (oi := { dst := some 79, op := Op.nilCheck (Operand.tmp 77), type := 0, pos := "lock.go:69", after := #[{ on := 5, ground := Ground.data }], guard := none }) rfl (by kernel_rfl) (by kernel_rfl) (by kernel_rfl) (fun _ _ _ h => h) (Or.inl ⟨by rfl, ?_⟩) hHeld ?_
  rotate_left 1
  · intro w1 hSw
    (try dsimp only at hSw)
    go_simp
    rfl
  (try simp only [Act.put, List.setIfInBounds_toArray, List.set_cons_zero, List.set_cons_succ])
  apply wpAnyH_take (i := 8) (oi := { dst := some 80, op := Op.fieldAddr 148 (Operand.tmp 79) 0, type := 0, pos := "lock.go:69", after := #[{ on := 7, ground := Ground.data }], guard := none }) rfl (by kernel_rfl) (by kernel_rfl) (by kernel_rfl) (fun _ _ _ h => h) (Or.inl ⟨by rfl, ?_⟩) hHeld ?_
  rotate_left 1
  · intro w1 hSw
    (try dsimp only at hSw)
    go_simp
    rfl
  (try simp only [Act.put, List.setIfInBounds_toArray, List.set_cons_zero, List.set_cons_succ])
  apply wpAnyH_take (i := 9) (oi := { dst := some 81, op := Op.fieldAddr 145 (Operand.tmp 80) 3, type := 0, pos := "lock.go:69", after := #[{ on := 8, ground := Ground.data }], guard := none }) rfl (by kernel_rfl) (by kernel_rfl) (by kernel_rfl) (fun _ _ _ h => h) (Or.inl ⟨by rfl, ?_⟩) hHeld ?_
  rotate_left 1
  · intro w1 hSw
    (try dsimp only at hSw)
    go_simp
    rfl
  (try simp only [Act.put, List.setIfInBounds_toArray, List.set_cons_zero, List.set_cons_succ])
  apply wpAnyH_take (i := 10) (oi := { dst := some 82, op := Op.indexAddr 34 (Operand.tmp 81) (Operand.tmp 78), type := 0, pos := "lock.go:69", after := #[{ on := 9, ground := Ground.data }, { on := 6, ground := Ground.data }], guard := none }) rfl (by kernel_rfl) (by kernel_rfl) (by kernel_rfl) (fun _ _ _ h => h) (Or.inl ⟨by rfl, ?_⟩) hHeld ?_
  rotate_left 1
  · intro w1 hSw
    (try dsimp only at hSw)
    go_simp
    rfl
  (try simp only [Act.put, List.setIfInBounds_toArray, List.set_cons_zero, List.set_cons_succ])
  apply wpAnyH_take (i := 11) (oi := { dst := some 83, op := Op.load 32 (Operand.tmp 82), type := 32, pos := "lock.go:69", after := #[{ on := 10, ground := Ground.data }], guard := none }) rfl (by kernel_rfl) (by kernel_rfl) (by kernel_rfl) (fun _ _ _ h => h) (Or.inl ⟨by rfl, ?_⟩) hHeld ?_
  rotate_left 1
  · intro w1 hSw
    (try dsimp only at hSw)
    go_simp
    rfl
  (try simp only [Act.put, List.setIfInBounds_toArray, List.set_cons_zero, List.set_cons_succ])
  refine wpAnyH_ready (rs := [4]) (by kernel_rfl) (by simp) ?_
  refine AllReadyH.cons (o := { dst := some 76, op := Op.call { callee := Callee.value (Operand.func 122), args := #[Operand.tmp 74, Operand.tmp 75], argTypes := #[145, 3] }, type := 3, pos := "lock.go:69", after := #[{ on := 2, ground := Ground.data }, { on := 3, ground := Ground.data }], guard := none }) rfl (fun K hK => ?_) AllReadyH.nil
  go_simp
  (with_reducible refine (HC.out _ (HUX.out.trans (by repeat (first | (with_reducible exact Upd.refl _ _) | (with_reducible apply Upd.drew) | (with_reducible refine Upd.grE ?_ _) | (with_reducible refine Upd.alloc ?_ _))))).mono ?_)
  rintro e w5 ⟨rfl, hu5⟩
  obtain ⟨p5, rfl⟩ := hu5.grown
  clear hu5
  refine hK.out _ _ (by repeat (first | (with_reducible exact Upd.refl _ _) | (with_reducible exact hHeld) | (with_reducible apply Upd.drew) | (with_reducible refine Upd.grE ?_ _) | (with_reducible refine Upd.alloc ?_ _) | (with_reducible refine updR ?_ (.inl (by simp))))) (fun hHeld => ?_)
  clear hK K
  (try simp only [Act.put, List.setIfInBounds_toArray, List.set_cons_zero, List.set_cons_succ])
  apply wpAnyH_take (i := 12) (oi := { dst := some 84, op := Op.build 41 #[(0, Operand.const (Value.int IntKind.i64 2)), (1, Operand.tmp 76), (2, Operand.tmp 83)], type := 41, pos := "lock.go:69", after := #[{ on := 4, ground := Ground.data }, { on := 11, ground := Ground.data }], guard := none }) rfl (by kernel_rfl) (by kernel_rfl) (by kernel_rfl) (fun _ _ _ h => h) (Or.inl ⟨by rfl, ?_⟩) hHeld ?_
  rotate_left 1
  · intro w1 hSw
    (try dsimp only at hSw)
    go_simp
    rfl
  (try simp only [Act.put, List.setIfInBounds_toArray, List.set_cons_zero, List.set_cons_succ])
  refine wpAnyH_ready (rs := [13]) (by kernel_rfl) (by simp) ?_
  refine AllReadyH.cons (o := { dst := none, op := Op.store 41 (Operand.tmp 2) (Operand.tmp 84), type := 0, pos := "lock.go:69", after := #[{ on := 12, ground := Ground.data }, { on := 4, ground := Ground.chain }, { on := 0, ground := Ground.phase }, { on := 1, ground := Ground.phase }, { on := 2, ground := Ground.phase }, { on := 3, ground := Ground.phase }, { on := 4, ground := Ground.phase }, { on := 5, ground := Ground.phase }, { on := 6, ground := Ground.phase }, { on := 7, ground := Ground.phase }, { on := 8, ground := Ground.phase }, { on := 9, ground := Ground.phase }, { on := 10, ground := Ground.phase }, { on := 11, ground := Ground.phase }, { on := 12, ground := Ground.phase }], guard := none }) rfl (fun K hK => ?_) AllReadyH.nil
  rw [if_pos (by rfl)]
  refine wp_store_row 41 _ _ rfl w.heap.size #[.int .i64 2, .int .i64 (a + 1 + 2), .int .u32 v2] rfl rfl 41 #[.int .i64 0, .int .i64 0, .int .u32 0] (by repeat (first | (with_reducible exact HAX.out) | (with_reducible apply heap_drewE) | (with_reducible apply heap_grE) | (with_reducible apply heap_alloc'))) (info_act3 _ _ _) rfl (act_one _ _ _) ?_
  refine hK.out _ _ (by repeat (first | (with_reducible exact Upd.refl _ _) | (with_reducible exact hHeld) | (with_reducible apply Upd.drew) | (with_reducible refine Upd.grE ?_ _) | (with_reducible refine Upd.alloc ?_ _) | (with_reducible refine updR ?_ (.inl (by simp))))) (fun hHeld => ?_)
  clear hK K
  (try simp only [Act.put, List.setIfInBounds_toArray, List.set_cons_zero, List.set_cons_succ])
  apply wpAnyH_take (i := 14) (oi := { dst := some 3, op := Op.assign (Operand.const (Value.bool true)), type := 4, pos := "lock.go:69", after := #[{ on := 13, ground := Ground.chain }, { on := 0, ground := Ground.phase }, { on := 1, ground := Ground.phase }, { on := 2, ground := Ground.phase }, { on := 3, ground := Ground.phase }, { on := 4, ground := Ground.phase }, { on := 5, ground := Ground.phase }, { on := 6, ground := Ground.phase }, { on := 7, ground := Ground.phase }, { on := 8, ground := Ground.phase }, { on := 9, ground := Ground.phase }, { on := 10, ground := Ground.phase }, { on := 11, ground := Ground.phase }, { on := 12, ground := Ground.phase }, { on := 13, ground := Ground.phase }], guard := none }) rfl (by kernel_rfl) (by kernel_rfl) (by kernel_rfl) (fun _ _ _ h => h) (Or.inl ⟨by rfl, ?_⟩) hHeld ?_
  rotate_left 1
  · intro w1 hSw
    (try dsimp only at hSw)
    go_simp
    rfl
  (try simp only [Act.put, List.setIfInBounds_toArray, List.set_cons_zero, List.set_cons_succ])
  refine wpAnyH_done (by kernel_rfl) ?_ _
  go_wp2
  rw [Exit.noGoto_ret]
  refine ret_act' rfl (g := w.heap.size) (t := 41) (fr := (0, 0)) (x := .int .i64 2) (y := .int .i64 (a + 1 + 2)) (z := .int .u32 v2) rfl rfl rfl (setRow_heap _ _ #[.int .i64 0, .int .i64 0, .int .u32 0] _ _ _ (by repeat (first | (with_reducible exact HAX.out) | (with_reducible apply heap_drewE) | (with_reducible apply heap_grE) | (with_reducible apply heap_alloc')))) ?_
  exact ⟨rfl, HUX.out.then hHeld (fun i hi => .inr (by simp at hi; omega))⟩
set_option maxRecDepth 100000 in
set_option maxHeartbeats 4000000 in
theorem lkw_actd3 (h : LG a wd rt w b t more s) (hw : 1 ≤ wd ∧ wd ≤ 4) (hrt : 0 ≤ rt ∧ rt ≤ 8) (ha : 0 ≤ a ∧ a < 1000000) (hn : s.n = 5) (hon : s.on = true) (hk : (0 : Int) ≤ 3 ∧ 3 < wd) :
    Calls Try.prog 118 #[.pointer (some ⟨b, 0, none⟩)] w fun e w' => e = .returned (.tuple #[.agg #[.int .i64 2, .int .i64 (a + 1 + 3), .int .u32 s.v3], .bool true]) ∧ Upd [] w w' := by
  obtain ⟨x0, x1, x2, x3, x4, x5, x6, x17⟩ := h.pl
  obtain ⟨x7, x8, x9, x10⟩ := h.vs
  rw [hn] at x5
  rw [hon] at x17
  have lb := heap_lt h.h
  have HC := Lib.hid (fun (w1 : World) (hu : Upd [] w w1) => lk_data a wd rt 3 (h.keep hu (by simp)) hw hrt ha hk)
  have qk : decide ((3 : Int) < wd) = true := by simp; omega
  generalize s.seq = seq at *
  generalize s.v0 = v0 at *
  generalize s.v1 = v1 at *
  generalize s.v2 = v2 at *
  generalize s.v3 = v3 at *
  clear h hn hon hw hrt ha hk
  go_enter Try.func118, Try.ntmps118
  go_wp2
  refine wp_scope_jump1 2 rfl ?_
  intro K HK
  go_wp2
  go_step3
  refine And.intro rfl (HK.out _ _ ?_)
  clear HK
  go_upto_region 10 with (fail)
  have HUX := Lib.hid (show Upd [] w (w.alloc (.cells #[.int .i64 0, .int .i64 0, .int .u32 0] 41)) from (Upd.refl _ _).alloc _)
  have HAX := Lib.hid (heap_alloc_new w (.cells #[.int .i64 0, .int .i64 0, .int .u32 0] 41))
  generalize w.alloc (.cells #[.int .i64 0, .int .i64 0, .int .u32 0] 41) = wx at *
  have lx : b < wx.heap.size := Nat.lt_of_lt_of_le lb HUX.out.size
  have hbn : b ∉ [w.heap.size] := by simp; omega
  have R10 : ∀ w1 : World, Upd [w.heap.size] wx w1 → w1.cell? ⟨b, 10, none⟩ = some (.int .u32 v3) := fun w1 h => (h.cell (p := ⟨b, 10, none⟩) lx hbn).trans ((HUX.out.cell (p := ⟨b, 10, none⟩) lb (by simp)).trans x10)
  clear x0 x1 x2 x3 x4 x5 x6 x7 x8 x9 x10 x17
  refine wp_region_held_drew (S := fun w1 => Upd [w.heap.size] wx w1) (by kernel_rfl) ?_ (fun hHeld => ?_)
  · exact (Upd.refl _ wx).drew
  apply wpAnyH_take (i := 0) (oi := { dst := some 72, op := Op.move (Operand.tmp 0), type := 126, pos := "lock.go:69", after := #[], guard := none }) rfl (by kernel_rfl) (by kernel_rfl) (by kernel_rfl) (fun _ _ _ h => h) (Or.inl ⟨by rfl, ?_⟩) hHeld ?_
  rotate_left 1
  · intro w1 hSw
    (try dsimp only at hSw)
    go_simp
    rfl
  (try simp only [Act.put, List.setIfInBounds_toArray, List.set_cons_zero, List.set_cons_succ])
  apply wpAnyH_take (i := 1) (oi := { dst := some 73, op := Op.nilCheck (Operand.tmp 72), type := 0, pos := "lock.go:69", after := #[{ on := 0, ground := Ground.data }], guard := none }) rfl (by kernel_rfl) (by kernel_rfl) (by kernel_rfl) (fun _ _ _ h => h) (Or.inl ⟨by rfl, ?_⟩) hHeld ?_
  rotate_left 1
  · intro w1 hSw
    (try dsimp only at hSw)
    go_simp
    rfl
  (try simp only [Act.put, List.setIfInBounds_toArray, List.set_cons_zero, List.set_cons_succ])
  apply wpAnyH_take (i := 2) (oi := { dst := some 74, op := Op.fieldAddr 148 (Operand.tmp 73) 0, type := 0, pos := "lock.go:69", after := #[{ on := 1, ground := Ground.data }], guard := none }) rfl (by kernel_rfl) (by kernel_rfl) (by kernel_rfl) (fun _ _ _ h => h) (Or.inl ⟨by rfl, ?_⟩) hHeld ?_
  rotate_left 1
  · intro w1 hSw
    (try dsimp only at hSw)
    go_simp
    rfl
  (try simp only [Act.put, List.setIfInBounds_toArray, List.set_cons_zero, List.set_cons_succ])
  apply wpAnyH_take (i := 3) (oi := { dst := some 75, op := Op.move (Operand.tmp 4), type := 3, pos := "lock.go:69", after := #[], guard := none }) rfl (by kernel_rfl) (by kernel_rfl) (by kernel_rfl) (fun _ _ _ h => h) (Or.inl ⟨by rfl, ?_⟩) hHeld ?_
  rotate_left 1
  · intro w1 hSw
    (try dsimp only at hSw)
    go_simp
    rfl
  (try simp only [Act.put, List.setIfInBounds_toArray, List.set_cons_zero, List.set_cons_succ])
  apply wpAnyH_take (i := 5) (oi := { dst := some 77, op := Op.move (Operand.tmp 0), type := 126, pos := "lock.go:69", after := #[], guard := none }) rfl (by kernel_rfl) (by kernel_rfl) (by kernel_rfl) (fun _ _ _ h => h) (Or.inl ⟨by rfl, ?_⟩) hHeld ?_
  rotate_left 1
  · intro w1 hSw
    (try dsimp only at hSw)
    go_simp
    rfl
  (try simp only [Act.put, List.setIfInBounds_toArray, List.set_cons_zero, List.set_cons_succ])
  apply wpAnyH_take (i := 6) (oi := { dst := some 78, op := Op.move (Operand.tmp 4), type := 3, pos := "lock.go:69", after := #[], guard := none }) rfl (by kernel_rfl) (by kernel_rfl) (by kernel_rfl) (fun _ _ _ h => h) (Or.inl ⟨by rfl, ?_⟩) hHeld ?_
  rotate_left 1
  · intro w1 hSw
    (try dsimp only at hSw)
    go_simp
    rfl
  (try simp only [Act.put, List.setIfInBounds_toArray, List.set_cons_zero, List.set_cons_succ])
  apply wpAnyH_take (i := 7) (oi := { dst := some 79, op := Op.nilCheck (Operand.tmp 77), type := 0, pos := "lock.go:69", after := #[{ on := 5, ground := Ground.data }], guard := none }) rfl (by kernel_rfl) (by kernel_rfl) (by kernel_rfl) (fun _ _ _ h => h) (Or.inl ⟨by rfl, ?_⟩) hHeld ?_
  rotate_left 1
  · intro w1 hSw
    (try dsimp only at hSw)
    go_simp
    rfl
  (try simp only [Act.put, List.setIfInBounds_toArray, List.set_cons_zero, List.set_cons_succ])
  apply wpAnyH_take (i := 8) (oi := { dst := some 80, op := Op.fieldAddr 148 (Operand.tmp 79) 0, type := 0, pos := "lock.go:69", after := #[{ on := 7, ground := Ground.data }], guard := none }) rfl (by kernel_rfl) (by kernel_rfl) (by kernel_rfl) (fun _ _ _ h => h) (Or.inl ⟨by rfl, ?_⟩) hHeld ?_
  rotate_left 1
  · intro w1 hSw
    (try dsimp only at hSw)
    go_simp
    rfl
  (try simp only [Act.put, List.setIfInBounds_toArray, List.set_cons_zero, List.set_cons_succ])
  apply wpAnyH_take (i := 9) (oi := { dst := some 81, op := Op.fieldAddr 145 (Operand.tmp 80) 3, type := 0, pos := "lock.go:69", after := #[{ on := 8, ground := Ground.data }], guard := none }) rfl (by kernel_rfl) (by kernel_rfl) (by kernel_rfl) (fun _ _ _ h => h) (Or.inl ⟨by rfl, ?_⟩) hHeld ?_
  rotate_left 1
  · intro w1 hSw
    (try dsimp only at hSw)
    go_simp
    rfl
  (try simp only [Act.put, List.setIfInBounds_toArray, List.set_cons_zero, List.set_cons_succ])
  apply wpAnyH_take (i := 10) (oi := { dst := some 82, op := Op.indexAddr 34 (Operand.tmp 81) (Operand.tmp 78), type := 0, pos := "lock.go:69", after := #[{ on := 9, ground := Ground.data }, { on := 6, ground := Ground.data }], guard := none }) rfl (by kernel_rfl) (by kernel_rfl) (by kernel_rfl) (fun _ _ _ h => h) (Or.inl ⟨by rfl, ?_⟩) hHeld ?_
  rotate_left 1
  · intro w1 hSw
    (try dsimp only at hSw)
    go_simp
    rfl
  (try simp only [Act.put, List.setIfInBounds_toArray, List.set_cons_zero, List.set_cons_succ])
  apply wpAnyH_take (i := 11) (oi := { dst := some 83, op := Op.load 32 (Operand.tmp 82), type := 32, pos := "lock.go:69", after := #[{ on := 10, ground := Ground.data }], guard := none }) rfl (by kernel_rfl) (by kernel_rfl) (by kernel_rfl) (fun _ _ _ h => h) (Or.inl ⟨by rfl, ?_⟩) hHeld ?_
  rotate_left 1
  · intro w1 hSw
    (try dsimp only at hSw)
    go_simp
    rfl
  (try simp only [Act.put, List.setIfInBounds_toArray, List.set_cons_zero, List.set_cons_succ])
  refine wpAnyH_ready (rs := [4]) (by kernel_rfl) (by simp) ?_
  refine AllReadyH.cons (o := { dst := some 76, op := Op.call { callee := Callee.value (Operand.func 122), args := #[Operand.tmp 74, Operand.tmp 75], argTypes := #[145, 3] }, type := 3, pos := "lock.go:69", after := #[{ on := 2, ground := Ground.data }, { on := 3, ground := Ground.data }], guard := none }) rfl (fun K hK => ?_) AllReadyH.nil
  go_simp
  (with_reducible refine (HC.out _ (HUX.out.trans (by repeat (first | (with_reducible exact Upd.refl _ _) | (with_reducible apply Upd.drew) | (with_reducible refine Upd.grE ?_ _) | (with_reducible refine Upd.alloc ?_ _))))).mono ?_)
  rintro e w5 ⟨rfl, hu5⟩
  obtain ⟨p5, rfl⟩ := hu5.grown
  clear hu5
  refine hK.out _ _ (by repeat (first | (with_reducible exact Upd.refl _ _) | (with_reducible exact hHeld) | (with_reducible apply Upd.drew) | (with_reducible refine Upd.grE ?_ _) | (with_reducible refine Upd.alloc ?_ _) | (with_reducible refine updR ?_ (.inl (by simp))))) (fun hHeld => ?_)
  clear hK K
  (try simp only [Act.put, List.setIfInBounds_toArray, List.set_cons_zero, List.set_cons_succ])
  apply wpAnyH_take (i := 12) (oi := { dst := some 84, op := Op.build 41 #[(0, Operand.const (Value.int IntKind.i64 2)), (1, Operand.tmp 76), (2, Operand.tmp 83)], type := 41, pos := "lock.go:69", after := #[{ on := 4, ground := Ground.data }, { on := 11, ground := Ground.data }], guard := none }) rfl (by kernel_rfl) (by kernel_rfl) (by kernel_rfl) (fun _ _ _ h => h) (Or.inl ⟨by rfl, ?_⟩) hHeld ?_
  rotate_left 1
  · intro w1 hSw
    (try dsimp only at hSw)
    go_simp
    rfl
  (try simp only [Act.put, List.setIfInBounds_toArray, List.set_cons_zero, List.set_cons_succ])
  refine wpAnyH_ready (rs := [13]) (by kernel_rfl) (by simp) ?_
  refine AllReadyH.cons (o := { dst := none, op := Op.store 41 (Operand.tmp 2) (Operand.tmp 84), type := 0, pos := "lock.go:69", after := #[{ on := 12, ground := Ground.data }, { on := 4, ground := Ground.chain }, { on := 0, ground := Ground.phase }, { on := 1, ground := Ground.phase }, { on := 2, ground := Ground.phase }, { on := 3, ground := Ground.phase }, { on := 4, ground := Ground.phase }, { on := 5, ground := Ground.phase }, { on := 6, ground := Ground.phase }, { on := 7, ground := Ground.phase }, { on := 8, ground := Ground.phase }, { on := 9, ground := Ground.phase }, { on := 10, ground := Ground.phase }, { on := 11, ground := Ground.phase }, { on := 12, ground := Ground.phase }], guard := none }) rfl (fun K hK => ?_) AllReadyH.nil
  rw [if_pos (by rfl)]
  refine wp_store_row 41 _ _ rfl w.heap.size #[.int .i64 2, .int .i64 (a + 1 + 3), .int .u32 v3] rfl rfl 41 #[.int .i64 0, .int .i64 0, .int .u32 0] (by repeat (first | (with_reducible exact HAX.out) | (with_reducible apply heap_drewE) | (with_reducible apply heap_grE) | (with_reducible apply heap_alloc'))) (info_act3 _ _ _) rfl (act_one _ _ _) ?_
  refine hK.out _ _ (by repeat (first | (with_reducible exact Upd.refl _ _) | (with_reducible exact hHeld) | (with_reducible apply Upd.drew) | (with_reducible refine Upd.grE ?_ _) | (with_reducible refine Upd.alloc ?_ _) | (with_reducible refine updR ?_ (.inl (by simp))))) (fun hHeld => ?_)
  clear hK K
  (try simp only [Act.put, List.setIfInBounds_toArray, List.set_cons_zero, List.set_cons_succ])
  apply wpAnyH_take (i := 14) (oi := { dst := some 3, op := Op.assign (Operand.const (Value.bool true)), type := 4, pos := "lock.go:69", after := #[{ on := 13, ground := Ground.chain }, { on := 0, ground := Ground.phase }, { on := 1, ground := Ground.phase }, { on := 2, ground := Ground.phase }, { on := 3, ground := Ground.phase }, { on := 4, ground := Ground.phase }, { on := 5, ground := Ground.phase }, { on := 6, ground := Ground.phase }, { on := 7, ground := Ground.phase }, { on := 8, ground := Ground.phase }, { on := 9, ground := Ground.phase }, { on := 10, ground := Ground.phase }, { on := 11, ground := Ground.phase }, { on := 12, ground := Ground.phase }, { on := 13, ground := Ground.phase }], guard := none }) rfl (by kernel_rfl) (by kernel_rfl) (by kernel_rfl) (fun _ _ _ h => h) (Or.inl ⟨by rfl, ?_⟩) hHeld ?_
  rotate_left 1
  · intro w1 hSw
    (try dsimp only at hSw)
    go_simp
    rfl
  (try simp only [Act.put, List.setIfInBounds_toArray, List.set_cons_zero, List.set_cons_succ])
  refine wpAnyH_done (by kernel_rfl) ?_ _
  go_wp2
  rw [Exit.noGoto_ret]
  refine ret_act' rfl (g := w.heap.size) (t := 41) (fr := (0, 0)) (x := .int .i64 2) (y := .int .i64 (a + 1 + 3)) (z := .int .u32 v3) rfl rfl rfl (setRow_heap _ _ #[.int .i64 0, .int .i64 0, .int .u32 0] _ _ _ (by repeat (first | (with_reducible exact HAX.out) | (with_reducible apply heap_drewE) | (with_reducible apply heap_grE) | (with_reducible apply heap_alloc')))) ?_
  exact ⟨rfl, HUX.out.then hHeld (fun i hi => .inr (by simp at hi; omega))⟩
set_option maxRecDepth 100000 in
set_option maxHeartbeats 4000000 in
theorem lkw_actl (h : LG a wd rt w b t more s) (hw : 1 ≤ wd ∧ wd ≤ 4) (hrt : 0 ≤ rt ∧ rt ≤ 8) (ha : 0 ≤ a ∧ a < 1000000) (hn : s.n = wd + 2) (hon : s.on = true)  :
    Calls Try.prog 118 #[.pointer (some ⟨b, 0, none⟩)] w fun e w' => e = .returned (.tuple #[.agg #[.int .i64 2, .int .i64 a, .int .u32 (IntKind.u32.wrap (s.seq + 2))], .bool true]) ∧ Upd [] w w' := by
  obtain ⟨x0, x1, x2, x3, x4, x5, x6, x17⟩ := h.pl
  obtain ⟨x7, x8, x9, x10⟩ := h.vs
  rw [hn] at x5
  rw [hon] at x17
  have lb := heap_lt h.h
  have HC := Lib.hid (fun (w1 : World) (hu : Upd [] w w1) => lk_count a wd rt (h.keep hu (by simp)) hw hrt)
  have q1 : (wd + 2 == 0) = false := by simp; omega
  have q2 : (wd + 2 == 1) = false := by simp; omega
  have q3 : wrap64 wd = wd := by unfold wrap64; omega
  generalize s.seq = seq at *
  generalize s.v0 = v0 at *
  generalize s.v1 = v1 at *
  generalize s.v2 = v2 at *
  generalize s.v3 = v3 at *
  clear h hn hon hw hrt ha
  go_enter Try.func118, Try.ntmps118
  go_wp2
  go_step3
  go_upto_region 7 with (fail)
  have HUX := Lib.hid (show Upd [] w (w.alloc (.cells #[.int .i64 0, .int .i64 0, .int .u32 0] 41)) from (Upd.refl _ _).alloc _)
  have HAX := Lib.hid (heap_alloc_new w (.cells #[.int .i64 0, .int .i64 0, .int .u32 0] 41))
  generalize w.alloc (.cells #[.int .i64 0, .int .i64 0, .int .u32 0] 41) = wx at *
  have lx : b < wx.heap.size := Nat.lt_of_lt_of_le lb HUX.out.size
  have hbn : b ∉ [w.heap.size] := by simp; omega
  have R6 : ∀ w1 : World, Upd [w.heap.size] wx w1 → w1.cell? ⟨b, 6, none⟩ = some (.int .u32 seq) := fun w1 h => (h.cell (p := ⟨b, 6, none⟩) lx hbn).trans ((HUX.out.cell (p := ⟨b, 6, none⟩) lb (by simp)).trans x6)
  clear x0 x1 x2 x3 x4 x5 x6 x7 x8 x9 x10 x17
  refine wp_region_held_drew (S := fun w1 => Upd [w.heap.size] wx w1) (by kernel_rfl) ?_ (fun hHeld => ?_)
  · exact (Upd.refl _ wx).drew
  apply wpAnyH_take (i := 0) (oi := { dst := some 45, op := Op.move (Operand.tmp 0), type := 126, pos := "lock.go:63", after := #[], guard := none }) rfl (by kernel_rfl) (by kernel_rfl) (by kernel_rfl) (fun _ _ _ h => h) (Or.inl ⟨by rfl, ?_⟩) hHeld ?_
  rotate_left 1
  · intro w1 hSw
    (try dsimp only at hSw)
    go_simp
    rfl
  (try simp only [Act.put, List.setIfInBounds_toArray, List.set_cons_zero, List.set_cons_succ])
  apply wpAnyH_take (i := 1) (oi := { dst := some 46, op := Op.nilCheck (Operand.tmp 45), type := 0, pos := "lock.go:63", after := #[{ on := 0, ground := Ground.data }], guard := none }) rfl (by kernel_rfl) (by kernel_rfl) (by kernel_rfl) (fun _ _ _ h => h) (Or.inl ⟨by rfl, ?_⟩) hHeld ?_
  rotate_left 1
  · intro w1 hSw
    (try dsimp only at hSw)
    go_simp
    rfl
  (try simp only [Act.put, List.setIfInBounds_toArray, List.set_cons_zero, List.set_cons_succ])
  apply wpAnyH_take (i := 2) (oi := { dst := some 47, op := Op.fieldAddr 148 (Operand.tmp 46) 0, type := 0, pos := "lock.go:63", after := #[{ on := 1, ground := Ground.data }], guard := none }) rfl (by kernel_rfl) (by kernel_rfl) (by kernel_rfl) (fun _ _ _ h => h) (Or.inl ⟨by rfl, ?_⟩) hHeld ?_
  rotate_left 1
  · intro w1 hSw
    (try dsimp only at hSw)
    go_simp
    rfl
  (try simp only [Act.put, List.setIfInBounds_toArray, List.set_cons_zero, List.set_cons_succ])
  apply wpAnyH_take (i := 4) (oi := { dst := some 49, op := Op.move (Operand.tmp 0), type := 126, pos := "lock.go:63", after := #[], guard := none }) rfl (by kernel_rfl) (by kernel_rfl) (by kernel_rfl) (fun _ _ _ h => h) (Or.inl ⟨by rfl, ?_⟩) hHeld ?_
  rotate_left 1
  · intro w1 hSw
    (try dsimp only at hSw)
    go_simp
    rfl
  (try simp only [Act.put, List.setIfInBounds_toArray, List.set_cons_zero, List.set_cons_succ])
  apply wpAnyH_take (i := 5) (oi := { dst := some 50, op := Op.nilCheck (Operand.tmp 49), type := 0, pos := "lock.go:63", after := #[{ on := 4, ground := Ground.data }], guard := none }) rfl (by kernel_rfl) (by kernel_rfl) (by kernel_rfl) (fun _ _ _ h => h) (Or.inl ⟨by rfl, ?_⟩) hHeld ?_
  rotate_left 1
  · intro w1 hSw
    (try dsimp only at hSw)
    go_simp
    rfl
  (try simp only [Act.put, List.setIfInBounds_toArray, List.set_cons_zero, List.set_cons_succ])
  apply wpAnyH_take (i := 6) (oi := { dst := some 51, op := Op.fieldAddr 148 (Operand.tmp 50) 0, type := 0, pos := "lock.go:63", after := #[{ on := 5, ground := Ground.data }], guard := none }) rfl (by kernel_rfl) (by kernel_rfl) (by kernel_rfl) (fun _ _ _ h => h) (Or.inl ⟨by rfl, ?_⟩) hHeld ?_
  rotate_left 1
  · intro w1 hSw
    (try dsimp only at hSw)
    go_simp
    rfl
  (try simp only [Act.put, List.setIfInBounds_toArray, List.set_cons_zero, List.set_cons_succ])
  apply wpAnyH_take (i := 7) (oi := { dst := some 52, op := Op.fieldAddr 145 (Operand.tmp 51) 2, type := 0, pos := "lock.go:63", after := #[{ on := 6, ground := Ground.data }], guard := none }) rfl (by kernel_rfl) (by kernel_rfl) (by kernel_rfl) (fun _ _ _ h => h) (Or.inl ⟨by rfl, ?_⟩) hHeld ?_
  rotate_left 1
  · intro w1 hSw
    (try dsimp only at hSw)
    go_simp
    rfl
  (try simp only [Act.put, List.setIfInBounds_toArray, List.set_cons_zero, List.set_cons_succ])
  apply wpAnyH_take (i := 8) (oi := { dst := some 53, op := Op.load 32 (Operand.tmp 52), type := 32, pos := "lock.go:63", after := #[{ on := 7, ground := Ground.data }], guard := none }) rfl (by kernel_rfl) (by kernel_rfl) (by kernel_rfl) (fun _ _ _ h => h) (Or.inl ⟨by rfl, ?_⟩) hHeld ?_
  rotate_left 1
  · intro w1 hSw
    (try dsimp only at hSw)
    go_simp
    rfl
  (try simp only [Act.put, List.setIfInBounds_toArray, List.set_cons_zero, List.set_cons_succ])
  apply wpAnyH_take (i := 9) (oi := { dst := some 54, op := Op.binOp BinOp.add 32 (Operand.tmp 53) (Operand.const (Value.int IntKind.u32 2)) 32, type := 32, pos := "lock.go:63", after := #[{ on := 8, ground := Ground.data }], guard := none }) rfl (by kernel_rfl) (by kernel_rfl) (by kernel_rfl) (fun _ _ _ h => h) (Or.inl ⟨by rfl, ?_⟩) hHeld ?_
  rotate_left 1
  · intro w1 hSw
    (try dsimp only at hSw)
    go_simp
    rfl
  (try simp only [Act.put, List.setIfInBounds_toArray, List.set_cons_zero, List.set_cons_succ])
  refine wpAnyH_ready (rs := [3]) (by kernel_rfl) (by simp) ?_
  refine AllReadyH.cons (o := { dst := some 48, op := Op.call { callee := Callee.value (Operand.func 121), args := #[Operand.tmp 47], argTypes := #[145] }, type := 3, pos := "lock.go:63", after := #[{ on := 2, ground := Ground.data }], guard := none }) rfl (fun K hK => ?_) AllReadyH.nil
  go_simp
  (with_reducible refine (HC.out _ (HUX.out.trans (by repeat (first | (with_reducible exact Upd.refl _ _) | (with_reducible apply Upd.drew) | (with_reducible refine Upd.grE ?_ _) | (with_reducible refine Upd.alloc ?_ _))))).mono ?_)
  rintro e w5 ⟨rfl, hu5⟩
  obtain ⟨p5, rfl⟩ := hu5.grown
  clear hu5
  refine hK.out _ _ (by repeat (first | (with_reducible exact Upd.refl _ _) | (with_reducible exact hHeld) | (with_reducible apply Upd.drew) | (with_reducible refine Upd.grE ?_ _) | (with_reducible refine Upd.alloc ?_ _) | (with_reducible refine updR ?_ (.inl (by simp))))) (fun hHeld => ?_)
  clear hK K
  (try simp only [Act.put, List.setIfInBounds_toArray, List.set_cons_zero, List.set_cons_succ])
  apply wpAnyH_take (i := 10) (oi := { dst := some 55, op := Op.build 41 #[(0, Operand.const (Value.int IntKind.i64 2)), (1, Operand.tmp 48), (2, Operand.tmp 54)], type := 41, pos := "lock.go:63", after := #[{ on := 3, ground := Ground.data }, { on := 9, ground := Ground.data }], guard := none }) rfl (by kernel_rfl) (by kernel_rfl) (by kernel_rfl) (fun _ _ _ h => h) (Or.inl ⟨by rfl, ?_⟩) hHeld ?_
  rotate_left 1
  · intro w1 hSw
    (try dsimp only at hSw)
    go_simp
    rfl
  (try simp only [Act.put, List.setIfInBounds_toArray, List.set_cons_zero, List.set_cons_succ])
  refine wpAnyH_ready (rs := [11]) (by kernel_rfl) (by simp) ?_
  refine AllReadyH.cons (o := { dst := none, op := Op.store 41 (Operand.tmp 2) (Operand.tmp 55), type := 0, pos := "lock.go:63", after := #[{ on := 10, ground := Ground.data }, { on := 3, ground := Ground.chain }, { on := 0, ground := Ground.phase }, { on := 1, ground := Ground.phase }, { on := 2, ground := Ground.phase }, { on := 3, ground := Ground.phase }, { on := 4, ground := Ground.phase }, { on := 5, ground := Ground.phase }, { on := 6, ground := Ground.phase }, { on := 7, ground := Ground.phase }, { on := 8, ground := Ground.phase }, { on := 9, ground := Ground.phase }, { on := 10, ground := Ground.phase }], guard := none }) rfl (fun K hK => ?_) AllReadyH.nil
  rw [if_pos (by rfl)]
  refine wp_store_row 41 _ _ rfl w.heap.size #[.int .i64 2, .int .i64 a, .int .u32 (IntKind.u32.wrap (seq + 2))] rfl rfl 41 #[.int .i64 0, .int .i64 0, .int .u32 0] (by repeat (first | (with_reducible exact HAX.out) | (with_reducible apply heap_drewE) | (with_reducible apply heap_grE) | (with_reducible apply heap_alloc'))) (info_act3 _ _ _) rfl (act_one _ _ _) ?_
  refine hK.out _ _ (by repeat (first | (with_reducible exact Upd.refl _ _) | (with_reducible exact hHeld) | (with_reducible apply Upd.drew) | (with_reducible refine Upd.grE ?_ _) | (with_reducible refine Upd.alloc ?_ _) | (with_reducible refine updR ?_ (.inl (by simp))))) (fun hHeld => ?_)
  clear hK K
  (try simp only [Act.put, List.setIfInBounds_toArray, List.set_cons_zero, List.set_cons_succ])
  apply wpAnyH_take (i := 12) (oi := { dst := some 3, op := Op.assign (Operand.const (Value.bool true)), type := 4, pos := "lock.go:63", after := #[{ on := 11, ground := Ground.chain }, { on := 0, ground := Ground.phase }, { on := 1, ground := Ground.phase }, { on := 2, ground := Ground.phase }, { on := 3, ground := Ground.phase }, { on := 4, ground := Ground.phase }, { on := 5, ground := Ground.phase }, { on := 6, ground := Ground.phase }, { on := 7, ground := Ground.phase }, { on := 8, ground := Ground.phase }, { on := 9, ground := Ground.phase }, { on := 10, ground := Ground.phase }, { on := 11, ground := Ground.phase }], guard := none }) rfl (by kernel_rfl) (by kernel_rfl) (by kernel_rfl) (fun _ _ _ h => h) (Or.inl ⟨by rfl, ?_⟩) hHeld ?_
  rotate_left 1
  · intro w1 hSw
    (try dsimp only at hSw)
    go_simp
    rfl
  (try simp only [Act.put, List.setIfInBounds_toArray, List.set_cons_zero, List.set_cons_succ])
  refine wpAnyH_done (by kernel_rfl) ?_ _
  go_wp2
  rw [Exit.noGoto_ret]
  refine ret_act' rfl (g := w.heap.size) (t := 41) (fr := (0, 0)) (x := .int .i64 2) (y := .int .i64 a) (z := .int .u32 (IntKind.u32.wrap (seq + 2))) rfl rfl rfl (setRow_heap _ _ #[.int .i64 0, .int .i64 0, .int .u32 0] _ _ _ (by repeat (first | (with_reducible exact HAX.out) | (with_reducible apply heap_drewE) | (with_reducible apply heap_grE) | (with_reducible apply heap_alloc')))) ?_
  exact ⟨rfl, HUX.out.then hHeld (fun i hi => .inr (by simp at hi; omega))⟩
end
end Go.Proofs.Ytnnakiojfpnphaa
