/- The walk, part 26: LK4. -/
import Derived.Test.YtnnakiojfpnphaaZi25
import Derived.Outline
set_option linter.unusedVariables false
set_option linter.unusedSimpArgs false

namespace Go.Proofs.Ytnnakiojfpnphaa
open Go.RowKit
section
variable (a wd rt : Int)
variable {w : World} {b : Nat} {t : TypeId} {more : List Value} {s : LSt}
set_option maxRecDepth 100000 in
set_option maxHeartbeats 2000000 in
theorem lkw_take0 (g : Int)  (h : LG a wd rt w b t more s) (hw : 1 ≤ wd ∧ wd ≤ 4) (hn : s.n = 0) (hon : s.on = true) :
    Calls Try.prog 120 #[.pointer (some ⟨b, 0, none⟩), .int .u32 g] w fun e w' => e = .returned (.tuple #[]) ∧ LG a wd rt w' b t more { s with seq := bits .andNot .u32 g 1, n := 1, on := decide (1 < wd + 3) } ∧ Upd [b] w w' := by
  have m1 : wrap64 (wd + 3) = wd + 3 := by unfold wrap64; omega
  have m2 : IntKind.i64.wrap (wd + 3) = wd + 3 := by rw [IntKind.wrap_i64]; omega
  obtain ⟨n, seq, v0, v1, v2, v3, f, r0, r1, r2, r3, is, on⟩ := s
  obtain rfl : n = 0 := hn
  obtain rfl : on = true := hon
  simp only
  have H := Lib.hid h
  obtain ⟨-, -, -, x3, -, x5, x6, x17⟩ := H.out.pl
  have lb := heap_lt H.out.h
  have xf := fun j => H.out.fz j
  clear h hw
  go_enter Try.func120, Try.ntmps120
  go_upto_region 3 with (fail)
  have H2 := Lib.hid (show LG a wd rt (w.setCell ⟨b, 6, none⟩ (.int .u32 (bits .andNot .u32 g 1))) b t more ⟨0, (bits .andNot .u32 g 1), v0, v1, v2, v3, f, r0, r1, r2, r3, is, true⟩ from H.out.set _ _ rfl)
  have HU2 := Lib.hid (show Upd [b] w (w.setCell ⟨b, 6, none⟩ (.int .u32 (bits .andNot .u32 g 1))) from (Upd.refl _ _).setB (.inl (by simp)))
  generalize (w.setCell ⟨b, 6, none⟩ (.int .u32 (bits .andNot .u32 g 1))) = w2 at HU2 H2 ⊢
  clear x3 x5 x6 x17 lb xf
  obtain ⟨-, -, -, x3, -, x5, x6, x17⟩ := H2.out.pl
  have lb := heap_lt H2.out.h
  have xf := fun j => H2.out.fz j
  go_upto_region 4 with (fail)
  have H3 := Lib.hid (show LG a wd rt (w2.setCell ⟨b, 5, none⟩ (.int .i64 (1))) b t more ⟨1, (bits .andNot .u32 g 1), v0, v1, v2, v3, f, r0, r1, r2, r3, is, true⟩ from H2.out.set _ _ rfl)
  have HU3 := Lib.hid (show Upd [b] w2 (w2.setCell ⟨b, 5, none⟩ (.int .i64 (1))) from (Upd.refl _ _).setB (.inl (by simp)))
  generalize (w2.setCell ⟨b, 5, none⟩ (.int .i64 (1))) = w3 at HU3 H3 ⊢
  clear x3 x5 x6 x17 lb xf
  obtain ⟨-, -, -, x3, -, x5, x6, x17⟩ := H3.out.pl
  have lb := heap_lt H3.out.h
  have xf := fun j => H3.out.fz j
  refine wp_region_held_drew (S := fun w1 => w1.cell? ⟨b, 3, none⟩ = some (.int .i64 wd) ∧ w1.cell? ⟨b, 5, none⟩ = some (.int .i64 (1))) (by kernel_rfl) ?_ (fun hHeld => ?_)
  · exact ⟨x3, x5⟩
  apply wpAnyH_take (i := 0) (oi := { dst := some 35, op := Op.move (Operand.tmp 0), type := 126, pos := "lock.go:80", after := #[], guard := none }) rfl (by kernel_rfl) (by kernel_rfl) (by kernel_rfl) (fun _ _ _ h => h) (Or.inl ⟨by rfl, ?_⟩) hHeld ?_
  rotate_left 1
  · intro w1 hSw
    (try dsimp only at hSw)
    go_simp
    rfl
  (try simp only [Act.put, List.setIfInBounds_toArray, List.set_cons_zero, List.set_cons_succ])
  apply wpAnyH_take (i := 1) (oi := { dst := some 36, op := Op.move (Operand.tmp 0), type := 126, pos := "lock.go:80", after := #[], guard := none }) rfl (by kernel_rfl) (by kernel_rfl) (by kernel_rfl) (fun _ _ _ h => h) (Or.inl ⟨by rfl, ?_⟩) hHeld ?_
  rotate_left 1
  · intro w1 hSw
    (try dsimp only at hSw)
    go_simp
    rfl
  (try simp only [Act.put, List.setIfInBounds_toArray, List.set_cons_zero, List.set_cons_succ])
  apply wpAnyH_take (i := 2) (oi := { dst := some 37, op := Op.nilCheck (Operand.tmp 36), type := 0, pos := "lock.go:80", after := #[{ on := 1, ground := Ground.data }], guard := none }) rfl (by kernel_rfl) (by kernel_rfl) (by kernel_rfl) (fun _ _ _ h => h) (Or.inl ⟨by rfl, ?_⟩) hHeld ?_
  rotate_left 1
  · intro w1 hSw
    (try dsimp only at hSw)
    go_simp
    rfl
  (try simp only [Act.put, List.setIfInBounds_toArray, List.set_cons_zero, List.set_cons_succ])
  apply wpAnyH_take (i := 3) (oi := { dst := some 38, op := Op.fieldAddr 148 (Operand.tmp 37) 0, type := 0, pos := "lock.go:80", after := #[{ on := 2, ground := Ground.data }], guard := none }) rfl (by kernel_rfl) (by kernel_rfl) (by kernel_rfl) (fun _ _ _ h => h) (Or.inl ⟨by rfl, ?_⟩) hHeld ?_
  rotate_left 1
  · intro w1 hSw
    (try dsimp only at hSw)
    go_simp
    rfl
  (try simp only [Act.put, List.setIfInBounds_toArray, List.set_cons_zero, List.set_cons_succ])
  apply wpAnyH_take (i := 4) (oi := { dst := some 39, op := Op.fieldAddr 145 (Operand.tmp 38) 1, type := 0, pos := "lock.go:80", after := #[{ on := 3, ground := Ground.data }], guard := none }) rfl (by kernel_rfl) (by kernel_rfl) (by kernel_rfl) (fun _ _ _ h => h) (Or.inl ⟨by rfl, ?_⟩) hHeld ?_
  rotate_left 1
  · intro w1 hSw
    (try dsimp only at hSw)
    go_simp
    rfl
  (try simp only [Act.put, List.setIfInBounds_toArray, List.set_cons_zero, List.set_cons_succ])
  apply wpAnyH_take (i := 5) (oi := { dst := some 40, op := Op.load 3 (Operand.tmp 39), type := 3, pos := "lock.go:80", after := #[{ on := 4, ground := Ground.data }], guard := none }) rfl (by kernel_rfl) (by kernel_rfl) (by kernel_rfl) (fun _ _ _ h => h) (Or.inl ⟨by rfl, ?_⟩) hHeld ?_
  rotate_left 1
  · intro w1 hSw
    (try dsimp only at hSw)
    go_simp
    rfl
  (try simp only [Act.put, List.setIfInBounds_toArray, List.set_cons_zero, List.set_cons_succ])
  apply wpAnyH_take (i := 6) (oi := { dst := some 41, op := Op.move (Operand.tmp 0), type := 126, pos := "lock.go:80", after := #[], guard := none }) rfl (by kernel_rfl) (by kernel_rfl) (by kernel_rfl) (fun _ _ _ h => h) (Or.inl ⟨by rfl, ?_⟩) hHeld ?_
  rotate_left 1
  · intro w1 hSw
    (try dsimp only at hSw)
    go_simp
    rfl
  (try simp only [Act.put, List.setIfInBounds_toArray, List.set_cons_zero, List.set_cons_succ])
  apply wpAnyH_take (i := 7) (oi := { dst := some 42, op := Op.nilCheck (Operand.tmp 41), type := 0, pos := "lock.go:80", after := #[{ on := 6, ground := Ground.data }], guard := none }) rfl (by kernel_rfl) (by kernel_rfl) (by kernel_rfl) (fun _ _ _ h => h) (Or.inl ⟨by rfl, ?_⟩) hHeld ?_
  rotate_left 1
  · intro w1 hSw
    (try dsimp only at hSw)
    go_simp
    rfl
  (try simp only [Act.put, List.setIfInBounds_toArray, List.set_cons_zero, List.set_cons_succ])
  apply wpAnyH_take (i := 8) (oi := { dst := some 43, op := Op.fieldAddr 148 (Operand.tmp 42) 0, type := 0, pos := "lock.go:80", after := #[{ on := 7, ground := Ground.data }], guard := none }) rfl (by kernel_rfl) (by kernel_rfl) (by kernel_rfl) (fun _ _ _ h => h) (Or.inl ⟨by rfl, ?_⟩) hHeld ?_
  rotate_left 1
  · intro w1 hSw
    (try dsimp only at hSw)
    go_simp
    rfl
  (try simp only [Act.put, List.setIfInBounds_toArray, List.set_cons_zero, List.set_cons_succ])
  apply wpAnyH_take (i := 9) (oi := { dst := some 44, op := Op.fieldAddr 145 (Operand.tmp 43) 0, type := 0, pos := "lock.go:80", after := #[{ on := 8, ground := Ground.data }], guard := none }) rfl (by kernel_rfl) (by kernel_rfl) (by kernel_rfl) (fun _ _ _ h => h) (Or.inl ⟨by rfl, ?_⟩) hHeld ?_
  rotate_left 1
  · intro w1 hSw
    (try dsimp only at hSw)
    go_simp
    rfl
  (try simp only [Act.put, List.setIfInBounds_toArray, List.set_cons_zero, List.set_cons_succ])
  apply wpAnyH_take (i := 10) (oi := { dst := some 45, op := Op.fieldAddr 27 (Operand.tmp 44) 3, type := 0, pos := "lock.go:80", after := #[{ on := 9, ground := Ground.data }], guard := none }) rfl (by kernel_rfl) (by kernel_rfl) (by kernel_rfl) (fun _ _ _ h => h) (Or.inl ⟨by rfl, ?_⟩) hHeld ?_
  rotate_left 1
  · intro w1 hSw
    (try dsimp only at hSw)
    go_simp
    rfl
  (try simp only [Act.put, List.setIfInBounds_toArray, List.set_cons_zero, List.set_cons_succ])
  apply wpAnyH_take (i := 11) (oi := { dst := some 46, op := Op.load 3 (Operand.tmp 45), type := 3, pos := "lock.go:80", after := #[{ on := 10, ground := Ground.data }], guard := none }) rfl (by kernel_rfl) (by kernel_rfl) (by kernel_rfl) (fun _ _ _ h => h) (Or.inl ⟨by rfl, ?_⟩) hHeld ?_
  rotate_left 1
  · intro w1 hSw
    (try dsimp only at hSw)
    go_simp
    rfl
  (try simp only [Act.put, List.setIfInBounds_toArray, List.set_cons_zero, List.set_cons_succ])
  apply wpAnyH_take (i := 12) (oi := { dst := some 47, op := Op.binOp BinOp.add 3 (Operand.tmp 46) (Operand.const (Value.int IntKind.i64 3)) 3, type := 3, pos := "lock.go:80", after := #[{ on := 11, ground := Ground.data }], guard := none }) rfl (by kernel_rfl) (by kernel_rfl) (by kernel_rfl) (fun _ _ _ h => h) (Or.inl ⟨by rfl, ?_⟩) hHeld ?_
  rotate_left 1
  · intro w1 hSw
    (try dsimp only at hSw)
    go_simp
    rfl
  (try simp only [Act.put, List.setIfInBounds_toArray, List.set_cons_zero, List.set_cons_succ])
  apply wpAnyH_take (i := 13) (oi := { dst := some 48, op := Op.binOp BinOp.lss 3 (Operand.tmp 40) (Operand.tmp 47) 3, type := 4, pos := "lock.go:80", after := #[{ on := 5, ground := Ground.data }, { on := 12, ground := Ground.data }], guard := none }) rfl (by kernel_rfl) (by kernel_rfl) (by kernel_rfl) (fun _ _ _ h => h) (Or.inl ⟨by rfl, ?_⟩) hHeld ?_
  rotate_left 1
  · intro w1 hSw
    (try dsimp only at hSw)
    go_simp
    rfl
  (try simp only [Act.put, List.setIfInBounds_toArray, List.set_cons_zero, List.set_cons_succ])
  apply wpAnyH_take (i := 14) (oi := { dst := some 49, op := Op.nilCheck (Operand.tmp 35), type := 0, pos := "lock.go:80", after := #[{ on := 0, ground := Ground.data }, { on := 0, ground := Ground.phase }, { on := 1, ground := Ground.phase }, { on := 2, ground := Ground.phase }, { on := 3, ground := Ground.phase }, { on := 4, ground := Ground.phase }, { on := 5, ground := Ground.phase }, { on := 6, ground := Ground.phase }, { on := 7, ground := Ground.phase }, { on := 8, ground := Ground.phase }, { on := 9, ground := Ground.phase }, { on := 10, ground := Ground.phase }, { on := 11, ground := Ground.phase }, { on := 12, ground := Ground.phase }, { on := 13, ground := Ground.phase }], guard := none }) rfl (by kernel_rfl) (by kernel_rfl) (by kernel_rfl) (fun _ _ _ h => h) (Or.inl ⟨by rfl, ?_⟩) hHeld ?_
  rotate_left 1
  · intro w1 hSw
    (try dsimp only at hSw)
    go_simp
    rfl
  (try simp only [Act.put, List.setIfInBounds_toArray, List.set_cons_zero, List.set_cons_succ])
  apply wpAnyH_take (i := 15) (oi := { dst := some 50, op := Op.fieldAddr 148 (Operand.tmp 49) 0, type := 0, pos := "lock.go:80", after := #[{ on := 14, ground := Ground.data }, { on := 0, ground := Ground.phase }, { on := 1, ground := Ground.phase }, { on := 2, ground := Ground.phase }, { on := 3, ground := Ground.phase }, { on := 4, ground := Ground.phase }, { on := 5, ground := Ground.phase }, { on := 6, ground := Ground.phase }, { on := 7, ground := Ground.phase }, { on := 8, ground := Ground.phase }, { on := 9, ground := Ground.phase }, { on := 10, ground := Ground.phase }, { on := 11, ground := Ground.phase }, { on := 12, ground := Ground.phase }, { on := 13, ground := Ground.phase }], guard := none }) rfl (by kernel_rfl) (by kernel_rfl) (by kernel_rfl) (fun _ _ _ h => h) (Or.inl ⟨by rfl, ?_⟩) hHeld ?_
  rotate_left 1
  · intro w1 hSw
    (try dsimp only at hSw)
    go_simp
    rfl
  (try simp only [Act.put, List.setIfInBounds_toArray, List.set_cons_zero, List.set_cons_succ])
  apply wpAnyH_take (i := 16) (oi := { dst := some 51, op := Op.fieldAddr 145 (Operand.tmp 50) 6, type := 0, pos := "lock.go:80", after := #[{ on := 15, ground := Ground.data }, { on := 0, ground := Ground.phase }, { on := 1, ground := Ground.phase }, { on := 2, ground := Ground.phase }, { on := 3, ground := Ground.phase }, { on := 4, ground := Ground.phase }, { on := 5, ground := Ground.phase }, { on := 6, ground := Ground.phase }, { on := 7, ground := Ground.phase }, { on := 8, ground := Ground.phase }, { on := 9, ground := Ground.phase }, { on := 10, ground := Ground.phase }, { on := 11, ground := Ground.phase }, { on := 12, ground := Ground.phase }, { on := 13, ground := Ground.phase }], guard := none }) rfl (by kernel_rfl) (by kernel_rfl) (by kernel_rfl) (fun _ _ _ h => h) (Or.inl ⟨by rfl, ?_⟩) hHeld ?_
  rotate_left 1
  · intro w1 hSw
    (try dsimp only at hSw)
    go_simp
    rfl
  (try simp only [Act.put, List.setIfInBounds_toArray, List.set_cons_zero, List.set_cons_succ])
  refine wpAnyH_ready (rs := [17]) (by kernel_rfl) (by simp) ?_
  refine AllReadyH.cons (o := { dst := none, op := Op.store 4 (Operand.tmp 51) (Operand.tmp 48), type := 0, pos := "lock.go:80", after := #[{ on := 16, ground := Ground.data }, { on := 13, ground := Ground.data }, { on := 0, ground := Ground.phase }, { on := 1, ground := Ground.phase }, { on := 2, ground := Ground.phase }, { on := 3, ground := Ground.phase }, { on := 4, ground := Ground.phase }, { on := 5, ground := Ground.phase }, { on := 6, ground := Ground.phase }, { on := 7, ground := Ground.phase }, { on := 8, ground := Ground.phase }, { on := 9, ground := Ground.phase }, { on := 10, ground := Ground.phase }, { on := 11, ground := Ground.phase }, { on := 12, ground := Ground.phase }, { on := 13, ground := Ground.phase }], guard := none }) rfl (fun K hK => ?_) AllReadyH.nil
  go_simp
  refine hK.out _ _ (by (try dsimp only); (repeat' apply And.intro) <;> (repeat (first | (with_reducible assumption) | (with_reducible trivial) | (with_reducible exact hHeld) | (with_reducible exact hHeld.1) | (with_reducible exact hHeld.2) | (with_reducible apply cell_drewE) | (with_reducible refine cell_setO6 (by decide) ?_)))) (fun hHeld => ?_)
  clear hK K
  (try simp only [Act.put, List.setIfInBounds_toArray, List.set_cons_zero, List.set_cons_succ])
  refine wpAnyH_done (by kernel_rfl) ?_ _
  clear hHeld
  go_wp2
  first | refine bodyPost_ret (results_none rfl _ _ _) rfl ?_ | go_end0
  exact ⟨rfl, (H3.out.set _ _ rfl).dr, HU2.out.trans <| ((HU3.out).setB (by simp)).drew⟩
set_option maxRecDepth 100000 in
set_option maxHeartbeats 2000000 in
theorem lkw_takem (g : Int) (m : Int) (hm : 1 ≤ m ∧ m < 100) (h : LG a wd rt w b t more s) (hw : 1 ≤ wd ∧ wd ≤ 4) (hn : s.n = m) (hon : s.on = true) :
    Calls Try.prog 120 #[.pointer (some ⟨b, 0, none⟩), .int .u32 g] w fun e w' => e = .returned (.tuple #[]) ∧ LG a wd rt w' b t more { s with n := m + 1, on := decide (m + 1 < wd + 3) } ∧ Upd [b] w w' := by
  have m1 : wrap64 (wd + 3) = wd + 3 := by unfold wrap64; omega
  have m2 : IntKind.i64.wrap (wd + 3) = wd + 3 := by rw [IntKind.wrap_i64]; omega
  have m4 : (m == 0) = false := by simp; omega
  have m5 : wrap64 (m + 1) = m + 1 := by unfold wrap64; omega
  obtain ⟨n, seq, v0, v1, v2, v3, f, r0, r1, r2, r3, is, on⟩ := s
  obtain rfl : m = n := hn.symm
  obtain rfl : on = true := hon
  simp only
  have H := Lib.hid h
  obtain ⟨-, -, -, x3, -, x5, x6, x17⟩ := H.out.pl
  have lb := heap_lt H.out.h
  have xf := fun j => H.out.fz j
  clear h hw hm
  go_enter Try.func120, Try.ntmps120
  go_upto_region 4 with (fail)
  have H3 := Lib.hid (show LG a wd rt (w.setCell ⟨b, 5, none⟩ (.int .i64 (m + 1))) b t more ⟨m + 1, seq, v0, v1, v2, v3, f, r0, r1, r2, r3, is, true⟩ from H.out.set _ _ rfl)
  have HU3 := Lib.hid (show Upd [b] w (w.setCell ⟨b, 5, none⟩ (.int .i64 (m + 1))) from (Upd.refl _ _).setB (.inl (by simp)))
  generalize (w.setCell ⟨b, 5, none⟩ (.int .i64 (m + 1))) = w3 at HU3 H3 ⊢
  clear x3 x5 x6 x17 lb xf
  obtain ⟨-, -, -, x3, -, x5, x6, x17⟩ := H3.out.pl
  have lb := heap_lt H3.out.h
  have xf := fun j => H3.out.fz j
  refine wp_region_held_drew (S := fun w1 => w1.cell? ⟨b, 3, none⟩ = some (.int .i64 wd) ∧ w1.cell? ⟨b, 5, none⟩ = some (.int .i64 (m + 1))) (by kernel_rfl) ?_ (fun hHeld => ?_)
  · exact ⟨x3, x5⟩
  apply wpAnyH_take (i := 0) (oi := { dst := some 35, op := Op.move (Operand.tmp 0), type := 126, pos := "lock.go:80", after := #[], guard := none }) rfl (by kernel_rfl) (by kernel_rfl) (by kernel_rfl) (fun _ _ _ h => h) (Or.inl ⟨by rfl, ?_⟩) hHeld ?_
  rotate_left 1
  · intro w1 hSw
    (try dsimp only at hSw)
    go_simp
    rfl
  (try simp only [Act.put, List.setIfInBounds_toArray, List.set_cons_zero, List.set_cons_succ])
  apply wpAnyH_take (i := 1) (oi := { dst := some 36, op := Op.move (Operand.tmp 0), type := 126, pos := "lock.go:80", after := #[], guard := none }) rfl (by kernel_rfl) (by kernel_rfl) (by kernel_rfl) (fun _ _ _ h => h) (Or.inl ⟨by rfl, ?_⟩) hHeld ?_
  rotate_left 1
  · intro w1 hSw
    (try dsimp only at hSw)
    go_simp
    rfl
  (try simp only [Act.put, List.setIfInBounds_toArray, List.set_cons_zero, List.set_cons_succ])
  apply wpAnyH_take (i := 2) (oi := { dst := some 37, op := Op.nilCheck (Operand.tmp 36), type := 0, pos := "lock.go:80", after := #[{ on := 1, ground := Ground.data }], guard := none }) rfl (by kernel_rfl) (by kernel_rfl) (by kernel_rfl) (fun _ _ _ h => h) (Or.inl ⟨by rfl, ?_⟩) hHeld ?_
  rotate_left 1
  · intro w1 hSw
    (try dsimp only at hSw)
    go_simp
    rfl
  (try simp only [Act.put, List.setIfInBounds_toArray, List.set_cons_zero, List.set_cons_succ])
  apply wpAnyH_take (i := 3) (oi := { dst := some 38, op := Op.fieldAddr 148 (Operand.tmp 37) 0, type := 0, pos := "lock.go:80", after := #[{ on := 2, ground := Ground.data }], guard := none }) rfl (by kernel_rfl) (by kernel_rfl) (by kernel_rfl) (fun _ _ _ h => h) (Or.inl ⟨by rfl, ?_⟩) hHeld ?_
  rotate_left 1
  · intro w1 hSw
    (try dsimp only at hSw)
    go_simp
    rfl
  (try simp only [Act.put, List.setIfInBounds_toArray, List.set_cons_zero, List.set_cons_succ])
  apply wpAnyH_take (i := 4) (oi := { dst := some 39, op := Op.fieldAddr 145 (Operand.tmp 38) 1, type := 0, pos := "lock.go:80", after := #[{ on := 3, ground := Ground.data }], guard := none }) rfl (by kernel_rfl) (by kernel_rfl) (by kernel_rfl) (fun _ _ _ h => h) (Or.inl ⟨by rfl, ?_⟩) hHeld ?_
  rotate_left 1
  · intro w1 hSw
    (try dsimp only at hSw)
    go_simp
    rfl
  (try simp only [Act.put, List.setIfInBounds_toArray, List.set_cons_zero, List.set_cons_succ])
  apply wpAnyH_take (i := 5) (oi := { dst := some 40, op := Op.load 3 (Operand.tmp 39), type := 3, pos := "lock.go:80", after := #[{ on := 4, ground := Ground.data }], guard := none }) rfl (by kernel_rfl) (by kernel_rfl) (by kernel_rfl) (fun _ _ _ h => h) (Or.inl ⟨by rfl, ?_⟩) hHeld ?_
  rotate_left 1
  · intro w1 hSw
    (try dsimp only at hSw)
    go_simp
    rfl
  (try simp only [Act.put, List.setIfInBounds_toArray, List.set_cons_zero, List.set_cons_succ])
  apply wpAnyH_take (i := 6) (oi := { dst := some 41, op := Op.move (Operand.tmp 0), type := 126, pos := "lock.go:80", after := #[], guard := none }) rfl (by kernel_rfl) (by kernel_rfl) (by kernel_rfl) (fun _ _ _ h => h) (Or.inl ⟨by rfl, ?_⟩) hHeld ?_
  rotate_left 1
  · intro w1 hSw
    (try dsimp only at hSw)
    go_simp
    rfl
  (try simp only [Act.put, List.setIfInBounds_toArray, List.set_cons_zero, List.set_cons_succ])
  apply wpAnyH_take (i := 7) (oi := { dst := some 42, op := Op.nilCheck (Operand.tmp 41), type := 0, pos := "lock.go:80", after := #[{ on := 6, ground := Ground.data }], guard := none }) rfl (by kernel_rfl) (by kernel_rfl) (by kernel_rfl) (fun _ _ _ h => h) (Or.inl ⟨by rfl, ?_⟩) hHeld ?_
  rotate_left 1
  · intro w1 hSw
    (try dsimp only at hSw)
    go_simp
    rfl
  (try simp only [Act.put, List.setIfInBounds_toArray, List.set_cons_zero, List.set_cons_succ])
  apply wpAnyH_take (i := 8) (oi := { dst := some 43, op := Op.fieldAddr 148 (Operand.tmp 42) 0, type := 0, pos := "lock.go:80", after := #[{ on := 7, ground := Ground.data }], guard := none }) rfl (by kernel_rfl) (by kernel_rfl) (by kernel_rfl) (fun _ _ _ h => h) (Or.inl ⟨by rfl, ?_⟩) hHeld ?_
  rotate_left 1
  · intro w1 hSw
    (try dsimp only at hSw)
    go_simp
    rfl
  (try simp only [Act.put, List.setIfInBounds_toArray, List.set_cons_zero, List.set_cons_succ])
  apply wpAnyH_take (i := 9) (oi := { dst := some 44, op := Op.fieldAddr 145 (Operand.tmp 43) 0, type := 0, pos := "lock.go:80", after := #[{ on := 8, ground := Ground.data }], guard := none }) rfl (by kernel_rfl) (by kernel_rfl) (by kernel_rfl) (fun _ _ _ h => h) (Or.inl ⟨by rfl, ?_⟩) hHeld ?_
  rotate_left 1
  · intro w1 hSw
    (try dsimp only at hSw)
    go_simp
    rfl
  (try simp only [Act.put, List.setIfInBounds_toArray, List.set_cons_zero, List.set_cons_succ])
  apply wpAnyH_take (i := 10) (oi := { dst := some 45, op := Op.fieldAddr 27 (Operand.tmp 44) 3, type := 0, pos := "lock.go:80", after := #[{ on := 9, ground := Ground.data }], guard := none }) rfl (by kernel_rfl) (by kernel_rfl) (by kernel_rfl) (fun _ _ _ h => h) (Or.inl ⟨by rfl, ?_⟩) hHeld ?_
  rotate_left 1
  · intro w1 hSw
    (try dsimp only at hSw)
    go_simp
    rfl
  (try simp only [Act.put, List.setIfInBounds_toArray, List.set_cons_zero, List.set_cons_succ])
  apply wpAnyH_take (i := 11) (oi := { dst := some 46, op := Op.load 3 (Operand.tmp 45), type := 3, pos := "lock.go:80", after := #[{ on := 10, ground := Ground.data }], guard := none }) rfl (by kernel_rfl) (by kernel_rfl) (by kernel_rfl) (fun _ _ _ h => h) (Or.inl ⟨by rfl, ?_⟩) hHeld ?_
  rotate_left 1
  · intro w1 hSw
    (try dsimp only at hSw)
    go_simp
    rfl
  (try simp only [Act.put, List.setIfInBounds_toArray, List.set_cons_zero, List.set_cons_succ])
  apply wpAnyH_take (i := 12) (oi := { dst := some 47, op := Op.binOp BinOp.add 3 (Operand.tmp 46) (Operand.const (Value.int IntKind.i64 3)) 3, type := 3, pos := "lock.go:80", after := #[{ on := 11, ground := Ground.data }], guard := none }) rfl (by kernel_rfl) (by kernel_rfl) (by kernel_rfl) (fun _ _ _ h => h) (Or.inl ⟨by rfl, ?_⟩) hHeld ?_
  rotate_left 1
  · intro w1 hSw
    (try dsimp only at hSw)
    go_simp
    rfl
  (try simp only [Act.put, List.setIfInBounds_toArray, List.set_cons_zero, List.set_cons_succ])
  apply wpAnyH_take (i := 13) (oi := { dst := some 48, op := Op.binOp BinOp.lss 3 (Operand.tmp 40) (Operand.tmp 47) 3, type := 4, pos := "lock.go:80", after := #[{ on := 5, ground := Ground.data }, { on := 12, ground := Ground.data }], guard := none }) rfl (by kernel_rfl) (by kernel_rfl) (by kernel_rfl) (fun _ _ _ h => h) (Or.inl ⟨by rfl, ?_⟩) hHeld ?_
  rotate_left 1
  · intro w1 hSw
    (try dsimp only at hSw)
    go_simp
    rfl
  (try simp only [Act.put, List.setIfInBounds_toArray, List.set_cons_zero, List.set_cons_succ])
  apply wpAnyH_take (i := 14) (oi := { dst := some 49, op := Op.nilCheck (Operand.tmp 35), type := 0, pos := "lock.go:80", after := #[{ on := 0, ground := Ground.data }, { on := 0, ground := Ground.phase }, { on := 1, ground := Ground.phase }, { on := 2, ground := Ground.phase }, { on := 3, ground := Ground.phase }, { on := 4, ground := Ground.phase }, { on := 5, ground := Ground.phase }, { on := 6, ground := Ground.phase }, { on := 7, ground := Ground.phase }, { on := 8, ground := Ground.phase }, { on := 9, ground := Ground.phase }, { on := 10, ground := Ground.phase }, { on := 11, ground := Ground.phase }, { on := 12, ground := Ground.phase }, { on := 13, ground := Ground.phase }], guard := none }) rfl (by kernel_rfl) (by kernel_rfl) (by kernel_rfl) (fun _ _ _ h => h) (Or.inl ⟨by rfl, ?_⟩) hHeld ?_
  rotate_left 1
  · intro w1 hSw
    (try dsimp only at hSw)
    go_simp
    rfl
  (try simp only [Act.put, List.setIfInBounds_toArray, List.set_cons_zero, List.set_cons_succ])
  apply wpAnyH_take (i := 15) (oi := { dst := some 50, op := Op.fieldAddr 148 (Operand.tmp 49) 0, type := 0, pos := "lock.go:80", after := #[{ on := 14, ground := Ground.data }, { on := 0, ground := Ground.phase }, { on := 1, ground := Ground.phase }, { on := 2, ground := Ground.phase }, { on := 3, ground := Ground.phase }, { on := 4, ground := Ground.phase }, { on := 5, ground := Ground.phase }, { on := 6, ground := Ground.phase }, { on := 7, ground := Ground.phase }, { on := 8, ground := Ground.phase }, { on := 9, ground := Ground.phase }, { on := 10, ground := Ground.phase }, { on := 11, ground := Ground.phase }, { on := 12, ground := Ground.phase }, { on := 13, ground := Ground.phase }], guard := none }) rfl (by kernel_rfl) (by kernel_rfl) (by kernel_rfl) (fun _ _ _ h => h) (Or.inl ⟨by rfl, ?_⟩) hHeld ?_
  rotate_left 1
  · intro w1 hSw
    (try dsimp only at hSw)
    go_simp
    rfl
  (try simp only [Act.put, List.setIfInBounds_toArray, List.set_cons_zero, List.set_cons_succ])
  apply wpAnyH_take (i := 16) (oi := { dst := some 51, op := Op.fieldAddr 145 (Operand.tmp 50) 6, type := 0, pos := "lock.go:80", after := #[{ on := 15, ground := Ground.data }, { on := 0, ground := Ground.phase }, { on := 1, ground := Ground.phase }, { on := 2, ground := Ground.phase }, { on := 3, ground := Ground.phase }, { on := 4, ground := Ground.phase }, { on := 5, ground := Ground.phase }, { on := 6, ground := Ground.phase }, { on := 7, ground := Ground.phase }, { on := 8, ground := Ground.phase }, { on := 9, ground := Ground.phase }, { on := 10, ground := Ground.phase }, { on := 11, ground := Ground.phase }, { on := 12, ground := Ground.phase }, { on := 13, ground := Ground.phase }], guard := none }) rfl (by kernel_rfl) (by kernel_rfl) (by kernel_rfl) (fun _ _ _ h => h) (Or.inl ⟨by rfl, ?_⟩) hHeld ?_
  rotate_left 1
  · intro w1 hSw
    (try dsimp only at hSw)
    go_simp
    rfl
  (try simp only [Act.put, List.setIfInBounds_toArray, List.set_cons_zero, List.set_cons_succ])
  refine wpAnyH_ready (rs := [17]) (by kernel_rfl) (by simp) ?_
  refine AllReadyH.cons (o := { dst := none, op := Op.store 4 (Operand.tmp 51) (Operand.tmp 48), type := 0, pos := "lock.go:80", after := #[{ on := 16, ground := Ground.data }, { on := 13, ground := Ground.data }, { on := 0, ground := Ground.phase }, { on := 1, ground := Ground.phase }, { on := 2, ground := Ground.phase }, { on := 3, ground := Ground.phase }, { on := 4, ground := Ground.phase }, { on := 5, ground := Ground.phase }, { on := 6, ground := Ground.phase }, { on := 7, ground := Ground.phase }, { on := 8, ground := Ground.phase }, { on := 9, ground := Ground.phase }, { on := 10, ground := Ground.phase }, { on := 11, ground := Ground.phase }, { on := 12, ground := Ground.phase }, { on := 13, ground := Ground.phase }], guard := none }) rfl (fun K hK => ?_) AllReadyH.nil
  go_simp
  refine hK.out _ _ (by (try dsimp only); (repeat' apply And.intro) <;> (repeat (first | (with_reducible assumption) | (with_reducible trivial) | (with_reducible exact hHeld) | (with_reducible exact hHeld.1) | (with_reducible exact hHeld.2) | (with_reducible apply cell_drewE) | (with_reducible refine cell_setO6 (by decide) ?_)))) (fun hHeld => ?_)
  clear hK K
  (try simp only [Act.put, List.setIfInBounds_toArray, List.set_cons_zero, List.set_cons_succ])
  refine wpAnyH_done (by kernel_rfl) ?_ _
  clear hHeld
  go_wp2
  first | refine bodyPost_ret (results_none rfl _ _ _) rfl ?_ | go_end0
  exact ⟨rfl, (H3.out.set _ _ rfl).dr, ((HU3.out).setB (by simp)).drew⟩
set_option maxRecDepth 100000 in
set_option maxHeartbeats 2000000 in
theorem lkr_act0 (h : LG a wd rt w b t more s) (hw : 1 ≤ wd ∧ wd ≤ 4) (hrt : 0 ≤ rt ∧ rt ≤ 8) (ha : 0 ≤ a ∧ a < 1000000) (hn : s.n = 0) (hon : s.on = true)  :
    Calls Try.prog 124 #[.pointer (some ⟨b, 0, none⟩)] w fun e w' => e = .returned (.tuple #[.agg #[.int .i64 1, .int .i64 a, .int .u32 0], .bool true]) ∧ Upd [] w w' := by
  obtain ⟨x0, x1, x2, x3, x4, x5, x6, x17⟩ := h.pl
  obtain ⟨x7, x8, x9, x10⟩ := h.vs
  rw [hn] at x5
  rw [hon] at x17
  have lb := heap_lt h.h
  have HN := Lib.hid (fun (w1 : World) (hu : Upd [] w w1) => lk_count a wd rt (h.keep hu (by simp)) hw hrt)
  clear h hn hon hrt ha hw
  go_enter Try.func124, Try.ntmps124
  go_wp2_with (first
    | (go_at_call 121; (with_reducible refine (HN.out _ (by repeat (first | (with_reducible exact Upd.refl _ _) | (with_reducible apply Upd.drew) | (with_reducible refine Upd.grE ?_ _) | (with_reducible refine Upd.alloc ?_ _)))).mono ?_); rintro e w1 ⟨rfl, hu1⟩; obtain ⟨p1, rfl⟩ := hu1.grown; clear hu1)
    | (go_at_call 122; (with_reducible refine (HC.out _ _).mono ?_); rotate_left 1; rintro e w2 ⟨rfl, hu2⟩; obtain ⟨p2, rfl⟩ := hu2.grown; clear hu2))
  refine ret_act' rfl (g := w.heap.size) (t := 41) (fr := (0, 0)) (x := .int .i64 1) (y := .int .i64 a) (z := .int .u32 0) rfl rfl rfl (hg := ?hg) ?_
  case hg => repeat (first | ((with_reducible refine heap_alloc_at _ ?_); (first | rfl | (simp; done))) | (with_reducible apply heap_drewE) | (with_reducible apply heap_grE) | (with_reducible apply heap_alloc') | (with_reducible apply heap_set2))
  exact ⟨rfl, (by repeat (first | (with_reducible exact Upd.refl _ _) | (with_reducible apply Upd.drew) | (with_reducible refine Upd.grE ?_ _) | (with_reducible refine Upd.alloc ?_ _)))⟩
set_option maxRecDepth 100000 in
set_option maxHeartbeats 2000000 in
theorem lkr_actl (h : LG a wd rt w b t more s) (hw : 1 ≤ wd ∧ wd ≤ 4) (hrt : 0 ≤ rt ∧ rt ≤ 8) (ha : 0 ≤ a ∧ a < 1000000) (hn : s.n = wd + 1) (hon : s.on = true)  :
    Calls Try.prog 124 #[.pointer (some ⟨b, 0, none⟩)] w fun e w' => e = .returned (.tuple #[.agg #[.int .i64 1, .int .i64 a, .int .u32 0], .bool true]) ∧ Upd [] w w' := by
  obtain ⟨x0, x1, x2, x3, x4, x5, x6, x17⟩ := h.pl
  obtain ⟨x7, x8, x9, x10⟩ := h.vs
  rw [hn] at x5
  rw [hon] at x17
  have lb := heap_lt h.h
  have HN := Lib.hid (fun (w1 : World) (hu : Upd [] w w1) => lk_count a wd rt (h.keep hu (by simp)) hw hrt)
  have q1 : wrap64 wd = wd := by unfold wrap64; omega
  have q2 : decide (0 ≤ wd) = true := by simp; omega
  have q3 : decide (wd ≥ 0) = true := by simp; omega
  clear h hn hon hrt ha hw
  go_enter Try.func124, Try.ntmps124
  go_wp2_with (first
    | (go_at_call 121; (with_reducible refine (HN.out _ (by repeat (first | (with_reducible exact Upd.refl _ _) | (with_reducible apply Upd.drew) | (with_reducible refine Upd.grE ?_ _) | (with_reducible refine Upd.alloc ?_ _)))).mono ?_); rintro e w1 ⟨rfl, hu1⟩; obtain ⟨p1, rfl⟩ := hu1.grown; clear hu1)
    | (go_at_call 122; (with_reducible refine (HC.out _ _).mono ?_); rotate_left 1; rintro e w2 ⟨rfl, hu2⟩; obtain ⟨p2, rfl⟩ := hu2.grown; clear hu2))
  refine ret_act' rfl (g := w.heap.size) (t := 41) (fr := (0, 0)) (x := .int .i64 1) (y := .int .i64 a) (z := .int .u32 0) rfl rfl rfl (hg := ?hg) ?_
  case hg => repeat (first | ((with_reducible refine heap_alloc_at _ ?_); (first | rfl | (simp; done))) | (with_reducible apply heap_drewE) | (with_reducible apply heap_grE) | (with_reducible apply heap_alloc') | (with_reducible apply heap_set2))
  exact ⟨rfl, (by repeat (first | (with_reducible exact Upd.refl _ _) | (with_reducible apply Upd.drew) | (with_reducible refine Upd.grE ?_ _) | (with_reducible refine Upd.alloc ?_ _)))⟩
end
end Go.Proofs.Ytnnakiojfpnphaa
