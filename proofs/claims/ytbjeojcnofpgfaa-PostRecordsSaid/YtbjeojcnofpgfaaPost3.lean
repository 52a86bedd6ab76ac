/- Package post: a hand: its acts, and what it takes. -/
import Derived.Test.YtbjeojcnofpgfaaPost2
set_option linter.unusedVariables false
set_option linter.unusedSimpArgs false
namespace Go.Proofs.Ytbjeojcnofpgfaa
open Go.RowKit

set_option maxRecDepth 100000 in
set_option maxHeartbeats 2000000 in
theorem hand_act_0 {cap ov : Int} {w : World} {b : Nat} {s : HdS} (h : HD cap ov w b s) (hon : s.on = true) (hc : Cap5 cap) (hn : s.n = 0) :
    Calls Try.prog 30 #[.pointer (some ⟨b, 0, none⟩)] w fun e w' => e = .returned (.tuple #[.agg #[.int .i64 1, .int .i64 1, .int .u32 0], .bool true]) ∧ Upd [] w w' := by
  obtain ⟨-, -, -, -, -, -, x6, -, -, -, -, -, -, -, -, -, -, x17⟩ := h.cells
  rw [hon] at x17
  have lb := heap_lt h.h
  have HP := Lib.hid (hand_put_0 (h.keep ((Upd.refl [] w).alloc (.cells #[.int .i64 0, .int .i64 0, .int .u32 0] 80)) (by simp)) hn hc)
  clear h hon hc
  go_enter Try.func30, Try.ntmps30
  go_wp2_with (go_at_call 85; refine (HP.out).mono ?_; rintro e w1 ⟨rfl, hu1⟩; have HU1 := Lib.hid hu1; have hz := hu1.keepb (heap_alloc_new w _) (by simp); have HZ := Lib.hid hz; obtain ⟨z0, z1, z2⟩ := cells3 hz; have zf := fun j => frozen_of_heap hz j; have lz := heap_lt hz; clear hz hu1)
  refine ret_act rfl (g := w.heap.size) (t := 80) (fr := (0, 0)) (x := .int .i64 1) (y := .int .i64 1) (z := .int .u32 0) rfl rfl rfl (hg := ?hg) ?_
  case hg =>
    repeat (first | (with_reducible exact HZ.out) | (with_reducible apply heap_set2))
    all_goals first | rfl | simp
  refine ⟨rfl, ?_⟩
  repeat (with_reducible refine Upd.setCell ?_ (by simp) _)
  exact ((Upd.refl _ _).alloc _).trans HU1.out
set_option maxRecDepth 100000 in
set_option maxHeartbeats 2000000 in
theorem hand_act_1 {cap ov : Int} {w : World} {b : Nat} {s : HdS} (h : HD cap ov w b s) (hon : s.on = true) (hc : Cap5 cap) (hn : s.n = 1) :
    Calls Try.prog 30 #[.pointer (some ⟨b, 0, none⟩)] w fun e w' => e = .returned (.tuple #[.agg #[.int .i64 1, .int .i64 0, .int .u32 0], .bool true]) ∧ Upd [] w w' := by
  obtain ⟨-, -, -, -, -, -, x6, -, -, -, -, -, -, -, -, -, -, x17⟩ := h.cells
  rw [hon] at x17
  have lb := heap_lt h.h
  have HP := Lib.hid (hand_put_1 (h.keep ((Upd.refl [] w).alloc (.cells #[.int .i64 0, .int .i64 0, .int .u32 0] 80)) (by simp)) hn hc)
  clear h hon hc
  go_enter Try.func30, Try.ntmps30
  go_wp2_with (go_at_call 85; refine (HP.out).mono ?_; rintro e w1 ⟨rfl, hu1⟩; have HU1 := Lib.hid hu1; have hz := hu1.keepb (heap_alloc_new w _) (by simp); have HZ := Lib.hid hz; obtain ⟨z0, z1, z2⟩ := cells3 hz; have zf := fun j => frozen_of_heap hz j; have lz := heap_lt hz; clear hz hu1)
  refine ret_act rfl (g := w.heap.size) (t := 80) (fr := (0, 0)) (x := .int .i64 1) (y := .int .i64 0) (z := .int .u32 0) rfl rfl rfl (hg := ?hg) ?_
  case hg =>
    repeat (first | (with_reducible exact HZ.out) | (with_reducible apply heap_set2))
    all_goals first | rfl | simp
  refine ⟨rfl, ?_⟩
  repeat (with_reducible refine Upd.setCell ?_ (by simp) _)
  exact ((Upd.refl _ _).alloc _).trans HU1.out
set_option maxRecDepth 100000 in
set_option maxHeartbeats 2000000 in
theorem hand_act_over2 {cap ov : Int} {w : World} {b : Nat} {s : HdS} (h : HD cap ov w b s) (hon : s.on = true) (hc : Cap5 cap) (hn : s.n = 2) (hf : handFull cap s = true) :
    Calls Try.prog 30 #[.pointer (some ⟨b, 0, none⟩)] w fun e w' => e = .returned (.tuple #[.agg #[.int .i64 1, .int .i64 ov, .int .u32 0], .bool true]) ∧ Upd [] w w' := by
  obtain ⟨-, -, -, -, -, -, x6, -, -, -, -, -, -, -, -, -, -, x17⟩ := h.cells
  rw [hon] at x17
  have lb := heap_lt h.h
  have HP := Lib.hid (hand_put_over2 (h.keep ((Upd.refl [] w).alloc (.cells #[.int .i64 0, .int .i64 0, .int .u32 0] 80)) (by simp)) hn hc hf)
  clear h hon hc
  go_enter Try.func30, Try.ntmps30
  go_wp2_with (go_at_call 85; refine (HP.out).mono ?_; rintro e w1 ⟨rfl, hu1⟩; have HU1 := Lib.hid hu1; have hz := hu1.keepb (heap_alloc_new w _) (by simp); have HZ := Lib.hid hz; obtain ⟨z0, z1, z2⟩ := cells3 hz; have zf := fun j => frozen_of_heap hz j; have lz := heap_lt hz; clear hz hu1)
  refine ret_act rfl (g := w.heap.size) (t := 80) (fr := (0, 0)) (x := .int .i64 1) (y := .int .i64 ov) (z := .int .u32 0) rfl rfl rfl (hg := ?hg) ?_
  case hg =>
    repeat (first | (with_reducible exact HZ.out) | (with_reducible apply heap_set2))
    all_goals first | rfl | simp
  refine ⟨rfl, ?_⟩
  repeat (with_reducible refine Upd.setCell ?_ (by simp) _)
  exact ((Upd.refl _ _).alloc _).trans HU1.out
set_option maxRecDepth 100000 in
set_option maxHeartbeats 2000000 in
theorem hand_act_over3 {cap ov : Int} {w : World} {b : Nat} {s : HdS} (h : HD cap ov w b s) (hon : s.on = true) (hc : Cap5 cap) (hn : s.n = 3) (hf : handFull cap s = true) (hr : s.r0 = 0) :
    Calls Try.prog 30 #[.pointer (some ⟨b, 0, none⟩)] w fun e w' => e = .returned (.tuple #[.agg #[.int .i64 2, .int .i64 ov, .int .u32 1], .bool true]) ∧ Upd [] w w' := by
  obtain ⟨-, -, -, -, -, -, x6, -, -, -, -, -, -, -, -, -, -, x17⟩ := h.cells
  rw [hon] at x17
  have lb := heap_lt h.h
  have HP := Lib.hid (hand_put_over3 (h.keep ((Upd.refl [] w).alloc (.cells #[.int .i64 0, .int .i64 0, .int .u32 0] 80)) (by simp)) hn hc hf hr)
  clear h hon hc
  go_enter Try.func30, Try.ntmps30
  go_wp2_with (go_at_call 85; refine (HP.out).mono ?_; rintro e w1 ⟨rfl, hu1⟩; have HU1 := Lib.hid hu1; have hz := hu1.keepb (heap_alloc_new w _) (by simp); have HZ := Lib.hid hz; obtain ⟨z0, z1, z2⟩ := cells3 hz; have zf := fun j => frozen_of_heap hz j; have lz := heap_lt hz; clear hz hu1)
  refine ret_act rfl (g := w.heap.size) (t := 80) (fr := (0, 0)) (x := .int .i64 2) (y := .int .i64 ov) (z := .int .u32 1) rfl rfl rfl (hg := ?hg) ?_
  case hg =>
    repeat (first | (with_reducible exact HZ.out) | (with_reducible apply heap_set2))
    all_goals first | rfl | simp
  refine ⟨rfl, ?_⟩
  repeat (with_reducible refine Upd.setCell ?_ (by simp) _)
  exact ((Upd.refl _ _).alloc _).trans HU1.out
set_option maxRecDepth 100000 in
set_option maxHeartbeats 2000000 in
theorem hand_act_word {cap ov : Int} {w : World} {b : Nat} {s : HdS} (h : HD cap ov w b s) (hon : s.on = true) (hc : Cap5 cap) (hn : s.n = 2) (hf : handFull cap s = false) :
    Calls Try.prog 30 #[.pointer (some ⟨b, 0, none⟩)] w fun e w' => e = .returned (.tuple #[.agg #[.int .i64 2, .int .i64 (2 + roomI cap s.a * 1 + 0), .int .u32 s.v], .bool true]) ∧ Upd [] w w' := by
  obtain ⟨-, -, -, -, -, -, x6, -, -, -, -, -, -, -, -, -, -, x17⟩ := h.cells
  rw [hon] at x17
  have lb := heap_lt h.h
  have HP := Lib.hid (hand_put_word (h.keep ((Upd.refl [] w).alloc (.cells #[.int .i64 0, .int .i64 0, .int .u32 0] 80)) (by simp)) hn hc hf)
  clear h hon hc
  go_enter Try.func30, Try.ntmps30
  go_wp2_with (go_at_call 85; refine (HP.out).mono ?_; rintro e w1 ⟨rfl, hu1⟩; have HU1 := Lib.hid hu1; have hz := hu1.keepb (heap_alloc_new w _) (by simp); have HZ := Lib.hid hz; obtain ⟨z0, z1, z2⟩ := cells3 hz; have zf := fun j => frozen_of_heap hz j; have lz := heap_lt hz; clear hz hu1)
  refine ret_act rfl (g := w.heap.size) (t := 80) (fr := (0, 0)) (x := .int .i64 2) (y := .int .i64 (2 + roomI cap s.a * 1 + 0)) (z := .int .u32 s.v) rfl rfl rfl (hg := ?hg) ?_
  case hg =>
    repeat (first | (with_reducible exact HZ.out) | (with_reducible apply heap_set2))
    all_goals first | rfl | simp
  refine ⟨rfl, ?_⟩
  repeat (with_reducible refine Upd.setCell ?_ (by simp) _)
  exact ((Upd.refl _ _).alloc _).trans HU1.out
set_option maxRecDepth 100000 in
set_option maxHeartbeats 2000000 in
theorem hand_act_tail {cap ov : Int} {w : World} {b : Nat} {s : HdS} (h : HD cap ov w b s) (hon : s.on = true) (hc : Cap5 cap) (hn : s.n = 3) (hf : handFull cap s = false) :
    Calls Try.prog 30 #[.pointer (some ⟨b, 0, none⟩)] w fun e w' => e = .returned (.tuple #[.agg #[.int .i64 2, .int .i64 1, .int .u32 (IntKind.u32.wrap (s.a + 1))], .bool true]) ∧ Upd [] w w' := by
  obtain ⟨-, -, -, -, -, -, x6, -, -, -, -, -, -, -, -, -, -, x17⟩ := h.cells
  rw [hon] at x17
  have lb := heap_lt h.h
  have HP := Lib.hid (hand_put_tail (h.keep ((Upd.refl [] w).alloc (.cells #[.int .i64 0, .int .i64 0, .int .u32 0] 80)) (by simp)) hn hc hf)
  clear h hon hc
  go_enter Try.func30, Try.ntmps30
  go_wp2_with (go_at_call 85; refine (HP.out).mono ?_; rintro e w1 ⟨rfl, hu1⟩; have HU1 := Lib.hid hu1; have hz := hu1.keepb (heap_alloc_new w _) (by simp); have HZ := Lib.hid hz; obtain ⟨z0, z1, z2⟩ := cells3 hz; have zf := fun j => frozen_of_heap hz j; have lz := heap_lt hz; clear hz hu1)
  refine ret_act rfl (g := w.heap.size) (t := 80) (fr := (0, 0)) (x := .int .i64 2) (y := .int .i64 1) (z := .int .u32 (IntKind.u32.wrap (s.a + 1))) rfl rfl rfl (hg := ?hg) ?_
  case hg =>
    repeat (first | (with_reducible exact HZ.out) | (with_reducible apply heap_set2))
    all_goals first | rfl | simp
  refine ⟨rfl, ?_⟩
  repeat (with_reducible refine Upd.setCell ?_ (by simp) _)
  exact ((Upd.refl _ _).alloc _).trans HU1.out
set_option maxRecDepth 100000 in
set_option maxHeartbeats 2000000 in
theorem hand_act_raise {cap ov : Int} {w : World} {b : Nat} {s : HdS} (h : HD cap ov w b s) (hon : s.on = true) (hc : Cap5 cap) (hn : s.n = 4) (hf : handFull cap s = false) :
    Calls Try.prog 30 #[.pointer (some ⟨b, 0, none⟩)] w fun e w' => e = .returned (.tuple #[.agg #[.int .i64 6, .int .i64 0, .int .u32 0], .bool true]) ∧ Upd [] w w' := by
  obtain ⟨-, -, -, -, -, -, x6, -, -, -, -, -, -, -, -, -, -, x17⟩ := h.cells
  rw [hon] at x17
  have lb := heap_lt h.h
  have HP := Lib.hid (hand_put_raise (h.keep ((Upd.refl [] w).alloc (.cells #[.int .i64 0, .int .i64 0, .int .u32 0] 80)) (by simp)) hn hc hf)
  clear h hon hc
  go_enter Try.func30, Try.ntmps30
  go_wp2_with (go_at_call 85; refine (HP.out).mono ?_; rintro e w1 ⟨rfl, hu1⟩; have HU1 := Lib.hid hu1; have hz := hu1.keepb (heap_alloc_new w _) (by simp); have HZ := Lib.hid hz; obtain ⟨z0, z1, z2⟩ := cells3 hz; have zf := fun j => frozen_of_heap hz j; have lz := heap_lt hz; clear hz hu1)
  refine ret_act rfl (g := w.heap.size) (t := 80) (fr := (0, 0)) (x := .int .i64 6) (y := .int .i64 0) (z := .int .u32 0) rfl rfl rfl (hg := ?hg) ?_
  case hg =>
    repeat (first | (with_reducible exact HZ.out) | (with_reducible apply heap_set2))
    all_goals first | rfl | simp
  refine ⟨rfl, ?_⟩
  repeat (with_reducible refine Upd.setCell ?_ (by simp) _)
  exact ((Upd.refl _ _).alloc _).trans HU1.out
set_option maxRecDepth 100000 in
set_option maxHeartbeats 2000000 in
theorem hand_take_0 {cap ov : Int} {w : World} {b : Nat} {s : HdS} (g : Int) (h : HD cap ov w b s) (hn : s.n = 0) (hon : s.on = true) (hc : Cap5 cap)  :
    Calls Try.prog 29 #[.pointer (some ⟨b, 0, none⟩), .int .u32 g] w fun e w' => e = .returned (.tuple #[]) ∧ HD cap ov w' b ({ s with a := g, n := 1 }) ∧ Upd [b] w w' := by
  obtain ⟨x0, x1, x2, x3, x4, x5, x6, x7, x8, x9, x10, x11, x12, x13, x14, x15, x16, x17⟩ := h.cells
  rw [hn] at x9
  rw [hon] at x17
  have lb := heap_lt h.h
  have xf := fun j => h.fz j
  have HX := Lib.hid h.h
  have HN := Lib.hid hn
  have HON := Lib.hid hon
  clear h hn hon hc
  go_enter Try.func29, Try.ntmps29
  go_wp2
  first | refine bodyPost_ret (results_none rfl _ _ _) rfl ?_ | go_end0
  refine ⟨rfl, ⟨?hg⟩, ?_⟩
  case hg =>
    have hnn := HN.out
    have hoo := HON.out
    obtain ⟨v, n, a, b', f, r0, on⟩ := s
    simp only at hnn hoo
    subst hnn hoo
    unfold hdC at *
    repeat (first | (with_reducible exact HX.out) | (with_reducible apply heap_set2) | (with_reducible apply heap_drew') | (with_reducible apply heap_drewN'))
    all_goals rfl
  repeat (first | (with_reducible refine Upd.setCell ?_ (by simp) _) | (with_reducible refine Upd.drew ?_) | (with_reducible refine Upd.drewN ?_ _))
  exact Upd.refl _ _
set_option maxRecDepth 100000 in
set_option maxHeartbeats 2000000 in
theorem hand_take_1 {cap ov : Int} {w : World} {b : Nat} {s : HdS} (g : Int) (h : HD cap ov w b s) (hn : s.n = 1) (hon : s.on = true) (hc : Cap5 cap)  :
    Calls Try.prog 29 #[.pointer (some ⟨b, 0, none⟩), .int .u32 g] w fun e w' => e = .returned (.tuple #[]) ∧ HD cap ov w' b ({ s with b := g, n := 2 }) ∧ Upd [b] w w' := by
  obtain ⟨x0, x1, x2, x3, x4, x5, x6, x7, x8, x9, x10, x11, x12, x13, x14, x15, x16, x17⟩ := h.cells
  rw [hn] at x9
  rw [hon] at x17
  have lb := heap_lt h.h
  have xf := fun j => h.fz j
  have HX := Lib.hid h.h
  have HN := Lib.hid hn
  have HON := Lib.hid hon
  clear h hn hon hc
  go_enter Try.func29, Try.ntmps29
  go_wp2
  first | refine bodyPost_ret (results_none rfl _ _ _) rfl ?_ | go_end0
  refine ⟨rfl, ⟨?hg⟩, ?_⟩
  case hg =>
    have hnn := HN.out
    have hoo := HON.out
    obtain ⟨v, n, a, b', f, r0, on⟩ := s
    simp only at hnn hoo
    subst hnn hoo
    unfold hdC at *
    repeat (first | (with_reducible exact HX.out) | (with_reducible apply heap_set2) | (with_reducible apply heap_drew') | (with_reducible apply heap_drewN'))
    all_goals rfl
  repeat (first | (with_reducible refine Upd.setCell ?_ (by simp) _) | (with_reducible refine Upd.drew ?_) | (with_reducible refine Upd.drewN ?_ _))
  exact Upd.refl _ _
set_option maxRecDepth 100000 in
set_option maxHeartbeats 2000000 in
theorem hand_take_2 {cap ov : Int} {w : World} {b : Nat} {s : HdS} (g : Int) (h : HD cap ov w b s) (hn : s.n = 2) (hon : s.on = true) (hc : Cap5 cap)  :
    Calls Try.prog 29 #[.pointer (some ⟨b, 0, none⟩), .int .u32 g] w fun e w' => e = .returned (.tuple #[]) ∧ HD cap ov w' b ({ s with r0 := g, n := 3 }) ∧ Upd [b] w w' := by
  obtain ⟨x0, x1, x2, x3, x4, x5, x6, x7, x8, x9, x10, x11, x12, x13, x14, x15, x16, x17⟩ := h.cells
  rw [hn] at x9
  rw [hon] at x17
  have lb := heap_lt h.h
  have xf := fun j => h.fz j
  have HX := Lib.hid h.h
  have HN := Lib.hid hn
  have HON := Lib.hid hon
  clear h hn hon hc
  go_enter Try.func29, Try.ntmps29
  go_wp2
  first | refine bodyPost_ret (results_none rfl _ _ _) rfl ?_ | go_end0
  refine ⟨rfl, ⟨?hg⟩, ?_⟩
  case hg =>
    have hnn := HN.out
    have hoo := HON.out
    obtain ⟨v, n, a, b', f, r0, on⟩ := s
    simp only at hnn hoo
    subst hnn hoo
    unfold hdC at *
    repeat (first | (with_reducible exact HX.out) | (with_reducible apply heap_set2) | (with_reducible apply heap_drew') | (with_reducible apply heap_drewN'))
    all_goals rfl
  repeat (first | (with_reducible refine Upd.setCell ?_ (by simp) _) | (with_reducible refine Upd.drew ?_) | (with_reducible refine Upd.drewN ?_ _))
  exact Upd.refl _ _
set_option maxRecDepth 100000 in
set_option maxHeartbeats 2000000 in
theorem hand_take_3 {cap ov : Int} {w : World} {b : Nat} {s : HdS} (g : Int) (h : HD cap ov w b s) (hn : s.n = 3) (hon : s.on = true) (hc : Cap5 cap) (hf : handFull cap s = false) :
    Calls Try.prog 29 #[.pointer (some ⟨b, 0, none⟩), .int .u32 g] w fun e w' => e = .returned (.tuple #[]) ∧ HD cap ov w' b ({ s with n := 4 }) ∧ Upd [b] w w' := by
  obtain ⟨x0, x1, x2, x3, x4, x5, x6, x7, x8, x9, x10, x11, x12, x13, x14, x15, x16, x17⟩ := h.cells
  rw [hn] at x9
  rw [hon] at x17
  have lb := heap_lt h.h
  have xf := fun j => h.fz j
  have HX := Lib.hid h.h
  have HN := Lib.hid hn
  have HON := Lib.hid hon
  have HDN : HD cap ov (w.setCell ⟨b, 9, none⟩ (.int .i64 4)) b { s with n := 4 } := ⟨heap_set2 h.h (by unfold hdC; rfl)⟩
  have HFU := Lib.hid (show Calls Try.prog 84 #[.pointer (some ⟨b, 0, none⟩)] (w.setCell ⟨b, 9, none⟩ (.int .i64 4)) _ from by
    obtain ⟨-, -, y2, -, -, -, -, -, -, -, y10, y11, -⟩ := HDN.cells
    exact hand_full (s := s) y2 y10 y11 hc)
  have HFB := Lib.hid hf
  clear h hn hon hc
  go_enter Try.func29, Try.ntmps29
  go_wp2_with (go_at_call 84; refine (HFU.out).mono ?_; rintro e w1 ⟨rfl, m1, rfl⟩; rw [HFB.out])
  first | refine bodyPost_ret (results_none rfl _ _ _) rfl ?_ | go_end0
  refine ⟨rfl, ⟨?hg⟩, ?_⟩
  case hg =>
    have hnn := HN.out
    have hoo := HON.out
    obtain ⟨v, n, a, b', f, r0, on⟩ := s
    simp only at hnn hoo
    subst hnn hoo
    unfold hdC at *
    repeat (first | (with_reducible exact HX.out) | (with_reducible apply heap_set2) | (with_reducible apply heap_drew') | (with_reducible apply heap_drewN'))
    all_goals rfl
  repeat (first | (with_reducible refine Upd.setCell ?_ (by simp) _) | (with_reducible refine Upd.drew ?_) | (with_reducible refine Upd.drewN ?_ _))
  exact Upd.refl _ _
set_option maxRecDepth 100000 in
set_option maxHeartbeats 2000000 in
theorem hand_take_full {cap ov : Int} {w : World} {b : Nat} {s : HdS} (g : Int) (h : HD cap ov w b s) (hn : s.n = 3) (hon : s.on = true) (hc : Cap5 cap) (hf : handFull cap s = true) :
    Calls Try.prog 29 #[.pointer (some ⟨b, 0, none⟩), .int .u32 g] w fun e w' => e = .returned (.tuple #[]) ∧ HD cap ov w' b ({ s with n := 4, f := 6, r0 := 0, on := false }) ∧ Upd [b] w w' := by
  obtain ⟨x0, x1, x2, x3, x4, x5, x6, x7, x8, x9, x10, x11, x12, x13, x14, x15, x16, x17⟩ := h.cells
  rw [hn] at x9
  rw [hon] at x17
  have lb := heap_lt h.h
  have xf := fun j => h.fz j
  have HX := Lib.hid h.h
  have HN := Lib.hid hn
  have HON := Lib.hid hon
  have HDN : HD cap ov (w.setCell ⟨b, 9, none⟩ (.int .i64 4)) b { s with n := 4 } := ⟨heap_set2 h.h (by unfold hdC; rfl)⟩
  have HFU := Lib.hid (show Calls Try.prog 84 #[.pointer (some ⟨b, 0, none⟩)] (w.setCell ⟨b, 9, none⟩ (.int .i64 4)) _ from by
    obtain ⟨-, -, y2, -, -, -, -, -, -, -, y10, y11, -⟩ := HDN.cells
    exact hand_full (s := s) y2 y10 y11 hc)
  have HFB := Lib.hid hf
  have HE := Lib.hid (show ∀ W', W' = w.setCell ⟨b, 9, none⟩ (.int .i64 4) ∨ (∃ m, W' = (w.setCell ⟨b, 9, none⟩ (.int .i64 4)).drewN m) → Calls Try.prog 83 #[.pointer (some ⟨b, 0, none⟩), .int .i64 6] W' fun e w' => e = .returned (.tuple #[]) ∧ HD cap ov w' b { s with n := 4, f := 6, r0 := 0, on := false } ∧ Upd [b] w w' from fun W' hW => by
    have hd : HD cap ov W' b { s with n := 4 } := by
      rcases hW with rfl | ⟨m, rfl⟩
      · exact ⟨heap_set2 h.h (by unfold hdC; rfl)⟩
      · exact ⟨heap_drewN' (heap_set2 h.h (by unfold hdC; rfl))⟩
    have hu : Upd [b] w W' := by
      rcases hW with rfl | ⟨m, rfl⟩
      · exact (Upd.refl _ _).setCell (by simp) _
      · exact ((Upd.refl _ _).setCell (by simp) _).drewN _
    exact (hand_end 6 hd).mono fun e w' ⟨he, hh, hu'⟩ => ⟨he, hh, hu.trans hu'⟩)
  clear h hn hon hc
  go_enter Try.func29, Try.ntmps29
  go_wp2_with (first
    | (go_at_call 84; refine (HFU.out).mono ?_; rintro e w1 ⟨rfl, m1, rfl⟩; rw [HFB.out])
    | (go_at_call 83; refine (HE.out _ (by first | exact .inl rfl | exact .inr ⟨_, rfl⟩)).mono ?_; rintro e w2 ⟨rfl, hh2, hu2⟩; have HH2 := Lib.hid hh2; have HU2 := Lib.hid hu2; clear hh2 hu2))
  first | refine bodyPost_ret (results_none rfl _ _ _) rfl ?_ | go_end0
  exact ⟨rfl, HH2.out, HU2.out⟩
set_option maxRecDepth 100000 in
set_option maxHeartbeats 2000000 in
theorem hand_take_last {cap ov : Int} {w : World} {b : Nat} {s : HdS} (g : Int) (h : HD cap ov w b s) (hn : s.n = 4) (hon : s.on = true) (hc : Cap5 cap)  :
    Calls Try.prog 29 #[.pointer (some ⟨b, 0, none⟩), .int .u32 g] w fun e w' => e = .returned (.tuple #[]) ∧ HD cap ov w' b ({ s with n := 5, f := 0, r0 := 0, on := false }) ∧ Upd [b] w w' := by
  obtain ⟨x0, x1, x2, x3, x4, x5, x6, x7, x8, x9, x10, x11, x12, x13, x14, x15, x16, x17⟩ := h.cells
  rw [hn] at x9
  rw [hon] at x17
  have lb := heap_lt h.h
  have xf := fun j => h.fz j
  have HX := Lib.hid h.h
  have HN := Lib.hid hn
  have HON := Lib.hid hon
  have HE := Lib.hid (show ∀ W', W' = w.setCell ⟨b, 9, none⟩ (.int .i64 5) ∨ (∃ m, W' = (w.setCell ⟨b, 9, none⟩ (.int .i64 5)).drewN m) → Calls Try.prog 83 #[.pointer (some ⟨b, 0, none⟩), .int .i64 0] W' fun e w' => e = .returned (.tuple #[]) ∧ HD cap ov w' b { s with n := 5, f := 0, r0 := 0, on := false } ∧ Upd [b] w w' from fun W' hW => by
    have hd : HD cap ov W' b { s with n := 5 } := by
      rcases hW with rfl | ⟨m, rfl⟩
      · exact ⟨heap_set2 h.h (by unfold hdC; rfl)⟩
      · exact ⟨heap_drewN' (heap_set2 h.h (by unfold hdC; rfl))⟩
    have hu : Upd [b] w W' := by
      rcases hW with rfl | ⟨m, rfl⟩
      · exact (Upd.refl _ _).setCell (by simp) _
      · exact ((Upd.refl _ _).setCell (by simp) _).drewN _
    exact (hand_end 0 hd).mono fun e w' ⟨he, hh, hu'⟩ => ⟨he, hh, hu.trans hu'⟩)
  clear h hn hon hc
  go_enter Try.func29, Try.ntmps29
  go_wp2_with (go_at_call 83; refine (HE.out _ (by first | exact .inl rfl | exact .inr ⟨_, rfl⟩)).mono ?_; rintro e w2 ⟨rfl, hh2, hu2⟩; have HH2 := Lib.hid hh2; have HU2 := Lib.hid hu2; clear hh2 hu2)
  first | refine bodyPost_ret (results_none rfl _ _ _) rfl ?_ | go_end0
  exact ⟨rfl, HH2.out, HU2.out⟩
end Go.Proofs.Ytbjeojcnofpgfaa

