/- Package post: records; the law PostRecords. -/
import Derived.Test.YtbjeojcnofpgfaaPost7
import Derived.Test.YtbjeojcnofpgfaaShape
set_option linter.unusedVariables false
set_option linter.unusedSimpArgs false
namespace Go.Proofs.Ytbjeojcnofpgfaa
open Go.RowKit

theorem or_low (t b : Int) (ht0 : 0 ≤ t) (ht : t < 16) (hb0 : 0 ≤ b) (hb : b < 65536) : bits .or .u32 (t * 65536) b = t * 65536 + b := by
  obtain ⟨n, rfl⟩ : ∃ n : Nat, b = n := ⟨b.toNat, by omega⟩
  obtain ⟨m, rfl⟩ : ∃ m : Nat, t = m := ⟨t.toNat, by omega⟩
  have h1 : bits .or .u32 ((m : Int) * 65536) n = IntKind.u32.wrap ((BitVec.ofInt 32 ((m : Int) * 65536) ||| BitVec.ofInt 32 (n : Int)).toNat : Int) := rfl
  have e1 : (BitVec.ofInt 32 ((m : Int) * 65536)).toNat = 2 ^ 16 * m := by rw [BitVec.toNat_ofInt]; omega
  have e2 : (BitVec.ofInt 32 (n : Int)).toNat = n := by rw [BitVec.toNat_ofInt]; omega
  rw [h1, BitVec.toNat_or, e1, e2, ← Nat.two_pow_add_eq_or_of_lt (i := 16) (b := n) (by omega) m, IntKind.wrap_u32]
  omega
theorem and_low (r : Int) (h0 : 0 ≤ r) (h1 : r < 4294967296) : bits .and .u32 r 65535 = r % 65536 := by
  have h2 : bits .and .u32 r 65535 = IntKind.u32.wrap ((BitVec.ofInt 32 r &&& BitVec.ofInt 32 (65535 : Int)).toNat : Int) := rfl
  have e2 : (BitVec.ofInt 32 (65535 : Int)).toNat = 2 ^ 16 - 1 := by decide
  have e1 : (BitVec.ofInt 32 r).toNat = r.toNat := by rw [BitVec.toNat_ofInt]; omega
  rw [h2, BitVec.toNat_and, e2, Nat.and_two_pow_sub_one_eq_mod, e1, IntKind.wrap_u32]
  omega
set_option maxRecDepth 100000 in
set_option maxHeartbeats 2000000 in
theorem record_ok (t b : Int) (ht0 : 0 ≤ t) (ht : t < 16) (hb0 : 0 ≤ b) (hb : b < 65536) (w : World) : Calls Try.prog 27 #[.int .i64 t, .int .u32 b] w fun e w' => e = .returned (.tuple #[.int .u32 (t * 65536 + b), .bool true]) ∧ w' = w := by
  have d1 : decide (t < 0) = false := by simp; omega
  have d2 : decide (16 ≤ t) = false := by simp; omega
  have d3 : b / 65536 = 0 := by omega
  have hu : IntKind.u32.wrap t = t := by rw [IntKind.wrap_u32]; omega
  have hv : IntKind.u32.wrap (t * 65536) = t * 65536 := by rw [IntKind.wrap_u32]; omega
  have HO := Lib.hid (or_low t b ht0 ht hb0 hb)
  clear ht0 ht hb0 hb
  go_enter Try.func27, Try.ntmps27
  go_wp2
  go_ret2
  rw [HO.out]
  exact ⟨rfl, rfl⟩
set_option maxRecDepth 100000 in
set_option maxHeartbeats 2000000 in
theorem record_bad1 (t b : Int) (h : t < 0) (w : World) : Calls Try.prog 27 #[.int .i64 t, .int .u32 b] w fun e w' => e = .returned (.tuple #[.int .u32 0, .bool false]) ∧ w' = w := by
  have d1 : decide (t < 0) = true := by simpa using h
  clear h
  go_enter Try.func27, Try.ntmps27
  go_wp2
  go_ret2
  exact ⟨rfl, rfl⟩
set_option maxRecDepth 100000 in
set_option maxHeartbeats 2000000 in
theorem record_bad2 (t b : Int) (h0 : 0 ≤ t) (h : 16 ≤ t) (w : World) : Calls Try.prog 27 #[.int .i64 t, .int .u32 b] w fun e w' => e = .returned (.tuple #[.int .u32 0, .bool false]) ∧ w' = w := by
  have d1 : decide (t < 0) = false := by simp; omega
  have d2 : decide (16 ≤ t) = true := by simpa using h
  clear h h0
  go_enter Try.func27, Try.ntmps27
  go_wp2
  go_ret2
  exact ⟨rfl, rfl⟩
set_option maxRecDepth 100000 in
set_option maxHeartbeats 2000000 in
theorem record_bad3 (t b : Int) (h0 : 0 ≤ t) (h1 : t < 16) (hb1 : b ≤ 4294967295) (h : 65536 ≤ b) (w : World) : Calls Try.prog 27 #[.int .i64 t, .int .u32 b] w fun e w' => e = .returned (.tuple #[.int .u32 0, .bool false]) ∧ w' = w := by
  have d1 : decide (t < 0) = false := by simp; omega
  have d2 : decide (16 ≤ t) = false := by simp; omega
  have d3 : (b / 65536 != 0) = true := by simp; omega
  have d4 : (b / 65536 == 0) = false := by simp; omega
  clear h h0 h1 hb1
  go_enter Try.func27, Try.ntmps27
  go_wp2
  go_ret2
  exact ⟨rfl, rfl⟩
set_option maxRecDepth 100000 in
set_option maxHeartbeats 2000000 in
theorem read_any (r : Int) (h0 : 0 ≤ r) (h1 : r < 4294967296) (w : World) : Calls Try.prog 28 #[.int .u32 r] w fun e w' => e = .returned (.tuple #[.int .i64 (r / 65536 % 16), .int .u32 (r % 65536)]) ∧ w' = w := by
  have HA := Lib.hid (and_low r h0 h1)
  go_enter Try.func28, Try.ntmps28
  go_wp2
  go_ret2
  rw [HA.out]
  exact ⟨rfl, rfl⟩
set_option maxRecDepth 100000 in
set_option maxHeartbeats 2000000 in
theorem within11 (a b c : Int) (w : World) : Calls Try.prog 86 #[.int .i64 a, .int .i64 b, .int .i64 c] w fun e w' => e = .returned (.bool (decide (b ≤ a) && decide (a ≤ c))) ∧ w' = w := by
  by_cases h1 : b ≤ a
  · have d1 : decide (b ≤ a) = true := by simpa using h1
    rw [d1]
    clear h1
    go_enter Try.func86, Try.ntmps86
    go_wp2
    go_ret
    exact ⟨by simp, rfl⟩
  · have d1 : decide (b ≤ a) = false := by simpa using h1
    rw [d1]
    clear h1
    go_enter Try.func86, Try.ntmps86
    go_wp2
    go_ret
    exact ⟨by simp, rfl⟩
set_option maxRecDepth 100000 in
set_option maxHeartbeats 2000000 in
theorem right11 (w : World) : Calls Try.prog 32 #[.agg #[.int .i64 4, .int .i64 0, .int .i64 0, .int .i64 0, .int .i64 0, .int .i64 0, .int .u32 0, .int .u32 0, .int .u32 0, .int .u32 0]] w fun e w' => e = .returned (.bool true) ∧ Upd [] w w' := by
  have HW := Lib.hid (show ∀ w, Calls Try.prog 86 #[.int .i64 4, .int .i64 1, .int .i64 4] w fun e w' => e = .returned (.bool true) ∧ w' = w from fun w => (within11 4 1 4 w).mono fun e w' h => ⟨by rw [h.1]; rfl, h.2⟩)
  go_enter Try.func32, Try.ntmps32
  go_wp2
  go_quiet (fail)
  go_wp2_with (go_at_call 86; refine (HW.out _).mono ?_; rintro e w1 ⟨rfl, rfl⟩)
  go_ret
  exact ⟨rfl, ((Upd.refl _ _).alloc _).drewN _⟩
set_option maxRecDepth 100000 in
set_option maxHeartbeats 2000000 in
theorem postRecords_ok (W : World) (t b got : Int) (ht0 : 0 ≤ t) (ht : t < 16) (hb0 : 0 ≤ b) (hb : b < 65536) : Calls Try.prog 5 #[.int .i64 t, .int .u32 b, .int .u32 got] W fun e w' => e = .returned (.bool true) ∧ Upd [] W w' := by
  have HREC := Lib.hid fun w => record_ok t b ht0 ht hb0 hb w
  have HRD := Lib.hid fun w => (show ∀ w, Calls Try.prog 28 #[.int .u32 (t * 65536 + b)] w fun e w' => e = .returned (.tuple #[.int .i64 t, .int .u32 b]) ∧ w' = w from fun w => (read_any (t * 65536 + b) (by omega) (by omega) w).mono fun e w' h => ⟨by rw [h.1, show (t * 65536 + b) / 65536 % 16 = t by omega, show (t * 65536 + b) % 65536 = b by omega], h.2⟩) w
  have d1 : decide (0 ≤ t) = true := by simpa using ht0
  have d2 : decide (t < 16) = true := by simpa using ht
  have d3 : decide (b < 65536) = true := by simpa using hb
  clear ht0 ht hb0 hb
  have HZ := Lib.hid (show ZH (W.alloc (.cells #[.int .i64 0, .int .i64 0, .int .i64 0, .int .i64 0, .int .i64 0, .int .i64 0, .int .i64 0, .int .i64 0, .int .u32 0, .int .i64 0, .int .u32 0, .int .u32 0, .int .i64 0, .int .u32 0, .int .u32 0, .int .u32 0, .int .u32 0, .bool false] 77)) W.heap.size from ⟨heap_alloc_new _ _⟩)
  go_enter Try.func5, Try.ntmps5
  go_wp2_with (first
    | (go_at_call 27; refine (HREC.out _).mono ?_; rintro e w1 ⟨rfl, rfl⟩)
    | (go_at_call 28; refine (HRD.out _).mono ?_; rintro e w2 ⟨rfl, rfl⟩))
  refine (hand_take_nil _ _).mono ?_
  rintro e w3 ⟨rfl, rfl⟩
  go_wp2_with fail
  refine (hand_take_zero got ⟨heap_alloc_new _ _⟩).mono ?_
  rintro e w4 ⟨rfl, rfl⟩
  go_wp2_with fail
  refine (hand_act_nil _).mono ?_
  rintro e w5 ⟨rfl, hu5⟩
  have HZ5 := Lib.hid (show ZH w5 _ from ⟨hu5.keepb (heap_alloc_new _ _) (by simp)⟩)
  have HU5 := Lib.hid (((Upd.refl [] _).alloc _).trans hu5)
  clear hu5
  go_wp2_with fail
  refine (hand_act_zero ⟨heap_alloc' HZ5.out.h⟩).mono ?_
  rintro e w6 ⟨rfl, hu6⟩
  have HZ6 := Lib.hid (show ZH w6 _ from ⟨hu6.keepb (heap_alloc' HZ5.out.h) (by simp)⟩)
  have HU6 := Lib.hid ((HU5.out.alloc _).trans hu6)
  clear hu6
  go_wp2_with fail
  refine (hand_result_nil _).mono ?_
  rintro e w7 ⟨rfl, hu7⟩
  have HZ7 := Lib.hid (show ZH w7 _ from ⟨hu7.keepb (heap_alloc' HZ6.out.h) (by simp)⟩)
  have HU7 := Lib.hid ((HU6.out.alloc _).trans hu7)
  clear hu7
  go_wp2_with fail
  refine (hand_result_zero ⟨heap_alloc' HZ7.out.h⟩).mono ?_
  rintro e w8 ⟨rfl, hu8⟩
  have HU8 := Lib.hid ((HU7.out.alloc _).trans hu8)
  clear hu8
  go_wp2_with (first
    | (go_at_call 32; refine (right11 _).mono ?_; rintro e w9 ⟨rfl, hu9⟩; have HU9 := Lib.hid ((HU8.out.alloc _).trans hu9); clear hu9)
    | (go_at_call 33; refine (alive28 _).mono ?_; rintro e w10 ⟨rfl, hu10⟩; have HU10 := Lib.hid (HU9.out.trans hu10); clear hu10))
  go_ret
  exact ⟨rfl, HU10.out⟩
set_option maxRecDepth 100000 in
set_option maxHeartbeats 2000000 in
theorem postRecords_bad1 (W : World) (t b got : Int) (h : t < 0) : Calls Try.prog 5 #[.int .i64 t, .int .u32 b, .int .u32 got] W fun e w' => e = .returned (.bool true) ∧ Upd [] W w' := by
  have HREC := Lib.hid fun w => record_bad1 t b h w
  have HRD := Lib.hid fun w => read_any 0 (by omega) (by omega) w
  have d1 : decide (0 ≤ t) = false := by simp; omega
  clear h
  have HZ := Lib.hid (show ZH (W.alloc (.cells #[.int .i64 0, .int .i64 0, .int .i64 0, .int .i64 0, .int .i64 0, .int .i64 0, .int .i64 0, .int .i64 0, .int .u32 0, .int .i64 0, .int .u32 0, .int .u32 0, .int .i64 0, .int .u32 0, .int .u32 0, .int .u32 0, .int .u32 0, .bool false] 77)) W.heap.size from ⟨heap_alloc_new _ _⟩)
  go_enter Try.func5, Try.ntmps5
  go_wp2_with (first
    | (go_at_call 27; refine (HREC.out _).mono ?_; rintro e w1 ⟨rfl, rfl⟩)
    | (go_at_call 28; refine (HRD.out _).mono ?_; rintro e w2 ⟨rfl, rfl⟩))
  refine (hand_take_nil _ _).mono ?_
  rintro e w3 ⟨rfl, rfl⟩
  go_wp2_with fail
  refine (hand_take_zero got ⟨heap_alloc_new _ _⟩).mono ?_
  rintro e w4 ⟨rfl, rfl⟩
  go_wp2_with fail
  refine (hand_act_nil _).mono ?_
  rintro e w5 ⟨rfl, hu5⟩
  have HZ5 := Lib.hid (show ZH w5 _ from ⟨hu5.keepb (heap_alloc_new _ _) (by simp)⟩)
  have HU5 := Lib.hid (((Upd.refl [] _).alloc _).trans hu5)
  clear hu5
  go_wp2_with fail
  refine (hand_act_zero ⟨heap_alloc' HZ5.out.h⟩).mono ?_
  rintro e w6 ⟨rfl, hu6⟩
  have HZ6 := Lib.hid (show ZH w6 _ from ⟨hu6.keepb (heap_alloc' HZ5.out.h) (by simp)⟩)
  have HU6 := Lib.hid ((HU5.out.alloc _).trans hu6)
  clear hu6
  go_wp2_with fail
  refine (hand_result_nil _).mono ?_
  rintro e w7 ⟨rfl, hu7⟩
  have HZ7 := Lib.hid (show ZH w7 _ from ⟨hu7.keepb (heap_alloc' HZ6.out.h) (by simp)⟩)
  have HU7 := Lib.hid ((HU6.out.alloc _).trans hu7)
  clear hu7
  go_wp2_with fail
  refine (hand_result_zero ⟨heap_alloc' HZ7.out.h⟩).mono ?_
  rintro e w8 ⟨rfl, hu8⟩
  have HU8 := Lib.hid ((HU7.out.alloc _).trans hu8)
  clear hu8
  go_wp2_with (first
    | (go_at_call 32; refine (right11 _).mono ?_; rintro e w9 ⟨rfl, hu9⟩; have HU9 := Lib.hid ((HU8.out.alloc _).trans hu9); clear hu9)
    | (go_at_call 33; refine (alive28 _).mono ?_; rintro e w10 ⟨rfl, hu10⟩; have HU10 := Lib.hid (HU9.out.trans hu10); clear hu10))
  go_ret
  exact ⟨rfl, HU10.out⟩
set_option maxRecDepth 100000 in
set_option maxHeartbeats 2000000 in
theorem postRecords_bad2 (W : World) (t b got : Int) (h0 : 0 ≤ t) (h : 16 ≤ t) : Calls Try.prog 5 #[.int .i64 t, .int .u32 b, .int .u32 got] W fun e w' => e = .returned (.bool true) ∧ Upd [] W w' := by
  have HREC := Lib.hid fun w => record_bad2 t b h0 h w
  have HRD := Lib.hid fun w => read_any 0 (by omega) (by omega) w
  have d1 : decide (0 ≤ t) = true := by simpa using h0
  have d2 : decide (t < 16) = false := by simp; omega
  clear h h0
  have HZ := Lib.hid (show ZH (W.alloc (.cells #[.int .i64 0, .int .i64 0, .int .i64 0, .int .i64 0, .int .i64 0, .int .i64 0, .int .i64 0, .int .i64 0, .int .u32 0, .int .i64 0, .int .u32 0, .int .u32 0, .int .i64 0, .int .u32 0, .int .u32 0, .int .u32 0, .int .u32 0, .bool false] 77)) W.heap.size from ⟨heap_alloc_new _ _⟩)
  go_enter Try.func5, Try.ntmps5
  go_wp2_with (first
    | (go_at_call 27; refine (HREC.out _).mono ?_; rintro e w1 ⟨rfl, rfl⟩)
    | (go_at_call 28; refine (HRD.out _).mono ?_; rintro e w2 ⟨rfl, rfl⟩))
  refine (hand_take_nil _ _).mono ?_
  rintro e w3 ⟨rfl, rfl⟩
  go_wp2_with fail
  refine (hand_take_zero got ⟨heap_alloc_new _ _⟩).mono ?_
  rintro e w4 ⟨rfl, rfl⟩
  go_wp2_with fail
  refine (hand_act_nil _).mono ?_
  rintro e w5 ⟨rfl, hu5⟩
  have HZ5 := Lib.hid (show ZH w5 _ from ⟨hu5.keepb (heap_alloc_new _ _) (by simp)⟩)
  have HU5 := Lib.hid (((Upd.refl [] _).alloc _).trans hu5)
  clear hu5
  go_wp2_with fail
  refine (hand_act_zero ⟨heap_alloc' HZ5.out.h⟩).mono ?_
  rintro e w6 ⟨rfl, hu6⟩
  have HZ6 := Lib.hid (show ZH w6 _ from ⟨hu6.keepb (heap_alloc' HZ5.out.h) (by simp)⟩)
  have HU6 := Lib.hid ((HU5.out.alloc _).trans hu6)
  clear hu6
  go_wp2_with fail
  refine (hand_result_nil _).mono ?_
  rintro e w7 ⟨rfl, hu7⟩
  have HZ7 := Lib.hid (show ZH w7 _ from ⟨hu7.keepb (heap_alloc' HZ6.out.h) (by simp)⟩)
  have HU7 := Lib.hid ((HU6.out.alloc _).trans hu7)
  clear hu7
  go_wp2_with fail
  refine (hand_result_zero ⟨heap_alloc' HZ7.out.h⟩).mono ?_
  rintro e w8 ⟨rfl, hu8⟩
  have HU8 := Lib.hid ((HU7.out.alloc _).trans hu8)
  clear hu8
  go_wp2_with (first
    | (go_at_call 32; refine (right11 _).mono ?_; rintro e w9 ⟨rfl, hu9⟩; have HU9 := Lib.hid ((HU8.out.alloc _).trans hu9); clear hu9)
    | (go_at_call 33; refine (alive28 _).mono ?_; rintro e w10 ⟨rfl, hu10⟩; have HU10 := Lib.hid (HU9.out.trans hu10); clear hu10))
  go_ret
  exact ⟨rfl, HU10.out⟩
set_option maxRecDepth 100000 in
set_option maxHeartbeats 2000000 in
theorem postRecords_bad3 (W : World) (t b got : Int) (h0 : 0 ≤ t) (h1 : t < 16) (hb1 : b ≤ 4294967295) (h : 65536 ≤ b) : Calls Try.prog 5 #[.int .i64 t, .int .u32 b, .int .u32 got] W fun e w' => e = .returned (.bool true) ∧ Upd [] W w' := by
  have HREC := Lib.hid fun w => record_bad3 t b h0 h1 hb1 h w
  have HRD := Lib.hid fun w => read_any 0 (by omega) (by omega) w
  have d1 : decide (0 ≤ t) = true := by simpa using h0
  have d2 : decide (t < 16) = true := by simpa using h1
  have d3 : decide (b < 65536) = false := by simp; omega
  clear h h0 h1 hb1
  have HZ := Lib.hid (show ZH (W.alloc (.cells #[.int .i64 0, .int .i64 0, .int .i64 0, .int .i64 0, .int .i64 0, .int .i64 0, .int .i64 0, .int .i64 0, .int .u32 0, .int .i64 0, .int .u32 0, .int .u32 0, .int .i64 0, .int .u32 0, .int .u32 0, .int .u32 0, .int .u32 0, .bool false] 77)) W.heap.size from ⟨heap_alloc_new _ _⟩)
  go_enter Try.func5, Try.ntmps5
  go_wp2_with (first
    | (go_at_call 27; refine (HREC.out _).mono ?_; rintro e w1 ⟨rfl, rfl⟩)
    | (go_at_call 28; refine (HRD.out _).mono ?_; rintro e w2 ⟨rfl, rfl⟩))
  refine (hand_take_nil _ _).mono ?_
  rintro e w3 ⟨rfl, rfl⟩
  go_wp2_with fail
  refine (hand_take_zero got ⟨heap_alloc_new _ _⟩).mono ?_
  rintro e w4 ⟨rfl, rfl⟩
  go_wp2_with fail
  refine (hand_act_nil _).mono ?_
  rintro e w5 ⟨rfl, hu5⟩
  have HZ5 := Lib.hid (show ZH w5 _ from ⟨hu5.keepb (heap_alloc_new _ _) (by simp)⟩)
  have HU5 := Lib.hid (((Upd.refl [] _).alloc _).trans hu5)
  clear hu5
  go_wp2_with fail
  refine (hand_act_zero ⟨heap_alloc' HZ5.out.h⟩).mono ?_
  rintro e w6 ⟨rfl, hu6⟩
  have HZ6 := Lib.hid (show ZH w6 _ from ⟨hu6.keepb (heap_alloc' HZ5.out.h) (by simp)⟩)
  have HU6 := Lib.hid ((HU5.out.alloc _).trans hu6)
  clear hu6
  go_wp2_with fail
  refine (hand_result_nil _).mono ?_
  rintro e w7 ⟨rfl, hu7⟩
  have HZ7 := Lib.hid (show ZH w7 _ from ⟨hu7.keepb (heap_alloc' HZ6.out.h) (by simp)⟩)
  have HU7 := Lib.hid ((HU6.out.alloc _).trans hu7)
  clear hu7
  go_wp2_with fail
  refine (hand_result_zero ⟨heap_alloc' HZ7.out.h⟩).mono ?_
  rintro e w8 ⟨rfl, hu8⟩
  have HU8 := Lib.hid ((HU7.out.alloc _).trans hu8)
  clear hu8
  go_wp2_with (first
    | (go_at_call 32; refine (right11 _).mono ?_; rintro e w9 ⟨rfl, hu9⟩; have HU9 := Lib.hid ((HU8.out.alloc _).trans hu9); clear hu9)
    | (go_at_call 33; refine (alive28 _).mono ?_; rintro e w10 ⟨rfl, hu10⟩; have HU10 := Lib.hid (HU9.out.trans hu10); clear hu10))
  go_ret
  exact ⟨rfl, HU10.out⟩
theorem postRecords_walk (W : World) (v0 v1 v2 : Value) (h0 : Sh.okV W (.int .i64) v0) (h1 : Sh.okV W (.int .u32) v1) (h2 : Sh.okV W (.int .u32) v2) :
    Calls Try.prog 5 #[v0, v1, v2] W fun e w' => e = .returned (.bool true) ∧ Upd [] W w' := by
  obtain ⟨t, ht, _⟩ := h0
  obtain rfl : v0 = .int .i64 t := by simpa using ht
  obtain ⟨b, hb, hbw⟩ := h1
  obtain rfl : v1 = .int .u32 b := by simpa using hb
  obtain ⟨got, hg, _⟩ := h2
  obtain rfl : v2 = .int .u32 got := by simpa using hg
  have hb2 : 0 ≤ b ∧ b ≤ 4294967295 := by simpa [Lit.wf, IntKind.min, IntKind.max, IntKind.bits, IntKind.signed] using hbw
  by_cases h1 : t < 0
  · exact postRecords_bad1 W t b got h1
  by_cases h2 : 16 ≤ t
  · exact postRecords_bad2 W t b got (by omega) h2
  by_cases h3 : 65536 ≤ b
  · exact postRecords_bad3 W t b got (by omega) (by omega) hb2.2 h3
  · exact postRecords_ok W t b got (by omega) (by omega) hb2.1 (by omega)
end Go.Proofs.Ytbjeojcnofpgfaa

