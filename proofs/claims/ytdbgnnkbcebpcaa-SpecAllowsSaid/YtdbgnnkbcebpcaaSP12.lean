/- Package spec: Allows, way by way (printed by gensp12.py). -/
import Derived.Test.YtdbgnnkbcebpcaaSP11
import Derived.Test.YtdbgnnkbcebpcaaResEq
set_option linter.unusedVariables false
set_option linter.unusedSimpArgs false
namespace Go.Proofs.Ytdbgnnkbcebpcaa
open Go.RowKit
section
variable (sa : Option Addr) (sn sc : Nat) (k ob c0 c1 c2 c3 cn f a b c d rf r0 r1 r2 r3 : Int) (W : World) (Z : Option Addr → Nat → Nat → World → Prop)
set_option maxRecDepth 100000 in
set_option maxHeartbeats 4000000 in
theorem allows_A6 {e2 e3 : Bool} (he1 : (f == rf && (a == r0 && (b == r1 && (c == r2 && d == r3)))) = true) (he2 : (f == 8 && (a == 0 && (b == 0 && (c == 0 && d == 0)))) = e2) (he3 : (f == 9 && (a == 0 && (b == 0 && (c == 0 && d == 0)))) = e3) (h6 : (rf == 6) = true)
    (hz : ∀ sa n sc w w', Z sa n sc w → Upd [] w w' → Z sa n sc w')
    (hd : ∀ w, Upd [] W w → Calls Try.prog 10 #[.slice sa sn sc, .agg #[.int .i64 k, .int .i64 ob, .int .u32 c0, .int .u32 c1, .int .u32 c2, .int .u32 c3, .int .u32 cn]] w fun e w' => Upd [] w w' ∧ ∃ sa sn sc, e = .returned (.tuple #[.slice sa sn sc, .agg #[.int .i64 rf, .int .u32 r0, .int .u32 r1, .int .u32 r2, .int .u32 r3]]) ∧ Z sa sn sc w') :
    Calls Try.prog 12 #[.slice sa sn sc, .agg #[.int .i64 k, .int .i64 ob, .int .u32 c0, .int .u32 c1, .int .u32 c2, .int .u32 c3, .int .u32 cn], .agg #[.int .i64 f, .int .u32 a, .int .u32 b, .int .u32 c, .int .u32 d]] W fun e w' => Upd [] W w' ∧ ∃ za zn zc, e = .returned (.tuple #[.slice za zn zc, .bool true]) ∧ Z za zn zc w' := by
  have HD := Lib.hid (hd _ ((Upd.refl [] W).alloc (.cells #[.int .i64 k, .int .i64 ob, .int .u32 c0, .int .u32 c1, .int .u32 c2, .int .u32 c3, .int .u32 cn] 28) |>.alloc (.cells #[.int .i64 f, .int .u32 a, .int .u32 b, .int .u32 c, .int .u32 d] 31)))
  have HZ := Lib.hid hz
  have q1 := fun w => (eq_result w f a b c d rf r0 r1 r2 r3)
  have q2 := fun w => (eq_result w f a b c d 8 0 0 0 0)
  have q3 := fun w => (eq_result w f a b c d 9 0 0 0 0)
  rw [he1] at q1
  rw [he2] at q2
  rw [he3] at q3
  clear hd hz he1 he2 he3
  go_enter Try.func12, Try.ntmps12
  go_wp2_with (go_at_call 10; (with_reducible refine (HD.out).mono ?_); rintro e w3 ⟨hu3, za, zn, zc, rfl, hz3⟩; obtain ⟨p3, rfl⟩ := hu3.grown; have HZ3 := Lib.hid hz3; clear hz3 hu3)
  all_goals trace_state
  go_ret2
  refine ⟨(by (repeat (first | (with_reducible exact Upd.refl _ _) | (with_reducible apply Upd.drew) | (with_reducible refine Upd.grE ?_ _) | (with_reducible refine Upd.alloc ?_ _)))), _, _, _, rfl, HZ.out _ _ _ _ _ HZ3.out ?_⟩
  (repeat (first | (with_reducible exact Upd.refl _ _) | (with_reducible apply Upd.drew) | (with_reducible refine Upd.grE ?_ _) | (with_reducible refine Upd.alloc ?_ _)))
set_option maxRecDepth 100000 in
set_option maxHeartbeats 4000000 in
theorem allows_A0 {e2 e3 : Bool} (he1 : (f == rf && (a == r0 && (b == r1 && (c == r2 && d == r3)))) = true) (he2 : (f == 8 && (a == 0 && (b == 0 && (c == 0 && d == 0)))) = e2) (he3 : (f == 9 && (a == 0 && (b == 0 && (c == 0 && d == 0)))) = e3) (h6 : (rf == 6) = false)
    (hz : ∀ sa n sc w w', Z sa n sc w → Upd [] w w' → Z sa n sc w')
    (hd : ∀ w, Upd [] W w → Calls Try.prog 10 #[.slice sa sn sc, .agg #[.int .i64 k, .int .i64 ob, .int .u32 c0, .int .u32 c1, .int .u32 c2, .int .u32 c3, .int .u32 cn]] w fun e w' => Upd [] w w' ∧ ∃ sa sn sc, e = .returned (.tuple #[.slice sa sn sc, .agg #[.int .i64 rf, .int .u32 r0, .int .u32 r1, .int .u32 r2, .int .u32 r3]]) ∧ Z sa sn sc w') :
    Calls Try.prog 12 #[.slice sa sn sc, .agg #[.int .i64 k, .int .i64 ob, .int .u32 c0, .int .u32 c1, .int .u32 c2, .int .u32 c3, .int .u32 cn], .agg #[.int .i64 f, .int .u32 a, .int .u32 b, .int .u32 c, .int .u32 d]] W fun e w' => Upd [] W w' ∧ ∃ za zn zc, e = .returned (.tuple #[.slice za zn zc, .bool true]) ∧ Z za zn zc w' := by
  have HD := Lib.hid (hd _ ((Upd.refl [] W).alloc (.cells #[.int .i64 k, .int .i64 ob, .int .u32 c0, .int .u32 c1, .int .u32 c2, .int .u32 c3, .int .u32 cn] 28) |>.alloc (.cells #[.int .i64 f, .int .u32 a, .int .u32 b, .int .u32 c, .int .u32 d] 31)))
  have HZ := Lib.hid hz
  have q1 := fun w => (eq_result w f a b c d rf r0 r1 r2 r3)
  have q2 := fun w => (eq_result w f a b c d 8 0 0 0 0)
  have q3 := fun w => (eq_result w f a b c d 9 0 0 0 0)
  rw [he1] at q1
  rw [he2] at q2
  rw [he3] at q3
  clear hd hz he1 he2 he3
  go_enter Try.func12, Try.ntmps12
  go_wp2_with (go_at_call 10; (with_reducible refine (HD.out).mono ?_); rintro e w3 ⟨hu3, za, zn, zc, rfl, hz3⟩; obtain ⟨p3, rfl⟩ := hu3.grown; have HZ3 := Lib.hid hz3; clear hz3 hu3)
  all_goals trace_state
  go_ret2
  refine ⟨(by (repeat (first | (with_reducible exact Upd.refl _ _) | (with_reducible apply Upd.drew) | (with_reducible refine Upd.grE ?_ _) | (with_reducible refine Upd.alloc ?_ _)))), _, _, _, rfl, HZ.out _ _ _ _ _ HZ3.out ?_⟩
  (repeat (first | (with_reducible exact Upd.refl _ _) | (with_reducible apply Upd.drew) | (with_reducible refine Upd.grE ?_ _) | (with_reducible refine Upd.alloc ?_ _)))
set_option maxRecDepth 100000 in
set_option maxHeartbeats 4000000 in
theorem allows_D6 (he1 : (f == rf && (a == r0 && (b == r1 && (c == r2 && d == r3)))) = false) (he2 : (f == 8 && (a == 0 && (b == 0 && (c == 0 && d == 0)))) = false) (he3 : (f == 9 && (a == 0 && (b == 0 && (c == 0 && d == 0)))) = false) (h6 : (rf == 6) = true)
    (hz : ∀ sa n sc w w', Z sa n sc w → Upd [] w w' → Z sa n sc w')
    (hd : ∀ w, Upd [] W w → Calls Try.prog 10 #[.slice sa sn sc, .agg #[.int .i64 k, .int .i64 ob, .int .u32 c0, .int .u32 c1, .int .u32 c2, .int .u32 c3, .int .u32 cn]] w fun e w' => Upd [] w w' ∧ ∃ sa sn sc, e = .returned (.tuple #[.slice sa sn sc, .agg #[.int .i64 rf, .int .u32 r0, .int .u32 r1, .int .u32 r2, .int .u32 r3]]) ∧ Z sa sn sc w') :
    Calls Try.prog 12 #[.slice sa sn sc, .agg #[.int .i64 k, .int .i64 ob, .int .u32 c0, .int .u32 c1, .int .u32 c2, .int .u32 c3, .int .u32 cn], .agg #[.int .i64 f, .int .u32 a, .int .u32 b, .int .u32 c, .int .u32 d]] W fun e w' => Upd [] W w' ∧ e = .returned (.tuple #[.slice sa sn sc, .bool false]) := by
  have HD := Lib.hid (hd _ ((Upd.refl [] W).alloc (.cells #[.int .i64 k, .int .i64 ob, .int .u32 c0, .int .u32 c1, .int .u32 c2, .int .u32 c3, .int .u32 cn] 28) |>.alloc (.cells #[.int .i64 f, .int .u32 a, .int .u32 b, .int .u32 c, .int .u32 d] 31)))
  have HZ := Lib.hid hz
  have q1 := fun w => (eq_result w f a b c d rf r0 r1 r2 r3)
  have q2 := fun w => (eq_result w f a b c d 8 0 0 0 0)
  have q3 := fun w => (eq_result w f a b c d 9 0 0 0 0)
  rw [he1] at q1
  rw [he2] at q2
  rw [he3] at q3
  clear hd hz he1 he2 he3
  go_enter Try.func12, Try.ntmps12
  go_wp2_with (go_at_call 10; (with_reducible refine (HD.out).mono ?_); rintro e w3 ⟨hu3, za, zn, zc, rfl, hz3⟩; obtain ⟨p3, rfl⟩ := hu3.grown; have HZ3 := Lib.hid hz3; clear hz3 hu3)
  all_goals
    go_ret2
    refine ⟨(by (repeat (first | (with_reducible exact Upd.refl _ _) | (with_reducible apply Upd.drew) | (with_reducible refine Upd.grE ?_ _) | (with_reducible refine Upd.alloc ?_ _)))), ?_⟩
    first | rfl | simp
set_option maxRecDepth 100000 in
set_option maxHeartbeats 4000000 in
theorem allows_D0 (he1 : (f == rf && (a == r0 && (b == r1 && (c == r2 && d == r3)))) = false) (he2 : (f == 8 && (a == 0 && (b == 0 && (c == 0 && d == 0)))) = false) (he3 : (f == 9 && (a == 0 && (b == 0 && (c == 0 && d == 0)))) = false) (h6 : (rf == 6) = false)
    (hz : ∀ sa n sc w w', Z sa n sc w → Upd [] w w' → Z sa n sc w')
    (hd : ∀ w, Upd [] W w → Calls Try.prog 10 #[.slice sa sn sc, .agg #[.int .i64 k, .int .i64 ob, .int .u32 c0, .int .u32 c1, .int .u32 c2, .int .u32 c3, .int .u32 cn]] w fun e w' => Upd [] w w' ∧ ∃ sa sn sc, e = .returned (.tuple #[.slice sa sn sc, .agg #[.int .i64 rf, .int .u32 r0, .int .u32 r1, .int .u32 r2, .int .u32 r3]]) ∧ Z sa sn sc w') :
    Calls Try.prog 12 #[.slice sa sn sc, .agg #[.int .i64 k, .int .i64 ob, .int .u32 c0, .int .u32 c1, .int .u32 c2, .int .u32 c3, .int .u32 cn], .agg #[.int .i64 f, .int .u32 a, .int .u32 b, .int .u32 c, .int .u32 d]] W fun e w' => Upd [] W w' ∧ e = .returned (.tuple #[.slice sa sn sc, .bool false]) := by
  have HD := Lib.hid (hd _ ((Upd.refl [] W).alloc (.cells #[.int .i64 k, .int .i64 ob, .int .u32 c0, .int .u32 c1, .int .u32 c2, .int .u32 c3, .int .u32 cn] 28) |>.alloc (.cells #[.int .i64 f, .int .u32 a, .int .u32 b, .int .u32 c, .int .u32 d] 31)))
  have HZ := Lib.hid hz
  have q1 := fun w => (eq_result w f a b c d rf r0 r1 r2 r3)
  have q2 := fun w => (eq_result w f a b c d 8 0 0 0 0)
  have q3 := fun w => (eq_result w f a b c d 9 0 0 0 0)
  rw [he1] at q1
  rw [he2] at q2
  rw [he3] at q3
  clear hd hz he1 he2 he3
  go_enter Try.func12, Try.ntmps12
  go_wp2_with (go_at_call 10; (with_reducible refine (HD.out).mono ?_); rintro e w3 ⟨hu3, za, zn, zc, rfl, hz3⟩; obtain ⟨p3, rfl⟩ := hu3.grown; have HZ3 := Lib.hid hz3; clear hz3 hu3)
  all_goals
    go_ret2
    refine ⟨(by (repeat (first | (with_reducible exact Upd.refl _ _) | (with_reducible apply Upd.drew) | (with_reducible refine Upd.grE ?_ _) | (with_reducible refine Upd.alloc ?_ _)))), ?_⟩
    first | rfl | simp
set_option maxRecDepth 100000 in
set_option maxHeartbeats 4000000 in
theorem allows_B6 {e3 : Bool} (he1 : (f == rf && (a == r0 && (b == r1 && (c == r2 && d == r3)))) = false) (he2 : (f == 8 && (a == 0 && (b == 0 && (c == 0 && d == 0)))) = true) (he3 : (f == 9 && (a == 0 && (b == 0 && (c == 0 && d == 0)))) = e3) (h6 : (rf == 6) = true) (h0 : (rf == 0) = false)
    (hz : ∀ sa n sc w w', Z sa n sc w → Upd [] w w' → Z sa n sc w')
    (hd : ∀ w, Upd [] W w → Calls Try.prog 10 #[.slice sa sn sc, .agg #[.int .i64 k, .int .i64 ob, .int .u32 c0, .int .u32 c1, .int .u32 c2, .int .u32 c3, .int .u32 cn]] w fun e w' => Upd [] w w' ∧ ∃ sa sn sc, e = .returned (.tuple #[.slice sa sn sc, .agg #[.int .i64 rf, .int .u32 r0, .int .u32 r1, .int .u32 r2, .int .u32 r3]]) ∧ Z sa sn sc w') :
    Calls Try.prog 12 #[.slice sa sn sc, .agg #[.int .i64 k, .int .i64 ob, .int .u32 c0, .int .u32 c1, .int .u32 c2, .int .u32 c3, .int .u32 cn], .agg #[.int .i64 f, .int .u32 a, .int .u32 b, .int .u32 c, .int .u32 d]] W fun e w' => Upd [] W w' ∧ e = .returned (.tuple #[.slice sa sn sc, .bool false]) := by
  have HD := Lib.hid (hd _ ((Upd.refl [] W).alloc (.cells #[.int .i64 k, .int .i64 ob, .int .u32 c0, .int .u32 c1, .int .u32 c2, .int .u32 c3, .int .u32 cn] 28) |>.alloc (.cells #[.int .i64 f, .int .u32 a, .int .u32 b, .int .u32 c, .int .u32 d] 31)))
  have HZ := Lib.hid hz
  have q1 := fun w => (eq_result w f a b c d rf r0 r1 r2 r3)
  have q2 := fun w => (eq_result w f a b c d 8 0 0 0 0)
  have q3 := fun w => (eq_result w f a b c d 9 0 0 0 0)
  rw [he1] at q1
  rw [he2] at q2
  rw [he3] at q3
  clear hd hz he1 he2 he3
  go_enter Try.func12, Try.ntmps12
  go_wp2_with (go_at_call 10; (with_reducible refine (HD.out).mono ?_); rintro e w3 ⟨hu3, za, zn, zc, rfl, hz3⟩; obtain ⟨p3, rfl⟩ := hu3.grown; have HZ3 := Lib.hid hz3; clear hz3 hu3)
  all_goals (go_region)
  all_goals go_wp2
  all_goals
    go_ret2
    refine ⟨(by (repeat (first | (with_reducible exact Upd.refl _ _) | (with_reducible apply Upd.drew) | (with_reducible refine Upd.grE ?_ _) | (with_reducible refine Upd.alloc ?_ _)))), ?_⟩
    first | rfl | simp
set_option maxRecDepth 100000 in
set_option maxHeartbeats 4000000 in
theorem allows_B0 {e3 : Bool} (he1 : (f == rf && (a == r0 && (b == r1 && (c == r2 && d == r3)))) = false) (he2 : (f == 8 && (a == 0 && (b == 0 && (c == 0 && d == 0)))) = true) (he3 : (f == 9 && (a == 0 && (b == 0 && (c == 0 && d == 0)))) = e3) (h6 : (rf == 6) = false) (h0 : (rf == 0) = false)
    (hz : ∀ sa n sc w w', Z sa n sc w → Upd [] w w' → Z sa n sc w')
    (hd : ∀ w, Upd [] W w → Calls Try.prog 10 #[.slice sa sn sc, .agg #[.int .i64 k, .int .i64 ob, .int .u32 c0, .int .u32 c1, .int .u32 c2, .int .u32 c3, .int .u32 cn]] w fun e w' => Upd [] w w' ∧ ∃ sa sn sc, e = .returned (.tuple #[.slice sa sn sc, .agg #[.int .i64 rf, .int .u32 r0, .int .u32 r1, .int .u32 r2, .int .u32 r3]]) ∧ Z sa sn sc w') :
    Calls Try.prog 12 #[.slice sa sn sc, .agg #[.int .i64 k, .int .i64 ob, .int .u32 c0, .int .u32 c1, .int .u32 c2, .int .u32 c3, .int .u32 cn], .agg #[.int .i64 f, .int .u32 a, .int .u32 b, .int .u32 c, .int .u32 d]] W fun e w' => Upd [] W w' ∧ e = .returned (.tuple #[.slice sa sn sc, .bool false]) := by
  have HD := Lib.hid (hd _ ((Upd.refl [] W).alloc (.cells #[.int .i64 k, .int .i64 ob, .int .u32 c0, .int .u32 c1, .int .u32 c2, .int .u32 c3, .int .u32 cn] 28) |>.alloc (.cells #[.int .i64 f, .int .u32 a, .int .u32 b, .int .u32 c, .int .u32 d] 31)))
  have HZ := Lib.hid hz
  have q1 := fun w => (eq_result w f a b c d rf r0 r1 r2 r3)
  have q2 := fun w => (eq_result w f a b c d 8 0 0 0 0)
  have q3 := fun w => (eq_result w f a b c d 9 0 0 0 0)
  rw [he1] at q1
  rw [he2] at q2
  rw [he3] at q3
  clear hd hz he1 he2 he3
  go_enter Try.func12, Try.ntmps12
  go_wp2_with (go_at_call 10; (with_reducible refine (HD.out).mono ?_); rintro e w3 ⟨hu3, za, zn, zc, rfl, hz3⟩; obtain ⟨p3, rfl⟩ := hu3.grown; have HZ3 := Lib.hid hz3; clear hz3 hu3)
  all_goals (go_region)
  all_goals go_wp2
  all_goals
    go_ret2
    refine ⟨(by (repeat (first | (with_reducible exact Upd.refl _ _) | (with_reducible apply Upd.drew) | (with_reducible refine Upd.grE ?_ _) | (with_reducible refine Upd.alloc ?_ _)))), ?_⟩
    first | rfl | simp
set_option maxRecDepth 100000 in
set_option maxHeartbeats 4000000 in
theorem allows_Bt {e3 : Bool} (he1 : (f == rf && (a == r0 && (b == r1 && (c == r2 && d == r3)))) = false) (he2 : (f == 8 && (a == 0 && (b == 0 && (c == 0 && d == 0)))) = true) (he3 : (f == 9 && (a == 0 && (b == 0 && (c == 0 && d == 0)))) = e3) (h6 : (rf == 6) = false) (h0 : (rf == 0) = true) (h5 : (k == 5) = true)
    (hz : ∀ sa n sc w w', Z sa n sc w → Upd [] w w' → Z sa n sc w')
    (hd : ∀ w, Upd [] W w → Calls Try.prog 10 #[.slice sa sn sc, .agg #[.int .i64 k, .int .i64 ob, .int .u32 c0, .int .u32 c1, .int .u32 c2, .int .u32 c3, .int .u32 cn]] w fun e w' => Upd [] w w' ∧ ∃ sa sn sc, e = .returned (.tuple #[.slice sa sn sc, .agg #[.int .i64 rf, .int .u32 r0, .int .u32 r1, .int .u32 r2, .int .u32 r3]]) ∧ Z sa sn sc w') :
    Calls Try.prog 12 #[.slice sa sn sc, .agg #[.int .i64 k, .int .i64 ob, .int .u32 c0, .int .u32 c1, .int .u32 c2, .int .u32 c3, .int .u32 cn], .agg #[.int .i64 f, .int .u32 a, .int .u32 b, .int .u32 c, .int .u32 d]] W fun e w' => Upd [] W w' ∧ e = .returned (.tuple #[.slice sa sn sc, .bool true]) := by
  have HD := Lib.hid (hd _ ((Upd.refl [] W).alloc (.cells #[.int .i64 k, .int .i64 ob, .int .u32 c0, .int .u32 c1, .int .u32 c2, .int .u32 c3, .int .u32 cn] 28) |>.alloc (.cells #[.int .i64 f, .int .u32 a, .int .u32 b, .int .u32 c, .int .u32 d] 31)))
  have HZ := Lib.hid hz
  have q1 := fun w => (eq_result w f a b c d rf r0 r1 r2 r3)
  have q2 := fun w => (eq_result w f a b c d 8 0 0 0 0)
  have q3 := fun w => (eq_result w f a b c d 9 0 0 0 0)
  rw [he1] at q1
  rw [he2] at q2
  rw [he3] at q3
  clear hd hz he1 he2 he3
  go_enter Try.func12, Try.ntmps12
  go_wp2_with (go_at_call 10; (with_reducible refine (HD.out).mono ?_); rintro e w3 ⟨hu3, za, zn, zc, rfl, hz3⟩; obtain ⟨p3, rfl⟩ := hu3.grown; have HZ3 := Lib.hid hz3; clear hz3 hu3)
  all_goals (go_region)
  all_goals go_wp2
  all_goals
    go_ret2
    refine ⟨(by (repeat (first | (with_reducible exact Upd.refl _ _) | (with_reducible apply Upd.drew) | (with_reducible refine Upd.grE ?_ _) | (with_reducible refine Upd.alloc ?_ _)))), ?_⟩
    first | rfl | simp
set_option maxRecDepth 100000 in
set_option maxHeartbeats 4000000 in
theorem allows_Bf {e3 : Bool} (he1 : (f == rf && (a == r0 && (b == r1 && (c == r2 && d == r3)))) = false) (he2 : (f == 8 && (a == 0 && (b == 0 && (c == 0 && d == 0)))) = true) (he3 : (f == 9 && (a == 0 && (b == 0 && (c == 0 && d == 0)))) = e3) (h6 : (rf == 6) = false) (h0 : (rf == 0) = true) (h5 : (k == 5) = false)
    (hz : ∀ sa n sc w w', Z sa n sc w → Upd [] w w' → Z sa n sc w')
    (hd : ∀ w, Upd [] W w → Calls Try.prog 10 #[.slice sa sn sc, .agg #[.int .i64 k, .int .i64 ob, .int .u32 c0, .int .u32 c1, .int .u32 c2, .int .u32 c3, .int .u32 cn]] w fun e w' => Upd [] w w' ∧ ∃ sa sn sc, e = .returned (.tuple #[.slice sa sn sc, .agg #[.int .i64 rf, .int .u32 r0, .int .u32 r1, .int .u32 r2, .int .u32 r3]]) ∧ Z sa sn sc w') :
    Calls Try.prog 12 #[.slice sa sn sc, .agg #[.int .i64 k, .int .i64 ob, .int .u32 c0, .int .u32 c1, .int .u32 c2, .int .u32 c3, .int .u32 cn], .agg #[.int .i64 f, .int .u32 a, .int .u32 b, .int .u32 c, .int .u32 d]] W fun e w' => Upd [] W w' ∧ e = .returned (.tuple #[.slice sa sn sc, .bool (k == 6)]) := by
  have HD := Lib.hid (hd _ ((Upd.refl [] W).alloc (.cells #[.int .i64 k, .int .i64 ob, .int .u32 c0, .int .u32 c1, .int .u32 c2, .int .u32 c3, .int .u32 cn] 28) |>.alloc (.cells #[.int .i64 f, .int .u32 a, .int .u32 b, .int .u32 c, .int .u32 d] 31)))
  have HZ := Lib.hid hz
  have q1 := fun w => (eq_result w f a b c d rf r0 r1 r2 r3)
  have q2 := fun w => (eq_result w f a b c d 8 0 0 0 0)
  have q3 := fun w => (eq_result w f a b c d 9 0 0 0 0)
  rw [he1] at q1
  rw [he2] at q2
  rw [he3] at q3
  clear hd hz he1 he2 he3
  go_enter Try.func12, Try.ntmps12
  go_wp2_with (go_at_call 10; (with_reducible refine (HD.out).mono ?_); rintro e w3 ⟨hu3, za, zn, zc, rfl, hz3⟩; obtain ⟨p3, rfl⟩ := hu3.grown; have HZ3 := Lib.hid hz3; clear hz3 hu3)
  all_goals (go_region)
  all_goals go_wp2
  all_goals
    go_ret2
    refine ⟨(by (repeat (first | (with_reducible exact Upd.refl _ _) | (with_reducible apply Upd.drew) | (with_reducible refine Upd.grE ?_ _) | (with_reducible refine Upd.alloc ?_ _)))), ?_⟩
    first | rfl | simp
set_option maxRecDepth 100000 in
set_option maxHeartbeats 4000000 in
theorem allows_C6t (he1 : (f == rf && (a == r0 && (b == r1 && (c == r2 && d == r3)))) = false) (he2 : (f == 8 && (a == 0 && (b == 0 && (c == 0 && d == 0)))) = false) (he3 : (f == 9 && (a == 0 && (b == 0 && (c == 0 && d == 0)))) = true) (h6 : (rf == 6) = true) (hl : decide (14 ≤ k) = true)
    (hz : ∀ sa n sc w w', Z sa n sc w → Upd [] w w' → Z sa n sc w')
    (hd : ∀ w, Upd [] W w → Calls Try.prog 10 #[.slice sa sn sc, .agg #[.int .i64 k, .int .i64 ob, .int .u32 c0, .int .u32 c1, .int .u32 c2, .int .u32 c3, .int .u32 cn]] w fun e w' => Upd [] w w' ∧ ∃ sa sn sc, e = .returned (.tuple #[.slice sa sn sc, .agg #[.int .i64 rf, .int .u32 r0, .int .u32 r1, .int .u32 r2, .int .u32 r3]]) ∧ Z sa sn sc w') :
    Calls Try.prog 12 #[.slice sa sn sc, .agg #[.int .i64 k, .int .i64 ob, .int .u32 c0, .int .u32 c1, .int .u32 c2, .int .u32 c3, .int .u32 cn], .agg #[.int .i64 f, .int .u32 a, .int .u32 b, .int .u32 c, .int .u32 d]] W fun e w' => Upd [] W w' ∧ e = .returned (.tuple #[.slice sa sn sc, .bool (decide (k ≤ 17))]) := by
  have HD := Lib.hid (hd _ ((Upd.refl [] W).alloc (.cells #[.int .i64 k, .int .i64 ob, .int .u32 c0, .int .u32 c1, .int .u32 c2, .int .u32 c3, .int .u32 cn] 28) |>.alloc (.cells #[.int .i64 f, .int .u32 a, .int .u32 b, .int .u32 c, .int .u32 d] 31)))
  have HZ := Lib.hid hz
  have q1 := fun w => (eq_result w f a b c d rf r0 r1 r2 r3)
  have q2 := fun w => (eq_result w f a b c d 8 0 0 0 0)
  have q3 := fun w => (eq_result w f a b c d 9 0 0 0 0)
  rw [he1] at q1
  rw [he2] at q2
  rw [he3] at q3
  clear hd hz he1 he2 he3
  go_enter Try.func12, Try.ntmps12
  go_wp2_with (go_at_call 10; (with_reducible refine (HD.out).mono ?_); rintro e w3 ⟨hu3, za, zn, zc, rfl, hz3⟩; obtain ⟨p3, rfl⟩ := hu3.grown; have HZ3 := Lib.hid hz3; clear hz3 hu3)
  all_goals (go_region)
  all_goals go_wp2
  all_goals
    go_ret2
    refine ⟨(by (repeat (first | (with_reducible exact Upd.refl _ _) | (with_reducible apply Upd.drew) | (with_reducible refine Upd.grE ?_ _) | (with_reducible refine Upd.alloc ?_ _)))), ?_⟩
    first | rfl | simp
set_option maxRecDepth 100000 in
set_option maxHeartbeats 4000000 in
theorem allows_C6f (he1 : (f == rf && (a == r0 && (b == r1 && (c == r2 && d == r3)))) = false) (he2 : (f == 8 && (a == 0 && (b == 0 && (c == 0 && d == 0)))) = false) (he3 : (f == 9 && (a == 0 && (b == 0 && (c == 0 && d == 0)))) = true) (h6 : (rf == 6) = true) (hl : decide (14 ≤ k) = false)
    (hz : ∀ sa n sc w w', Z sa n sc w → Upd [] w w' → Z sa n sc w')
    (hd : ∀ w, Upd [] W w → Calls Try.prog 10 #[.slice sa sn sc, .agg #[.int .i64 k, .int .i64 ob, .int .u32 c0, .int .u32 c1, .int .u32 c2, .int .u32 c3, .int .u32 cn]] w fun e w' => Upd [] w w' ∧ ∃ sa sn sc, e = .returned (.tuple #[.slice sa sn sc, .agg #[.int .i64 rf, .int .u32 r0, .int .u32 r1, .int .u32 r2, .int .u32 r3]]) ∧ Z sa sn sc w') :
    Calls Try.prog 12 #[.slice sa sn sc, .agg #[.int .i64 k, .int .i64 ob, .int .u32 c0, .int .u32 c1, .int .u32 c2, .int .u32 c3, .int .u32 cn], .agg #[.int .i64 f, .int .u32 a, .int .u32 b, .int .u32 c, .int .u32 d]] W fun e w' => Upd [] W w' ∧ e = .returned (.tuple #[.slice sa sn sc, .bool false]) := by
  have HD := Lib.hid (hd _ ((Upd.refl [] W).alloc (.cells #[.int .i64 k, .int .i64 ob, .int .u32 c0, .int .u32 c1, .int .u32 c2, .int .u32 c3, .int .u32 cn] 28) |>.alloc (.cells #[.int .i64 f, .int .u32 a, .int .u32 b, .int .u32 c, .int .u32 d] 31)))
  have HZ := Lib.hid hz
  have q1 := fun w => (eq_result w f a b c d rf r0 r1 r2 r3)
  have q2 := fun w => (eq_result w f a b c d 8 0 0 0 0)
  have q3 := fun w => (eq_result w f a b c d 9 0 0 0 0)
  rw [he1] at q1
  rw [he2] at q2
  rw [he3] at q3
  clear hd hz he1 he2 he3
  go_enter Try.func12, Try.ntmps12
  go_wp2_with (go_at_call 10; (with_reducible refine (HD.out).mono ?_); rintro e w3 ⟨hu3, za, zn, zc, rfl, hz3⟩; obtain ⟨p3, rfl⟩ := hu3.grown; have HZ3 := Lib.hid hz3; clear hz3 hu3)
  all_goals (go_region)
  all_goals go_wp2
  all_goals
    go_ret2
    refine ⟨(by (repeat (first | (with_reducible exact Upd.refl _ _) | (with_reducible apply Upd.drew) | (with_reducible refine Upd.grE ?_ _) | (with_reducible refine Upd.alloc ?_ _)))), ?_⟩
    first | rfl | simp
set_option maxRecDepth 100000 in
set_option maxHeartbeats 4000000 in
theorem allows_C0 (he1 : (f == rf && (a == r0 && (b == r1 && (c == r2 && d == r3)))) = false) (he2 : (f == 8 && (a == 0 && (b == 0 && (c == 0 && d == 0)))) = false) (he3 : (f == 9 && (a == 0 && (b == 0 && (c == 0 && d == 0)))) = true) (h6 : (rf == 6) = false) (h7 : (rf == 7) = false)
    (hz : ∀ sa n sc w w', Z sa n sc w → Upd [] w w' → Z sa n sc w')
    (hd : ∀ w, Upd [] W w → Calls Try.prog 10 #[.slice sa sn sc, .agg #[.int .i64 k, .int .i64 ob, .int .u32 c0, .int .u32 c1, .int .u32 c2, .int .u32 c3, .int .u32 cn]] w fun e w' => Upd [] w w' ∧ ∃ sa sn sc, e = .returned (.tuple #[.slice sa sn sc, .agg #[.int .i64 rf, .int .u32 r0, .int .u32 r1, .int .u32 r2, .int .u32 r3]]) ∧ Z sa sn sc w') :
    Calls Try.prog 12 #[.slice sa sn sc, .agg #[.int .i64 k, .int .i64 ob, .int .u32 c0, .int .u32 c1, .int .u32 c2, .int .u32 c3, .int .u32 cn], .agg #[.int .i64 f, .int .u32 a, .int .u32 b, .int .u32 c, .int .u32 d]] W fun e w' => Upd [] W w' ∧ e = .returned (.tuple #[.slice sa sn sc, .bool false]) := by
  have HD := Lib.hid (hd _ ((Upd.refl [] W).alloc (.cells #[.int .i64 k, .int .i64 ob, .int .u32 c0, .int .u32 c1, .int .u32 c2, .int .u32 c3, .int .u32 cn] 28) |>.alloc (.cells #[.int .i64 f, .int .u32 a, .int .u32 b, .int .u32 c, .int .u32 d] 31)))
  have HZ := Lib.hid hz
  have q1 := fun w => (eq_result w f a b c d rf r0 r1 r2 r3)
  have q2 := fun w => (eq_result w f a b c d 8 0 0 0 0)
  have q3 := fun w => (eq_result w f a b c d 9 0 0 0 0)
  rw [he1] at q1
  rw [he2] at q2
  rw [he3] at q3
  clear hd hz he1 he2 he3
  go_enter Try.func12, Try.ntmps12
  go_wp2_with (go_at_call 10; (with_reducible refine (HD.out).mono ?_); rintro e w3 ⟨hu3, za, zn, zc, rfl, hz3⟩; obtain ⟨p3, rfl⟩ := hu3.grown; have HZ3 := Lib.hid hz3; clear hz3 hu3)
  all_goals (go_region)
  all_goals go_wp2
  all_goals
    go_ret2
    refine ⟨(by (repeat (first | (with_reducible exact Upd.refl _ _) | (with_reducible apply Upd.drew) | (with_reducible refine Upd.grE ?_ _) | (with_reducible refine Upd.alloc ?_ _)))), ?_⟩
    first | rfl | simp
set_option maxRecDepth 100000 in
set_option maxHeartbeats 4000000 in
theorem allows_C7t (he1 : (f == rf && (a == r0 && (b == r1 && (c == r2 && d == r3)))) = false) (he2 : (f == 8 && (a == 0 && (b == 0 && (c == 0 && d == 0)))) = false) (he3 : (f == 9 && (a == 0 && (b == 0 && (c == 0 && d == 0)))) = true) (h6 : (rf == 6) = false) (h7 : (rf == 7) = true) (hl : decide (14 ≤ k) = true)
    (hz : ∀ sa n sc w w', Z sa n sc w → Upd [] w w' → Z sa n sc w')
    (hd : ∀ w, Upd [] W w → Calls Try.prog 10 #[.slice sa sn sc, .agg #[.int .i64 k, .int .i64 ob, .int .u32 c0, .int .u32 c1, .int .u32 c2, .int .u32 c3, .int .u32 cn]] w fun e w' => Upd [] w w' ∧ ∃ sa sn sc, e = .returned (.tuple #[.slice sa sn sc, .agg #[.int .i64 rf, .int .u32 r0, .int .u32 r1, .int .u32 r2, .int .u32 r3]]) ∧ Z sa sn sc w') :
    Calls Try.prog 12 #[.slice sa sn sc, .agg #[.int .i64 k, .int .i64 ob, .int .u32 c0, .int .u32 c1, .int .u32 c2, .int .u32 c3, .int .u32 cn], .agg #[.int .i64 f, .int .u32 a, .int .u32 b, .int .u32 c, .int .u32 d]] W fun e w' => Upd [] W w' ∧ e = .returned (.tuple #[.slice sa sn sc, .bool (decide (k ≤ 17))]) := by
  have HD := Lib.hid (hd _ ((Upd.refl [] W).alloc (.cells #[.int .i64 k, .int .i64 ob, .int .u32 c0, .int .u32 c1, .int .u32 c2, .int .u32 c3, .int .u32 cn] 28) |>.alloc (.cells #[.int .i64 f, .int .u32 a, .int .u32 b, .int .u32 c, .int .u32 d] 31)))
  have HZ := Lib.hid hz
  have q1 := fun w => (eq_result w f a b c d rf r0 r1 r2 r3)
  have q2 := fun w => (eq_result w f a b c d 8 0 0 0 0)
  have q3 := fun w => (eq_result w f a b c d 9 0 0 0 0)
  rw [he1] at q1
  rw [he2] at q2
  rw [he3] at q3
  clear hd hz he1 he2 he3
  go_enter Try.func12, Try.ntmps12
  go_wp2_with (go_at_call 10; (with_reducible refine (HD.out).mono ?_); rintro e w3 ⟨hu3, za, zn, zc, rfl, hz3⟩; obtain ⟨p3, rfl⟩ := hu3.grown; have HZ3 := Lib.hid hz3; clear hz3 hu3)
  all_goals (go_region)
  all_goals go_wp2
  all_goals
    go_ret2
    refine ⟨(by (repeat (first | (with_reducible exact Upd.refl _ _) | (with_reducible apply Upd.drew) | (with_reducible refine Upd.grE ?_ _) | (with_reducible refine Upd.alloc ?_ _)))), ?_⟩
    first | rfl | simp
set_option maxRecDepth 100000 in
set_option maxHeartbeats 4000000 in
theorem allows_C7f (he1 : (f == rf && (a == r0 && (b == r1 && (c == r2 && d == r3)))) = false) (he2 : (f == 8 && (a == 0 && (b == 0 && (c == 0 && d == 0)))) = false) (he3 : (f == 9 && (a == 0 && (b == 0 && (c == 0 && d == 0)))) = true) (h6 : (rf == 6) = false) (h7 : (rf == 7) = true) (hl : decide (14 ≤ k) = false)
    (hz : ∀ sa n sc w w', Z sa n sc w → Upd [] w w' → Z sa n sc w')
    (hd : ∀ w, Upd [] W w → Calls Try.prog 10 #[.slice sa sn sc, .agg #[.int .i64 k, .int .i64 ob, .int .u32 c0, .int .u32 c1, .int .u32 c2, .int .u32 c3, .int .u32 cn]] w fun e w' => Upd [] w w' ∧ ∃ sa sn sc, e = .returned (.tuple #[.slice sa sn sc, .agg #[.int .i64 rf, .int .u32 r0, .int .u32 r1, .int .u32 r2, .int .u32 r3]]) ∧ Z sa sn sc w') :
    Calls Try.prog 12 #[.slice sa sn sc, .agg #[.int .i64 k, .int .i64 ob, .int .u32 c0, .int .u32 c1, .int .u32 c2, .int .u32 c3, .int .u32 cn], .agg #[.int .i64 f, .int .u32 a, .int .u32 b, .int .u32 c, .int .u32 d]] W fun e w' => Upd [] W w' ∧ e = .returned (.tuple #[.slice sa sn sc, .bool false]) := by
  have HD := Lib.hid (hd _ ((Upd.refl [] W).alloc (.cells #[.int .i64 k, .int .i64 ob, .int .u32 c0, .int .u32 c1, .int .u32 c2, .int .u32 c3, .int .u32 cn] 28) |>.alloc (.cells #[.int .i64 f, .int .u32 a, .int .u32 b, .int .u32 c, .int .u32 d] 31)))
  have HZ := Lib.hid hz
  have q1 := fun w => (eq_result w f a b c d rf r0 r1 r2 r3)
  have q2 := fun w => (eq_result w f a b c d 8 0 0 0 0)
  have q3 := fun w => (eq_result w f a b c d 9 0 0 0 0)
  rw [he1] at q1
  rw [he2] at q2
  rw [he3] at q3
  clear hd hz he1 he2 he3
  go_enter Try.func12, Try.ntmps12
  go_wp2_with (go_at_call 10; (with_reducible refine (HD.out).mono ?_); rintro e w3 ⟨hu3, za, zn, zc, rfl, hz3⟩; obtain ⟨p3, rfl⟩ := hu3.grown; have HZ3 := Lib.hid hz3; clear hz3 hu3)
  all_goals (go_region)
  all_goals go_wp2
  all_goals
    go_ret2
    refine ⟨(by (repeat (first | (with_reducible exact Upd.refl _ _) | (with_reducible apply Upd.drew) | (with_reducible refine Upd.grE ?_ _) | (with_reducible refine Upd.alloc ?_ _)))), ?_⟩
    first | rfl | simp
end
end Go.Proofs.Ytdbgnnkbcebpcaa
