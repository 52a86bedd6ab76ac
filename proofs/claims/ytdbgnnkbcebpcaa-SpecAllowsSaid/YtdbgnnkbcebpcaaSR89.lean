/- Merged: SR8 SR9 (merge.py). -/
import Derived.Test.YtdbgnnkbcebpcaaSR4
import Derived.Test.YtdbgnnkbcebpcaaSP13
set_option linter.unusedVariables false
set_option linter.unusedSimpArgs false
namespace Go.Proofs.Ytdbgnnkbcebpcaa
open Go.RowKit
section
variable (sa : Option Addr) (sn sc : Nat) (ck co c0 c1 c2 c3 cn : Int) (w : World)
set_option maxRecDepth 100000 in
set_option maxHeartbeats 4000000 in
theorem rdo_bad (h : ¬ plainOk (plainP ck)) : Calls Try.prog 11 #[.slice sa sn sc, .agg (caV ck co c0 c1 c2 c3 cn)] w fun e w' => e = .returned (.tuple #[.slice sa sn sc, .agg (resA 1 0 0 0 0)]) ∧ Upd [] w w' := by
  have HP := Lib.hid fun w => rplain_c w ck
  unfold plainOk at h
  unfold caV resA
  generalize plainP ck = kk at HP h
  have q3 : (kk == 16) = false := by simp; omega
  have q4 : (kk == 17) = false := by simp; omega
  by_cases h1 : 1 ≤ kk
  · have q1 : decide (1 ≤ kk) = true := by simpa using h1
    have q2 : decide (kk ≤ 9) = false := by simp; omega
    clear h h1
    go_enter Try.func11, Try.ntmps11
    go_wp2_with (go_at_call 49; (with_reducible refine (HP.out _).mono ?_); rintro e w2 ⟨rfl, rfl⟩)
    (
        refine bodyPost_ret (results_tmp_cell rfl _ _ _ 31 #[.int .i64 1, .int .u32 0, .int .u32 0, .int .u32 0, .int .u32 0] (0, 0) _ _ rfl rfl ?hg Try.underlying31 rfl (info_res _ _ _ _ _)) rfl ⟨rfl, ?hu⟩
        case hg => (repeat (first | ((with_reducible refine heap_alloc_at _ ?_); (simp; done)) | (with_reducible apply heap_drewS) | (with_reducible apply heap_alloc')))
        case hu => exact ((Upd.refl _ _).alloc _).alloc _)
  · have q1 : decide (1 ≤ kk) = false := by simpa using h1
    clear h h1
    go_enter Try.func11, Try.ntmps11
    go_wp2_with (go_at_call 49; (with_reducible refine (HP.out _).mono ?_); rintro e w2 ⟨rfl, rfl⟩)
    (
        refine bodyPost_ret (results_tmp_cell rfl _ _ _ 31 #[.int .i64 1, .int .u32 0, .int .u32 0, .int .u32 0, .int .u32 0] (0, 0) _ _ rfl rfl ?hg Try.underlying31 rfl (info_res _ _ _ _ _)) rfl ⟨rfl, ?hu⟩
        case hg => (repeat (first | ((with_reducible refine heap_alloc_at _ ?_); (simp; done)) | (with_reducible apply heap_drewS) | (with_reducible apply heap_alloc')))
        case hu => exact ((Upd.refl _ _).alloc _).alloc _)
set_option maxRecDepth 100000 in
set_option maxHeartbeats 4000000 in
theorem rdo_missing (h1 : plainOk (plainP ck)) (h2 : co < 0 ∨ (sn : Int) ≤ co) : Calls Try.prog 11 #[.slice sa sn sc, .agg (caV ck co c0 c1 c2 c3 cn)] w fun e w' => e = .returned (.tuple #[.slice sa sn sc, .agg (resA 4 0 0 0 0)]) ∧ Upd [] w w' := by
  have HP := Lib.hid fun w => rplain_c w ck
  unfold caV resA plainOk at *
  generalize plainP ck = kk at *
  rcases h1 with ⟨h1, h1'⟩ | rfl | rfl
  · have q1 : decide (1 ≤ kk) = true := by simp; omega
    have q2 : decide (kk ≤ 9) = true := by simp; omega
    clear h1 h1'
    rcases h2 with h2 | h2
    · have q5 : decide (co < 0) = true := by simpa using h2
      clear h2
      go_enter Try.func11, Try.ntmps11
      go_wp2_with (go_at_call 49; (with_reducible refine (HP.out _).mono ?_); rintro e w2 ⟨rfl, rfl⟩)
      (
          refine bodyPost_ret (results_tmp_cell rfl _ _ _ 31 #[.int .i64 4, .int .u32 0, .int .u32 0, .int .u32 0, .int .u32 0] (0, 0) _ _ rfl rfl ?hg Try.underlying31 rfl (info_res _ _ _ _ _)) rfl ⟨rfl, ?hu⟩
          case hg => (repeat (first | ((with_reducible refine heap_alloc_at _ ?_); (simp; done)) | (with_reducible apply heap_drewS) | (with_reducible apply heap_alloc')))
          case hu => exact ((Upd.refl _ _).alloc _).alloc _)
    · have q5 : decide (co < 0) = false := by simp; omega
      have q6 : decide ((sn : Int) ≤ co) = true := by simpa using h2
      clear h2
      go_enter Try.func11, Try.ntmps11
      go_wp2_with (go_at_call 49; (with_reducible refine (HP.out _).mono ?_); rintro e w2 ⟨rfl, rfl⟩)
      (
          refine bodyPost_ret (results_tmp_cell rfl _ _ _ 31 #[.int .i64 4, .int .u32 0, .int .u32 0, .int .u32 0, .int .u32 0] (0, 0) _ _ rfl rfl ?hg Try.underlying31 rfl (info_res _ _ _ _ _)) rfl ⟨rfl, ?hu⟩
          case hg => (repeat (first | ((with_reducible refine heap_alloc_at _ ?_); (simp; done)) | (with_reducible apply heap_drewS) | (with_reducible apply heap_alloc')))
          case hu => exact ((Upd.refl _ _).alloc _).alloc _)
  all_goals
    rcases h2 with h2 | h2
    · have q5 : decide (co < 0) = true := by simpa using h2
      clear h2
      go_enter Try.func11, Try.ntmps11
      go_wp2_with (go_at_call 49; (with_reducible refine (HP.out _).mono ?_); rintro e w2 ⟨rfl, rfl⟩)
      (
          refine bodyPost_ret (results_tmp_cell rfl _ _ _ 31 #[.int .i64 4, .int .u32 0, .int .u32 0, .int .u32 0, .int .u32 0] (0, 0) _ _ rfl rfl ?hg Try.underlying31 rfl (info_res _ _ _ _ _)) rfl ⟨rfl, ?hu⟩
          case hg => (repeat (first | ((with_reducible refine heap_alloc_at _ ?_); (simp; done)) | (with_reducible apply heap_drewS) | (with_reducible apply heap_alloc')))
          case hu => exact ((Upd.refl _ _).alloc _).alloc _)
    · have q5 : decide (co < 0) = false := by simp; omega
      have q6 : decide ((sn : Int) ≤ co) = true := by simpa using h2
      clear h2
      go_enter Try.func11, Try.ntmps11
      go_wp2_with (go_at_call 49; (with_reducible refine (HP.out _).mono ?_); rintro e w2 ⟨rfl, rfl⟩)
      (
          refine bodyPost_ret (results_tmp_cell rfl _ _ _ 31 #[.int .i64 4, .int .u32 0, .int .u32 0, .int .u32 0, .int .u32 0] (0, 0) _ _ rfl rfl ?hg Try.underlying31 rfl (info_res _ _ _ _ _)) rfl ⟨rfl, ?hu⟩
          case hg => (repeat (first | ((with_reducible refine heap_alloc_at _ ?_); (simp; done)) | (with_reducible apply heap_drewS) | (with_reducible apply heap_alloc')))
          case hu => exact ((Upd.refl _ _).alloc _).alloc _)
end
end Go.Proofs.Ytdbgnnkbcebpcaa
namespace Go.Proofs.Ytdbgnnkbcebpcaa
open Go.RowKit
section
variable (sa : Option Addr) (sn sc : Nat) (k ob c0 c1 c2 c3 cn f a b c d rf r0 r1 r2 r3 : Int) (W : World) (Z : Option Addr → Nat → Nat → World → Prop)
set_option maxRecDepth 100000 in
set_option maxHeartbeats 4000000 in
theorem rallows_A {e2 e3 : Bool} (he1 : (rf == f && (r0 == a && (r1 == b && (r2 == c && r3 == d)))) = true) (he2 : (f == 8 && (a == 0 && (b == 0 && (c == 0 && d == 0)))) = e2) (he3 : (f == 9 && (a == 0 && (b == 0 && (c == 0 && d == 0)))) = e3) 
    (hz : ∀ sa n sc w w', Z sa n sc w → Upd [] w w' → Z sa n sc w')
    (hd : ∀ w, Upd [] W w → Calls Try.prog 11 #[.slice sa sn sc, .agg #[.int .i64 k, .int .i64 ob, .int .u32 c0, .int .u32 c1, .int .u32 c2, .int .u32 c3, .int .u32 cn]] w fun e w' => Upd [] w w' ∧ ∃ sa sn sc, e = .returned (.tuple #[.slice sa sn sc, .agg #[.int .i64 rf, .int .u32 r0, .int .u32 r1, .int .u32 r2, .int .u32 r3]]) ∧ Z sa sn sc w') :
    Calls Try.prog 13 #[.slice sa sn sc, .agg #[.int .i64 k, .int .i64 ob, .int .u32 c0, .int .u32 c1, .int .u32 c2, .int .u32 c3, .int .u32 cn], .agg #[.int .i64 f, .int .u32 a, .int .u32 b, .int .u32 c, .int .u32 d]] W fun e w' => Upd [] W w' ∧ ∃ za zn zc, e = .returned (.tuple #[.slice za zn zc, .bool true]) ∧ Z za zn zc w' := by
  have HD := Lib.hid (hd _ ((Upd.refl [] W).alloc (.cells #[.int .i64 k, .int .i64 ob, .int .u32 c0, .int .u32 c1, .int .u32 c2, .int .u32 c3, .int .u32 cn] 28) |>.alloc (.cells #[.int .i64 f, .int .u32 a, .int .u32 b, .int .u32 c, .int .u32 d] 31)))
  have HZ := Lib.hid hz
  have q1 := fun w => (eq_result w rf r0 r1 r2 r3 f a b c d)
  have q2 := fun w => (eq_result w f a b c d 8 0 0 0 0)
  have q3 := fun w => (eq_result w f a b c d 9 0 0 0 0)
  rw [he1] at q1
  rw [he2] at q2
  rw [he3] at q3
  clear hd hz he1 he2 he3
  go_enter Try.func13, Try.ntmps13
  go_wp2_with (go_at_call 11; (with_reducible refine (HD.out).mono ?_); rintro e w3 ⟨hu3, za, zn, zc, rfl, hz3⟩; obtain ⟨p3, rfl⟩ := hu3.grown; have HZ3 := Lib.hid hz3; clear hz3 hu3)
  go_ret2
  refine ⟨(by (repeat (first | (with_reducible exact Upd.refl _ _) | (with_reducible apply Upd.drew) | (with_reducible refine Upd.grE ?_ _) | (with_reducible refine Upd.alloc ?_ _)))), _, _, _, rfl, HZ.out _ _ _ _ _ HZ3.out ?_⟩
  (repeat (first | (with_reducible exact Upd.refl _ _) | (with_reducible apply Upd.drew) | (with_reducible refine Upd.grE ?_ _) | (with_reducible refine Upd.alloc ?_ _)))
set_option maxRecDepth 100000 in
set_option maxHeartbeats 4000000 in
theorem rallows_D (he1 : (rf == f && (r0 == a && (r1 == b && (r2 == c && r3 == d)))) = false) (he2 : (f == 8 && (a == 0 && (b == 0 && (c == 0 && d == 0)))) = false) (he3 : (f == 9 && (a == 0 && (b == 0 && (c == 0 && d == 0)))) = false) 
    (hz : ∀ sa n sc w w', Z sa n sc w → Upd [] w w' → Z sa n sc w')
    (hd : ∀ w, Upd [] W w → Calls Try.prog 11 #[.slice sa sn sc, .agg #[.int .i64 k, .int .i64 ob, .int .u32 c0, .int .u32 c1, .int .u32 c2, .int .u32 c3, .int .u32 cn]] w fun e w' => Upd [] w w' ∧ ∃ sa sn sc, e = .returned (.tuple #[.slice sa sn sc, .agg #[.int .i64 rf, .int .u32 r0, .int .u32 r1, .int .u32 r2, .int .u32 r3]]) ∧ Z sa sn sc w') :
    Calls Try.prog 13 #[.slice sa sn sc, .agg #[.int .i64 k, .int .i64 ob, .int .u32 c0, .int .u32 c1, .int .u32 c2, .int .u32 c3, .int .u32 cn], .agg #[.int .i64 f, .int .u32 a, .int .u32 b, .int .u32 c, .int .u32 d]] W fun e w' => Upd [] W w' ∧ e = .returned (.tuple #[.slice sa sn sc, .bool false]) := by
  have HD := Lib.hid (hd _ ((Upd.refl [] W).alloc (.cells #[.int .i64 k, .int .i64 ob, .int .u32 c0, .int .u32 c1, .int .u32 c2, .int .u32 c3, .int .u32 cn] 28) |>.alloc (.cells #[.int .i64 f, .int .u32 a, .int .u32 b, .int .u32 c, .int .u32 d] 31)))
  have HZ := Lib.hid hz
  have q1 := fun w => (eq_result w rf r0 r1 r2 r3 f a b c d)
  have q2 := fun w => (eq_result w f a b c d 8 0 0 0 0)
  have q3 := fun w => (eq_result w f a b c d 9 0 0 0 0)
  rw [he1] at q1
  rw [he2] at q2
  rw [he3] at q3
  clear hd hz he1 he2 he3
  go_enter Try.func13, Try.ntmps13
  go_wp2_with (go_at_call 11; (with_reducible refine (HD.out).mono ?_); rintro e w3 ⟨hu3, za, zn, zc, rfl, hz3⟩; obtain ⟨p3, rfl⟩ := hu3.grown; have HZ3 := Lib.hid hz3; clear hz3 hu3)
  go_ret2
  refine ⟨(by (repeat (first | (with_reducible exact Upd.refl _ _) | (with_reducible apply Upd.drew) | (with_reducible refine Upd.grE ?_ _) | (with_reducible refine Upd.alloc ?_ _)))), ?_⟩
  first | rfl | simp
set_option maxRecDepth 100000 in
set_option maxHeartbeats 4000000 in
theorem rallows_B5t (he1 : (rf == f && (r0 == a && (r1 == b && (r2 == c && r3 == d)))) = false) (he2 : (f == 8 && (a == 0 && (b == 0 && (c == 0 && d == 0)))) = true) (he3 : (f == 9 && (a == 0 && (b == 0 && (c == 0 && d == 0)))) = false) (h5 : (k == 5) = true) (h0 : (rf == 0) = true)
    (hz : ∀ sa n sc w w', Z sa n sc w → Upd [] w w' → Z sa n sc w')
    (hd : ∀ w, Upd [] W w → Calls Try.prog 11 #[.slice sa sn sc, .agg #[.int .i64 k, .int .i64 ob, .int .u32 c0, .int .u32 c1, .int .u32 c2, .int .u32 c3, .int .u32 cn]] w fun e w' => Upd [] w w' ∧ ∃ sa sn sc, e = .returned (.tuple #[.slice sa sn sc, .agg #[.int .i64 rf, .int .u32 r0, .int .u32 r1, .int .u32 r2, .int .u32 r3]]) ∧ Z sa sn sc w') :
    Calls Try.prog 13 #[.slice sa sn sc, .agg #[.int .i64 k, .int .i64 ob, .int .u32 c0, .int .u32 c1, .int .u32 c2, .int .u32 c3, .int .u32 cn], .agg #[.int .i64 f, .int .u32 a, .int .u32 b, .int .u32 c, .int .u32 d]] W fun e w' => Upd [] W w' ∧ e = .returned (.tuple #[.slice sa sn sc, .bool true]) := by
  have HD := Lib.hid (hd _ ((Upd.refl [] W).alloc (.cells #[.int .i64 k, .int .i64 ob, .int .u32 c0, .int .u32 c1, .int .u32 c2, .int .u32 c3, .int .u32 cn] 28) |>.alloc (.cells #[.int .i64 f, .int .u32 a, .int .u32 b, .int .u32 c, .int .u32 d] 31)))
  have HZ := Lib.hid hz
  have q1 := fun w => (eq_result w rf r0 r1 r2 r3 f a b c d)
  have q2 := fun w => (eq_result w f a b c d 8 0 0 0 0)
  have q3 := fun w => (eq_result w f a b c d 9 0 0 0 0)
  rw [he1] at q1
  rw [he2] at q2
  rw [he3] at q3
  clear hd hz he1 he2 he3
  go_enter Try.func13, Try.ntmps13
  go_wp2_with (go_at_call 11; (with_reducible refine (HD.out).mono ?_); rintro e w3 ⟨hu3, za, zn, zc, rfl, hz3⟩; obtain ⟨p3, rfl⟩ := hu3.grown; have HZ3 := Lib.hid hz3; clear hz3 hu3)
  go_ret2
  refine ⟨(by (repeat (first | (with_reducible exact Upd.refl _ _) | (with_reducible apply Upd.drew) | (with_reducible refine Upd.grE ?_ _) | (with_reducible refine Upd.alloc ?_ _)))), ?_⟩
  first | rfl | simp
set_option maxRecDepth 100000 in
set_option maxHeartbeats 4000000 in
theorem rallows_B5f (he1 : (rf == f && (r0 == a && (r1 == b && (r2 == c && r3 == d)))) = false) (he2 : (f == 8 && (a == 0 && (b == 0 && (c == 0 && d == 0)))) = true) (he3 : (f == 9 && (a == 0 && (b == 0 && (c == 0 && d == 0)))) = false) (h5 : (k == 5) = true) (h0 : (rf == 0) = false)
    (hz : ∀ sa n sc w w', Z sa n sc w → Upd [] w w' → Z sa n sc w')
    (hd : ∀ w, Upd [] W w → Calls Try.prog 11 #[.slice sa sn sc, .agg #[.int .i64 k, .int .i64 ob, .int .u32 c0, .int .u32 c1, .int .u32 c2, .int .u32 c3, .int .u32 cn]] w fun e w' => Upd [] w w' ∧ ∃ sa sn sc, e = .returned (.tuple #[.slice sa sn sc, .agg #[.int .i64 rf, .int .u32 r0, .int .u32 r1, .int .u32 r2, .int .u32 r3]]) ∧ Z sa sn sc w') :
    Calls Try.prog 13 #[.slice sa sn sc, .agg #[.int .i64 k, .int .i64 ob, .int .u32 c0, .int .u32 c1, .int .u32 c2, .int .u32 c3, .int .u32 cn], .agg #[.int .i64 f, .int .u32 a, .int .u32 b, .int .u32 c, .int .u32 d]] W fun e w' => Upd [] W w' ∧ e = .returned (.tuple #[.slice sa sn sc, .bool false]) := by
  have HD := Lib.hid (hd _ ((Upd.refl [] W).alloc (.cells #[.int .i64 k, .int .i64 ob, .int .u32 c0, .int .u32 c1, .int .u32 c2, .int .u32 c3, .int .u32 cn] 28) |>.alloc (.cells #[.int .i64 f, .int .u32 a, .int .u32 b, .int .u32 c, .int .u32 d] 31)))
  have HZ := Lib.hid hz
  have q1 := fun w => (eq_result w rf r0 r1 r2 r3 f a b c d)
  have q2 := fun w => (eq_result w f a b c d 8 0 0 0 0)
  have q3 := fun w => (eq_result w f a b c d 9 0 0 0 0)
  rw [he1] at q1
  rw [he2] at q2
  rw [he3] at q3
  clear hd hz he1 he2 he3
  go_enter Try.func13, Try.ntmps13
  go_wp2_with (go_at_call 11; (with_reducible refine (HD.out).mono ?_); rintro e w3 ⟨hu3, za, zn, zc, rfl, hz3⟩; obtain ⟨p3, rfl⟩ := hu3.grown; have HZ3 := Lib.hid hz3; clear hz3 hu3)
  go_ret2
  refine ⟨(by (repeat (first | (with_reducible exact Upd.refl _ _) | (with_reducible apply Upd.drew) | (with_reducible refine Upd.grE ?_ _) | (with_reducible refine Upd.alloc ?_ _)))), ?_⟩
  first | rfl | simp
set_option maxRecDepth 100000 in
set_option maxHeartbeats 4000000 in
theorem rallows_B6t (he1 : (rf == f && (r0 == a && (r1 == b && (r2 == c && r3 == d)))) = false) (he2 : (f == 8 && (a == 0 && (b == 0 && (c == 0 && d == 0)))) = true) (he3 : (f == 9 && (a == 0 && (b == 0 && (c == 0 && d == 0)))) = false) (h5 : (k == 5) = false) (hs : (k == 6) = true) (h0 : (rf == 0) = true)
    (hz : ∀ sa n sc w w', Z sa n sc w → Upd [] w w' → Z sa n sc w')
    (hd : ∀ w, Upd [] W w → Calls Try.prog 11 #[.slice sa sn sc, .agg #[.int .i64 k, .int .i64 ob, .int .u32 c0, .int .u32 c1, .int .u32 c2, .int .u32 c3, .int .u32 cn]] w fun e w' => Upd [] w w' ∧ ∃ sa sn sc, e = .returned (.tuple #[.slice sa sn sc, .agg #[.int .i64 rf, .int .u32 r0, .int .u32 r1, .int .u32 r2, .int .u32 r3]]) ∧ Z sa sn sc w') :
    Calls Try.prog 13 #[.slice sa sn sc, .agg #[.int .i64 k, .int .i64 ob, .int .u32 c0, .int .u32 c1, .int .u32 c2, .int .u32 c3, .int .u32 cn], .agg #[.int .i64 f, .int .u32 a, .int .u32 b, .int .u32 c, .int .u32 d]] W fun e w' => Upd [] W w' ∧ e = .returned (.tuple #[.slice sa sn sc, .bool true]) := by
  have HD := Lib.hid (hd _ ((Upd.refl [] W).alloc (.cells #[.int .i64 k, .int .i64 ob, .int .u32 c0, .int .u32 c1, .int .u32 c2, .int .u32 c3, .int .u32 cn] 28) |>.alloc (.cells #[.int .i64 f, .int .u32 a, .int .u32 b, .int .u32 c, .int .u32 d] 31)))
  have HZ := Lib.hid hz
  have q1 := fun w => (eq_result w rf r0 r1 r2 r3 f a b c d)
  have q2 := fun w => (eq_result w f a b c d 8 0 0 0 0)
  have q3 := fun w => (eq_result w f a b c d 9 0 0 0 0)
  rw [he1] at q1
  rw [he2] at q2
  rw [he3] at q3
  clear hd hz he1 he2 he3
  go_enter Try.func13, Try.ntmps13
  go_wp2_with (go_at_call 11; (with_reducible refine (HD.out).mono ?_); rintro e w3 ⟨hu3, za, zn, zc, rfl, hz3⟩; obtain ⟨p3, rfl⟩ := hu3.grown; have HZ3 := Lib.hid hz3; clear hz3 hu3)
  go_ret2
  refine ⟨(by (repeat (first | (with_reducible exact Upd.refl _ _) | (with_reducible apply Upd.drew) | (with_reducible refine Upd.grE ?_ _) | (with_reducible refine Upd.alloc ?_ _)))), ?_⟩
  first | rfl | simp
set_option maxRecDepth 100000 in
set_option maxHeartbeats 4000000 in
theorem rallows_B6f (he1 : (rf == f && (r0 == a && (r1 == b && (r2 == c && r3 == d)))) = false) (he2 : (f == 8 && (a == 0 && (b == 0 && (c == 0 && d == 0)))) = true) (he3 : (f == 9 && (a == 0 && (b == 0 && (c == 0 && d == 0)))) = false) (h5 : (k == 5) = false) (hs : (k == 6) = true) (h0 : (rf == 0) = false)
    (hz : ∀ sa n sc w w', Z sa n sc w → Upd [] w w' → Z sa n sc w')
    (hd : ∀ w, Upd [] W w → Calls Try.prog 11 #[.slice sa sn sc, .agg #[.int .i64 k, .int .i64 ob, .int .u32 c0, .int .u32 c1, .int .u32 c2, .int .u32 c3, .int .u32 cn]] w fun e w' => Upd [] w w' ∧ ∃ sa sn sc, e = .returned (.tuple #[.slice sa sn sc, .agg #[.int .i64 rf, .int .u32 r0, .int .u32 r1, .int .u32 r2, .int .u32 r3]]) ∧ Z sa sn sc w') :
    Calls Try.prog 13 #[.slice sa sn sc, .agg #[.int .i64 k, .int .i64 ob, .int .u32 c0, .int .u32 c1, .int .u32 c2, .int .u32 c3, .int .u32 cn], .agg #[.int .i64 f, .int .u32 a, .int .u32 b, .int .u32 c, .int .u32 d]] W fun e w' => Upd [] W w' ∧ e = .returned (.tuple #[.slice sa sn sc, .bool false]) := by
  have HD := Lib.hid (hd _ ((Upd.refl [] W).alloc (.cells #[.int .i64 k, .int .i64 ob, .int .u32 c0, .int .u32 c1, .int .u32 c2, .int .u32 c3, .int .u32 cn] 28) |>.alloc (.cells #[.int .i64 f, .int .u32 a, .int .u32 b, .int .u32 c, .int .u32 d] 31)))
  have HZ := Lib.hid hz
  have q1 := fun w => (eq_result w rf r0 r1 r2 r3 f a b c d)
  have q2 := fun w => (eq_result w f a b c d 8 0 0 0 0)
  have q3 := fun w => (eq_result w f a b c d 9 0 0 0 0)
  rw [he1] at q1
  rw [he2] at q2
  rw [he3] at q3
  clear hd hz he1 he2 he3
  go_enter Try.func13, Try.ntmps13
  go_wp2_with (go_at_call 11; (with_reducible refine (HD.out).mono ?_); rintro e w3 ⟨hu3, za, zn, zc, rfl, hz3⟩; obtain ⟨p3, rfl⟩ := hu3.grown; have HZ3 := Lib.hid hz3; clear hz3 hu3)
  go_ret2
  refine ⟨(by (repeat (first | (with_reducible exact Upd.refl _ _) | (with_reducible apply Upd.drew) | (with_reducible refine Upd.grE ?_ _) | (with_reducible refine Upd.alloc ?_ _)))), ?_⟩
  first | rfl | simp
set_option maxRecDepth 100000 in
set_option maxHeartbeats 4000000 in
theorem rallows_Bn (he1 : (rf == f && (r0 == a && (r1 == b && (r2 == c && r3 == d)))) = false) (he2 : (f == 8 && (a == 0 && (b == 0 && (c == 0 && d == 0)))) = true) (he3 : (f == 9 && (a == 0 && (b == 0 && (c == 0 && d == 0)))) = false) (h5 : (k == 5) = false) (hs : (k == 6) = false)
    (hz : ∀ sa n sc w w', Z sa n sc w → Upd [] w w' → Z sa n sc w')
    (hd : ∀ w, Upd [] W w → Calls Try.prog 11 #[.slice sa sn sc, .agg #[.int .i64 k, .int .i64 ob, .int .u32 c0, .int .u32 c1, .int .u32 c2, .int .u32 c3, .int .u32 cn]] w fun e w' => Upd [] w w' ∧ ∃ sa sn sc, e = .returned (.tuple #[.slice sa sn sc, .agg #[.int .i64 rf, .int .u32 r0, .int .u32 r1, .int .u32 r2, .int .u32 r3]]) ∧ Z sa sn sc w') :
    Calls Try.prog 13 #[.slice sa sn sc, .agg #[.int .i64 k, .int .i64 ob, .int .u32 c0, .int .u32 c1, .int .u32 c2, .int .u32 c3, .int .u32 cn], .agg #[.int .i64 f, .int .u32 a, .int .u32 b, .int .u32 c, .int .u32 d]] W fun e w' => Upd [] W w' ∧ e = .returned (.tuple #[.slice sa sn sc, .bool false]) := by
  have HD := Lib.hid (hd _ ((Upd.refl [] W).alloc (.cells #[.int .i64 k, .int .i64 ob, .int .u32 c0, .int .u32 c1, .int .u32 c2, .int .u32 c3, .int .u32 cn] 28) |>.alloc (.cells #[.int .i64 f, .int .u32 a, .int .u32 b, .int .u32 c, .int .u32 d] 31)))
  have HZ := Lib.hid hz
  have q1 := fun w => (eq_result w rf r0 r1 r2 r3 f a b c d)
  have q2 := fun w => (eq_result w f a b c d 8 0 0 0 0)
  have q3 := fun w => (eq_result w f a b c d 9 0 0 0 0)
  rw [he1] at q1
  rw [he2] at q2
  rw [he3] at q3
  clear hd hz he1 he2 he3
  go_enter Try.func13, Try.ntmps13
  go_wp2_with (go_at_call 11; (with_reducible refine (HD.out).mono ?_); rintro e w3 ⟨hu3, za, zn, zc, rfl, hz3⟩; obtain ⟨p3, rfl⟩ := hu3.grown; have HZ3 := Lib.hid hz3; clear hz3 hu3)
  go_ret2
  refine ⟨(by (repeat (first | (with_reducible exact Upd.refl _ _) | (with_reducible apply Upd.drew) | (with_reducible refine Upd.grE ?_ _) | (with_reducible refine Upd.alloc ?_ _)))), ?_⟩
  first | rfl | simp
set_option maxRecDepth 100000 in
set_option maxHeartbeats 4000000 in
theorem rallows_CL (he1 : (rf == f && (r0 == a && (r1 == b && (r2 == c && r3 == d)))) = false) (he2 : (f == 8 && (a == 0 && (b == 0 && (c == 0 && d == 0)))) = false) (he3 : (f == 9 && (a == 0 && (b == 0 && (c == 0 && d == 0)))) = true) (hl : decide (14 ≤ k) = false)
    (hz : ∀ sa n sc w w', Z sa n sc w → Upd [] w w' → Z sa n sc w')
    (hd : ∀ w, Upd [] W w → Calls Try.prog 11 #[.slice sa sn sc, .agg #[.int .i64 k, .int .i64 ob, .int .u32 c0, .int .u32 c1, .int .u32 c2, .int .u32 c3, .int .u32 cn]] w fun e w' => Upd [] w w' ∧ ∃ sa sn sc, e = .returned (.tuple #[.slice sa sn sc, .agg #[.int .i64 rf, .int .u32 r0, .int .u32 r1, .int .u32 r2, .int .u32 r3]]) ∧ Z sa sn sc w') :
    Calls Try.prog 13 #[.slice sa sn sc, .agg #[.int .i64 k, .int .i64 ob, .int .u32 c0, .int .u32 c1, .int .u32 c2, .int .u32 c3, .int .u32 cn], .agg #[.int .i64 f, .int .u32 a, .int .u32 b, .int .u32 c, .int .u32 d]] W fun e w' => Upd [] W w' ∧ e = .returned (.tuple #[.slice sa sn sc, .bool false]) := by
  have HD := Lib.hid (hd _ ((Upd.refl [] W).alloc (.cells #[.int .i64 k, .int .i64 ob, .int .u32 c0, .int .u32 c1, .int .u32 c2, .int .u32 c3, .int .u32 cn] 28) |>.alloc (.cells #[.int .i64 f, .int .u32 a, .int .u32 b, .int .u32 c, .int .u32 d] 31)))
  have HZ := Lib.hid hz
  have q1 := fun w => (eq_result w rf r0 r1 r2 r3 f a b c d)
  have q2 := fun w => (eq_result w f a b c d 8 0 0 0 0)
  have q3 := fun w => (eq_result w f a b c d 9 0 0 0 0)
  rw [he1] at q1
  rw [he2] at q2
  rw [he3] at q3
  clear hd hz he1 he2 he3
  go_enter Try.func13, Try.ntmps13
  go_wp2_with (go_at_call 11; (with_reducible refine (HD.out).mono ?_); rintro e w3 ⟨hu3, za, zn, zc, rfl, hz3⟩; obtain ⟨p3, rfl⟩ := hu3.grown; have HZ3 := Lib.hid hz3; clear hz3 hu3)
  go_ret2
  refine ⟨(by (repeat (first | (with_reducible exact Upd.refl _ _) | (with_reducible apply Upd.drew) | (with_reducible refine Upd.grE ?_ _) | (with_reducible refine Upd.alloc ?_ _)))), ?_⟩
  first | rfl | simp
set_option maxRecDepth 100000 in
set_option maxHeartbeats 4000000 in
theorem rallows_CH (he1 : (rf == f && (r0 == a && (r1 == b && (r2 == c && r3 == d)))) = false) (he2 : (f == 8 && (a == 0 && (b == 0 && (c == 0 && d == 0)))) = false) (he3 : (f == 9 && (a == 0 && (b == 0 && (c == 0 && d == 0)))) = true) (hl : decide (14 ≤ k) = true) (hh : decide (k ≤ 17) = false)
    (hz : ∀ sa n sc w w', Z sa n sc w → Upd [] w w' → Z sa n sc w')
    (hd : ∀ w, Upd [] W w → Calls Try.prog 11 #[.slice sa sn sc, .agg #[.int .i64 k, .int .i64 ob, .int .u32 c0, .int .u32 c1, .int .u32 c2, .int .u32 c3, .int .u32 cn]] w fun e w' => Upd [] w w' ∧ ∃ sa sn sc, e = .returned (.tuple #[.slice sa sn sc, .agg #[.int .i64 rf, .int .u32 r0, .int .u32 r1, .int .u32 r2, .int .u32 r3]]) ∧ Z sa sn sc w') :
    Calls Try.prog 13 #[.slice sa sn sc, .agg #[.int .i64 k, .int .i64 ob, .int .u32 c0, .int .u32 c1, .int .u32 c2, .int .u32 c3, .int .u32 cn], .agg #[.int .i64 f, .int .u32 a, .int .u32 b, .int .u32 c, .int .u32 d]] W fun e w' => Upd [] W w' ∧ e = .returned (.tuple #[.slice sa sn sc, .bool false]) := by
  have HD := Lib.hid (hd _ ((Upd.refl [] W).alloc (.cells #[.int .i64 k, .int .i64 ob, .int .u32 c0, .int .u32 c1, .int .u32 c2, .int .u32 c3, .int .u32 cn] 28) |>.alloc (.cells #[.int .i64 f, .int .u32 a, .int .u32 b, .int .u32 c, .int .u32 d] 31)))
  have HZ := Lib.hid hz
  have q1 := fun w => (eq_result w rf r0 r1 r2 r3 f a b c d)
  have q2 := fun w => (eq_result w f a b c d 8 0 0 0 0)
  have q3 := fun w => (eq_result w f a b c d 9 0 0 0 0)
  rw [he1] at q1
  rw [he2] at q2
  rw [he3] at q3
  clear hd hz he1 he2 he3
  go_enter Try.func13, Try.ntmps13
  go_wp2_with (go_at_call 11; (with_reducible refine (HD.out).mono ?_); rintro e w3 ⟨hu3, za, zn, zc, rfl, hz3⟩; obtain ⟨p3, rfl⟩ := hu3.grown; have HZ3 := Lib.hid hz3; clear hz3 hu3)
  go_ret2
  refine ⟨(by (repeat (first | (with_reducible exact Upd.refl _ _) | (with_reducible apply Upd.drew) | (with_reducible refine Upd.grE ?_ _) | (with_reducible refine Upd.alloc ?_ _)))), ?_⟩
  first | rfl | simp
set_option maxRecDepth 100000 in
set_option maxHeartbeats 4000000 in
theorem rallows_C6 (he1 : (rf == f && (r0 == a && (r1 == b && (r2 == c && r3 == d)))) = false) (he2 : (f == 8 && (a == 0 && (b == 0 && (c == 0 && d == 0)))) = false) (he3 : (f == 9 && (a == 0 && (b == 0 && (c == 0 && d == 0)))) = true) (hl : decide (14 ≤ k) = true) (hh : decide (k ≤ 17) = true) (h6 : (rf == 6) = true)
    (hz : ∀ sa n sc w w', Z sa n sc w → Upd [] w w' → Z sa n sc w')
    (hd : ∀ w, Upd [] W w → Calls Try.prog 11 #[.slice sa sn sc, .agg #[.int .i64 k, .int .i64 ob, .int .u32 c0, .int .u32 c1, .int .u32 c2, .int .u32 c3, .int .u32 cn]] w fun e w' => Upd [] w w' ∧ ∃ sa sn sc, e = .returned (.tuple #[.slice sa sn sc, .agg #[.int .i64 rf, .int .u32 r0, .int .u32 r1, .int .u32 r2, .int .u32 r3]]) ∧ Z sa sn sc w') :
    Calls Try.prog 13 #[.slice sa sn sc, .agg #[.int .i64 k, .int .i64 ob, .int .u32 c0, .int .u32 c1, .int .u32 c2, .int .u32 c3, .int .u32 cn], .agg #[.int .i64 f, .int .u32 a, .int .u32 b, .int .u32 c, .int .u32 d]] W fun e w' => Upd [] W w' ∧ e = .returned (.tuple #[.slice sa sn sc, .bool true]) := by
  have HD := Lib.hid (hd _ ((Upd.refl [] W).alloc (.cells #[.int .i64 k, .int .i64 ob, .int .u32 c0, .int .u32 c1, .int .u32 c2, .int .u32 c3, .int .u32 cn] 28) |>.alloc (.cells #[.int .i64 f, .int .u32 a, .int .u32 b, .int .u32 c, .int .u32 d] 31)))
  have HZ := Lib.hid hz
  have q1 := fun w => (eq_result w rf r0 r1 r2 r3 f a b c d)
  have q2 := fun w => (eq_result w f a b c d 8 0 0 0 0)
  have q3 := fun w => (eq_result w f a b c d 9 0 0 0 0)
  rw [he1] at q1
  rw [he2] at q2
  rw [he3] at q3
  clear hd hz he1 he2 he3
  go_enter Try.func13, Try.ntmps13
  go_wp2_with (go_at_call 11; (with_reducible refine (HD.out).mono ?_); rintro e w3 ⟨hu3, za, zn, zc, rfl, hz3⟩; obtain ⟨p3, rfl⟩ := hu3.grown; have HZ3 := Lib.hid hz3; clear hz3 hu3)
  go_ret2
  refine ⟨(by (repeat (first | (with_reducible exact Upd.refl _ _) | (with_reducible apply Upd.drew) | (with_reducible refine Upd.grE ?_ _) | (with_reducible refine Upd.alloc ?_ _)))), ?_⟩
  first | rfl | simp
set_option maxRecDepth 100000 in
set_option maxHeartbeats 4000000 in
theorem rallows_C7 (he1 : (rf == f && (r0 == a && (r1 == b && (r2 == c && r3 == d)))) = false) (he2 : (f == 8 && (a == 0 && (b == 0 && (c == 0 && d == 0)))) = false) (he3 : (f == 9 && (a == 0 && (b == 0 && (c == 0 && d == 0)))) = true) (hl : decide (14 ≤ k) = true) (hh : decide (k ≤ 17) = true) (h6 : (rf == 6) = false) (h7 : (rf == 7) = true)
    (hz : ∀ sa n sc w w', Z sa n sc w → Upd [] w w' → Z sa n sc w')
    (hd : ∀ w, Upd [] W w → Calls Try.prog 11 #[.slice sa sn sc, .agg #[.int .i64 k, .int .i64 ob, .int .u32 c0, .int .u32 c1, .int .u32 c2, .int .u32 c3, .int .u32 cn]] w fun e w' => Upd [] w w' ∧ ∃ sa sn sc, e = .returned (.tuple #[.slice sa sn sc, .agg #[.int .i64 rf, .int .u32 r0, .int .u32 r1, .int .u32 r2, .int .u32 r3]]) ∧ Z sa sn sc w') :
    Calls Try.prog 13 #[.slice sa sn sc, .agg #[.int .i64 k, .int .i64 ob, .int .u32 c0, .int .u32 c1, .int .u32 c2, .int .u32 c3, .int .u32 cn], .agg #[.int .i64 f, .int .u32 a, .int .u32 b, .int .u32 c, .int .u32 d]] W fun e w' => Upd [] W w' ∧ e = .returned (.tuple #[.slice sa sn sc, .bool true]) := by
  have HD := Lib.hid (hd _ ((Upd.refl [] W).alloc (.cells #[.int .i64 k, .int .i64 ob, .int .u32 c0, .int .u32 c1, .int .u32 c2, .int .u32 c3, .int .u32 cn] 28) |>.alloc (.cells #[.int .i64 f, .int .u32 a, .int .u32 b, .int .u32 c, .int .u32 d] 31)))
  have HZ := Lib.hid hz
  have q1 := fun w => (eq_result w rf r0 r1 r2 r3 f a b c d)
  have q2 := fun w => (eq_result w f a b c d 8 0 0 0 0)
  have q3 := fun w => (eq_result w f a b c d 9 0 0 0 0)
  rw [he1] at q1
  rw [he2] at q2
  rw [he3] at q3
  clear hd hz he1 he2 he3
  go_enter Try.func13, Try.ntmps13
  go_wp2_with (go_at_call 11; (with_reducible refine (HD.out).mono ?_); rintro e w3 ⟨hu3, za, zn, zc, rfl, hz3⟩; obtain ⟨p3, rfl⟩ := hu3.grown; have HZ3 := Lib.hid hz3; clear hz3 hu3)
  go_ret2
  refine ⟨(by (repeat (first | (with_reducible exact Upd.refl _ _) | (with_reducible apply Upd.drew) | (with_reducible refine Upd.grE ?_ _) | (with_reducible refine Upd.alloc ?_ _)))), ?_⟩
  first | rfl | simp
set_option maxRecDepth 100000 in
set_option maxHeartbeats 4000000 in
theorem rallows_C0 (he1 : (rf == f && (r0 == a && (r1 == b && (r2 == c && r3 == d)))) = false) (he2 : (f == 8 && (a == 0 && (b == 0 && (c == 0 && d == 0)))) = false) (he3 : (f == 9 && (a == 0 && (b == 0 && (c == 0 && d == 0)))) = true) (hl : decide (14 ≤ k) = true) (hh : decide (k ≤ 17) = true) (h6 : (rf == 6) = false) (h7 : (rf == 7) = false)
    (hz : ∀ sa n sc w w', Z sa n sc w → Upd [] w w' → Z sa n sc w')
    (hd : ∀ w, Upd [] W w → Calls Try.prog 11 #[.slice sa sn sc, .agg #[.int .i64 k, .int .i64 ob, .int .u32 c0, .int .u32 c1, .int .u32 c2, .int .u32 c3, .int .u32 cn]] w fun e w' => Upd [] w w' ∧ ∃ sa sn sc, e = .returned (.tuple #[.slice sa sn sc, .agg #[.int .i64 rf, .int .u32 r0, .int .u32 r1, .int .u32 r2, .int .u32 r3]]) ∧ Z sa sn sc w') :
    Calls Try.prog 13 #[.slice sa sn sc, .agg #[.int .i64 k, .int .i64 ob, .int .u32 c0, .int .u32 c1, .int .u32 c2, .int .u32 c3, .int .u32 cn], .agg #[.int .i64 f, .int .u32 a, .int .u32 b, .int .u32 c, .int .u32 d]] W fun e w' => Upd [] W w' ∧ e = .returned (.tuple #[.slice sa sn sc, .bool false]) := by
  have HD := Lib.hid (hd _ ((Upd.refl [] W).alloc (.cells #[.int .i64 k, .int .i64 ob, .int .u32 c0, .int .u32 c1, .int .u32 c2, .int .u32 c3, .int .u32 cn] 28) |>.alloc (.cells #[.int .i64 f, .int .u32 a, .int .u32 b, .int .u32 c, .int .u32 d] 31)))
  have HZ := Lib.hid hz
  have q1 := fun w => (eq_result w rf r0 r1 r2 r3 f a b c d)
  have q2 := fun w => (eq_result w f a b c d 8 0 0 0 0)
  have q3 := fun w => (eq_result w f a b c d 9 0 0 0 0)
  rw [he1] at q1
  rw [he2] at q2
  rw [he3] at q3
  clear hd hz he1 he2 he3
  go_enter Try.func13, Try.ntmps13
  go_wp2_with (go_at_call 11; (with_reducible refine (HD.out).mono ?_); rintro e w3 ⟨hu3, za, zn, zc, rfl, hz3⟩; obtain ⟨p3, rfl⟩ := hu3.grown; have HZ3 := Lib.hid hz3; clear hz3 hu3)
  go_ret2
  refine ⟨(by (repeat (first | (with_reducible exact Upd.refl _ _) | (with_reducible apply Upd.drew) | (with_reducible refine Upd.grE ?_ _) | (with_reducible refine Upd.alloc ?_ _)))), ?_⟩
  first | rfl | simp
end
theorem rallows_c {w : World} {sa : Option Addr} {rs : List IL} (sc : Nat) (k o cn : Int) (c : V4) (r : Int × V4) (h : SRel w sa rs)
    (hd : ∀ w1, Upd [] w w1 → Calls Try.prog 11 #[.slice sa rs.length sc, .agg (caV k o c.a c.b c.c c.d cn)] w1 fun e w' => Upd [] w1 w' ∧ SOut (doR (rs.map (·.x)) k o c).1 (doR (rs.map (·.x)) k o c).2 e w') :
    Calls Try.prog 13 #[.slice sa rs.length sc, .agg (caV k o c.a c.b c.c c.d cn), .agg (resV r)] w fun e w' => Upd [] w w' ∧ AOut (allowsR (rs.map (·.x)) k o c r).1 (allowsR (rs.map (·.x)) k o c r).2 e w' := by
  unfold allowsR
  generalize doR (rs.map (·.x)) k o c = dd at hd ⊢
  obtain ⟨s', ⟨rf, ⟨r0, r1, r2, r3⟩⟩⟩ := dd
  obtain ⟨f, ⟨a, b, cc, d⟩⟩ := r
  have hz : ∀ (sa : Option Addr) (n sc : Nat) (w w' : World), (n = s'.length ∧ ∃ rs, SRel w sa rs ∧ rs.map (·.x) = s') → Upd [] w w' → (n = s'.length ∧ ∃ rs, SRel w' sa rs ∧ rs.map (·.x) = s') :=
    fun _ _ _ _ _ ⟨h1, rs, h2, h3⟩ hu => ⟨h1, rs, h2.upd hu, h3⟩
  have hd' : ∀ w1, Upd [] w w1 → Calls Try.prog 11 #[.slice sa rs.length sc, .agg #[.int .i64 k, .int .i64 o, .int .u32 c.a, .int .u32 c.b, .int .u32 c.c, .int .u32 c.d, .int .u32 cn]] w1 fun e w' => Upd [] w1 w' ∧ ∃ sa sn sc, e = .returned (.tuple #[.slice sa sn sc, .agg #[.int .i64 rf, .int .u32 r0, .int .u32 r1, .int .u32 r2, .int .u32 r3]]) ∧ (sn = s'.length ∧ ∃ rs, SRel w' sa rs ∧ rs.map (·.x) = s') := fun w1 hu =>
    (hd w1 hu).mono fun e w' ⟨h1, sa', sc', rs', h2, h3, h4⟩ => ⟨h1, sa', s'.length, sc', h2, rfl, rs', h3, h4⟩
  have old : ∀ {e : Ending} {w' : World} {b : Bool}, Upd [] w w' ∧ e = .returned (.tuple #[.slice sa rs.length sc, .bool b]) → Upd [] w w' ∧ AOut (rs.map (·.x)) b e w' := fun ⟨h1, h2⟩ => ⟨h1, sa, sc, rs, by rw [h2]; simp, h.upd h1, rfl⟩
  have e1 := res_eq rf r0 r1 r2 r3 f a b cc d
  have e2 : _ = decide (((f, ⟨a, b, cc, d⟩) : Int × V4) = (8, v0)) := res_eq f a b cc d 8 0 0 0 0
  have e3 : _ = decide (((f, ⟨a, b, cc, d⟩) : Int × V4) = (9, v0)) := res_eq f a b cc d 9 0 0 0 0
  by_cases h1 : ((f, ⟨a, b, cc, d⟩) : Int × V4) = (rf, ⟨r0, r1, r2, r3⟩)
  · rw [if_pos h1]
    rw [decide_eq_true h1.symm] at e1
    exact (rallows_A sa rs.length sc k o c.a c.b c.c c.d cn f a b cc d rf r0 r1 r2 r3 w _ e1 rfl rfl hz hd').mono fun e w' ⟨h1, za, zn, zc, h2, h3, rs', h4, h5⟩ => ⟨h1, za, zc, rs', by rw [h2, h3], h4, h5⟩
  rw [if_neg h1]
  rw [decide_eq_false (fun e => h1 e.symm)] at e1
  by_cases h2 : ((f, ⟨a, b, cc, d⟩) : Int × V4) = (8, v0)
  · rw [if_pos h2]
    rw [decide_eq_true h2] at e2
    have e3f : (f == 9 && (a == 0 && (b == 0 && (cc == 0 && d == 0)))) = false := by
      have := (Prod.mk.inj h2).1
      simp [this]
    cases h5 : k == 5
    · cases hs : k == 6
      · refine (rallows_Bn sa rs.length sc k o c.a c.b c.c c.d cn f a b cc d rf r0 r1 r2 r3 w _ e1 e2 e3f h5 hs hz hd').mono fun e w' he => ?_
        rw [Bool.false_or, Bool.and_false]
        exact old he
      · cases h0 : rf == 0
        · have d0 : decide (rf = 0) = false := by simpa using h0
          refine (rallows_B6f sa rs.length sc k o c.a c.b c.c c.d cn f a b cc d rf r0 r1 r2 r3 w _ e1 e2 e3f h5 hs h0 hz hd').mono fun e w' he => ?_
          simp only [d0, Bool.false_and]
          exact old he
        · have d0 : decide (rf = 0) = true := by simpa using h0
          refine (rallows_B6t sa rs.length sc k o c.a c.b c.c c.d cn f a b cc d rf r0 r1 r2 r3 w _ e1 e2 e3f h5 hs h0 hz hd').mono fun e w' he => ?_
          simp only [d0, Bool.true_and, Bool.or_true]
          exact old he
    · cases h0 : rf == 0
      · have d0 : decide (rf = 0) = false := by simpa using h0
        refine (rallows_B5f sa rs.length sc k o c.a c.b c.c c.d cn f a b cc d rf r0 r1 r2 r3 w _ e1 e2 e3f h5 h0 hz hd').mono fun e w' he => ?_
        simp only [d0, Bool.false_and]
        exact old he
      · have d0 : decide (rf = 0) = true := by simpa using h0
        refine (rallows_B5t sa rs.length sc k o c.a c.b c.c c.d cn f a b cc d rf r0 r1 r2 r3 w _ e1 e2 e3f h5 h0 hz hd').mono fun e w' he => ?_
        simp only [d0, Bool.true_and, Bool.true_or]
        exact old he
  rw [if_neg h2]
  rw [decide_eq_false h2] at e2
  by_cases h3 : ((f, ⟨a, b, cc, d⟩) : Int × V4) = (9, v0)
  · rw [if_pos h3]
    rw [decide_eq_true h3] at e3
    cases hl : decide (14 ≤ k)
    · refine (rallows_CL sa rs.length sc k o c.a c.b c.c c.d cn f a b cc d rf r0 r1 r2 r3 w _ e1 e2 e3 hl hz hd').mono fun e w' he => ?_
      rw [Bool.false_and, Bool.and_false]
      exact old he
    · cases hh : decide (k ≤ 17)
      · refine (rallows_CH sa rs.length sc k o c.a c.b c.c c.d cn f a b cc d rf r0 r1 r2 r3 w _ e1 e2 e3 hl hh hz hd').mono fun e w' he => ?_
        rw [Bool.and_false, Bool.and_false]
        exact old he
      · cases h6 : rf == 6
        · have d6 : decide (rf = 6) = false := by simpa using h6
          cases h7 : rf == 7
          · have d7 : decide (rf = 7) = false := by simpa using h7
            refine (rallows_C0 sa rs.length sc k o c.a c.b c.c c.d cn f a b cc d rf r0 r1 r2 r3 w _ e1 e2 e3 hl hh h6 h7 hz hd').mono fun e w' he => ?_
            simp only [d6, d7, Bool.false_or, Bool.false_and]
            exact old he
          · have d7 : decide (rf = 7) = true := by simpa using h7
            refine (rallows_C7 sa rs.length sc k o c.a c.b c.c c.d cn f a b cc d rf r0 r1 r2 r3 w _ e1 e2 e3 hl hh h6 h7 hz hd').mono fun e w' he => ?_
            simp only [d6, d7, Bool.or_true, Bool.and_self]
            exact old he
        · have d6 : decide (rf = 6) = true := by simpa using h6
          refine (rallows_C6 sa rs.length sc k o c.a c.b c.c c.d cn f a b cc d rf r0 r1 r2 r3 w _ e1 e2 e3 hl hh h6 hz hd').mono fun e w' he => ?_
          simp only [d6, Bool.true_or, Bool.and_self]
          exact old he
  rw [if_neg h3]
  rw [decide_eq_false h3] at e3
  exact (rallows_D sa rs.length sc k o c.a c.b c.c c.d cn f a b cc d rf r0 r1 r2 r3 w _ e1 e2 e3 hz hd').mono fun e w' he => old he
end Go.Proofs.Ytdbgnnkbcebpcaa
