/- Package rule: the six tests of a call; whose an object's end is. -/
import Derived.Test.YtkjonflmokapcaaRF1
set_option linter.unusedVariables false
set_option linter.unusedSimpArgs false
namespace Go.Proofs.Ytkjonflmokapcaa
open Go.RowKit

/-- A configuration, a context, a call and whether it posts, boxed. -/
structure RM (w : World) (cb xb kb pb : Nat) (A : Array Value) (ctx k ob v0 v1 v2 v3 n : Int) (p : Bool) : Prop where
  hc : w.heap[cb]? = some (.cells A 77)
  hx : w.heap[xb]? = some (.cells #[.int .i64 ctx] 3)
  hk : w.heap[kb]? = some (.cells (caA k ob v0 v1 v2 v3 n) 91)
  hp : w.heap[pb]? = some (.cells #[.bool p] 4)
theorem RM.upd {w w' : World} {cb xb kb pb : Nat} {A : Array Value} {ctx k ob v0 v1 v2 v3 n : Int} {p : Bool} (h : RM w cb xb kb pb A ctx k ob v0 v1 v2 v3 n p) (hu : Upd [] w w') : RM w' cb xb kb pb A ctx k ob v0 v1 v2 v3 n p :=
  ⟨hu.keepb h.hc (by simp), hu.keepb h.hx (by simp), hu.keepb h.hk (by simp), hu.keepb h.hp (by simp)⟩
theorem cell1 {w : World} {k : Nat} {x : Value} {t : TypeId} {f : Nat × Nat} (h : w.heap[k]? = some (.cells #[x] t f)) : w.cell? ⟨k, 0, none⟩ = some x := by rw [cell_of_heap h]; rfl
def q1B (c : CF) (ctx : Int) : Bool := c.bad.1 != 0 || !hasB c.ts.length c.ls.length ctx
def q2B (ctx k : Int) : Bool := decide (ctx < 0) && blocksB k
def q3B (k : Int) : Bool := decide (k < 1) || decide (19 < k)
def q4B (c : CF) (k ob : Int) : Bool := (k == 10) && (decide (ob < 0) || decide ((c.ts.length : Int) ≤ ob))
def q5B (k v0 : Int) : Bool := (k == 10) && decide (65535 < v0)
def q6B (c : CF) (ctx k : Int) : Bool := (k == 11) && (c.tk == 0 || ctx != -c.tk)
section
variable {ta la oa : Option Addr} {tc lc oc : Nat} {c : CF} {w : World} {cb xb kb pb : Nat} {ctx k ob v0 v1 v2 v3 n : Int} {p : Bool}
set_option maxRecDepth 100000 in
set_option maxHeartbeats 1000000 in
theorem first1 (h : CFR w ta la oa c) (hm : RM w cb xb kb pb (cfA ta c.ts.length tc la c.ls.length lc oa c.os.length oc c.tk) ctx k ob v0 v1 v2 v3 n p) : Calls Try.prog 82 #[.pointer (some ⟨cb, 0, none⟩), .pointer (some ⟨xb, 0, none⟩)] w fun e w' => e = .returned (.bool (q1B c ctx)) ∧ Upd [] w w' := by
  have HC := Lib.hid (check_c tc lc oc h)
  have HM := Lib.hid hm
  have HH := Lib.hid fun w' => has_c ta la oa c.ts.length tc c.ls.length lc c.os.length oc c.tk w' ctx h.tn h.ln
  have qe := neq_bad
  obtain ⟨c0, c1, c2, c3⟩ := cells4 hm.hc
  unfold q1B
  unfold cfA badV at *
  clear h hm
  by_cases hb : c.bad.1 = 0
  · have hz := bad_fst hb
    rw [hz] at HC ⊢
    generalize hasB c.ts.length c.ls.length ctx = q at HH ⊢
    clear hb hz
    simp only at HC
    go_enter Try.func82, Try.ntmps82
    go_wp2_with fail
    refine HC.out.mono ?_
    rintro e w1 ⟨rfl, hu1⟩
    have HM1 := Lib.hid (HM.out.upd hu1)
    have HU1 := Lib.hid hu1
    obtain ⟨d0, d1, d2, d3⟩ := cells4 HM1.out.hc
    have d4 := cell1 HM1.out.hx
    clear hu1
    go_wp2_with fail
    refine (HH.out _).mono ?_
    rintro e w2 ⟨rfl, hu2⟩
    go_wp2
    go_ret
    exact ⟨by simp, HU1.out.trans hu2⟩
  · have q : (c.bad.1 == 0) = false := by simpa using hb
    have q' : (c.bad.1 != 0) = true := by simpa using hb
    generalize c.bad.1 = x at *
    clear hb
    go_enter Try.func82, Try.ntmps82
    go_wp2_with fail
    refine HC.out.mono ?_
    rintro e w1 ⟨rfl, hu1⟩
    go_wp2
    go_ret
    exact ⟨by rw [q']; rfl, hu1⟩
set_option maxRecDepth 100000 in
theorem first2 (hm : RM w cb xb kb pb (cfA ta c.ts.length tc la c.ls.length lc oa c.os.length oc c.tk) ctx k ob v0 v1 v2 v3 n p) : Calls Try.prog 83 #[.pointer (some ⟨xb, 0, none⟩), .pointer (some ⟨kb, 0, none⟩)] w fun e w' => e = .returned (.bool (q2B ctx k)) ∧ Upd [] w w' := by
  have c0 := cell1 hm.hx
  obtain ⟨d0, d1, d2, d3, d4, d5, d6⟩ := cells7 hm.hk
  unfold q2B
  clear hm
  by_cases h : ctx < 0
  · have q : decide (ctx < 0) = true := by simpa using h
    clear h
    go_enter Try.func83, Try.ntmps83
    go_wp2_with (first | (go_at_call 84; refine (handler_c _ _).mono ?_; rintro e w1 ⟨rfl, rfl⟩) | (go_at_call 51; refine (blocks_c _ _).mono ?_; rintro e w1 ⟨rfl, rfl⟩))
    go_ret
    exact ⟨by rw [q]; rfl, Upd.refl _ _⟩
  · have q : decide (ctx < 0) = false := by simpa using h
    clear h
    go_enter Try.func83, Try.ntmps83
    go_wp2_with (first | (go_at_call 84; refine (handler_c _ _).mono ?_; rintro e w1 ⟨rfl, rfl⟩))
    go_ret
    exact ⟨by rw [q]; rfl, Upd.refl _ _⟩
set_option maxRecDepth 100000 in
theorem first3 (hm : RM w cb xb kb pb (cfA ta c.ts.length tc la c.ls.length lc oa c.os.length oc c.tk) ctx k ob v0 v1 v2 v3 n p) : Calls Try.prog 85 #[.pointer (some ⟨kb, 0, none⟩)] w fun e w' => e = .returned (.bool (q3B k)) ∧ Upd [] w w' := by
  obtain ⟨d0, d1, d2, d3, d4, d5, d6⟩ := cells7 hm.hk
  unfold q3B
  clear hm
  rcases h : decide (k < 1) with _ | _ <;>
  ( go_enter Try.func85, Try.ntmps85
    go_wp2
    go_ret
    exact ⟨rfl, Upd.refl _ _⟩)
set_option maxRecDepth 100000 in
set_option maxHeartbeats 1000000 in
theorem first4 (h : CFR w ta la oa c) (hm : RM w cb xb kb pb (cfA ta c.ts.length tc la c.ls.length lc oa c.os.length oc c.tk) ctx k ob v0 v1 v2 v3 n (k == 10)) : Calls Try.prog 86 #[.pointer (some ⟨pb, 0, none⟩), .pointer (some ⟨kb, 0, none⟩), .pointer (some ⟨cb, 0, none⟩)] w fun e w' => e = .returned (.bool (q4B c k ob)) ∧ Upd [] w w' := by
  obtain ⟨d0, d1, d2, d3, d4, d5, d6⟩ := cells7 hm.hk
  obtain ⟨c0, c1, c2, c3⟩ := cells4 hm.hc
  have b1 := h.tn
  have e0 := cell1 hm.hp
  unfold q4B
  clear hm h
  rcases h1 : (k == 10) with _ | _
  · rw [h1] at e0
    go_enter Try.func86, Try.ntmps86
    go_wp2
    go_ret
    exact ⟨rfl, Upd.refl _ _⟩
  · rw [h1] at e0
    rcases h2 : decide (ob < 0) with _ | _ <;>
    ( go_enter Try.func86, Try.ntmps86
      go_wp2
      go_ret
      exact ⟨rfl, Upd.refl _ _⟩)
set_option maxRecDepth 100000 in
set_option maxHeartbeats 1000000 in
theorem first5 (hm : RM w cb xb kb pb (cfA ta c.ts.length tc la c.ls.length lc oa c.os.length oc c.tk) ctx k ob v0 v1 v2 v3 n (k == 10)) : Calls Try.prog 87 #[.pointer (some ⟨pb, 0, none⟩), .pointer (some ⟨kb, 0, none⟩)] w fun e w' => e = .returned (.bool (q5B k v0)) ∧ Upd [] w w' := by
  obtain ⟨d0, d1, d2, d3, d4, d5, d6⟩ := cells7 hm.hk
  have e0 := cell1 hm.hp
  unfold q5B
  clear hm
  rcases h1 : (k == 10) with _ | _ <;>
  ( rw [h1] at e0
    go_enter Try.func87, Try.ntmps87
    go_wp2
    go_ret
    exact ⟨rfl, Upd.refl _ _⟩)
set_option maxRecDepth 100000 in
set_option maxHeartbeats 1000000 in
theorem first6 (htk : -1000 ≤ c.tk ∧ c.tk ≤ 1000) (hm : RM w cb xb kb pb (cfA ta c.ts.length tc la c.ls.length lc oa c.os.length oc c.tk) ctx k ob v0 v1 v2 v3 n p) : Calls Try.prog 88 #[.pointer (some ⟨kb, 0, none⟩), .pointer (some ⟨cb, 0, none⟩), .pointer (some ⟨xb, 0, none⟩)] w fun e w' => e = .returned (.bool (q6B c ctx k)) ∧ Upd [] w w' := by
  obtain ⟨d0, d1, d2, d3, d4, d5, d6⟩ := cells7 hm.hk
  obtain ⟨c0, c1, c2, c3⟩ := cells4 hm.hc
  have e0 := cell1 hm.hx
  unfold q6B
  generalize c.tk = tk at *
  have hw : wrap64 (-tk) = -tk := by unfold wrap64; omega
  clear hm
  rcases h1 : (k == 11) with _ | _ <;> rcases h2 : (tk == 0) with _ | _ <;>
  ( go_enter Try.func88, Try.ntmps88
    go_wp2
    go_ret
    exact ⟨rfl, Upd.refl _ _⟩)
end
def ownerP (k f t : Int) : Int × Bool := if k = 1 ∨ k = 14 ∨ k = 3 then (f, true) else if k = 2 ∨ k = 15 ∨ k = 4 then (t, true) else (0, false)
set_option maxRecDepth 100000 in
set_option maxHeartbeats 4000000 in
theorem owner_c (k k' cap wd rt f t i0 i1 i2 i3 : Int) (w : World) : Calls Try.prog 104 #[.int .i64 k, .agg (obA k' cap wd rt f t i0 i1 i2 i3)] w fun e w' => e = .returned (.tuple #[.int .i64 (ownerP k f t).1, .bool (ownerP k f t).2]) ∧ Upd [] w w' := by
  unfold obA
  by_cases hk : k = 1 ∨ k = 14 ∨ k = 3 ∨ k = 2 ∨ k = 15 ∨ k = 4
  · rcases hk with rfl | rfl | rfl | rfl | rfl | rfl
    · go_enter Try.func104, Try.ntmps104
      go_wp2
      go_ret2
      exact ⟨rfl, (Upd.refl _ _).alloc _⟩
    · go_enter Try.func104, Try.ntmps104
      go_wp2
      go_ret2
      exact ⟨rfl, (Upd.refl _ _).alloc _⟩
    · go_enter Try.func104, Try.ntmps104
      go_wp2
      go_ret2
      exact ⟨rfl, (Upd.refl _ _).alloc _⟩
    · go_enter Try.func104, Try.ntmps104
      go_wp2
      go_ret2
      exact ⟨rfl, (Upd.refl _ _).alloc _⟩
    · go_enter Try.func104, Try.ntmps104
      go_wp2
      go_ret2
      exact ⟨rfl, (Upd.refl _ _).alloc _⟩
    · go_enter Try.func104, Try.ntmps104
      go_wp2
      go_ret2
      exact ⟨rfl, (Upd.refl _ _).alloc _⟩
  · have hn : ownerP k f t = (0, false) := by
      unfold ownerP
      rw [if_neg (by omega), if_neg (by omega)]
    rw [hn]
    have q1 : (k == 1) = false := by simp; omega
    have q14 : (k == 14) = false := by simp; omega
    have q3 : (k == 3) = false := by simp; omega
    have q2 : (k == 2) = false := by simp; omega
    have q15 : (k == 15) = false := by simp; omega
    have q4 : (k == 4) = false := by simp; omega
    clear hk hn
    go_enter Try.func104, Try.ntmps104
    go_wp2
    go_ret2
    exact ⟨rfl, (Upd.refl _ _).alloc _⟩
end Go.Proofs.Ytkjonflmokapcaa
