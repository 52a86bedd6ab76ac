/- Package delta: a list of who waits, in memory; find. -/
import Derived.Test.YtgmdhjlbedgafaaProg
import Derived.Test.YtgmdhjlbedgafaaLaws
import Derived.ScopeJumps
import Derived.WalkMore
import Derived.Deep.LoopGhost
set_option linter.unusedVariables false
set_option linter.unusedSimpArgs false
namespace Go.Proofs.Ytgmdhjlbedgafaa
open Go.RowKit

/-- A link of the list: its block, its task, its ticks from now. -/
structure DN where
  b : Nat
  t : Int
  a : Int

def dptr (b : Nat) : Value := .pointer (some ⟨b, 0, none⟩)
def dfirstN (nx : Value) : List DN → Value
  | [] => nx
  | x :: _ => dptr x.b
def dfirst (xs : List DN) : Value := dfirstN (Value.pointer none) xs
def dlast (p : Int) : List DN → Int
  | [] => p
  | x :: xs => dlast x.a xs
def dlink (p : Addr) : List DN → Addr
  | [] => p
  | x :: xs => dlink ⟨x.b, 2, none⟩ xs

def DSegN (w : World) (nx : Value) : Int → List DN → Prop
  | _, [] => True
  | p, x :: xs => w.heap[x.b]? = some (.cells #[.int .i64 x.t, .int .u32 (x.a - p), dfirstN nx xs] 82 (0, 0)) ∧ DSegN w nx x.a xs
def DSeg (w : World) (p : Int) (xs : List DN) : Prop := DSegN w (Value.pointer none) p xs

def DSorted : Int → List DN → Prop
  | _, [] => True
  | p, x :: xs => p ≤ x.a ∧ x.a ≤ 4294967295 ∧ DSorted x.a xs

structure DL (w : World) (d : Nat) (xs : List DN) : Prop where
  hd : w.heap[d]? = some (.cells #[dfirst xs, .int .i64 xs.length] 27 (0, 0))
  seg : DSeg w 0 xs
  nodup : (d :: xs.map DN.b).Nodup
  sorted : DSorted 0 xs

theorem dlast_append (p : Int) (ys : List DN) (z : DN) : dlast p (ys ++ [z]) = z.a := by
  induction ys generalizing p with
  | nil => rfl
  | cons y ys ih => exact ih y.a
theorem dlink_append (p : Addr) (ys : List DN) (z : DN) : dlink p (ys ++ [z]) = ⟨z.b, 2, none⟩ := by
  induction ys generalizing p with
  | nil => rfl
  | cons y ys ih => exact ih _

theorem DSeg.node {w : World} {p : Int} {ys zs : List DN} {z : DN} (h : DSeg w p (ys ++ z :: zs)) : w.heap[z.b]? = some (.cells #[.int .i64 z.t, .int .u32 (z.a - dlast p ys), dfirst zs] 82 (0, 0)) := by
  induction ys generalizing p with
  | nil => exact h.1
  | cons y ys ih => exact ih (p := y.a) h.2

theorem DL.link {w : World} {d : Nat} {xs ys zs : List DN} (h : DL w d xs) (e : xs = ys ++ zs) : w.cell? (dlink ⟨d, 0, none⟩ ys) = some (dfirst zs) := by
  rcases List.eq_nil_or_concat ys with rfl | ⟨l, y, rfl⟩
  · simp at e
    subst e
    rw [dlink, cell_of_heap h.hd]; rfl
  · rw [List.concat_eq_append] at *
    rw [dlink_append]
    have := h.seg
    rw [e, List.append_assoc] at this
    have hn := DSeg.node (z := y) (zs := zs) this
    rw [cell_of_heap hn]; rfl

theorem DSorted.node {p : Int} {ys zs : List DN} {z : DN} (h : DSorted p (ys ++ z :: zs)) : dlast p ys ≤ z.a ∧ z.a ≤ 4294967295 := by
  induction ys generalizing p with
  | nil => exact ⟨h.1, h.2.1⟩
  | cons y ys ih => exact ih h.2.2
theorem DSorted.last {p : Int} {ys zs : List DN} (h : DSorted p (ys ++ zs)) (hp : p ≤ 4294967295) : p ≤ dlast p ys ∧ dlast p ys ≤ 4294967295 := by
  induction ys generalizing p with
  | nil => exact ⟨Int.le_refl _, hp⟩
  | cons y ys ih =>
    have := ih h.2.2 h.2.1
    exact ⟨Int.le_trans h.1 this.1, this.2⟩

/-- Where a task stands. -/
def dfind (t : Int) : List DN → Option (List DN × DN × List DN)
  | [] => none
  | x :: xs => if x.t = t then some ([], x, xs) else (dfind t xs).map fun r => (x :: r.1, r.2.1, r.2.2)

theorem dfind_none {t : Int} {xs : List DN} : dfind t xs = none ↔ ∀ x ∈ xs, x.t ≠ t := by
  induction xs with
  | nil => simp [dfind]
  | cons x xs ih =>
    unfold dfind
    by_cases h : x.t = t
    · simp [h]
    · simp [h, ih]
theorem dfind_some {t : Int} {xs : List DN} {r : List DN × DN × List DN} (h : dfind t xs = some r) : xs = r.1 ++ r.2.1 :: r.2.2 ∧ r.2.1.t = t ∧ ∀ x ∈ r.1, x.t ≠ t := by
  induction xs generalizing r with
  | nil => cases h
  | cons x xs ih =>
    unfold dfind at h
    by_cases e : x.t = t
    · rw [if_pos e] at h
      cases h
      exact ⟨rfl, e, by simp⟩
    · rw [if_neg e] at h
      cases hf : dfind t xs with
      | none => rw [hf] at h; cases h
      | some q =>
        rw [hf] at h
        cases h
        obtain ⟨h1, h2, h3⟩ := ih hf
        exact ⟨by rw [List.cons_append, ← h1], h2, by simpa [e] using h3⟩
theorem dfind_at {t : Int} {ys zs : List DN} {z : DN} (h : ∀ x ∈ ys, x.t ≠ t) (hz : z.t = t) : dfind t (ys ++ z :: zs) = some (ys, z, zs) := by
  induction ys with
  | nil => simp [dfind, hz]
  | cons y ys ih =>
    have h1 : y.t ≠ t := h y (by simp)
    simp [dfind, h1, ih (fun x hx => h x (by simp [hx]))]

def findAns (d : Nat) (r : Option (List DN × DN × List DN)) : Value := match r with
  | none => .tuple #[.pointer none, .int .u32 0]
  | some r => .tuple #[.pointer (some (dlink ⟨d, 0, none⟩ r.1)), .int .u32 r.2.1.a]

theorem wrap_u32 {a b : Int} (h : a + (b - a) = b) (h0 : 0 ≤ b) (h1 : b ≤ 4294967295) : IntKind.u32.wrap (a + (b - a)) = b := by
  rw [h, IntKind.wrap_u32]; omega

set_option maxRecDepth 100000 in
set_option maxHeartbeats 1000000 in
theorem dfind_nil (t : Int) (w : World) : Calls Try.prog 33 #[.pointer none, .int .i64 t] w fun e w' => e = .returned (.tuple #[.pointer none, .int .u32 0]) ∧ w = w' := by
  go_enter Try.func33, Try.ntmps33
  go_wp2
  go_step3
  go_wp2
  rw [Exit.noGoto_ret]
  go_ret2
  exact ⟨rfl, rfl⟩

set_option maxRecDepth 100000 in
set_option maxHeartbeats 1000000 in
theorem dfind_any {w : World} {d : Nat} {xs : List DN} (t : Int) (h : DL w d xs) :
    Calls Try.prog 33 #[.pointer (some ⟨d, 0, none⟩), .int .i64 t] w fun e w' => e = .returned (findAns d (dfind t xs)) ∧ w = w' := by
  go_enter Try.func33, Try.ntmps33
  go_wp2
  refine wp_scope_ghost 0 (fun n a' w' => w' = w ∧ ∃ (ys zs : List DN) (u2 u3 u6 u7 u8 u9 u10 u11 u12 u13 u14 u15 u16 u17 u18 u19 u20 u21 u22 u23 u24 u25 u26 u27 u28 u29 u30 u31 u32 u33 u34 u35 u36 u37 : Value), n = zs.length ∧ a' = { tmps := #[.pointer (some ⟨d, 0, none⟩), .int .i64 t, u2, u3, .pointer (some (dlink ⟨d, 0, none⟩ ys)), .int .u32 (dlast 0 ys), u6, u7, u8, u9, u10, u11, u12, u13, u14, u15, u16, u17, u18, u19, u20, u21, u22, u23, u24, u25, u26, u27, u28, u29, u30, u31, u32, u33, u34, u35, u36, u37], defers := [] } ∧ xs = ys ++ zs ∧ ∀ x ∈ ys, x.t ≠ t) rfl ?_ ?_
  · rintro n a' w' ⟨rfl, ys, zs, _, _, _, _, _, _, _, _, _, _, _, _, _, _, _, _, _, _, _, _, _, _, _, _, _, _, _, _, _, _, _, _, _, _, rfl, rfl, rfl, hys⟩
    have hl := h.link (ys := ys) (zs := zs) rfl
    have HL := Lib.hid h
    cases zs with
    | nil =>
      have hf : dfind t (ys ++ []) = none := by rw [dfind_none]; simpa using hys
      have HF := Lib.hid hf
      simp only [dfirst, dfirstN] at hl
      clear h hf
      go_wp2
      simp only [Exit.jump]
      go_ret2
      exact ⟨by rw [HF.out]; rfl, rfl⟩
    | cons z zs =>
      have hn := DSeg.node h.seg
      obtain ⟨n0, n1, n2⟩ := cells3 hn
      have hs := DSorted.node h.sorted
      have hp := DSorted.last (ys := ys) h.sorted (by omega)
      have hw : IntKind.u32.wrap (dlast 0 ys + (z.a - dlast 0 ys)) = z.a := wrap_u32 (by omega) (by omega) (by omega)
      simp only [dfirst, dfirstN, dptr] at hl
      clear h hn
      by_cases e : z.t = t
      · have hf := dfind_at (zs := zs) hys e
        have HF := Lib.hid hf
        have e1 : (z.t == t) = true := by simpa using e
        have e2 : (z.t != t) = false := by simpa using e
        clear hf e
        go_wp2
        simp only [Exit.jump]
        go_ret2
        refine ⟨?_, rfl⟩
        rw [HF.out]
        simp [findAns]
      · have e1 : (z.t == t) = false := by simpa using e
        have e2 : (z.t != t) = true := by simpa using e
        clear e
        go_wp2
        go_step3
        refine ⟨rfl, zs.length, by simp, rfl, ys ++ [z], zs, _, _, _, _, _, _, _, _, _, _, _, _, _, _, _, _, _, _, _, _, _, _, _, _, _, _, _, _, _, _, _, _, _, _, rfl, by rw [dlink_append, dlast_append], by simp, ?_⟩
        intro x hx
        rcases List.mem_append.1 hx with h1 | h1
        · exact hys x h1
        · simp at h1; subst h1; simpa using e1
  · intro HP
    go_wp2
    go_step3
    go_step
    go_step
    exact HP.out xs.length _ _ ⟨rfl, [], xs, _, _, _, _, _, _, _, _, _, _, _, _, _, _, _, _, _, _, _, _, _, _, _, _, _, _, _, _, _, _, _, _, _, _, rfl, rfl, rfl, by simp⟩
end Go.Proofs.Ytgmdhjlbedgafaa
