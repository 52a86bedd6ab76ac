/- The document's queue (ref25): rows of waits; Place, Next, Of, Same; the law's back. -/
import Derived.Test.YtdbgnnkbcebpcaaQE1
import Derived.Test.YtdbgnnkbcebpcaaOwn2
import Derived.Test.YtdbgnnkbcebpcaaApp
set_option linter.unusedVariables false
set_option linter.unusedSimpArgs false
namespace Go.Proofs.Ytdbgnnkbcebpcaa
open Go.RowKit

def flatW (xs : List QW) : List Value := xs.flatMap QW.cells
theorem flatW_snoc (xs : List QW) (x : QW) : flatW (xs ++ [x]) = flatW xs ++ x.cells := by simp [flatW]
theorem flatW_app (xs ys : List QW) : flatW (xs ++ ys) = flatW xs ++ flatW ys := by simp [flatW]
theorem flatW_len (xs : List QW) : (flatW xs).length = xs.length * 4 := by
  induction xs with
  | nil => rfl
  | cons x xs ih => unfold flatW at *; rw [List.flatMap_cons, List.length_append, ih, qw_len, List.length_cons]; omega
theorem flatW_at : ∀ (xs : List QW) (i : Nat) (hi : i < xs.length) (j : Nat) (v : Value), xs[i].cells[j]? = some v → (flatW xs)[i * 4 + j]? = some v
  | [], i, hi, _, _, _ => by simp at hi
  | x :: xs, 0, hi, j, v, h => by
    simp only [List.getElem_cons_zero] at h
    unfold flatW
    rw [List.flatMap_cons, Nat.zero_mul, Nat.zero_add, List.getElem?_append_left (List.getElem?_eq_some_iff.1 h).1]
    exact h
  | x :: xs, i + 1, hi, j, v, h => by
    have e : (i + 1) * 4 = i * 4 + 4 := by omega
    unfold flatW
    rw [List.flatMap_cons, List.getElem?_append_right (by rw [qw_len, e]; omega), qw_len, show (i + 1) * 4 + j - 4 = i * 4 + j by omega]
    exact flatW_at xs i (by simpa using hi) j v (by simpa using h)
theorem flatW_one (xs : List QW) : ∀ u ∈ flatW xs, u.oneCell' = true := by
  intro u hu
  unfold flatW at hu
  simp only [List.mem_flatMap] at hu
  obtain ⟨x, _, hx⟩ := hu
  simp [QW.cells] at hx
  rcases hx with rfl | rfl | rfl | rfl <;> rfl
/-- A row of waits that the call made. -/
def RQ (e : TypeId) (w : World) (v : Value) (xs : List QW) : Prop := w.ownsRow 0 e 4 v xs.length (flatW xs)
section
variable {e : TypeId} {w w' : World} {v : Value} {xs : List QW}
theorem RQ.upd (h : RQ e w v xs) (hu : Upd [] w w') : RQ e w' v xs := own_upd h hu (fun k _ hm => by cases hm)
theorem RQ.nil : RQ e w (.slice none 0 0) [] := own_none
theorem RQ.shape (h : RQ e w v xs) : ∃ a cap, v = .slice a xs.length cap ∧ (a = none → cap = 0) := by
  obtain ⟨a, cap, e, h1, _⟩ := own_shape h
  exact ⟨a, cap, e, h1⟩
theorem RQ.src {a : Option Addr} {cap : Nat} (h : RQ e w (.slice a xs.length cap) xs) (hu : Upd [] w w') : 0 < xs.length → ∃ b off, a = some ⟨b, off, none⟩ ∧ ∀ j u, (flatW xs)[j]? = some u → w'.cell? ⟨b, off + j, none⟩ = some u := fun h0 => by
  obtain ⟨a', cap', e, _, hc⟩ := own_shape (h.upd hu)
  simp only [Value.slice.injEq, true_and] at e
  obtain ⟨rfl, rfl⟩ := e
  obtain ⟨b, off, e, hb, hcc⟩ := hc h0
  exact ⟨b, off, e, hcc⟩
theorem RQ.at (h : RQ e w v xs) {i : Nat} (hi : i < xs.length) : ∃ b cap, v = .slice (some ⟨b, 0, none⟩) xs.length cap ∧ xs.length ≤ cap ∧ b < w.heap.size ∧ ∀ (j : Nat) u, xs[i].cells[j]? = some u → w.cell? ⟨b, i * 4 + j, none⟩ = some u := by
  have h0 := h
  rcases h.2 with ⟨rfl, h1⟩ | ⟨g, cap, cur, rfl, _, hg, hx⟩
  · omega
  · refine ⟨g, cap, rfl, hx.1, heap_lt hg, fun j u hj => ?_⟩
    obtain ⟨a', cap', e', _, hc⟩ := own_shape h0
    simp only [Value.slice.injEq, true_and] at e'
    obtain ⟨rfl, rfl⟩ := e'
    obtain ⟨b, off, e2, _, hcc⟩ := hc (by omega)
    simp at e2
    obtain ⟨rfl, rfl⟩ := e2
    have := hcc _ _ (flatW_at xs i hi j u hj)
    rw [Nat.zero_add] at this
    exact this
end
/-- Where a task is, from k on. -/
def qpl (t : Int) : Nat → List QW → Int
  | _, [] => -1
  | k, x :: xs => if x.t = t then (k : Int) else qpl t (k + 1) xs
theorem qpl_none {t : Int} : ∀ (L : List QW) (k : Nat), (∀ x ∈ L, x.t ≠ t) → qpl t k L = -1
  | [], _, _ => rfl
  | x :: xs, k, h => by
    unfold qpl
    rw [if_neg (h x (by simp))]
    exact qpl_none xs (k + 1) (fun y hy => h y (by simp [hy]))
theorem qpl_some {t : Int} {x : QW} (hx : x.t = t) : ∀ (ys zs : List QW) (k : Nat), (∀ x ∈ ys, x.t ≠ t) → qpl t k (ys ++ x :: zs) = k + ys.length
  | [], zs, k, _ => by simp [qpl, hx]
  | y :: ys, zs, k, h => by
    show qpl t k (y :: (ys ++ x :: zs)) = _
    unfold qpl
    rw [if_neg (h y (by simp)), qpl_some hx ys zs (k + 1) (fun x hx => h x (by simp [hx]))]
    simp
    omega
section
variable {w : World} {v : Value} {L : List QW}
set_option maxRecDepth 100000 in
set_option maxHeartbeats 1000000 in
theorem rqplace_c (t : Int) (h : RQ 58 w v L) (hl : L.length ≤ 1000) :
    Calls Try.prog 24 #[v, .int .i64 t] w fun e w' => e = .returned (.int .i64 (qpl t 0 L)) ∧ Upd [] w w' := by
  obtain ⟨a, cap, rfl, -⟩ := h.shape
  have HR := Lib.hid h
  have HL := Lib.hid hl
  clear h hl
  go_enter Try.func24, Try.ntmps24
  go_wp2
  go_loopg [5] L.length (fun n i wr => ∃ j : Nat, n + j = L.length ∧ i = .int .i64 j ∧ qpl t 0 L = qpl t j (L.drop j) ∧ wr = w)
  case atStart => exact ⟨0, by omega, rfl, rfl, rfl⟩
  case round =>
    obtain ⟨j, hj, rfl, hp, rfl⟩ := hrel
    have HJ := Lib.hid hj
    have HP := Lib.hid hp
    by_cases hlt : j < L.length
    · obtain ⟨b, cap', hv, _, hb, hc⟩ := HR.out.at hlt
      simp only [Value.slice.injEq, true_and] at hv
      obtain ⟨rfl, rfl⟩ := hv
      have c0 := hc 0 _ rfl
      rw [Nat.add_zero] at c0
      have hdr : qpl t j (L.drop j) = if L[j].t = t then (j : Int) else qpl t (j + 1) (L.drop (j + 1)) := by
        rw [List.drop_eq_getElem_cons hlt]
        rfl
      have HD := Lib.hid hdr
      have b1 : (0 : Int) ≤ (j : Int) := by omega
      have b2 : (j : Int) < (L.length : Int) := by omega
      clear hc hdr hj hp
      by_cases ht : L[j].t = t
      · have q : (L[j].t == t) = true := by simpa using ht
        go_wp2
        go_ret
        refine ⟨congrArg Ending.returned (congrArg (Value.int IntKind.i64) ?_), Upd.refl _ _⟩
        rw [HP.out, HD.out, if_pos ht]
      · have q : (L[j].t == t) = false := by simpa using ht
        go_wp2
        have hw : wrap64 ((j : Int) + 1) = ((j + 1 : Nat) : Int) := by have := HL.out; unfold wrap64; omega
        go_roundg (L.length - (j + 1))
        case rel => exact ⟨j + 1, by have := HJ.out; omega, by rw [hw], by rw [HP.out, HD.out, if_neg ht], rfl⟩
        case measure => have := HJ.out; omega
    · obtain rfl : j = L.length := by omega
      go_wp2
      go_ret
      refine ⟨congrArg Ending.returned (congrArg (Value.int IntKind.i64) ?_), Upd.refl _ _⟩
      rw [HP.out]
      simp [qpl]
def qsame : List QW → List QW → Bool
  | [], [] => true
  | x :: xs, y :: ys => qeq x y && qsame xs ys
  | _, _ => false
theorem qsame_iff : ∀ {xs ys : List QW}, qsame xs ys = true ↔ xs = ys
  | [], [] => by simp [qsame]
  | x :: xs, y :: ys => by simp [qsame, qeq_iff, qsame_iff (xs := xs) (ys := ys)]
  | [], y :: ys => by simp [qsame]
  | x :: xs, [] => by simp [qsame]
set_option maxRecDepth 100000 in
set_option maxHeartbeats 2000000 in
theorem rqsame_c {v1 v2 : Value} (h1 : RQ 58 w v1 L) (h2 : RQ 58 w v2 L) (hl : L.length ≤ 1000) :
    Calls Try.prog 25 #[v1, v2] w fun e w' => e = .returned (.bool true) ∧ Upd [] w w' := by
  obtain ⟨a, cap, rfl, -⟩ := h1.shape
  obtain ⟨a2, cap2, rfl, -⟩ := h2.shape
  have H1 := Lib.hid h1
  have H2 := Lib.hid h2
  have HL := Lib.hid hl
  have hq := neq_rwait
  clear h1 h2 hl
  go_enter Try.func25, Try.ntmps25
  go_wp2
  go_loopg [5] L.length (fun n i wr => ∃ j d : Nat, n + j = L.length ∧ i = .int .i64 j ∧ wr = w.drewN d)
  case atStart => exact ⟨0, 0, by omega, rfl, rfl⟩
  case round =>
    obtain ⟨j, d, hj, rfl, rfl⟩ := hrel
    have HJ := Lib.hid hj
    by_cases hlt : j < L.length
    · obtain ⟨b, cap', hv, _, hb, hc⟩ := H1.out.at hlt
      simp only [Value.slice.injEq, true_and] at hv
      obtain ⟨rfl, rfl⟩ := hv
      obtain ⟨b', cap'', hv, _, hb', hc'⟩ := H2.out.at hlt
      simp only [Value.slice.injEq, true_and] at hv
      obtain ⟨rfl, rfl⟩ := hv
      have c0 := hc 0 _ rfl
      have c1 := hc 1 _ rfl
      have c2 := hc 2 _ rfl
      have c3 := hc 3 _ rfl
      have e0 := hc' 0 _ rfl
      have e1 := hc' 1 _ rfl
      have e2 := hc' 2 _ rfl
      have e3 := hc' 3 _ rfl
      rw [Nat.add_zero] at c0 e0
      have b1 : (0 : Int) ≤ (j : Int) := by omega
      have b2 : (j : Int) < (L.length : Int) := by omega
      have HRF := Lib.hid (qeq_refl L[j])
      have hrf := qeq_refl L[j]
      generalize L[j] = z at *
      obtain ⟨z0, z1, z2, z3⟩ := z
      clear hc hc' hj
      simp only at c0 c1 c2 c3 e0 e1 e2 e3
      go_wp2
      go_region
      go_wp2
      have hw : wrap64 ((j : Int) + 1) = ((j + 1 : Nat) : Int) := by have := HL.out; unfold wrap64; omega
      go_roundg (L.length - (j + 1))
      case rel => exact ⟨j + 1, d + 1, by have := HJ.out; omega, by rw [hw], by simp⟩
      case measure => have := HJ.out; omega
    · obtain rfl : j = L.length := by omega
      go_wp2
      go_ret
      exact ⟨rfl, (Upd.refl _ _).drewN _⟩
end
end Go.Proofs.Ytdbgnnkbcebpcaa
