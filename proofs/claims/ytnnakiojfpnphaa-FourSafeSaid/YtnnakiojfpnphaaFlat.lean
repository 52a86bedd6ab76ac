/- Rows of elements of several cells: what lies where. -/
import Derived.Test.YtnnakiojfpnphaaCF7
set_option linter.unusedVariables false
set_option linter.unusedSimpArgs false
namespace Go.Proofs.Ytnnakiojfpnphaa
open Go.RowKit
theorem pw7_le {n : Int} (h : pw7 n = true) : n ≤ 64 := by
  simp [pw7] at h
  omega
theorem flat_get {α : Type} (f : α → List Value) (sz : Nat) (hl : ∀ x, (f x).length = sz) : ∀ (xs : List α) (i : Nat) (hi : i < xs.length) (j : Nat) (v : Value), (f xs[i])[j]? = some v → (xs.flatMap f)[i * sz + j]? = some v
  | [], i, hi, _, _, _ => by simp at hi
  | x :: xs, 0, hi, j, v, h => by
    simp only [List.getElem_cons_zero] at h
    rw [List.flatMap_cons, Nat.zero_mul, Nat.zero_add, List.getElem?_append_left (List.getElem?_eq_some_iff.1 h).1]
    exact h
  | x :: xs, i + 1, hi, j, v, h => by
    have e : (i + 1) * sz = i * sz + sz := by rw [Nat.add_mul, Nat.one_mul]
    rw [List.flatMap_cons, List.getElem?_append_right (by rw [hl, e]; omega), hl, show (i + 1) * sz + j - sz = i * sz + j by omega]
    exact flat_get f sz hl xs i (by simpa using hi) j v (by simpa using h)
theorem flat_inv {α : Type} (f : α → List Value) (sz : Nat) (hl : ∀ x, (f x).length = sz) : ∀ (xs : List α) (j : Nat) (u : Value), (xs.flatMap f)[j]? = some u → ∃ (i : Nat) (hi : i < xs.length) (k : Nat), j = i * sz + k ∧ (f xs[i])[k]? = some u
  | [], j, u, h => by simp at h
  | x :: xs, j, u, h => by
    rw [List.flatMap_cons] at h
    by_cases hj : j < sz
    · rw [List.getElem?_append_left (by rw [hl]; exact hj)] at h
      exact ⟨0, by simp, j, by omega, h⟩
    · rw [List.getElem?_append_right (by rw [hl]; omega), hl] at h
      obtain ⟨i, hi, k, e, hk⟩ := flat_inv f sz hl xs (j - sz) u h
      refine ⟨i + 1, by simpa using hi, k, ?_, by simpa using hk⟩
      rw [Nat.add_mul, Nat.one_mul]
      omega
theorem flat_own {α : Type} (f : α → List Value) {sz : Nat} (hl : ∀ x, (f x).length = sz) {w : World} {base n : Nat} {e : TypeId} {v : Value} {xs : List α} (h : w.ownsRow base e sz v n (xs.flatMap f)) (hn : n = xs.length) : ∃ a cap, v = .slice a xs.length cap ∧ (a = none → cap = 0) ∧ Els w a sz (xs.map f) := by
  subst hn
  obtain ⟨a, cap, e1, h0, h1⟩ := own_shape h
  refine ⟨a, cap, e1, h0, fun hp => ?_⟩
  obtain ⟨b, off, e2, hb, hc⟩ := h1 (by simpa using hp)
  refine ⟨b, off, e2, hb, fun i hi j u hu => ?_⟩
  have := hc _ _ (flat_get f sz hl xs i (by simpa using hi) j u (by simpa using hu))
  rw [← Nat.add_assoc] at this
  exact this
theorem slice_els {α : Type} {e : Sh} {w : World} {v : Value} (f : α → List Value) (dec : ∀ cs, e.ok w cs → ∃ x, cs = f x) (h : (Sh.slice e).okV w v) : ∃ (a : Option Addr) (cap : Nat) (xs : List α), v = .slice a xs.length cap ∧ xs.length ≤ cap ∧ cap ≤ maxLen ∧ Els w a e.size (xs.map f) := by
  obtain ⟨a, len, cap, hv, hlc, hcm, g, hf, hm, h0⟩ : (Sh.slice e).ok w [v] := h
  obtain rfl : v = .slice a len cap := by simpa using hv
  obtain ⟨xs, hl, hx⟩ := list_of len (fun i x => g i = f x) (fun i hi => by
    obtain ⟨x, hx⟩ := dec _ (hf i hi).1
    exact ⟨x, hx⟩)
  subst hl
  refine ⟨a, cap, xs, rfl, hlc, hcm, fun hp => ?_⟩
  obtain ⟨b, off, e1, hb, hc⟩ := hm (by simpa using hp)
  refine ⟨b, off, e1, hb, fun i hi j u hu => ?_⟩
  have hi' : i < xs.length := by simpa using hi
  exact hc i hi' j u (by rw [hx i hi']; simpa using hu)
end Go.Proofs.Ytnnakiojfpnphaa
