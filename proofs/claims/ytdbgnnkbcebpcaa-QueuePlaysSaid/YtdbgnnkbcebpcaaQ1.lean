/- Package queue: the ring of waits in memory, and what the document says of it, as plain functions. -/
import Derived.Test.YtdbgnnkbcebpcaaApp
set_option linter.unusedVariables false
set_option linter.unusedSimpArgs false
namespace Go.Proofs.Ytdbgnnkbcebpcaa
open Go.RowKit

/-- A wait. -/
structure QW where
  (t k o m : Int)
  deriving DecidableEq
def QW.cells (x : QW) : List Value := [.int .i64 x.t, .int .i64 x.k, .int .i64 x.o, .int .u32 x.m]
def QW.A (x : QW) : Array Value := #[.int .i64 x.t, .int .i64 x.k, .int .i64 x.o, .int .u32 x.m]
theorem qw_len (x : QW) : x.cells.length = 4 := rfl
/-- A link: its block, and its wait. -/
structure QN where
  b : Nat
  w : QW
def qptr (b : Nat) : Value := .pointer (some ⟨b, 0, none⟩)
def qhd (q : Nat) : List QN → Nat
  | [] => q
  | x :: _ => x.b
def qlast (p : Nat) : List QN → Nat
  | [] => p
  | x :: xs => qlast x.b xs
theorem qlast_append (p : Nat) (xs : List QN) (y : QN) : qlast p (xs ++ [y]) = y.b := by
  induction xs generalizing p with
  | nil => rfl
  | cons x xs ih => exact ih _
theorem qlast_app (p : Nat) (xs ys : List QN) : qlast p (xs ++ ys) = qlast (qlast p xs) ys := by
  induction xs generalizing p with
  | nil => rfl
  | cons x xs ih => exact ih _
theorem qhd_app (q : Nat) (xs ys : List QN) : qhd q (xs ++ ys) = qhd (qhd q ys) xs := by cases xs <;> rfl
theorem qlast_mem (p : Nat) (xs : List QN) : qlast p xs = p ∨ qlast p xs ∈ xs.map QN.b := by
  induction xs generalizing p with
  | nil => exact .inl rfl
  | cons x xs ih =>
    rcases ih x.b with h | h
    · exact .inr (by simp only [qlast]; rw [h]; simp)
    · exact .inr (by simp only [qlast, List.map_cons, List.mem_cons]; exact .inr h)
theorem qhd_mem (q : Nat) (xs : List QN) : qhd q xs = q ∨ qhd q xs ∈ xs.map QN.b := by
  cases xs with
  | nil => exact .inl rfl
  | cons x xs => exact .inr (by simp [qhd])

/-- The links from one on: each knows the one ahead and the next one; nx: the block behind the last. -/
def QSeg (w : World) (nx : Nat) : Nat → List QN → Prop
  | _, [] => True
  | p, x :: xs => w.heap[x.b]? = some (.cells #[.int .i64 x.w.t, .int .i64 x.w.k, .int .i64 x.w.o, .int .u32 x.w.m, qptr p, qptr (qhd nx xs)] 54) ∧ QSeg w nx x.b xs
theorem QSeg.split {w : World} {nx p : Nat} {ys zs : List QN} : QSeg w nx p (ys ++ zs) ↔ QSeg w (qhd nx zs) p ys ∧ QSeg w nx (qlast p ys) zs := by
  induction ys generalizing p with
  | nil => simp [QSeg, qlast]
  | cons y ys ih =>
    rw [List.cons_append]
    simp only [QSeg, qlast]
    rw [ih, qhd_app, and_assoc]
theorem QSeg.frame {w w' : World} {nx p : Nat} {xs : List QN} (h : QSeg w nx p xs) (hf : ∀ x ∈ xs, w'.heap[x.b]? = w.heap[x.b]?) : QSeg w' nx p xs := by
  induction xs generalizing p with
  | nil => trivial
  | cons x xs ih => exact ⟨by rw [hf x (by simp)]; exact h.1, ih h.2 fun y hy => hf y (by simp [hy])⟩
theorem QSeg.lt {w : World} {nx p : Nat} {xs : List QN} (h : QSeg w nx p xs) : ∀ x ∈ xs, x.b < w.heap.size := by
  induction xs generalizing p with
  | nil => simp
  | cons x xs ih =>
    intro y hy
    rcases List.mem_cons.1 hy with rfl | hy
    · exact heap_lt h.1
    · exact ih h.2 y hy
/-- The last link's next one turned. -/
theorem QSeg.setNext {w : World} {nx p : Nat} {xs : List QN} {y : QN} (h : QSeg w nx p (xs ++ [y])) (hn : ∀ x ∈ xs, x.b ≠ y.b) (g : Nat) : QSeg (w.setCell ⟨y.b, 5, none⟩ (qptr g)) g p (xs ++ [y]) := by
  rw [QSeg.split] at h ⊢
  refine ⟨h.1.frame fun x hx => heap_set_other _ _ _ (hn x hx), ?_, trivial⟩
  rw [heap_set h.2.1]
  rfl
/-- The first link's one ahead turned. -/
theorem QSeg.setAhead {w : World} {nx p : Nat} {xs : List QN} {y : QN} (h : QSeg w nx p (y :: xs)) (hn : ∀ x ∈ xs, x.b ≠ y.b) (g : Nat) : QSeg (w.setCell ⟨y.b, 4, none⟩ (qptr g)) nx g (y :: xs) := by
  refine ⟨?_, h.2.frame fun x hx => heap_set_other _ _ _ (hn x hx)⟩
  rw [heap_set h.1]
  rfl

/-- The ring: the queue's own link stands behind the last and ahead of the first. -/
structure QL (w : World) (q : Nat) (xs : List QN) : Prop where
  hd : ∃ va vn, w.heap[q]? = some (.cells #[.int .i64 0, .int .i64 0, .int .i64 0, .int .u32 0, va, vn, .int .i64 xs.length] 56) ∧ (xs ≠ [] → va = qptr (qlast q xs) ∧ vn = qptr (qhd q xs))
  seg : QSeg w q q xs
  nodup : (q :: xs.map QN.b).Nodup
theorem QL.lt {w : World} {q : Nat} {xs : List QN} (h : QL w q xs) : ∀ k ∈ q :: xs.map QN.b, k < w.heap.size := by
  intro k hk
  obtain ⟨va, vn, hh, _⟩ := h.hd
  rcases List.mem_cons.1 hk with rfl | hk
  · exact heap_lt hh
  · obtain ⟨x, hx, rfl⟩ := List.mem_map.1 hk
    exact h.seg.lt x hx
theorem QL.frame {w w' : World} {q : Nat} {xs : List QN} (h : QL w q xs) (hf : ∀ k ∈ q :: xs.map QN.b, w'.heap[k]? = w.heap[k]?) : QL w' q xs := by
  obtain ⟨va, vn, hh, he⟩ := h.hd
  exact ⟨⟨va, vn, by rw [hf q (by simp)]; exact hh, he⟩, h.seg.frame fun x hx => hf x.b (by simp; exact .inr ⟨x, hx, rfl⟩), h.nodup⟩
theorem QL.upd {w w' : World} {S : List Nat} {q : Nat} {xs : List QN} (h : QL w q xs) (hu : Upd S w w') (hS : ∀ k ∈ q :: xs.map QN.b, k ∉ S) : QL w' q xs :=
  h.frame fun k hk => hu.block k (h.lt k hk) (hS k hk)

/-! What is asked of the waits. -/
def qidx (t : Int) (xs : List QW) : Option Nat := xs.findIdx? (fun x => x.t == t)
def qfind (t : Int) (xs : List QW) : Option QW := xs.find? (fun x => x.t == t)
def qaddB (x : QW) (xs : List QW) : Bool := decide (0 ≤ x.t) && decide (x.t < 16) && (qidx x.t xs).isNone
def qadd (x : QW) (xs : List QW) : List QW := if qaddB x xs then xs ++ [x] else xs
def qrem (t : Int) (xs : List QW) : List QW := match qidx t xs with | some i => xs.eraseIdx i | none => xs
def qnext (t : Int) (xs : List QW) : Option QW := match qidx t xs with | some i => xs[i + 1]? | none => xs[0]?
def qof (o : Int) (xs : List QW) : List QW := xs.filter fun x => x.o == o
def QW.zero : QW := ⟨0, 0, 0, 0⟩
def qor (x : Option QW) : QW := x.getD .zero
end Go.Proofs.Ytdbgnnkbcebpcaa
