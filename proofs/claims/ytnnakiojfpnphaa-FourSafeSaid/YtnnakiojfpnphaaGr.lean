/- Worlds grown by a callee: written out, so that the walk's own rules see through them. -/
import Derived.Test.YtnnakiojfpnphaaLaws
set_option linter.unusedVariables false
set_option linter.unusedSimpArgs false
namespace Go.Proofs.Ytnnakiojfpnphaa
open Go.RowKit Go.Sort

/-- A world behind a callee that only lays blocks (and draws). -/
def gr (w : World) (p : Regrown) : World := grow (redrawn w p.d) p.os
theorem Upd.grown {w w' : World} (h : Upd [] w w') : ∃ p : Regrown, w' = gr w p := regrown_of_below (h.below (Nat.le_refl _) (by simp))
theorem upd_gr (w : World) (p : Regrown) : Upd [] w (gr w p) := Upd.of_below (below_regrown w p.d p.os) []
/-! A block lies below a sum that begins with it. -/
@[simp, go_sem] theorem lt_sum1 (a : Nat) : (a < a + 1) = True := by simp; try omega
@[simp, go_sem] theorem lt_sum2 (a x1 : Nat) : (a < a + 1 + x1) = True := by simp; try omega
@[simp, go_sem] theorem lt_sum3 (a x1 x2 : Nat) : (a < a + 1 + x1 + x2) = True := by simp; try omega
@[simp, go_sem] theorem lt_sum4 (a x1 x2 x3 : Nat) : (a < a + 1 + x1 + x2 + x3) = True := by simp; try omega
@[simp, go_sem] theorem lt_sum5 (a x1 x2 x3 x4 : Nat) : (a < a + 1 + x1 + x2 + x3 + x4) = True := by simp; try omega
@[simp, go_sem] theorem lt_sum6 (a x1 x2 x3 x4 x5 : Nat) : (a < a + 1 + x1 + x2 + x3 + x4 + x5) = True := by simp; try omega
@[simp, go_sem] theorem lt_sum7 (a x1 x2 x3 x4 x5 x6 : Nat) : (a < a + 1 + x1 + x2 + x3 + x4 + x5 + x6) = True := by simp; try omega
@[simp, go_sem] theorem lt_sum8 (a x1 x2 x3 x4 x5 x6 x7 : Nat) : (a < a + 1 + x1 + x2 + x3 + x4 + x5 + x6 + x7) = True := by simp; try omega
@[simp, go_sem] theorem lt_sum9 (a x1 x2 x3 x4 x5 x6 x7 x8 : Nat) : (a < a + 1 + x1 + x2 + x3 + x4 + x5 + x6 + x7 + x8) = True := by simp; try omega
@[simp, go_sem] theorem lt_sum10 (a x1 x2 x3 x4 x5 x6 x7 x8 x9 : Nat) : (a < a + 1 + x1 + x2 + x3 + x4 + x5 + x6 + x7 + x8 + x9) = True := by simp; try omega
@[simp, go_sem] theorem lt_more1 {a b : Nat} (x0 : Nat) (h : a < b) : (a < b + x0) = True := by simp; omega
@[simp, go_sem] theorem lt_more2 {a b : Nat} (x0 x1 : Nat) (h : a < b) : (a < b + x0 + x1) = True := by simp; omega
@[simp, go_sem] theorem lt_more3 {a b : Nat} (x0 x1 x2 : Nat) (h : a < b) : (a < b + x0 + x1 + x2) = True := by simp; omega
@[simp, go_sem] theorem lt_more4 {a b : Nat} (x0 x1 x2 x3 : Nat) (h : a < b) : (a < b + x0 + x1 + x2 + x3) = True := by simp; omega
@[simp, go_sem] theorem lt_more5 {a b : Nat} (x0 x1 x2 x3 x4 : Nat) (h : a < b) : (a < b + x0 + x1 + x2 + x3 + x4) = True := by simp; omega
@[simp, go_sem] theorem lt_more6 {a b : Nat} (x0 x1 x2 x3 x4 x5 : Nat) (h : a < b) : (a < b + x0 + x1 + x2 + x3 + x4 + x5) = True := by simp; omega
@[simp, go_sem] theorem lt_more7 {a b : Nat} (x0 x1 x2 x3 x4 x5 x6 : Nat) (h : a < b) : (a < b + x0 + x1 + x2 + x3 + x4 + x5 + x6) = True := by simp; omega
@[simp, go_sem] theorem lt_more8 {a b : Nat} (x0 x1 x2 x3 x4 x5 x6 x7 : Nat) (h : a < b) : (a < b + x0 + x1 + x2 + x3 + x4 + x5 + x6 + x7) = True := by simp; omega
@[simp, go_sem] theorem lt_more9 {a b : Nat} (x0 x1 x2 x3 x4 x5 x6 x7 x8 : Nat) (h : a < b) : (a < b + x0 + x1 + x2 + x3 + x4 + x5 + x6 + x7 + x8) = True := by simp; omega
section
variable (w : World) (p : Regrown)
@[simp, go_sem] theorem size_gr : (gr w p).heap.size = w.heap.size + p.os.size := by simp [gr, redrawn]
theorem heap_gr {k : Nat} (h : k < w.heap.size) : (gr w p).heap[k]? = w.heap[k]? := (below_regrown w p.d p.os).block k h
@[simp, go_sem] theorem cell?_gr {a : Addr} (h : a.block < w.heap.size) : (gr w p).cell? a = w.cell? a := (upd_gr w p).cell h (by simp)
@[simp, go_sem] theorem frozen?_gr {a : Addr} (h : a.block < w.heap.size) : (gr w p).frozen? a = w.frozen? a := (upd_gr w p).frozen h (by simp)
@[simp, go_sem] theorem setCell_gr {a : Addr} (v : Value) (h : a.block < w.heap.size) : (gr w p).setCell a v = gr (w.setCell a v) p := by
  unfold gr grow redrawn World.setCell
  simp only [World.mk.injEq, and_true, true_and]
  apply Array.ext_getElem?
  intro k
  simp only [Array.getElem?_modify, Array.getElem?_append, Array.size_modify]
  split <;> (try split) <;> first | rfl | omega | skip
  all_goals simp_all
@[simp, go_sem] theorem drew_gr : gr w.drew p = gr w p := rfl
@[simp, go_sem] theorem gr_drew : (gr w p).drew = gr w ⟨p.d + 1, p.os⟩ := rfl
@[simp, go_sem] theorem gr_gr (q : Regrown) : gr (gr w p) q = gr w ⟨q.d, p.os ++ q.os⟩ := by
  unfold gr grow redrawn
  simp [Array.append_assoc]
theorem gr_some {a : Addr} {v : Value} (h : w.cell? a = some v) : (gr w p).cell? a = some v := cell_regrown h _ _
end
end Go.Proofs.Ytnnakiojfpnphaa
