/- The walk, part 3: Gr App. -/
import Derived.Test.YtnnakiojfpnphaaZi01
set_option linter.unusedVariables false
set_option linter.unusedSimpArgs false

namespace Go.Proofs.Ytnnakiojfpnphaa
open Go.RowKit Go.Sort

/-- A world behind a callee that only lays blocks (and draws). -/
def gr (w : World) (p : Regrown) : World := grow (redrawn w p.d) p.os
theorem Upd.grown {w w' : World} (h : Upd [] w w') : ∃ p : Regrown, w' = gr w p := regrown_of_below (h.below (Nat.le_refl _) (by simp))
theorem upd_gr (w : World) (p : Regrown) : Upd [] w (gr w p) := Upd.of_below (below_regrown w p.d p.os) []
/-! A block lies below a sum that begins with it. -/
@[simp, go_sem] theorem lt_sum1 (a : Nat) : (a < a + 1) = True := by simp; try omega
@[simp, go_sem] theorem lt_sum2 (a x1 : Nat) : (a < a + 1 + x1) = True := by simp; try omega
@[simp, go_sem] theorem lt_sum3 (a x1 x2 : Nat) : (a < a + 1 + x1 + x2) = True := by simp; try omega
@[simp, go_sem] theorem lt_sum4 (a x1 x2 x3 : Nat) : (a < a + 1 + x1 + x2 + x3) = True := by simp; try omega
@[simp, go_sem] theorem lt_sum5 (a x1 x2 x3 x4 : Nat) : (a < a + 1 + x1 + x2 + x3 + x4) = True := by simp; try omega
@[simp, go_sem] theorem lt_sum6 (a x1 x2 x3 x4 x5 : Nat) : (a < a + 1 + x1 + x2 + x3 + x4 + x5) = True := by simp; try omega
@[simp, go_sem] theorem lt_sum7 (a x1 x2 x3 x4 x5 x6 : Nat) : (a < a + 1 + x1 + x2 + x3 + x4 + x5 + x6) = True := by simp; try omega
@[simp, go_sem] theorem lt_sum8 (a x1 x2 x3 x4 x5 x6 x7 : Nat) : (a < a + 1 + x1 + x2 + x3 + x4 + x5 + x6 + x7) = True := by simp; try omega
@[simp, go_sem] theorem lt_sum9 (a x1 x2 x3 x4 x5 x6 x7 x8 : Nat) : (a < a + 1 + x1 + x2 + x3 + x4 + x5 + x6 + x7 + x8) = True := by simp; try omega
@[simp, go_sem] theorem lt_sum10 (a x1 x2 x3 x4 x5 x6 x7 x8 x9 : Nat) : (a < a + 1 + x1 + x2 + x3 + x4 + x5 + x6 + x7 + x8 + x9) = True := by simp; try omega
@[simp, go_sem] theorem lt_more1 {a b : Nat} (x0 : Nat) (h : a < b) : (a < b + x0) = True := by simp; omega
@[simp, go_sem] theorem lt_more2 {a b : Nat} (x0 x1 : Nat) (h : a < b) : (a < b + x0 + x1) = True := by simp; omega
@[simp, go_sem] theorem lt_more3 {a b : Nat} (x0 x1 x2 : Nat) (h : a < b) : (a < b + x0 + x1 + x2) = True := by simp; omega
@[simp, go_sem] theorem lt_more4 {a b : Nat} (x0 x1 x2 x3 : Nat) (h : a < b) : (a < b + x0 + x1 + x2 + x3) = True := by simp; omega
@[simp, go_sem] theorem lt_more5 {a b : Nat} (x0 x1 x2 x3 x4 : Nat) (h : a < b) : (a < b + x0 + x1 + x2 + x3 + x4) = True := by simp; omega
@[simp, go_sem] theorem lt_more6 {a b : Nat} (x0 x1 x2 x3 x4 x5 : Nat) (h : a < b) : (a < b + x0 + x1 + x2 + x3 + x4 + x5) = True := by simp; omega
@[simp, go_sem] theorem lt_more7 {a b : Nat} (x0 x1 x2 x3 x4 x5 x6 : Nat) (h : a < b) : (a < b + x0 + x1 + x2 + x3 + x4 + x5 + x6) = True := by simp; omega
@[simp, go_sem] theorem lt_more8 {a b : Nat} (x0 x1 x2 x3 x4 x5 x6 x7 : Nat) (h : a < b) : (a < b + x0 + x1 + x2 + x3 + x4 + x5 + x6 + x7) = True := by simp; omega
@[simp, go_sem] theorem lt_more9 {a b : Nat} (x0 x1 x2 x3 x4 x5 x6 x7 x8 : Nat) (h : a < b) : (a < b + x0 + x1 + x2 + x3 + x4 + x5 + x6 + x7 + x8) = True := by simp; omega
section
variable (w : World) (p : Regrown)
@[simp, go_sem] theorem size_gr : (gr w p).heap.size = w.heap.size + p.os.size := by simp [gr, redrawn]
theorem heap_gr {k : Nat} (h : k < w.heap.size) : (gr w p).heap[k]? = w.heap[k]? := (below_regrown w p.d p.os).block k h
@[simp, go_sem] theorem cell?_gr {a : Addr} (h : a.block < w.heap.size) : (gr w p).cell? a = w.cell? a := (upd_gr w p).cell h (by simp)
@[simp, go_sem] theorem frozen?_gr {a : Addr} (h : a.block < w.heap.size) : (gr w p).frozen? a = w.frozen? a := (upd_gr w p).frozen h (by simp)
@[simp, go_sem] theorem setCell_gr {a : Addr} (v : Value) (h : a.block < w.heap.size) : (gr w p).setCell a v = gr (w.setCell a v) p := by
  unfold gr grow redrawn World.setCell
  simp only [World.mk.injEq, and_true, true_and]
  apply Array.ext_getElem?
  intro k
  simp only [Array.getElem?_modify, Array.getElem?_append, Array.size_modify]
  split <;> (try split) <;> first | rfl | omega | skip
  all_goals simp_all
@[simp, go_sem] theorem drew_gr : gr w.drew p = gr w p := rfl
@[simp, go_sem] theorem gr_drew : (gr w p).drew = gr w ⟨p.d + 1, p.os⟩ := rfl
@[simp, go_sem] theorem gr_gr (q : Regrown) : gr (gr w p) q = gr w ⟨q.d, p.os ++ q.os⟩ := by
  unfold gr grow redrawn
  simp [Array.append_assoc]
theorem gr_some {a : Addr} {v : Value} (h : w.cell? a = some v) : (gr w p).cell? a = some v := cell_regrown h _ _
end
end Go.Proofs.Ytnnakiojfpnphaa
namespace Go.Proofs.Ytnnakiojfpnphaa
open Go.RowKit

theorem wrap_next {j l : Nat} (h : l ≤ 1000000) (h2 : j < l) : wrap64 ((j : Int) + 1) = ((j + 1 : Nat) : Int) := by unfold wrap64; omega
theorem Upd.grE {S : List Nat} {a w : World} (h : Upd S a w) (p : Regrown) : Upd S a (gr w p) := h.trans ((upd_gr w p).mono (by simp))
theorem Upd.setB {S : List Nat} {a w : World} {b i : Nat} {v : Value} (h : Upd S a w) (hb : b ∈ S ∨ a.heap.size ≤ b) : Upd S a (w.setCell ⟨b, i, none⟩ v) := h.setCell (p := ⟨b, i, none⟩) hb v
theorem heap_grE {w : World} {p : Regrown} {k : Nat} {o : Obj} (h : w.heap[k]? = some o) : (gr w p).heap[k]? = some o := (heap_gr w p (heap_lt h)).trans h
theorem heap_drewE {w : World} {k : Nat} {o : Obj} (h : w.heap[k]? = some o) : w.drew.heap[k]? = some o := h
theorem cell_grE {w : World} {p : Regrown} {a : Addr} {v : Value} (h : w.cell? a = some v) : (gr w p).cell? a = some v := gr_some w p h
theorem cell_new_at {w : World} {g i : Nat} {c : Array Value} {t : TypeId} {v : Value} (h : g = w.heap.size) (hv : c[i]? = some v) : (w.alloc (.cells c t)).cell? ⟨g, i, none⟩ = some v := by subst h; rw [World.cell?_alloc_new]; exact hv
theorem cell_of_list {w : World} {b : Nat} {c : List Value} {t : TypeId} {f : Nat × Nat} (h : w.heap[b]? = some (.cells c.toArray t f)) (i : Nat) (v : Value) (hv : c[i]? = some v) : w.cell? ⟨b, i, none⟩ = some v := by rw [cell_of_heap h]; simpa using hv
theorem own_none {w : World} {base size : Nat} {e : TypeId} : w.ownsRow base e size (.slice none 0 0) 0 [] := ⟨by simp, .inl ⟨rfl, rfl⟩⟩

/-- append(own, x): the one element lies in a block of its own. -/
theorem wpList_push {P : Program} {w : World} {ops : Array Oper} {rest : List Oper} {o : Oper} {a : Act} {Q : Exit → Act → World → Prop} (hgd : o.guard = none) (s x : Operand) (t : TypeId)
    (ho : o.op = .call { callee := .builtin .append, args := #[s, x], argTypes := #[t, t] })
    (e : TypeId) (i : TypeInfo) (z : Value) (size bytes : Nat) (ht : P.underlying t = some (.slice e)) (hi : P.info? e = some i) (hz : i.zero = some z)
    (hsize : i.size = size) (hby : i.bytes = bytes) (hzs : z.cells.size = size) (hsz : 0 < size)
    (W wr : World) (base : Nat) (v : Value) (n : Nat) (xs : List Value) (hs : a.eval s = v) (hown : wr.ownsRow base e size v n xs) (hur : Upd [] wr w) (hu : Upd [] W wr) (hbase : W.heap.size ≤ base) (hbw : base ≤ wr.heap.size)
    (g : Nat) (news : List Value) (tg : TypeId) (fr : Nat × Nat) (hx : a.eval x = .slice (some ⟨g, 0, none⟩) 1 1) (hl : news.length = size) (hg : w.heap[g]? = some (.cells news.toArray tg fr)) (h1 : ∀ u ∈ news, u.oneCell' = true)
    (hn : n ≤ 1000000) (hbytes : bytes ≤ 100000)
    (h : ∀ v' w', w'.ownsRow base e size v' (n + 1) (xs ++ news) → Upd [] W w' → (∀ k o, k < base → w.heap[k]? = some o → w'.heap[k]? = some o) → wpList P ops Q rest (a.put o.dst v') w') : wpList P ops Q (o :: rest) a w := by
  have hown' := own_upd hown hur (fun k hk => by simp)
  have hb2 : base ≤ w.heap.size := Nat.le_trans hbw hur.size
  refine wpList_append_reads hgd s x t ho base e i z size bytes ht hi hz hsize hby hzs hsz v n xs hs hown' (some ⟨g, 0, none⟩) 1 1 news hx (by omega)
    (fun _ => ⟨g, 0, rfl, fun j u hj => ?_⟩) (fun h => by cases h) h1 (by simp only [maxLen]; omega) ?_ hb2 fun v' w' ho' hg' => ?_
  · rw [Nat.zero_add, cell_of_heap hg]
    simpa using hj
  · have : (n + 1) * bytes ≤ 1000001 * 100000 := Nat.mul_le_mul (by omega) hbytes
    omega
  · exact h v' w' ho' (own_start (hu.trans hur) hown' hg' hbase) (fun k o hk hko => grown_keep hown' hg' hko hk)
end Go.Proofs.Ytnnakiojfpnphaa
