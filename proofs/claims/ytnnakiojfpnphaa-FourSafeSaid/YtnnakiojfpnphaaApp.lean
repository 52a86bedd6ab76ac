/- One element appended to a row of the call's own, in a loop. -/
import Derived.Test.YtnnakiojfpnphaaOwn2
import Derived.Test.YtnnakiojfpnphaaGr
set_option linter.unusedVariables false
set_option linter.unusedSimpArgs false
namespace Go.Proofs.Ytnnakiojfpnphaa
open Go.RowKit

theorem wrap_next {j l : Nat} (h : l ≤ 1000000) (h2 : j < l) : wrap64 ((j : Int) + 1) = ((j + 1 : Nat) : Int) := by unfold wrap64; omega
theorem Upd.grE {S : List Nat} {a w : World} (h : Upd S a w) (p : Regrown) : Upd S a (gr w p) := h.trans ((upd_gr w p).mono (by simp))
theorem Upd.setB {S : List Nat} {a w : World} {b i : Nat} {v : Value} (h : Upd S a w) (hb : b ∈ S ∨ a.heap.size ≤ b) : Upd S a (w.setCell ⟨b, i, none⟩ v) := h.setCell (p := ⟨b, i, none⟩) hb v
theorem heap_grE {w : World} {p : Regrown} {k : Nat} {o : Obj} (h : w.heap[k]? = some o) : (gr w p).heap[k]? = some o := (heap_gr w p (heap_lt h)).trans h
theorem heap_drewE {w : World} {k : Nat} {o : Obj} (h : w.heap[k]? = some o) : w.drew.heap[k]? = some o := h
theorem cell_grE {w : World} {p : Regrown} {a : Addr} {v : Value} (h : w.cell? a = some v) : (gr w p).cell? a = some v := gr_some w p h
theorem cell_new_at {w : World} {g i : Nat} {c : Array Value} {t : TypeId} {v : Value} (h : g = w.heap.size) (hv : c[i]? = some v) : (w.alloc (.cells c t)).cell? ⟨g, i, none⟩ = some v := by subst h; rw [World.cell?_alloc_new]; exact hv
theorem cell_of_list {w : World} {b : Nat} {c : List Value} {t : TypeId} {f : Nat × Nat} (h : w.heap[b]? = some (.cells c.toArray t f)) (i : Nat) (v : Value) (hv : c[i]? = some v) : w.cell? ⟨b, i, none⟩ = some v := by rw [cell_of_heap h]; simpa using hv
theorem own_none {w : World} {base size : Nat} {e : TypeId} : w.ownsRow base e size (.slice none 0 0) 0 [] := ⟨by simp, .inl ⟨rfl, rfl⟩⟩

/-- append(own, x): the one element lies in a block of its own. -/
theorem wpList_push {P : Program} {w : World} {ops : Array Oper} {rest : List Oper} {o : Oper} {a : Act} {Q : Exit → Act → World → Prop} (hgd : o.guard = none) (s x : Operand) (t : TypeId)
    (ho : o.op = .call { callee := .builtin .append, args := #[s, x], argTypes := #[t, t] })
    (e : TypeId) (i : TypeInfo) (z : Value) (size bytes : Nat) (ht : P.underlying t = some (.slice e)) (hi : P.info? e = some i) (hz : i.zero = some z)
    (hsize : i.size = size) (hby : i.bytes = bytes) (hzs : z.cells.size = size) (hsz : 0 < size)
    (W wr : World) (base : Nat) (v : Value) (n : Nat) (xs : List Value) (hs : a.eval s = v) (hown : wr.ownsRow base e size v n xs) (hur : Upd [] wr w) (hu : Upd [] W wr) (hbase : W.heap.size ≤ base) (hbw : base ≤ wr.heap.size)
    (g : Nat) (news : List Value) (tg : TypeId) (fr : Nat × Nat) (hx : a.eval x = .slice (some ⟨g, 0, none⟩) 1 1) (hl : news.length = size) (hg : w.heap[g]? = some (.cells news.toArray tg fr)) (h1 : ∀ u ∈ news, u.oneCell' = true)
    (hn : n ≤ 1000000) (hbytes : bytes ≤ 100000)
    (h : ∀ v' w', w'.ownsRow base e size v' (n + 1) (xs ++ news) → Upd [] W w' → (∀ k o, k < base → w.heap[k]? = some o → w'.heap[k]? = some o) → wpList P ops Q rest (a.put o.dst v') w') : wpList P ops Q (o :: rest) a w := by
  have hown' := own_upd hown hur (fun k hk => by simp)
  have hb2 : base ≤ w.heap.size := Nat.le_trans hbw hur.size
  refine wpList_append_reads hgd s x t ho base e i z size bytes ht hi hz hsize hby hzs hsz v n xs hs hown' (some ⟨g, 0, none⟩) 1 1 news hx (by omega)
    (fun _ => ⟨g, 0, rfl, fun j u hj => ?_⟩) (fun h => by cases h) h1 (by simp only [maxLen]; omega) ?_ hb2 fun v' w' ho' hg' => ?_
  · rw [Nat.zero_add, cell_of_heap hg]
    simpa using hj
  · have : (n + 1) * bytes ≤ 1000001 * 100000 := Nat.mul_le_mul (by omega) hbytes
    omega
  · exact h v' w' ho' (own_start (hu.trans hur) hown' hg' hbase) (fun k o hk hko => grown_keep hown' hg' hko hk)
end Go.Proofs.Ytnnakiojfpnphaa
