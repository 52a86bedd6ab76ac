/- The walk, part 1: Lib Laws Own Own2 CF1 Drew Eqs. -/
import Derived.WalkKit
import Derived.WalkSpells
import Derived.WalkLawsBesides
import Derived.Lib.Hide
import Derived.Laws.CopyOwn
import Derived.Lib.QuietBelow
import Derived.BigQuiet
import Derived.Deep.RegionWith
import Derived.StillTailTactics
import Derived.ScopeJumps
import Derived.WalkMore
import Derived.Deep.LoopGhost
import Derived.Laws.AppendOwnNone
import Derived.Deep.Onto
import Derived.Deep.AppendLies
import Derived.Deep.RegionHeld3
import Derived.Test.YtnnakiojfpnphaaProg
import Derived.Laws.StructEq
set_option linter.unusedVariables false
set_option linter.unusedSimpArgs false

namespace Go.Proofs.Ytnnakiojfpnphaa
open Go.RowKit

/-- Of the blocks that were there, only those in S may have turned; the streams are as they were. -/
structure Upd (S : List Nat) (w w' : World) : Prop where
  os : w'.os = w.os
  tape : w'.tape = w.tape
  output : w'.output = w.output
  size : w.heap.size ≤ w'.heap.size
  block : ∀ k, k < w.heap.size → k ∉ S → w'.heap[k]? = w.heap[k]?

theorem Upd.refl (S : List Nat) (w : World) : Upd S w w := ⟨rfl, rfl, rfl, Nat.le_refl _, fun _ _ _ => rfl⟩
theorem Upd.trans {S : List Nat} {a b c : World} (h : Upd S a b) (k : Upd S b c) : Upd S a c :=
  ⟨k.os.trans h.os, k.tape.trans h.tape, k.output.trans h.output, Nat.le_trans h.size k.size, fun i hi hs => (k.block i (Nat.lt_of_lt_of_le hi h.size) hs).trans (h.block i hi hs)⟩
theorem Upd.then {S S' : List Nat} {a b c : World} (h : Upd S a b) (k : Upd S' b c) (hs : ∀ i, i ∈ S' → i ∈ S ∨ a.heap.size ≤ i) : Upd S a c :=
  ⟨k.os.trans h.os, k.tape.trans h.tape, k.output.trans h.output, Nat.le_trans h.size k.size, fun i hi hn => (k.block i (Nat.lt_of_lt_of_le hi h.size) (fun hk => by
    rcases hs i hk with h1 | h1
    · exact hn h1
    · omega)).trans (h.block i hi hn)⟩
theorem Upd.mono {S S' : List Nat} {a b : World} (h : Upd S a b) (hs : ∀ k, k ∈ S → k < a.heap.size → k ∈ S') : Upd S' a b :=
  ⟨h.os, h.tape, h.output, h.size, fun i hi hn => h.block i hi (fun hi' => hn (hs i hi' hi))⟩
theorem Upd.drew {S : List Nat} {a w : World} (h : Upd S a w) : Upd S a w.drew := ⟨h.os, h.tape, h.output, h.size, h.block⟩
theorem Upd.drewN {S : List Nat} {a w : World} (h : Upd S a w) (n : Nat) : Upd S a (w.drewN n) := ⟨h.os, h.tape, h.output, h.size, h.block⟩
theorem Upd.alloc {S : List Nat} {a w : World} (h : Upd S a w) (o : Obj) : Upd S a (w.alloc o) :=
  h.trans ⟨rfl, rfl, rfl, by simp, fun k hk _ => Below.heap_alloc _ _ _ hk⟩
theorem Upd.setCell {S : List Nat} {a w : World} (h : Upd S a w) {p : Addr} (hp : p.block ∈ S ∨ a.heap.size ≤ p.block) (u : Value) : Upd S a (w.setCell p u) :=
  ⟨h.os, h.tape, h.output, by simp [World.setCell]; exact h.size, fun k hk hs => by
    have hne : k ≠ p.block := by
      rcases hp with hp | hp
      · exact fun e => hs (e ▸ hp)
      · omega
    rw [Below.heap_setCell _ _ _ _ hne]; exact h.block k hk hs⟩
theorem Upd.of_below {w w' : World} (h : Below w.heap.size w w') (S : List Nat) : Upd S w w' := ⟨h.os, h.tape, h.output, h.size, fun k hk _ => h.block k hk⟩
theorem Upd.below {S : List Nat} {B : Nat} {w w' : World} (h : Upd S w w') (hB : B ≤ w.heap.size) (hS : ∀ k, k ∈ S → B ≤ k) : Below B w w' :=
  ⟨h.os, h.tape, h.output, h.size, fun k hk => h.block k (by omega) (fun hk' => by have := hS k hk'; omega)⟩
theorem Upd.cell {S : List Nat} {w w' : World} (h : Upd S w w') {p : Addr} (hp : p.block < w.heap.size) (hs : p.block ∉ S) : w'.cell? p = w.cell? p := World.cell?_of_block (w := w) (h.block p.block hp hs)
theorem Upd.frozen {S : List Nat} {w w' : World} (h : Upd S w w') {p : Addr} (hp : p.block < w.heap.size) (hs : p.block ∉ S) : w'.frozen? p = w.frozen? p := World.frozen?_of_block (w := w) (h.block p.block hp hs)

theorem heap_lt {w : World} {b : Nat} {o : Obj} (h : w.heap[b]? = some o) : b < w.heap.size := (Array.getElem?_eq_some_iff.1 h).1
theorem cell_of_heap {w : World} {b : Nat} {c : Array Value} {t : TypeId} {f : Nat × Nat} (h : w.heap[b]? = some (.cells c t f)) (i : Nat) : w.cell? ⟨b, i, none⟩ = c[i]? := by simp [World.cell?, h]
theorem frozen_of_heap {w : World} {b : Nat} {c : Array Value} {t : TypeId} (h : w.heap[b]? = some (.cells c t (0, 0))) (i : Nat) : w.frozen? ⟨b, i, none⟩ = false := by simp [World.frozen?, h]
theorem heap_set {w : World} {b : Nat} {c : Array Value} {t : TypeId} {f : Nat × Nat} (h : w.heap[b]? = some (.cells c t f)) (i : Nat) (v : Value) : (w.setCell ⟨b, i, none⟩ v).heap[b]? = some (.cells (c.setIfInBounds i v) t f) := by
  simp [World.setCell, Array.getElem?_modify, h]
theorem heap_set_other (w : World) {a k : Nat} (i : Nat) (v : Value) (h : k ≠ a) : (w.setCell ⟨a, i, none⟩ v).heap[k]? = w.heap[k]? := Below.heap_setCell _ _ _ _ h
theorem heap_alloc_other (w : World) (o : Obj) {k : Nat} (h : k < w.heap.size) : (w.alloc o).heap[k]? = w.heap[k]? := Below.heap_alloc _ _ _ h
theorem heap_alloc_new (w : World) (o : Obj) : (w.alloc o).heap[w.heap.size]? = some o := by show (w.heap.push o)[w.heap.size]? = _; simp
theorem heap_alloc_at {w : World} {g : Nat} (o : Obj) (h : g = w.heap.size) : (w.alloc o).heap[g]? = some o := by subst h; exact heap_alloc_new _ _
theorem heap_alloc' {w : World} {g : Nat} {o x : Obj} (h : w.heap[g]? = some x) : (w.alloc o).heap[g]? = some x := (heap_alloc_other w o (heap_lt h)).trans h
theorem size_setCell (w : World) (a : Addr) (v : Value) : (w.setCell a v).heap.size = w.heap.size := by simp [World.setCell]
theorem heap_drew (w : World) : w.drew.heap = w.heap := rfl
theorem heap_drewN (w : World) (n : Nat) : (w.drewN n).heap = w.heap := rfl

theorem Upd.keepb {S : List Nat} {w w' : World} (h : Upd S w w') {k : Nat} {o : Obj} (hk : w.heap[k]? = some o) (hs : k ∉ S) : w'.heap[k]? = some o := by rw [h.block k (heap_lt hk) hs]; exact hk
theorem cells3 {w : World} {k : Nat} {x y z : Value} {t : TypeId} {f : Nat × Nat} (h : w.heap[k]? = some (.cells #[x, y, z] t f)) : w.cell? ⟨k, 0, none⟩ = some x ∧ w.cell? ⟨k, 1, none⟩ = some y ∧ w.cell? ⟨k, 2, none⟩ = some z :=
  ⟨by rw [cell_of_heap h]; rfl, by rw [cell_of_heap h]; rfl, by rw [cell_of_heap h]; rfl⟩

/-- A slice's elements, one cell each, as they can be read. -/
def Reads (w : World) (a : Option Addr) (n : Nat) (vs : List Value) : Prop :=
  vs.length = n ∧ (0 < n → ∃ b off, a = some ⟨b, off, none⟩ ∧ b < w.heap.size ∧ ∀ j v, vs[j]? = some v → w.cell? ⟨b, off + j, none⟩ = some v)
theorem Reads.upd {w w' : World} {S : List Nat} {a : Option Addr} {n : Nat} {vs : List Value} (h : Reads w a n vs) (hu : Upd S w w') (hS : ∀ k, k ∈ S → w.heap.size ≤ k) : Reads w' a n vs :=
  ⟨h.1, fun hn => by
    obtain ⟨b, off, e, hb, hc⟩ := h.2 hn
    refine ⟨b, off, e, Nat.lt_of_lt_of_le hb hu.size, fun j v hj => ?_⟩
    rw [hu.cell (p := ⟨b, off + j, none⟩) hb (fun hk => by have := hS b hk; omega)]
    exact hc j v hj⟩
end Go.Proofs.Ytnnakiojfpnphaa
namespace Go.Proofs.Ytnnakiojfpnphaa
open Go.RowKit

theorem upd_setRow (w : World) (g : Nat) (cs : Array Value) : Upd [g] w (w.setRow g cs) :=
  ⟨rfl, rfl, rfl, by simp [World.setRow], fun k _ hs => setRow_other w g k cs (by intro e; apply hs; simp [e])⟩

/-- copy into a row of the call's own, from its head on. -/
theorem wpList_copy_upd {P : Program} {w : World} {ops : Array Oper} {rest : List Oper} {o : Oper} {a : Act} {Q : Exit → Act → World → Prop} (hgd : o.guard = none) (d s : Operand) (dT sT : TypeId)
    (ho : o.op = .call { callee := .builtin .copy, args := #[d, s], argTypes := #[dT, sT] }) (elem : TypeId) (hu : P.underlying dT = some (.slice elem)) (hsz : (P.info? elem).map (·.size) = some 1)
    (sp : Option Addr) (dLen dCap sLen sCap : Nat) (g : Nat) (hd : a.eval d = .slice (some ⟨g, 0, none⟩) dLen dCap) (hs : a.eval s = .slice sp sLen sCap)
    (cur : List Value) (t : TypeId) (hg : w.heap[g]? = some (.cells cur.toArray t (0, 0))) (cs : List Value) (hn : cs.length = Nat.min sLen dLen)
    (hsrc : 0 < cs.length → ∃ b off, sp = some ⟨b, off, none⟩ ∧ ∀ j v, cs[j]? = some v → w.cell? ⟨b, off + j, none⟩ = some v)
    (hfit : cs.length ≤ cur.length) (h1 : ∀ v ∈ cs, v.oneCell' = true)
    (h : ∀ w', w'.heap[g]? = some (.cells (cs ++ cur.drop cs.length).toArray t (0, 0)) → Upd [g] w w' → w'.heap.size = w.heap.size → wpList P ops Q rest (a.put o.dst (goInt cs.length)) w') :
    wpList P ops Q (o :: rest) a w := by
  by_cases h0 : cs.length = 0
  · obtain rfl : cs = [] := List.eq_nil_of_length_eq_zero h0
    refine wpList_copy_nothing hgd d s dT sT ho elem hu hsz _ sp dLen dCap sLen sCap hd hs (by simpa using hn.symm) ?_
    exact h w (by simpa using hg) (Upd.refl _ _) rfl
  · obtain ⟨b, off, rfl, hc⟩ := hsrc (by omega)
    refine wpList_copy_own hgd d s dT sT ho elem hu hsz g 0 dLen dCap ⟨b, off, none⟩ sLen sCap hd hs cur.toArray t hg cs hn ?_ (by simpa using hfit) h1 ?_
    · intro j v hj
      have := hc j v hj
      unfold Addr.add
      split
      · rename_i hz; subst hz; simpa using this
      · simpa using this
    · refine h _ ?_ (upd_setRow _ _ _) (by simp [World.setRow])
      have := setRow_heap w g _ (cur.toArray.toList.take 0 ++ (cs ++ cur.toArray.toList.drop (0 + cs.length))).toArray t _ hg
      simpa using this

theorem wpQuiet_mono {P : Program} {ops : Array Oper} {C : World → Prop} {Q Q' : Act → Prop} (hq : ∀ a, Q a → Q' a) : ∀ (l : List Oper) (a : Act), wpQuiet P ops C Q l a → wpQuiet P ops C Q' l a
  | [], a, h => hq a h
  | o :: l, a, h => by
    unfold wpQuiet at h ⊢
    split
    · rename_i hw
      rw [if_pos hw] at h
      exact Oper.quiet_mono (fun a ha => wpQuiet_mono hq l a ha) h
    · rename_i hw
      rw [if_neg hw] at h
      exact wpQuiet_mono hq l _ h

/-- A region that draws its order, whose operations only read and whose callees lay blocks at most: walked once. -/
theorem wp_region_reads {P : Program} {id : Nat} {Q : Exit → Act → World → Prop} {a : Act} {w : World} {l : List Oper} (hm : P.follows .mixedOrders = true) (hB : Region.lexB .any l.toArray = true)
    (h : wpQuiet P l.toArray (fun w' => ∃ p : Regrown, w' = Go.Sort.grow (redrawn w p.d) p.os) (fun a' => ∀ w', Upd [] w w' → Q .normal a' w') l a) : (Code.region id l.toArray true).wp P Q a w :=
  wp_region_quiet_below hm hB (wpQuiet_mono (fun _ ha w' ⟨p, hp⟩ => ha w' (by rw [hp]; exact Upd.of_below (below_regrown w p.d p.os) [])) l a h)

/-- A callee's contract that ends in 'Upd []', met in a world of the class. -/
theorem reads_call {P : Program} {f : FuncId} {args : Array Value} {w : World} {d : Nat} {os : Array Obj} {v : Value}
    (h : ∀ w1, Upd [] w w1 → Calls P f args w1 fun e w' => e = .returned v ∧ Upd [] w1 w') : Calls P f args (Go.Sort.grow (redrawn w d) os) fun e w'' => e = .returned v ∧ ∃ p : Regrown, w'' = Go.Sort.grow (redrawn w p.d) p.os :=
  Calls.regrown_of ((h _ (Upd.of_below (below_regrown w d os) [])).mono fun _ _ ⟨he, hu⟩ => ⟨he, hu.below (Nat.le_refl _) (fun _ hk => absurd hk (by simp))⟩)

theorem upd_grown {w w' : World} {v : Value} (h : w.grownBy w' v.ownBlock) : Upd v.ownBlock.toList w w' :=
  ⟨h.os, h.tape, h.output, h.size, fun k hk hs => h.block k hk (by intro e; apply hs; rw [← e]; simp)⟩

/-- Behind an append onto a row that was begun behind w: w is as it was. -/
theorem upd_append {w wr w1 : World} {o : Obj} {v : Value} {n size : Nat} {e : TypeId} {xs : List Value} (hu : Upd [] w wr) (hown : wr.ownsRow w.heap.size e size v n xs) (hg : (wr.alloc o).grownBy w1 v.ownBlock) : Upd [] w w1 :=
  (hu.alloc o).then (upd_grown hg) fun i hi => .inr (by
    rw [Option.mem_toList] at hi
    exact (hown.lt i hi).1)

/-- A scope with one label that is jumped back to: what holds at each pass, by a number that each jump lowers; the way to the label is walked up to it. -/
theorem wp_scope_ghost {P : Program} {a : Act} {w : World} {Q : Exit → Act → World → Prop} {c y : Code} (l : Nat) (J : Nat → Act → World → Prop) (hf : findLabel c l = some (Code.seq Code.skip y))
    (passy : ∀ n a w, J n a w → y.wp P (Exit.jump l (fun a' w' => ∃ n', n' < n ∧ J n' a' w') Q) a w)
    (first : RowKit.Hid (∀ n a w, J n a w → y.wp P (Exit.jump l (fun a' w' => ∃ n, J n a' w') Q) a w) → c.wp P (Exit.jump l (fun a' w' => ∃ n, J n a' w') Q) a w) : (Code.scope c).wp P Q a w := by
  intro b k cs
  obtain ⟨rest, hrest⟩ : ∃ rest, rest = Code.seq Code.skip y := ⟨_, rfl⟩
  rw [← hrest] at hf
  have hg : gotoIn l (.inScope c :: k) = some (.code rest :: .inScope c :: k) := by simp [gotoIn, hf]
  have pass : ∀ n a w, J n a w → rest.wp P (Exit.jump l (fun a' w' => ∃ n', n' < n ∧ J n' a' w') Q) a w := fun n a w hJ => by
    rw [hrest]
    exact wp_seq (wp_skip (passy n a w hJ))
  have key : ∀ n a w, J n a w → ∃ e a' w', Q e a' w' ∧ Arrives P (lone (b.at a (.code rest :: .inScope c :: k)) cs w) b k cs e a' w' := by
    intro n
    induction n using Nat.strongRecOn with
    | _ n ih =>
      intro a w hJ
      obtain ⟨e, a₁, w₁, hq, harr⟩ := pass n a w hJ b (.inScope c :: k) cs
      cases e with
      | normal => exact ⟨.normal, a₁, w₁, hq, Steps.trans harr (.one step_inScope)⟩
      | exit id => exact ⟨.exit id, a₁, w₁, hq, fun k' hk => harr k' (by simp [exitTo, hk])⟩
      | goto l' =>
        obtain ⟨rfl, n', hlt, hJ'⟩ := hq
        obtain ⟨e₂, a₂, w₂, hq₂, harr₂⟩ := ih n' hlt a₁ w₁ hJ'
        exact ⟨e₂, a₂, w₂, hq₂, .of_steps (harr _ hg) harr₂⟩
      | ret => exact ⟨_, a₁, w₁, hq, harr⟩
      | panic ch => exact ⟨_, a₁, w₁, hq, harr⟩
      | outgrown => exact ⟨_, a₁, w₁, hq, harr⟩
  have pass' : ∀ n a w, J n a w → y.wp P (Exit.jump l (fun a' w' => ∃ n, J n a' w') Q) a w := fun n a w hJ => wp_mono (passy n a w hJ) fun e a' w' hq => by
    cases e with
    | goto l' => obtain ⟨h1, n', _, h2⟩ := hq; exact ⟨h1, n', h2⟩
    | _ => exact hq
  obtain ⟨e, a₁, w₁, hq, harr⟩ := first pass' b (.inScope c :: k) cs
  cases e with
  | normal => exact ⟨.normal, a₁, w₁, hq, .head step_scope (Steps.trans harr (.one step_inScope))⟩
  | exit id => exact ⟨.exit id, a₁, w₁, hq, fun k' hk => .head step_scope (harr k' (by simp [exitTo, hk]))⟩
  | goto l' =>
    obtain ⟨rfl, n, hJ'⟩ := hq
    obtain ⟨e₂, a₂, w₂, hq₂, harr₂⟩ := key n a₁ w₁ hJ'
    exact ⟨e₂, a₂, w₂, hq₂, .of_steps (.head step_scope (harr _ hg)) harr₂⟩
  | ret => exact ⟨_, a₁, w₁, hq, .of_steps (.one step_scope) harr⟩
  | panic ch => exact ⟨_, a₁, w₁, hq, .of_steps (.one step_scope) harr⟩
  | outgrown => exact ⟨_, a₁, w₁, hq, .of_steps (.one step_scope) harr⟩
end Go.Proofs.Ytnnakiojfpnphaa
namespace Go.Proofs.Ytnnakiojfpnphaa
open Go.RowKit

/-- 'append(own, src...)', whatever src is: nil, empty or not. -/
theorem wpList_append_reads {P : Program} {w : World} {ops : Array Oper} {rest : List Oper} {o : Oper} {a : Act} {Q : Exit → Act → World → Prop} (hgd : o.guard = none) (s x : Operand) (t : TypeId)
    (ho : o.op = .call { callee := .builtin .append, args := #[s, x], argTypes := #[t, t] })
    (base : Nat) (e : TypeId) (i : TypeInfo) (z : Value) (size bytes : Nat) (ht : P.underlying t = some (.slice e)) (hi : P.info? e = some i) (hz : i.zero = some z)
    (hsize : i.size = size) (hby : i.bytes = bytes) (hzs : z.cells.size = size) (hsz : 0 < size)
    (v : Value) (n : Nat) (xs : List Value) (hs : a.eval s = v) (hown : w.ownsRow base e size v n xs)
    (sp : Option Addr) (m c : Nat) (news : List Value) (hx : a.eval x = .slice sp m c) (hl : news.length = m * size)
    (hsrc : 0 < m → ∃ b off, sp = some ⟨b, off, none⟩ ∧ ∀ j u, news[j]? = some u → w.cell? ⟨b, off + j, none⟩ = some u) (hnil : sp = none → c = 0) (h1 : ∀ u ∈ news, u.oneCell' = true)
    (h63 : n + m ≤ maxLen) (hbytes : (n + m) * bytes ≤ 140737488355328) (hbase : base ≤ w.heap.size)
    (h : ∀ v' w', w'.ownsRow base e size v' (n + m) (xs ++ news) → w.grownBy w' v.ownBlock → wpList P ops Q rest (a.put o.dst v') w') : wpList P ops Q (o :: rest) a w := by
  rcases sp with _ | ad
  · have hm : m = 0 := by
      apply Nat.eq_zero_of_not_pos
      intro h0
      obtain ⟨b, off, e, _⟩ := hsrc h0
      cases e
    subst hm
    obtain rfl : news = [] := List.eq_nil_of_length_eq_zero (by simpa using hl)
    obtain rfl := hnil rfl
    refine wpList_append_own_none hgd s x t ho base e i size ht hi v n xs hs hown hx (h v w (by simpa using hown) ⟨rfl, rfl, rfl, Nat.le_refl _, fun _ _ _ => rfl⟩)
  · refine wpList_append_own w hgd s x t ho base e i z size bytes ht hi hz hsize hby hzs hsz v n xs hs hown ad m c news hx hl (fun j u hj => ?_) h1 h63 hbytes hbase fun v' w' h1 h2 _ => h v' w' h1 h2
    have h0 : 0 < m := by
      apply Nat.pos_of_ne_zero
      rintro rfl
      obtain rfl : news = [] := List.eq_nil_of_length_eq_zero (by simpa using hl)
      simp at hj
    obtain ⟨b, off, e, hc⟩ := hsrc h0
    obtain rfl : ad = ⟨b, off, none⟩ := by simpa using e
    have := hc j u hj
    unfold Addr.add
    split
    · rename_i hz; subst hz; simpa using this
    · simpa using this

/-- An own row with elements lies at the head of a block. -/
theorem own_some {w : World} {base n size : Nat} {e : TypeId} {v : Value} {xs : List Value} (h : w.ownsRow base e size v n xs) (hn : 0 < n) : ∃ g cap, v = .slice (some ⟨g, 0, none⟩) n cap ∧ base ≤ g ∧ g < w.heap.size := by
  rcases h.2 with ⟨_, rfl⟩ | ⟨g, cap, cur, rfl, hb, hh, _⟩
  · omega
  · exact ⟨g, cap, rfl, hb, heap_lt hh⟩
theorem own_shape {w : World} {base n size : Nat} {e : TypeId} {v : Value} {xs : List Value} (h : w.ownsRow base e size v n xs) : ∃ a cap, v = .slice a n cap ∧ (a = none → cap = 0) ∧ (0 < n → ∃ b off, a = some ⟨b, off, none⟩ ∧ b < w.heap.size ∧ ∀ j u, xs[j]? = some u → w.cell? ⟨b, off + j, none⟩ = some u) := by
  rcases h.2 with ⟨rfl, rfl⟩ | ⟨g, cap, cur, rfl, hb, hh, h1, h2, h3, h4⟩
  · exact ⟨none, 0, rfl, fun _ => rfl, fun h0 => by omega⟩
  · refine ⟨_, cap, rfl, (fun h => by cases h), fun h0 => ⟨g, 0, rfl, heap_lt hh, fun j v hj => ?_⟩⟩
    rw [cell_of_heap hh]
    rw [← h4, List.getElem?_take] at hj
    split at hj
    · simpa using hj
    · cases hj
theorem own_len {w : World} {base n size : Nat} {e : TypeId} {v : Value} {xs : List Value} (h : w.ownsRow base e size v n xs) : n ≤ maxLen := by
  rcases h.2 with ⟨_, rfl⟩ | ⟨g, cap, cur, rfl, hb, hh, h1, h2, _⟩
  · exact Nat.zero_le _
  · omega
theorem own_empty (w : World) (base : Nat) (e : TypeId) (size : Nat) (hb : base ≤ w.heap.size) : (w.alloc (.cells #[] e)).ownsRow base e size (.slice (some ⟨w.heap.size, 0, none⟩) 0 0) 0 [] :=
  ⟨by simp, .inr ⟨_, 0, #[], rfl, hb, heap_alloc_new _ _, by omega, by omega, by simp, by simp⟩⟩
theorem own_empty' {w : World} {base g : Nat} {e : TypeId} {size : Nat} (hb : base ≤ g) (hg : g = w.heap.size) : (w.alloc (.cells #[] e)).ownsRow base e size (.slice (some ⟨g, 0, none⟩) 0 0) 0 [] := by
  subst hg
  exact own_empty w base e size hb
theorem own_start {w w' : World} {v : Value} {base n size : Nat} {e : TypeId} {xs : List Value} (hu : Upd [] w w') (hg : w'.ownsRow base e size v n xs) {w1 : World} (hgr : w'.grownBy w1 v.ownBlock) (hb : w.heap.size ≤ base) : Upd [] w w1 :=
  hu.then (upd_grown hgr) fun i hi => .inr (by
    rw [Option.mem_toList] at hi
    exact Nat.le_trans hb (hg.lt i hi).1)
theorem grown_keep {w' w1 : World} {v : Value} {base n size : Nat} {e : TypeId} {xs : List Value} (hg : w'.ownsRow base e size v n xs) (hgr : w'.grownBy w1 v.ownBlock) {k : Nat} {o : Obj} (hk : w'.heap[k]? = some o) (hb : k < base) : w1.heap[k]? = some o := by
  rw [hgr.block k (heap_lt hk) (fun e => by have := (hg.lt k e.symm).1; omega)]
  exact hk
theorem own_ne {w : World} {base n size : Nat} {e : TypeId} {v : Value} {xs : List Value} (h : w.ownsRow base e size v n xs) {j : Nat} {c : Array Value} {t : TypeId} {f : Nat × Nat} (hj : w.heap[j]? = some (.cells c t f)) (ht : t ≠ e) : v.ownBlock ≠ some j := by
  rcases h.2 with ⟨rfl, rfl⟩ | ⟨g, cap, cur, rfl, hb, hh, _⟩
  · intro e; cases e
  · intro e
    obtain rfl : g = j := by simpa [Value.ownBlock] using e
    rw [hh] at hj
    simp at hj
    exact ht hj.2.1.symm

theorem own_reads {w : World} {base n : Nat} {e : TypeId} {v : Value} {vs : List Value} (h : w.ownsRow base e 1 v n vs) : ∃ a cap, v = .slice a n cap ∧ Reads w a n vs := by
  rcases h.2 with ⟨rfl, rfl⟩ | ⟨g, cap, cur, rfl, hb, hh, h1, h2, h3, h4⟩
  · exact ⟨none, 0, rfl, by simpa using h.1, fun h0 => by omega⟩
  · refine ⟨_, cap, rfl, by simpa using h.1, fun h0 => ⟨g, 0, rfl, heap_lt hh, fun j v hj => ?_⟩⟩
    rw [cell_of_heap hh, ← h4] at *
    rw [List.getElem?_take] at hj
    split at hj
    · simpa using hj
    · cases hj
theorem own_upd {w w' : World} {S : List Nat} {base size n : Nat} {e : TypeId} {v : Value} {vs : List Value} (h : w.ownsRow base e size v n vs) (hu : Upd S w w') (hS : ∀ k, v.ownBlock = some k → k ∉ S) : w'.ownsRow base e size v n vs := by
  refine ⟨h.1, ?_⟩
  rcases h.2 with h2 | ⟨g, cap, cur, rfl, hb, hh, r⟩
  · exact .inl h2
  · exact .inr ⟨g, cap, cur, rfl, hb, hu.keepb hh (hS g rfl), r⟩
theorem own_base {w : World} {base size n : Nat} {e : TypeId} {v : Value} {vs : List Value} (h : w.ownsRow base e size v n vs) : ∀ k, v.ownBlock = some k → base ≤ k := fun k hk => (h.lt k hk).1

end Go.Proofs.Ytnnakiojfpnphaa
namespace Go.Proofs.Ytnnakiojfpnphaa
open Go.RowKit

theorem cell_allocE {w : World} {p : Addr} {v : Value} {o : Obj} (h : w.cell? p = some v) : (w.alloc o).cell? p = some v := by
  have hp : p.block < w.heap.size := by
    apply Nat.lt_of_not_le
    intro hp
    have : w.heap[p.block]? = none := Array.getElem?_eq_none hp
    simp [World.cell?, this] at h
  exact (World.cell?_of_block (w := w) (heap_alloc_other w o hp)).trans h
theorem cell_drewE {w : World} {p : Addr} {v : Value} (h : w.cell? p = some v) : w.drew.cell? p = some v := h
theorem cell_drewNE {w : World} {p : Addr} {v : Value} {n : Nat} (h : w.cell? p = some v) : (w.drewN n).cell? p = some v := h
theorem cell_setE {w : World} {g i p j : Nat} {v u : Value} (h : g ≠ p) (hc : w.cell? ⟨p, j, none⟩ = some u) : (w.setCell ⟨g, i, none⟩ v).cell? ⟨p, j, none⟩ = some u :=
  (World.cell?_of_block (w := w) (heap_set_other w i v (fun e => h e.symm))).trans hc

theorem wp_append_reads {P : Program} {w : World} {o : Oper} {a : Act} {K : Act → World → Prop} {Q : Exit → Act → World → Prop} (s x : Operand) (t : TypeId)
    (ho : o.op = .call { callee := .builtin .append, args := #[s, x], argTypes := #[t, t] })
    (base : Nat) (e : TypeId) (i : TypeInfo) (z : Value) (size bytes : Nat) (ht : P.underlying t = some (.slice e)) (hi : P.info? e = some i) (hz : i.zero = some z)
    (hsize : i.size = size) (hby : i.bytes = bytes) (hzs : z.cells.size = size) (hsz : 0 < size)
    (v : Value) (n : Nat) (xs : List Value) (hs : a.eval s = v) (hown : w.ownsRow base e size v n xs)
    (sp : Option Addr) (m c : Nat) (news : List Value) (hx : a.eval x = .slice sp m c) (hl : news.length = m * size)
    (hsrc : 0 < m → ∃ b off, sp = some ⟨b, off, none⟩ ∧ ∀ j u, news[j]? = some u → w.cell? ⟨b, off + j, none⟩ = some u) (hnil : sp = none → c = 0) (h1 : ∀ u ∈ news, u.oneCell' = true)
    (h63 : n + m ≤ maxLen) (hbytes : (n + m) * bytes ≤ 140737488355328) (hbase : base ≤ w.heap.size)
    (h : ∀ p cap w', (p = none → cap = 0) → w'.ownsRow base e size (.slice p (n + m) cap) (n + m) (xs ++ news) → w.grownBy w' v.ownBlock → K (a.put o.dst (.slice p (n + m) cap)) w') : o.wp P a w K Q := by
  rcases sp with _ | ad
  · have hm : m = 0 := by
      apply Nat.eq_zero_of_not_pos
      intro h0
      obtain ⟨b, off, e, _⟩ := hsrc h0
      cases e
    subst hm
    obtain rfl : news = [] := List.eq_nil_of_length_eq_zero (by simpa using hl)
    obtain rfl := hnil rfl
    have hrun := run_append_owned_none (P := P) (w := w) base t o.type e i size ht hi v n xs hown
    obtain ⟨p, cap, rfl, hp, _⟩ := own_shape hown
    unfold Oper.wp
    simp [execOp, ho, resolve, invoke, builtin, hs, hx, hrun, Result.andThen]
    exact h p cap w hp (by simpa using hown) ⟨rfl, rfl, rfl, Nat.le_refl _, fun _ _ _ => rfl⟩
  · refine wp_append_own w s x t ho base e i z size bytes ht hi hz hsize hby hzs hsz v n xs hs hown ad m c news hx hl (fun j u hj => ?_) h1 h63 hbytes hbase fun v' w' h1 h2 _ => ?_
    · have h0 : 0 < m := by
        apply Nat.pos_of_ne_zero
        rintro rfl
        obtain rfl : news = [] := List.eq_nil_of_length_eq_zero (by simpa using hl)
        simp at hj
      obtain ⟨b, off, e, hc⟩ := hsrc h0
      obtain rfl : ad = ⟨b, off, none⟩ := by simpa using e
      have := hc j u hj
      unfold Addr.add
      split
      · rename_i hz; subst hz; simpa using this
      · simpa using this
    · obtain ⟨p, cap, rfl, hp, _⟩ := own_shape h1
      exact h p cap w' hp h1 h2

theorem step_append_reads {P : Program} {w : World} {ops : Array Oper} {o : Oper} {a : Act} {K : Act → World → Prop} {Q : Exit → Act → World → Prop} {E : Prop} (hgd : o.guard = none) (s x : Operand) (t : TypeId)
    (ho : o.op = .call { callee := .builtin .append, args := #[s, x], argTypes := #[t, t] })
    (base : Nat) (e : TypeId) (i : TypeInfo) (z : Value) (size bytes : Nat) (ht : P.underlying t = some (.slice e)) (hi : P.info? e = some i) (hz : i.zero = some z)
    (hsize : i.size = size) (hby : i.bytes = bytes) (hzs : z.cells.size = size) (hsz : 0 < size)
    (v : Value) (n : Nat) (xs : List Value) (hs : a.eval s = v) (hown : w.ownsRow base e size v n xs)
    (sp : Option Addr) (m c : Nat) (news : List Value) (hx : a.eval x = .slice sp m c) (hl : news.length = m * size)
    (hsrc : 0 < m → ∃ b off, sp = some ⟨b, off, none⟩ ∧ ∀ j u, news[j]? = some u → w.cell? ⟨b, off + j, none⟩ = some u) (hnil : sp = none → c = 0) (h1 : ∀ u ∈ news, u.oneCell' = true)
    (h63 : n + m ≤ maxLen) (hbytes : (n + m) * bytes ≤ 140737488355328) (hbase : base ≤ w.heap.size)
    (h : ∀ p cap w', (p = none → cap = 0) → w'.ownsRow base e size (.slice p (n + m) cap) (n + m) (xs ++ news) → w.grownBy w' v.ownBlock → K (a.put o.dst (.slice p (n + m) cap)) w') :
    if Region.wanted o (yielded ops a.tmps) = true then Oper.wp P o a w K Q else E := by
  have hw : Region.wanted o (yielded ops a.tmps) = true := by simp [Region.wanted, hgd]
  rw [if_pos hw]
  exact wp_append_reads s x t ho base e i z size bytes ht hi hz hsize hby hzs hsz v n xs hs hown sp m c news hx hl hsrc hnil h1 h63 hbytes hbase h
end Go.Proofs.Ytnnakiojfpnphaa
namespace Go.Proofs.Ytnnakiojfpnphaa
open Go.RowKit

def pw7 (n : Int) : Bool := n == 1 || (n == 2 || (n == 4 || (n == 8 || (n == 16 || (n == 32 || n == 64)))))
def powB (n : Int) : Bool := decide (0 < n) && (decide (n ≤ 2147483648) && (bits .and .i64 n (n - 1) == 0))
def pow2 (n : Int) : Prop := ∃ k : Nat, k < 32 ∧ n = 2 ^ k
theorem powB_small (k : Fin 65) : powB (k.val : Int) = pw7 (k.val : Int) := by
  revert k
  decide
theorem powB_room (n : Int) : (powB n && decide (n ≤ 64)) = pw7 n := by
  by_cases h : n ≤ 64
  · by_cases h0 : 0 ≤ n
    · have := powB_small ⟨n.toNat, by omega⟩
      simp only [Int.toNat_of_nonneg h0] at this
      rw [this]; simp [h]
    · have : powB n = false := by unfold powB; rw [decide_eq_false (by omega)]; rfl
      rw [this]
      symm
      simp [pw7]
      omega
  · rw [decide_eq_false h, Bool.and_false]
    symm
    simp [pw7]
    omega
theorem pow2_room (n : Int) : (pow2 n ∧ n ≤ 64) ↔ pw7 n = true := by
  constructor
  · rintro ⟨⟨k, hk, rfl⟩, h⟩
    have hk6 : k ≤ 6 := by
      apply Nat.le_of_not_lt
      intro h7
      have : (2 : Int) ^ 7 ≤ 2 ^ k := by
        have := Nat.pow_le_pow_right (n := 2) (by omega) (show 7 ≤ k from h7)
        have h2 : ((2 ^ 7 : Nat) : Int) ≤ ((2 ^ k : Nat) : Int) := by exact_mod_cast this
        simpa using h2
      omega
    have : k = 0 ∨ k = 1 ∨ k = 2 ∨ k = 3 ∨ k = 4 ∨ k = 5 ∨ k = 6 := by omega
    rcases this with rfl | rfl | rfl | rfl | rfl | rfl | rfl <;> decide
  · intro h
    simp [pw7] at h
    rcases h with rfl | rfl | rfl | rfl | rfl | rfl | rfl
    · exact ⟨⟨0, by omega, by decide⟩, by omega⟩
    · exact ⟨⟨1, by omega, by decide⟩, by omega⟩
    · exact ⟨⟨2, by omega, by decide⟩, by omega⟩
    · exact ⟨⟨3, by omega, by decide⟩, by omega⟩
    · exact ⟨⟨4, by omega, by decide⟩, by omega⟩
    · exact ⟨⟨5, by omega, by decide⟩, by omega⟩
    · exact ⟨⟨6, by omega, by decide⟩, by omega⟩

set_option maxRecDepth 100000 in
theorem power_any (n : Int) (w : World) : Calls Try.prog 44 #[.int .i64 n] w fun e w' => e = .returned (.bool (powB n)) ∧ w = w' := by
  unfold powB
  by_cases h1 : 0 < n
  · have d1 : decide (0 < n) = true := by simpa using h1
    by_cases h2 : n ≤ 2147483648
    · have d2 : decide (n ≤ 2147483648) = true := by simpa using h2
      go_enter Try.func44, Try.ntmps44
      go_wp2
      go_ret
      refine ⟨?_, rfl⟩
      simp [d1, d2]
    · have d2 : decide (n ≤ 2147483648) = false := by simpa using h2
      go_enter Try.func44, Try.ntmps44
      go_wp2
      go_ret
      refine ⟨?_, rfl⟩
      simp [d1, d2]
  · have d1 : decide (0 < n) = false := by simpa using h1
    go_enter Try.func44, Try.ntmps44
    go_wp2
    go_ret
    refine ⟨?_, rfl⟩
    simp [d1]
set_option maxRecDepth 100000 in
theorem swithin (n a b : Int) (w : World) : Calls Try.prog 43 #[.int .i64 n, .int .i64 a, .int .i64 b] w fun e w' => e = .returned (.bool (decide (a ≤ n) && decide (n ≤ b))) ∧ w = w' := by
  by_cases h : a ≤ n
  · have h1 : decide (a ≤ n) = true := by simpa using h
    go_enter Try.func43, Try.ntmps43
    go_wp2
    go_ret
    exact ⟨by simp [h], rfl⟩
  · have h1 : decide (a ≤ n) = false := by simpa using h
    go_enter Try.func43, Try.ntmps43
    go_wp2
    go_ret
    exact ⟨by simp [h], rfl⟩
set_option maxRecDepth 100000 in
theorem rwithin (n a b : Int) (w : World) : Calls Try.prog 77 #[.int .i64 n, .int .i64 a, .int .i64 b] w fun e w' => e = .returned (.bool (decide (a ≤ n) && decide (n ≤ b))) ∧ w = w' := by
  by_cases h : a ≤ n
  · have h1 : decide (a ≤ n) = true := by simpa using h
    go_enter Try.func77, Try.ntmps77
    go_wp2
    go_ret
    exact ⟨by simp [h], rfl⟩
  · have h1 : decide (a ≤ n) = false := by simpa using h
    go_enter Try.func77, Try.ntmps77
    go_wp2
    go_ret
    exact ⟨by simp [h], rfl⟩
noncomputable instance (n : Int) : Decidable (pow2 n) := Classical.propDecidable _
/-- Whether a number is a power of two, as the document asks it. -/
noncomputable def pow2B (n : Int) : Bool := decide (pow2 n)
theorem pow2B_room (n : Int) : (pow2B n && decide (n ≤ 64)) = pw7 n := by
  unfold pow2B
  by_cases h : pow2 n ∧ n ≤ 64
  · rw [(pow2_room n).1 h, decide_eq_true h.1, decide_eq_true h.2]; rfl
  · have : pw7 n = false := by
      cases hp : pw7 n with
      | false => rfl
      | true => exact absurd ((pow2_room n).2 hp) h
    rw [this]
    by_cases h1 : pow2 n
    · rw [decide_eq_false (p := n ≤ 64) (fun h2 => h ⟨h1, h2⟩), Bool.and_false]
    · rw [decide_eq_false h1]; rfl
theorem pow_lt32 {j : Nat} (h : j < 32) : (1 : Int) ≤ 2 ^ j ∧ (2 : Int) ^ j ≤ 2147483648 := by
  have h1 : 2 ^ j ≤ 2 ^ 31 := Nat.pow_le_pow_right (by omega) (by omega)
  have h2 : 1 ≤ 2 ^ j := Nat.one_le_two_pow
  have e : ((2 ^ j : Nat) : Int) = (2 : Int) ^ j := Int.natCast_pow 2 j
  rw [← e]
  have h3 : (2 ^ 31 : Nat) = 2147483648 := by decide
  rw [h3] at h1
  omega
set_option maxRecDepth 100000 in
theorem rpower_any (n : Int) (w : World) : Calls Try.prog 78 #[.int .i64 n] w fun e w' => e = .returned (.bool (pow2B n)) ∧ w = w' := by
  go_enter Try.func78, Try.ntmps78
  go_wp2
  go_loopg [3] 32 (fun m k wr => ∃ j : Nat, m + j = 32 ∧ k = .int .i64 (2 ^ j) ∧ (∀ i, i < j → n ≠ 2 ^ i) ∧ wr = w)
  case atStart => exact ⟨0, by omega, rfl, by simp, rfl⟩
  case round =>
    obtain ⟨j, hj, rfl, hno, rfl⟩ := hrel
    have HNO := Lib.hid hno
    have HJ := Lib.hid hj
    by_cases hlt : j < 32
    · obtain ⟨p1, p2⟩ := pow_lt32 hlt
      have hs : (2 : Int) * 2 ^ j = 2 ^ (j + 1) := by rw [Int.pow_succ, Int.mul_comm]
      have HS := Lib.hid hs
      obtain ⟨q, hq⟩ : ∃ q : Int, q = 2 ^ j := ⟨_, rfl⟩
      rw [← hq] at p1 p2 hs ⊢
      have HQ := Lib.hid hq
      clear hno hj hq hs
      by_cases e : n = q
      · have e1 : (n == q) = true := by simpa using e
        have hr : pow2B n = true := by
          unfold pow2B
          exact decide_eq_true ⟨j, hlt, by rw [e, HQ.out]⟩
        have HR := Lib.hid hr
        clear hr e
        go_wp2
        go_ret
        exact ⟨by rw [HR.out]; rfl, rfl⟩
      · have e1 : (n == q) = false := by simpa using e
        have HE := Lib.hid e
        clear e
        go_wp2
        have hj := HJ.out
        go_roundg (gk - 1)
        case measure => omega
        case rel =>
          refine ⟨j + 1, by omega, ?_, fun i hi => ?_, rfl⟩
          · rw [← HS.out, HQ.out]
          · by_cases h : i = j
            · subst h; rw [← HQ.out]; exact HE.out
            · exact HNO.out i (by omega)
    · obtain rfl : j = 32 := by omega
      have hr : pow2B n = false := by
        unfold pow2B
        refine decide_eq_false ?_
        rintro ⟨k, hk, e⟩
        exact hno k hk e
      have HR := Lib.hid hr
      have p : ¬ ((2 : Int) ^ 32 ≤ 2147483648) := by decide
      obtain ⟨q, hq⟩ : ∃ q : Int, q = 2 ^ 32 := ⟨_, rfl⟩
      rw [← hq] at p ⊢
      clear hno hj hr hq
      go_wp2
      go_ret
      exact ⟨by rw [HR.out]; rfl, rfl⟩
end Go.Proofs.Ytnnakiojfpnphaa
namespace Go.Proofs.Ytnnakiojfpnphaa
theorem Upd.of_drew {S : List Nat} {w w' : World} (h : Upd S w.drew w') : Upd S w w' := ⟨h.os, h.tape, h.output, h.size, h.block⟩
theorem Upd.of_drewN {S : List Nat} {w w' : World} {n : Nat} (h : Upd S (w.drewN n) w') : Upd S w w' := ⟨h.os, h.tape, h.output, h.size, h.block⟩
end Go.Proofs.Ytnnakiojfpnphaa
namespace Go.Proofs.Ytnnakiojfpnphaa
open Go.RowKit

/-- What '==' says of a list of fields. -/
inductive EqF (P : Program) (w : World) (n : Nat) (c d : Array Value) : List (String × TypeId × Nat) → Bool → Prop
  | nil : EqF P w n c d [] true
  | cons {a : String} {t : TypeId} {o : Nat} {l : List (String × TypeId × Nat)} {x y : Value} {e e' : Bool} (h : (a != "_") = true) (h1 : (part t c o).run P w = .ok x w) (h2 : (part t d o).run P w = .ok y w) (h3 : (Op.equalIn n t x y).run P w = .ok e w) (h4 : EqF P w n c d l e') : EqF P w n c d ((a, t, o) :: l) (e && e')
theorem eqF_run {P : Program} {w : World} {n : Nat} {c d : Array Value} {l : List (String × TypeId × Nat)} {e : Bool} (h : EqF P w n c d l e) : ∀ {fs : List Field}, fs.map (fun g => (g.name, g.type, g.offset)) = l → (Op.eqFields n c d fs).run P w = .ok e w := by
  induction h with
  | nil =>
    intro fs h
    obtain rfl : fs = [] := by simpa using h
    rfl
  | @cons a t o l x y e0 e1 h h1 h2 h3 h4 ih =>
    intro fs hm
    rcases fs with _ | ⟨f, fs⟩
    · simp at hm
    · simp only [List.map_cons, List.cons.injEq, Prod.mk.injEq] at hm
      obtain ⟨⟨n1, t1, o1⟩, hm⟩ := hm
      have hf := ih hm
      have hn : ¬ f.name = "_" := by rw [n1]; simpa using h
      simp only [Op.eqFields, n1, t1, o1]
      rw [n1] at hn
      simp only [ne_eq, hn, not_false_eq_true, if_true, Sem.run_bind, h1, h2, h3, Result.andThen_ok]
      cases e0
      · simp
      · simpa using hf
/-- '==' of a struct's values inside another one. -/
theorem eqIn_struct {P : Program} {w : World} {n : Nat} {t : TypeId} {c d : Array Value} {e : Bool} {l : List (String × TypeId × Nat)} (ht : P.underlying t = some (.struct (P.fieldsOf t))) (hp : P.stoodInHeld t = false) (hl : (P.fieldsOf t).toList.map (fun g => (g.name, g.type, g.offset)) = l) (h : EqF P w n c d l e) :
    (Op.equalIn (n + 1) t (.agg c) (.agg d)).run P w = .ok e w := by
  rw [run_equalIn_struct w n t c d ht hp]
  exact eqF_run h hl
theorem eql_struct {P : Program} {w : World} {t : TypeId} {c d : Array Value} {e : Bool} (h : (Op.equalIn 10000 t (.agg c) (.agg d)).run P w = .ok e w) : (binOp .eql t (.agg c) (.agg d)).run P w = .ok (.bool e) w := by
  refine (run_eql_struct w _ _ _).trans ?_
  refine (congrArg (fun r => Result.andThen r _) h).trans ?_
  rfl
end Go.Proofs.Ytnnakiojfpnphaa
