/- The walk, part 4: Ret Cell Cell2 Do. -/
import Derived.Test.YtnnakiojfpnphaaZi01
import Derived.Laws.Rows
import Derived.Test.YtnnakiojfpnphaaProg
set_option linter.unusedVariables false
set_option linter.unusedSimpArgs false

namespace Go.Proofs.Ytnnakiojfpnphaa
open Go.RowKit

/-- A scope out of which one goto goes forward, and none behind it. -/
theorem wp_scope_jump1 {P : Program} {a : Act} {w : World} {Q : Exit → Act → World → Prop} {c rest : Code} (l : Nat) (hf : findLabel c l = some rest)
    (h : ∀ K : Act → World → Prop, RowKit.Hid (∀ a w, rest.wp P (Exit.noGoto Q) a w → K a w) → c.wp P (Exit.jump l K Q) a w) : (Code.scope c).wp P Q a w := by
  intro b k cs
  have hg : gotoIn l (.inScope c :: k) = some (.code rest :: .inScope c :: k) := by simp [gotoIn, hf]
  obtain ⟨e, a₁, w₁, hq, harr⟩ := h (fun a w => rest.wp P (Exit.noGoto Q) a w) (Lib.hid fun _ _ h => h) b (.inScope c :: k) cs
  cases e with
  | normal => exact ⟨.normal, a₁, w₁, hq, .head step_scope (Steps.trans harr (.one step_inScope))⟩
  | exit id => exact ⟨.exit id, a₁, w₁, hq, fun k' hk => .head step_scope (harr k' (by simp [exitTo, hk]))⟩
  | goto l' =>
    obtain ⟨rfl, hJ⟩ := hq
    obtain ⟨e₂, a₂, w₂, hq₂, harr₂⟩ := hJ b (.inScope c :: k) cs
    cases e₂ with
    | normal => exact ⟨.normal, a₂, w₂, hq₂, .of_steps (.head step_scope (harr _ hg)) (Steps.trans harr₂ (.one step_inScope))⟩
    | exit id => exact ⟨.exit id, a₂, w₂, hq₂, .of_steps (.head step_scope (harr _ hg)) fun k' hk => harr₂ k' (by simp [exitTo, hk])⟩
    | goto l'' => exact hq₂.elim
    | ret => exact ⟨_, a₂, w₂, hq₂, .of_steps (.head step_scope (harr _ hg)) harr₂⟩
    | panic ch => exact ⟨_, a₂, w₂, hq₂, .of_steps (.head step_scope (harr _ hg)) harr₂⟩
    | outgrown => exact ⟨_, a₂, w₂, hq₂, .of_steps (.head step_scope (harr _ hg)) harr₂⟩
  | ret => exact ⟨_, a₁, w₁, hq, .of_steps (.one step_scope) harr⟩
  | panic ch => exact ⟨_, a₁, w₁, hq, .of_steps (.one step_scope) harr⟩
  | outgrown => exact ⟨_, a₁, w₁, hq, .of_steps (.one step_scope) harr⟩

theorem results_cell_tmp {P : Program} {fn : Func} {p q : Tmp} {ty : TypeId} (h : fn.results = #[.cell p ty, .tmp q]) (tmps : Array Value) (w : World) (g : Nat) (t : TypeId) (cs : Array Value) (fr : Nat × Nat) (d : TypeDesc) (v : Value)
    (hp : tmps.getD p undef = .pointer (some ⟨g, 0, none⟩)) (hq : tmps.getD q undef = v) (hg : w.heap[g]? = some (.cells cs t fr))
    (hu : P.underlying ty = some d) (hd : (match d with | .struct _ | .array _ _ => true | _ => false) = true) (hi : (P.info? ty).map (·.size) = some cs.size) :
    (results fn tmps).run P w = .ok (.tuple #[.agg cs, v]) w := by
  have hp' : tmps[p]?.getD undef = .pointer (some ⟨g, 0, none⟩) := by simpa using hp
  have hq' : tmps[q]?.getD undef = v := by simpa using hq
  simp [results, h, hp', hq', asAddr, run_loadVar_row w g t ty cs fr d hg hu hd hi]
theorem results_cell_tmp2 {P : Program} {fn : Func} {p q r : Tmp} {ty : TypeId} (h : fn.results = #[.cell p ty, .tmp q, .tmp r]) (tmps : Array Value) (w : World) (g : Nat) (t : TypeId) (cs : Array Value) (fr : Nat × Nat) (d : TypeDesc) (v u : Value)
    (hp : tmps.getD p undef = .pointer (some ⟨g, 0, none⟩)) (hq : tmps.getD q undef = v) (hr : tmps.getD r undef = u) (hg : w.heap[g]? = some (.cells cs t fr))
    (hu : P.underlying ty = some d) (hd : (match d with | .struct _ | .array _ _ => true | _ => false) = true) (hi : (P.info? ty).map (·.size) = some cs.size) :
    (results fn tmps).run P w = .ok (.tuple #[.agg cs, v, u]) w := by
  have hp' : tmps[p]?.getD undef = .pointer (some ⟨g, 0, none⟩) := by simpa using hp
  have hq' : tmps[q]?.getD undef = v := by simpa using hq
  have hr' : tmps[r]?.getD undef = u := by simpa using hr
  simp [results, h, hp', hq', hr', asAddr, run_loadVar_row w g t ty cs fr d hg hu hd hi]
theorem heap_set2 {w : World} {b i : Nat} {v : Value} {c c' : List Value} {t : TypeId} {f : Nat × Nat} (h : w.heap[b]? = some (.cells c.toArray t f)) (e : c.set i v = c') : (w.setCell ⟨b, i, none⟩ v).heap[b]? = some (.cells c'.toArray t f) := by
  subst e; rw [heap_set h i v]; simp
theorem heap_drew' {w : World} {b : Nat} {o : Obj} (h : w.heap[b]? = some o) : w.drew.heap[b]? = some o := h
theorem info_act : (Try.prog.info? 41).map (·.size) = some 3 := by kernel_rfl
theorem info_result : (Try.prog.info? 46).map (·.size) = some 5 := by kernel_rfl
theorem info_act3 (a b c : Value) : (Try.prog.info? 41).map (·.size) = some (#[a, b, c] : Array Value).size := info_act
theorem info_result5 (a b c d e : Value) : (Try.prog.info? 46).map (·.size) = some (#[a, b, c, d, e] : Array Value).size := info_result
/-- The act that a routine hands out. -/
theorem ret_act {fn : Func} {p q : Tmp} (h : fn.results = #[.cell p 41, .tmp q]) {R : Ending → World → Prop} {a : Act} {w : World} {g : Nat} {t : TypeId} {fr : Nat × Nat} {x y z v : Value}
    (hp : a.tmps.getD p undef = .pointer (some ⟨g, 0, none⟩)) (hq : a.tmps.getD q undef = v) (hd : a.defers = []) (hg : w.heap[g]? = some (.cells [x, y, z].toArray t fr)) (hR : R (.returned (.tuple #[.agg #[x, y, z], v])) w) : bodyPost Try.prog fn R .ret a w :=
  bodyPost_ret (results_cell_tmp h _ _ g t _ fr _ v hp hq hg Try.underlying41 rfl (info_act3 x y z)) hd hR
/-- The answer that a routine hands out. -/
theorem ret_result {fn : Func} {p q : Tmp} (h : fn.results = #[.cell p 46, .tmp q]) {R : Ending → World → Prop} {a : Act} {w : World} {g : Nat} {t : TypeId} {fr : Nat × Nat} {x0 x1 x2 x3 x4 v : Value}
    (hp : a.tmps.getD p undef = .pointer (some ⟨g, 0, none⟩)) (hq : a.tmps.getD q undef = v) (hd : a.defers = []) (hg : w.heap[g]? = some (.cells [x0, x1, x2, x3, x4].toArray t fr)) (hR : R (.returned (.tuple #[.agg #[x0, x1, x2, x3, x4], v])) w) : bodyPost Try.prog fn R .ret a w :=
  bodyPost_ret (results_cell_tmp h _ _ g t _ fr _ v hp hq hg Try.underlying46 rfl (info_result5 x0 x1 x2 x3 x4)) hd hR
theorem ret_result2 {fn : Func} {p q r : Tmp} (h : fn.results = #[.cell p 46, .tmp q, .tmp r]) {R : Ending → World → Prop} {a : Act} {w : World} {g : Nat} {t : TypeId} {fr : Nat × Nat} {x0 x1 x2 x3 x4 v u : Value}
    (hp : a.tmps.getD p undef = .pointer (some ⟨g, 0, none⟩)) (hq : a.tmps.getD q undef = v) (hr : a.tmps.getD r undef = u) (hd : a.defers = []) (hg : w.heap[g]? = some (.cells [x0, x1, x2, x3, x4].toArray t fr)) (hR : R (.returned (.tuple #[.agg #[x0, x1, x2, x3, x4], v, u])) w) : bodyPost Try.prog fn R .ret a w :=
  bodyPost_ret (results_cell_tmp2 h _ _ g t _ fr _ v u hp hq hr hg Try.underlying46 rfl (info_result5 x0 x1 x2 x3 x4)) hd hR
end Go.Proofs.Ytnnakiojfpnphaa
namespace Go.Proofs.Ytnnakiojfpnphaa
open Go.RowKit

def u32s (xs : List Int) : List Value := xs.map (Value.int .u32)

theorem u32_cell {w : World} {g : Nat} {ys : List Int} {t : TypeId} {f : Nat × Nat} (h : w.heap[g]? = some (.cells (u32s ys).toArray t f)) {i : Nat} (hi : i < ys.length) : w.cell? ⟨g, i, none⟩ = some (.int .u32 ys[i]) := by
  rw [cell_of_heap h]; simp [u32s, List.getElem?_eq_getElem hi]

/-- A memory at block b, whose words lie in block g. -/
structure Mem (w : World) (b g : Nat) (lo st : Int) (xs : List Int) : Prop where
  hb : w.heap[b]? = some (.cells #[.int .i64 lo, .int .i64 st, .slice (some ⟨g, 0, none⟩) xs.length xs.length] 76 (0, 0))
  hg : w.heap[g]? = some (.cells (u32s xs).toArray 32 (0, 0))
  ne : b ≠ g
  len : xs.length ≤ 65536

theorem Mem.keep {w w' : World} {b g : Nat} {lo st : Int} {xs : List Int} (h : Mem w b g lo st xs) {S : List Nat} (hu : Upd S w w') (h1 : b ∉ S) (h2 : g ∉ S) : Mem w' b g lo st xs :=
  ⟨by rw [hu.block b (heap_lt h.hb) h1]; exact h.hb, by rw [hu.block g (heap_lt h.hg) h2]; exact h.hg, h.ne, h.len⟩

theorem Mem.c0 {w : World} {b g : Nat} {lo st : Int} {xs : List Int} (h : Mem w b g lo st xs) : w.cell? ⟨b, 0, none⟩ = some (.int .i64 lo) := by rw [cell_of_heap h.hb]; rfl
theorem Mem.c1 {w : World} {b g : Nat} {lo st : Int} {xs : List Int} (h : Mem w b g lo st xs) : w.cell? ⟨b, 1, none⟩ = some (.int .i64 st) := by rw [cell_of_heap h.hb]; rfl
theorem Mem.c2 {w : World} {b g : Nat} {lo st : Int} {xs : List Int} (h : Mem w b g lo st xs) : w.cell? ⟨b, 2, none⟩ = some (.slice (some ⟨g, 0, none⟩) xs.length xs.length) := by rw [cell_of_heap h.hb]; rfl
theorem Mem.cg {w : World} {b g : Nat} {lo st : Int} {xs : List Int} (h : Mem w b g lo st xs) {i : Nat} (hi : i < xs.length) : w.cell? ⟨g, i, none⟩ = some (.int .u32 xs[i]) := by rw [cell_of_heap h.hg]; simp [u32s, List.getElem?_eq_getElem hi]
theorem Mem.f {w : World} {b g : Nat} {lo st : Int} {xs : List Int} (h : Mem w b g lo st xs) (i : Nat) : w.frozen? ⟨b, i, none⟩ = false := frozen_of_heap h.hb i
theorem Mem.fg {w : World} {b g : Nat} {lo st : Int} {xs : List Int} (h : Mem w b g lo st xs) (i : Nat) : w.frozen? ⟨g, i, none⟩ = false := frozen_of_heap h.hg i

set_option maxHeartbeats 400000 in
theorem len_nil (w : World) : Calls Try.prog 74 #[.pointer none] w fun e w' => e = .returned (.int .i64 0) ∧ w = w' := by
  go_enter Try.func74, Try.ntmps74
  go_wp2
  go_ret
  exact ⟨rfl, rfl⟩

set_option maxHeartbeats 400000 in
theorem len_any {w : World} {b g : Nat} {lo st : Int} {xs : List Int} (h : Mem w b g lo st xs) :
    Calls Try.prog 74 #[.pointer (some ⟨b, 0, none⟩)] w fun e w' => e = .returned (.int .i64 xs.length) ∧ w = w' := by
  have c2 : w.cell? ⟨b, 2, none⟩ = some (.slice (some ⟨g, 0, none⟩) xs.length xs.length) := by rw [cell_of_heap h.hb]; rfl
  clear h
  go_enter Try.func74, Try.ntmps74
  go_wp2
  go_ret
  exact ⟨rfl, rfl⟩

set_option maxHeartbeats 400000 in
theorem there_any {w : World} {b g : Nat} {lo st : Int} {xs : List Int} (at' : Int) (h : Mem w b g lo st xs) :
    Calls Try.prog 58 #[.pointer (some ⟨b, 0, none⟩), .int .i64 at'] w fun e w' => e = .returned (.bool (decide (0 ≤ at') && decide (at' < xs.length))) ∧ w = w' := by
  by_cases h0 : 0 ≤ at'
  · go_enter Try.func58, Try.ntmps58
    go_wp2_with (go_at_call 74; refine (len_any h).mono ?_; rintro e w' ⟨rfl, rfl⟩)
    go_ret
    exact ⟨by simp [h0], rfl⟩
  · have h0' : decide (0 ≤ at') = false := by simpa using h0
    go_enter Try.func58, Try.ntmps58
    go_wp2
    go_ret
    exact ⟨by simp, rfl⟩

set_option maxHeartbeats 400000 in
theorem load_any {w : World} {b g : Nat} {lo st : Int} {xs : List Int} (i : Nat) (h : Mem w b g lo st xs) (hi : i < xs.length) (hlo0 : 0 ≤ lo) (hlo : lo < 1000000) :
    Calls Try.prog 36 #[.pointer (some ⟨b, 0, none⟩), .int .i64 i] w fun e w' => e = .returned (.tuple #[.int .u32 xs[i], .bool true]) ∧ Mem w' b g (lo + 1) st xs ∧ Upd [b] w w' := by
  have c0 : w.cell? ⟨b, 0, none⟩ = some (.int .i64 lo) := by rw [cell_of_heap h.hb]; rfl
  have f0 := frozen_of_heap h.hb 0
  have c2 : w.cell? ⟨b, 2, none⟩ = some (.slice (some ⟨g, 0, none⟩) xs.length xs.length) := by rw [cell_of_heap h.hb]; rfl
  have cg : w.cell? ⟨g, i, none⟩ = some (.int .u32 xs[i]) := by rw [cell_of_heap h.hg]; simp [u32s, List.getElem?_eq_getElem hi]
  have hne := h.ne
  have hr : (decide (0 ≤ (i : Int)) && decide ((i : Int) < xs.length)) = true := by simp; omega
  have ht := there_any (i : Int) h
  rw [hr] at ht
  have HT := Lib.hid ht
  have HH := Lib.hid h
  clear ht hr h
  go_enter Try.func36, Try.ntmps36
  go_wp2_with (go_at_call 58; refine (HT.out).mono ?_; rintro e w' ⟨rfl, rfl⟩)
  go_ret2
  have h := HH.out
  exact ⟨rfl, ⟨by rw [heap_set h.hb]; rfl, by rw [heap_set_other _ _ _ h.ne.symm]; exact h.hg, h.ne, h.len⟩, (Upd.refl _ _).setCell (by simp) _⟩

theorem not_there {i : Int} {n : Nat} (h : i < 0 ∨ (n : Int) ≤ i) : (decide (0 ≤ i) && decide (i < n)) = false := by
  rcases h with h | h
  · rw [decide_eq_false (by omega)]; rfl
  · rw [decide_eq_false (p := i < n) (by omega)]; simp

set_option maxHeartbeats 400000 in
theorem load_out {w : World} {b g : Nat} {lo st : Int} {xs : List Int} (i : Int) (h : Mem w b g lo st xs) (hi : i < 0 ∨ (xs.length : Int) ≤ i) :
    Calls Try.prog 36 #[.pointer (some ⟨b, 0, none⟩), .int .i64 i] w fun e w' => e = .returned (.tuple #[.int .u32 0, .bool false]) ∧ w = w' := by
  have ht := there_any i h
  rw [not_there hi] at ht
  have HT := Lib.hid ht
  clear ht h hi
  go_enter Try.func36, Try.ntmps36
  go_wp2_with (go_at_call 58; refine (HT.out).mono ?_; rintro e w' ⟨rfl, rfl⟩)
  go_ret2
  exact ⟨rfl, rfl⟩

theorem u32s_set (xs : List Int) (i : Nat) (v : Int) : (u32s xs).toArray.setIfInBounds i (.int .u32 v) = (u32s (xs.set i v)).toArray := by simp [u32s, List.map_set]

theorem Mem.set {w : World} {b g : Nat} {lo st : Int} {xs : List Int} (h : Mem w b g lo st xs) (i : Nat) (v : Int) : Mem (w.setCell ⟨g, i, none⟩ (.int .u32 v)) b g lo st (xs.set i v) :=
  ⟨by rw [heap_set_other _ _ _ h.ne]; simpa using h.hb, by rw [heap_set h.hg, u32s_set], h.ne, by simpa using h.len⟩
theorem Mem.loads {w : World} {b g : Nat} {lo st : Int} {xs : List Int} (h : Mem w b g lo st xs) (n : Int) : Mem (w.setCell ⟨b, 0, none⟩ (.int .i64 n)) b g n st xs :=
  ⟨by rw [heap_set h.hb]; rfl, by rw [heap_set_other _ _ _ h.ne.symm]; exact h.hg, h.ne, h.len⟩
theorem Mem.stores {w : World} {b g : Nat} {lo st : Int} {xs : List Int} (h : Mem w b g lo st xs) (n : Int) : Mem (w.setCell ⟨b, 1, none⟩ (.int .i64 n)) b g lo n xs :=
  ⟨by rw [heap_set h.hb]; rfl, by rw [heap_set_other _ _ _ h.ne.symm]; exact h.hg, h.ne, h.len⟩
theorem Mem.drew {w : World} {b g : Nat} {lo st : Int} {xs : List Int} (h : Mem w b g lo st xs) : Mem w.drew b g lo st xs := ⟨h.hb, h.hg, h.ne, h.len⟩
theorem Mem.alloc {w : World} {b g : Nat} {lo st : Int} {xs : List Int} (h : Mem w b g lo st xs) (o : Obj) : Mem (w.alloc o) b g lo st xs :=
  h.keep ((Upd.refl [] w).alloc o) (by simp) (by simp)

set_option maxHeartbeats 400000 in
theorem store_any {w : World} {b g : Nat} {lo st : Int} {xs : List Int} (i : Nat) (v : Int) (h : Mem w b g lo st xs) (hi : i < xs.length) (hst0 : 0 ≤ st) (hst : st < 1000000) :
    Calls Try.prog 37 #[.pointer (some ⟨b, 0, none⟩), .int .i64 i, .int .u32 v] w fun e w' => e = .returned (.bool true) ∧ Mem w' b g lo (st + 1) (xs.set i v) ∧ Upd [b, g] w w' := by
  have c1 : w.cell? ⟨b, 1, none⟩ = some (.int .i64 st) := by rw [cell_of_heap h.hb]; rfl
  have f1 := frozen_of_heap h.hb 1
  have c2 : w.cell? ⟨b, 2, none⟩ = some (.slice (some ⟨g, 0, none⟩) xs.length xs.length) := by rw [cell_of_heap h.hb]; rfl
  have cg : w.cell? ⟨g, i, none⟩ = some (.int .u32 xs[i]) := by rw [cell_of_heap h.hg]; simp [u32s, List.getElem?_eq_getElem hi]
  have fg := frozen_of_heap h.hg i
  have hne := h.ne
  have hr : (decide (0 ≤ (i : Int)) && decide ((i : Int) < xs.length)) = true := by simp; omega
  have ht := there_any (i : Int) h
  rw [hr] at ht
  have HT := Lib.hid ht
  have HH := Lib.hid h
  clear ht hr h
  go_enter Try.func37, Try.ntmps37
  go_wp2_with (go_at_call 58; refine (HT.out).mono ?_; rintro e w' ⟨rfl, rfl⟩)
  go_ret
  exact ⟨rfl, (HH.out.stores _).set i v, ((Upd.refl _ _).setCell (by simp) _).setCell (by simp) _⟩

set_option maxHeartbeats 400000 in
theorem store_out {w : World} {b g : Nat} {lo st : Int} {xs : List Int} (i : Int) (v : Int) (h : Mem w b g lo st xs) (hi : i < 0 ∨ (xs.length : Int) ≤ i) :
    Calls Try.prog 37 #[.pointer (some ⟨b, 0, none⟩), .int .i64 i, .int .u32 v] w fun e w' => e = .returned (.bool false) ∧ w = w' := by
  have ht := there_any i h
  rw [not_there hi] at ht
  have HT := Lib.hid ht
  clear ht h hi
  go_enter Try.func37, Try.ntmps37
  go_wp2_with (go_at_call 58; refine (HT.out).mono ?_; rintro e w' ⟨rfl, rfl⟩)
  go_ret
  exact ⟨rfl, rfl⟩

/-! The closures of Swap, Or, And. -/
set_option maxHeartbeats 400000 in
theorem swap1_any (w : World) (c : Nat) (was v : Int) (hc : w.cell? ⟨c, 0, none⟩ = some (.int .u32 v)) :
    Calls Try.prog 56 #[.int .u32 was, .pointer (some ⟨c, 0, none⟩)] w fun e w' => e = .returned (.int .u32 v) ∧ w = w' := by
  go_enter Try.func56, Try.ntmps56
  go_wp2
  go_ret
  exact ⟨rfl, rfl⟩
set_option maxHeartbeats 400000 in
theorem or1_any (w : World) (c : Nat) (was v : Int) (hc : w.cell? ⟨c, 0, none⟩ = some (.int .u32 v)) :
    Calls Try.prog 59 #[.int .u32 was, .pointer (some ⟨c, 0, none⟩)] w fun e w' => e = .returned (.int .u32 (bits .or .u32 was v)) ∧ w = w' := by
  go_enter Try.func59, Try.ntmps59
  go_wp2
  go_ret
  exact ⟨rfl, rfl⟩
set_option maxHeartbeats 400000 in
theorem and1_any (w : World) (c : Nat) (was v : Int) (hc : w.cell? ⟨c, 0, none⟩ = some (.int .u32 v)) :
    Calls Try.prog 60 #[.int .u32 was, .pointer (some ⟨c, 0, none⟩)] w fun e w' => e = .returned (.int .u32 (bits .and .u32 was v)) ∧ w = w' := by
  go_enter Try.func60, Try.ntmps60
  go_wp2
  go_ret
  exact ⟨rfl, rfl⟩

set_option maxRecDepth 100000 in
set_option maxHeartbeats 400000 in
theorem put_any {w : World} {b g c : Nat} {lo st : Int} {xs : List Int} (i : Nat) (k : Nat) (r : Int) (h : Mem w b g lo st xs) (hi : i < xs.length) (hst0 : 0 ≤ st) (hst : st < 1000000) (hlo0 : 0 ≤ lo) (hlo : lo < 1000000)
    (hcf : ∀ (W : World) (A : Array Value), (callFunc k A).run Try.prog W = .ok (.enter k A) W)
    (hk : Calls Try.prog k #[.int .u32 xs[i], .pointer (some ⟨c, 0, none⟩)] w.drew fun e w' => e = .returned (.int .u32 r) ∧ w' = w.drew) :
    Calls Try.prog 55 #[.pointer (some ⟨b, 0, none⟩), .int .i64 i, .func (.func k) #[] #[.pointer (some ⟨c, 0, none⟩)]] w fun e w' => e = .returned (.tuple #[.int .u32 xs[i], .bool true]) ∧ Mem w' b g (lo + 1) (st + 1) (xs.set i r) ∧ Upd [b, g] w w' := by
  have c0 : w.cell? ⟨b, 0, none⟩ = some (.int .i64 lo) := by rw [cell_of_heap h.hb]; rfl
  have f0 := frozen_of_heap h.hb 0
  have c1 : w.cell? ⟨b, 1, none⟩ = some (.int .i64 st) := by rw [cell_of_heap h.hb]; rfl
  have f1 := frozen_of_heap h.hb 1
  have c2 : w.cell? ⟨b, 2, none⟩ = some (.slice (some ⟨g, 0, none⟩) xs.length xs.length) := by rw [cell_of_heap h.hb]; rfl
  have cg : w.cell? ⟨g, i, none⟩ = some (.int .u32 xs[i]) := by rw [cell_of_heap h.hg]; simp [u32s, List.getElem?_eq_getElem hi]
  have fg := frozen_of_heap h.hg i
  have hne := h.ne
  have hr : (decide (0 ≤ (i : Int)) && decide ((i : Int) < xs.length)) = true := by simp; omega
  have ht := there_any (i : Int) h
  rw [hr] at ht
  have HT := Lib.hid ht
  have HH := Lib.hid h
  have HK := Lib.hid hk
  clear ht hr h hk
  go_enter Try.func55, Try.ntmps55
  go_wp2_with (go_at_call 58; refine (HT.out).mono ?_; rintro e w' ⟨rfl, rfl⟩)
  refine wp_region_still_tail 9 (by kernel_rfl) (by kernel_rfl) ?_
  simp only [List.take_succ_cons, List.take_zero, List.drop_succ_cons, List.drop_zero]
  repeat still_step
  still_call HK.out
  repeat still_step
  refine wpStill_nil ?_
  change wpList _ _ _ _ _ w.drew
  go_wp2
  go_ret2
  exact ⟨rfl, ((HH.out.drew.set i r).loads _).stores _, (((Upd.refl _ _).drew.setCell (by simp) _).setCell (by simp) _).setCell (by simp) _⟩

set_option maxHeartbeats 400000 in
theorem put_out {w : World} {b g : Nat} {lo st : Int} {xs : List Int} (i : Int) (f : Value) (h : Mem w b g lo st xs) (hi : i < 0 ∨ (xs.length : Int) ≤ i) :
    Calls Try.prog 55 #[.pointer (some ⟨b, 0, none⟩), .int .i64 i, f] w fun e w' => e = .returned (.tuple #[.int .u32 0, .bool false]) ∧ w = w' := by
  have ht := there_any i h
  rw [not_there hi] at ht
  have HT := Lib.hid ht
  clear ht h hi
  go_enter Try.func55, Try.ntmps55
  go_wp2_with (go_at_call 58; refine (HT.out).mono ?_; rintro e w' ⟨rfl, rfl⟩)
  go_ret2
  exact ⟨rfl, rfl⟩

set_option maxHeartbeats 400000 in
theorem swap_any {w : World} {b g : Nat} {lo st : Int} {xs : List Int} (i : Nat) (v : Int) (h : Mem w b g lo st xs) (hi : i < xs.length) (hst0 : 0 ≤ st) (hst : st < 1000000) (hlo0 : 0 ≤ lo) (hlo : lo < 1000000) :
    Calls Try.prog 34 #[.pointer (some ⟨b, 0, none⟩), .int .i64 i, .int .u32 v] w fun e w' => e = .returned (.tuple #[.int .u32 xs[i], .bool true]) ∧ Mem w' b g (lo + 1) (st + 1) (xs.set i (v)) ∧ Upd [b, g] w w' := by
  have hp := put_any i 56 (v) (c := w.heap.size) (h.alloc (.cells #[.int .u32 v] 32)) hi hst0 hst hlo0 hlo (fun _ _ => by kernel_rfl)
    ((swap1_any _ w.heap.size xs[i] v (cell_of_heap (heap_alloc_new w _) 0)).mono fun _ _ ⟨a, b⟩ => ⟨a, b.symm⟩)
  have HP := Lib.hid hp
  have h1 : Upd [b, g] w (w.alloc (.cells #[.int .u32 v] 32)) := (Upd.refl _ _).alloc _
  clear hp h
  go_enter Try.func34, Try.ntmps34
  go_wp2_with (go_at_call 55; refine (HP.out).mono ?_; rintro e w' ⟨rfl, hm, hu⟩)
  go_ret2
  exact ⟨rfl, hm, h1.trans hu⟩
set_option maxHeartbeats 400000 in
theorem swap_out {w : World} {b g : Nat} {lo st : Int} {xs : List Int} (i : Int) (v : Int) (h : Mem w b g lo st xs) (hi : i < 0 ∨ (xs.length : Int) ≤ i) :
    Calls Try.prog 34 #[.pointer (some ⟨b, 0, none⟩), .int .i64 i, .int .u32 v] w fun e w' => e = .returned (.tuple #[.int .u32 0, .bool false]) ∧ Mem w' b g lo st xs ∧ Upd [] w w' := by
  have hp := put_out i (.func (.func 56) #[] #[.pointer (some ⟨w.heap.size, 0, none⟩)]) (h.alloc (.cells #[.int .u32 v] 32)) hi
  have HP := Lib.hid hp
  have h1 : Upd [] w (w.alloc (.cells #[.int .u32 v] 32)) := (Upd.refl _ _).alloc _
  have hm := h.alloc (.cells #[.int .u32 v] 32)
  clear hp h
  go_enter Try.func34, Try.ntmps34
  go_wp2_with (go_at_call 55; refine (HP.out).mono ?_; rintro e w' ⟨rfl, rfl⟩)
  go_ret2
  exact ⟨rfl, hm, h1⟩

set_option maxHeartbeats 400000 in
theorem or_any {w : World} {b g : Nat} {lo st : Int} {xs : List Int} (i : Nat) (v : Int) (h : Mem w b g lo st xs) (hi : i < xs.length) (hst0 : 0 ≤ st) (hst : st < 1000000) (hlo0 : 0 ≤ lo) (hlo : lo < 1000000) :
    Calls Try.prog 38 #[.pointer (some ⟨b, 0, none⟩), .int .i64 i, .int .u32 v] w fun e w' => e = .returned (.tuple #[.int .u32 xs[i], .bool true]) ∧ Mem w' b g (lo + 1) (st + 1) (xs.set i (bits .or .u32 xs[i] v)) ∧ Upd [b, g] w w' := by
  have hp := put_any i 59 (bits .or .u32 xs[i] v) (c := w.heap.size) (h.alloc (.cells #[.int .u32 v] 32)) hi hst0 hst hlo0 hlo (fun _ _ => by kernel_rfl)
    ((or1_any _ w.heap.size xs[i] v (cell_of_heap (heap_alloc_new w _) 0)).mono fun _ _ ⟨a, b⟩ => ⟨a, b.symm⟩)
  have HP := Lib.hid hp
  have h1 : Upd [b, g] w (w.alloc (.cells #[.int .u32 v] 32)) := (Upd.refl _ _).alloc _
  clear hp h
  go_enter Try.func38, Try.ntmps38
  go_wp2_with (go_at_call 55; refine (HP.out).mono ?_; rintro e w' ⟨rfl, hm, hu⟩)
  go_ret2
  exact ⟨rfl, hm, h1.trans hu⟩
set_option maxHeartbeats 400000 in
theorem or_out {w : World} {b g : Nat} {lo st : Int} {xs : List Int} (i : Int) (v : Int) (h : Mem w b g lo st xs) (hi : i < 0 ∨ (xs.length : Int) ≤ i) :
    Calls Try.prog 38 #[.pointer (some ⟨b, 0, none⟩), .int .i64 i, .int .u32 v] w fun e w' => e = .returned (.tuple #[.int .u32 0, .bool false]) ∧ Mem w' b g lo st xs ∧ Upd [] w w' := by
  have hp := put_out i (.func (.func 59) #[] #[.pointer (some ⟨w.heap.size, 0, none⟩)]) (h.alloc (.cells #[.int .u32 v] 32)) hi
  have HP := Lib.hid hp
  have h1 : Upd [] w (w.alloc (.cells #[.int .u32 v] 32)) := (Upd.refl _ _).alloc _
  have hm := h.alloc (.cells #[.int .u32 v] 32)
  clear hp h
  go_enter Try.func38, Try.ntmps38
  go_wp2_with (go_at_call 55; refine (HP.out).mono ?_; rintro e w' ⟨rfl, rfl⟩)
  go_ret2
  exact ⟨rfl, hm, h1⟩

set_option maxHeartbeats 400000 in
theorem and_any {w : World} {b g : Nat} {lo st : Int} {xs : List Int} (i : Nat) (v : Int) (h : Mem w b g lo st xs) (hi : i < xs.length) (hst0 : 0 ≤ st) (hst : st < 1000000) (hlo0 : 0 ≤ lo) (hlo : lo < 1000000) :
    Calls Try.prog 39 #[.pointer (some ⟨b, 0, none⟩), .int .i64 i, .int .u32 v] w fun e w' => e = .returned (.tuple #[.int .u32 xs[i], .bool true]) ∧ Mem w' b g (lo + 1) (st + 1) (xs.set i (bits .and .u32 xs[i] v)) ∧ Upd [b, g] w w' := by
  have hp := put_any i 60 (bits .and .u32 xs[i] v) (c := w.heap.size) (h.alloc (.cells #[.int .u32 v] 32)) hi hst0 hst hlo0 hlo (fun _ _ => by kernel_rfl)
    ((and1_any _ w.heap.size xs[i] v (cell_of_heap (heap_alloc_new w _) 0)).mono fun _ _ ⟨a, b⟩ => ⟨a, b.symm⟩)
  have HP := Lib.hid hp
  have h1 : Upd [b, g] w (w.alloc (.cells #[.int .u32 v] 32)) := (Upd.refl _ _).alloc _
  clear hp h
  go_enter Try.func39, Try.ntmps39
  go_wp2_with (go_at_call 55; refine (HP.out).mono ?_; rintro e w' ⟨rfl, hm, hu⟩)
  go_ret2
  exact ⟨rfl, hm, h1.trans hu⟩
set_option maxHeartbeats 400000 in
theorem and_out {w : World} {b g : Nat} {lo st : Int} {xs : List Int} (i : Int) (v : Int) (h : Mem w b g lo st xs) (hi : i < 0 ∨ (xs.length : Int) ≤ i) :
    Calls Try.prog 39 #[.pointer (some ⟨b, 0, none⟩), .int .i64 i, .int .u32 v] w fun e w' => e = .returned (.tuple #[.int .u32 0, .bool false]) ∧ Mem w' b g lo st xs ∧ Upd [] w w' := by
  have hp := put_out i (.func (.func 60) #[] #[.pointer (some ⟨w.heap.size, 0, none⟩)]) (h.alloc (.cells #[.int .u32 v] 32)) hi
  have HP := Lib.hid hp
  have h1 : Upd [] w (w.alloc (.cells #[.int .u32 v] 32)) := (Upd.refl _ _).alloc _
  have hm := h.alloc (.cells #[.int .u32 v] 32)
  clear hp h
  go_enter Try.func39, Try.ntmps39
  go_wp2_with (go_at_call 55; refine (HP.out).mono ?_; rintro e w' ⟨rfl, rfl⟩)
  go_ret2
  exact ⟨rfl, hm, h1⟩


end Go.Proofs.Ytnnakiojfpnphaa
namespace Go.Proofs.Ytnnakiojfpnphaa
open Go.RowKit

theorem info_u32 : (Try.prog.info? 32).map (fun i => (i.zero, i.size, i.bytes)) = some (some (.int .u32 0), 1, 4) := by kernel_rfl

theorem madeCells_u32 (n : Nat) : madeCells #[Value.int .u32 0] n = (u32s (List.replicate n 0)).toArray := by
  apply Array.ext'
  rw [toList_madeCells_one]
  simp [u32s]

set_option maxRecDepth 100000 in
set_option maxHeartbeats 400000 in
theorem new_any (n : Nat) (w : World) (hn : n ≤ 65536) :
    Calls Try.prog 24 #[.int .i64 n] w fun e w' => ∃ b g, e = .returned (.pointer (some ⟨b, 0, none⟩)) ∧ w.heap.size ≤ b ∧ w.heap.size ≤ g ∧ Mem w' b g 0 0 (List.replicate n 0) ∧ Upd [] w w' := by
  obtain ⟨i0, hi, hz0, hz1, hz2⟩ := info_parts info_u32
  have hmk := fun W : World => run_make (P := Try.prog) W 22 32 i0 _ Try.underlying22 hi hz0 .i64 .i64 n n (by omega) (by omega) (by rw [hz2]; omega) (by omega)
  go_enter Try.func24, Try.ntmps24
  go_wp2
  go_ret
  refine ⟨w.heap.size + 1, w.heap.size, rfl, by omega, by omega, ⟨?_, ?_, by omega, by simpa using hn⟩, ((Upd.refl _ _).alloc _).alloc _⟩
  · have := heap_alloc_new (w.alloc (Obj.cells (madeCells #[Value.int IntKind.u32 0] n) 32)) (Obj.cells #[Value.int IntKind.i64 0, Value.int IntKind.i64 0, Value.slice (some { block := w.heap.size, off := 0 }) n n] 76)
    simp only [World.size_alloc] at this
    simpa using this
  · rw [heap_alloc_other _ _ (by simp), heap_alloc_new, madeCells_u32]

theorem u32s_one (xs : List Int) : ∀ v ∈ u32s xs, v.oneCell' = true := by
  intro v hv
  obtain ⟨x, _, rfl⟩ := List.mem_map.1 hv
  rfl

theorem drop_all {α : Type} (l : List α) (n : Nat) (h : l.length = n) : l.drop n = [] := by simp [h]

set_option maxRecDepth 100000 in
set_option maxHeartbeats 400000 in
theorem of_any (a : Option Addr) (cap : Nat) (xs : List Int) (w : World) (hn : xs.length ≤ 65536) (hr : Reads w a xs.length (u32s xs)) :
    Calls Try.prog 8 #[.slice a xs.length cap] w fun e w' => ∃ b g, e = .returned (.pointer (some ⟨b, 0, none⟩)) ∧ w.heap.size ≤ b ∧ w.heap.size ≤ g ∧ Mem w' b g 0 0 xs ∧ Upd [] w w' := by
  go_enter Try.func8, Try.ntmps8
  go_wp2_with (first | (go_at_call 24; refine (new_any _ _ hn).mono ?_; rintro e w1 ⟨b, g, rfl, hb, hg, hm, hu⟩; have c2 := hm.c2; rw [List.length_replicate] at c2; have HM := Lib.hid hm; have HG := Lib.hid hm.hg; have HR := Lib.hid (hr.upd hu (by simp)); clear hm) | (refine wpList_copy_upd rfl _ _ _ _ rfl 32 Try.underlying22 (by kernel_rfl) _ _ _ _ _ _ rfl rfl _ _ HG.out (u32s xs) ?c1 ?c2 ?c3 ?c4 ?_; rotate_left 4; intro w2 hg2 hu2 hs2))
  case c1 => simp [u32s]
  case c2 => intro h0; obtain ⟨b', off, e, _, hc⟩ := HR.out.2 (by simpa [u32s] using h0); exact ⟨b', off, e, hc⟩
  case c3 => simp [u32s]
  case c4 => exact u32s_one xs
  go_ret
  have hm := HM.out
  have hne := hm.ne
  have hg3 : w2.heap[g]? = some (.cells (u32s xs).toArray 32 (0, 0)) := by rw [hg2]; simp [u32s]
  refine ⟨b, g, rfl, hb, hg, ⟨?_, hg3, hne, hn⟩, hu.then hu2 (by simp; omega)⟩
  rw [hu2.block b (heap_lt hm.hb) (by simpa using hne), hm.hb]
  simp

theorem Mem.upd {w w' : World} {b g : Nat} {lo st : Int} {xs : List Int} (h : Mem w b g lo st xs) {S : List Nat} (hu : Upd S w w') (hS : b ∉ S ∧ g ∉ S) : Mem w' b g lo st xs := h.keep hu hS.1 hS.2

end Go.Proofs.Ytnnakiojfpnphaa
namespace Go.Proofs.Ytnnakiojfpnphaa
open Go.RowKit

/-- A memory whose counts are at most c. -/
def MemX (w : World) (b g : Nat) (c : Nat) (xs : List Int) : Prop := ∃ lo st : Int, 0 ≤ lo ∧ lo ≤ c ∧ 0 ≤ st ∧ st ≤ c ∧ Mem w b g lo st xs
theorem MemX.keep {w w' : World} {b g c : Nat} {xs : List Int} (h : MemX w b g c xs) {S : List Nat} (hu : Upd S w w') (h1 : b ∉ S) (h2 : g ∉ S) : MemX w' b g c xs := by
  obtain ⟨lo, st, a1, a2, a3, a4, hm⟩ := h
  exact ⟨lo, st, a1, a2, a3, a4, hm.keep hu h1 h2⟩
theorem MemX.mono {w : World} {b g c c' : Nat} {xs : List Int} (h : MemX w b g c xs) (hc : c ≤ c') : MemX w b g c' xs := by
  obtain ⟨lo, st, a1, a2, a3, a4, hm⟩ := h
  exact ⟨lo, st, a1, by omega, a3, by omega, hm⟩
theorem MemX.lt {w : World} {b g c : Nat} {xs : List Int} (h : MemX w b g c xs) : b < w.heap.size ∧ g < w.heap.size := by
  obtain ⟨lo, st, a1, a2, a3, a4, hm⟩ := h
  exact ⟨heap_lt hm.hb, heap_lt hm.hg⟩

/-- What an act does: what is read, and the words behind it. -/
def doC (o : Int) (a : Nat) (x : Int) (xs : List Int) : Option (Int × List Int) :=
  if h : a < xs.length then
    if o = 1 then (if x = 0 then some (xs[a], xs) else none)
    else if o = 2 then some (0, xs.set a x)
    else if o = 3 then some (xs[a], xs.set a x)
    else if o = 4 then some (xs[a], xs.set a (bits .or .u32 xs[a] x))
    else if o = 5 then some (xs[a], xs.set a (bits .and .u32 xs[a] x))
    else none
  else none

set_option maxRecDepth 100000 in
set_option maxHeartbeats 1000000 in
theorem act_right (o x : Int) (a : Nat) (ha : a < 65536) (w : World) (ho : o = 1 ∧ x = 0 ∨ o = 2 ∨ o = 3 ∨ o = 4 ∨ o = 5) : Calls Try.prog 33 #[.agg #[.int .i64 o, .int .i64 a, .int .u32 x]] w fun e w' => e = .returned (.bool true) ∧ Upd [] w w' := by
  have h1 : decide ((0 : Int) ≤ (a : Int)) = true := by simp
  have h2 : decide ((a : Int) < 65536) = true := by simp; omega
  have H1 := Lib.hid ha
  clear ha
  rcases ho with ⟨rfl, rfl⟩ | rfl | rfl | rfl | rfl
  all_goals
    go_enter Try.func33, Try.ntmps33
    go_wp2
    go_ret
    exact ⟨rfl, (Upd.refl _ _).alloc _⟩

def DoPost (b g c : Nat) (W : World) (got : Int) (xs' : List Int) (e : Ending) (w' : World) : Prop := e = .returned (.tuple #[.int .u32 got, .bool true]) ∧ MemX w' b g (c + 1) xs' ∧ Upd [b, g] W w'

set_option maxRecDepth 100000 in
set_option maxHeartbeats 2000000 in
theorem do_any {W : World} {b g c : Nat} {xs : List Int} (o : Int) (a : Nat) (x got : Int) (xs' : List Int) (h : MemX W b g c xs) (hc : c < 100000) (hd : doC o a x xs = some (got, xs')) :
    Calls Try.prog 13 #[.pointer (some ⟨b, 0, none⟩), .pointer none, .agg #[.int .i64 o, .int .i64 a, .int .u32 x]] W (DoPost b g c W got xs') := by
  obtain ⟨lo, st, lo0, lo1, st0, st1, hm⟩ := h
  unfold doC at hd
  split at hd
  case isFalse => cases hd
  rename_i ha
  have hlen := hm.len
  have HD := Lib.hid lo0
  have HE := Lib.hid st0
  have HB := Lib.hid lo1
  have HC := Lib.hid st1
  have HA : a < 65536 := by omega
  split at hd
  · rename_i ho
    subst ho
    split at hd
    case isFalse => cases hd
    rename_i hx
    subst hx
    simp only [Option.some.injEq, Prod.mk.injEq] at hd
    obtain ⟨rfl, rfl⟩ := hd
    have HR := Lib.hid fun w => act_right 1 0 a HA w (by simp)
    have HOP := Lib.hid fun w (k : Upd [] W w) => load_any a (hm.keep k (by simp) (by simp)) ha lo0 (by omega)
    generalize xs[a]'ha = y at *
    clear hm ha HA hlen lo0 st0 lo1 st1 hc
    go_enter Try.func13, Try.ntmps13
    go_wp2_with (first
      | (go_at_call 33; refine (HR.out _).mono ?_; rintro e w1 ⟨rfl, hu1⟩; have hx := hu1.keepb (heap_alloc_new _ _) (by simp); have HU1 := Lib.hid (((Upd.refl [] W).alloc _).trans hu1); have x0 := cell_of_heap hx 0; have x1 := cell_of_heap hx 1; have x2 := cell_of_heap hx 2; simp at x0 x1 x2; clear hu1 hx)
      | (go_at_call 36; refine (HOP.out _ HU1.out).mono ?_; rintro e w2 ⟨rfl, hm2, hu2⟩; have HM2 := Lib.hid hm2; have HU2 := Lib.hid hu2; clear hm2 hu2))
    go_ret2
    exact ⟨rfl, ⟨_, _, by have := HD.out; omega, by have := HB.out; omega, by have := HE.out; omega, by have := HC.out; omega, HM2.out⟩, (HU1.out.mono (by simp)).trans (HU2.out.mono (by simp))⟩
  split at hd
  · rename_i ho
    subst ho
    simp only [Option.some.injEq, Prod.mk.injEq] at hd
    obtain ⟨rfl, rfl⟩ := hd
    have HR := Lib.hid fun w => act_right 2 x a HA w (by simp)
    have HOP := Lib.hid fun w (k : Upd [] W w) => store_any a x (hm.keep k (by simp) (by simp)) ha st0 (by omega)
    clear hm ha HA hlen lo0 st0 lo1 st1 hc
    go_enter Try.func13, Try.ntmps13
    go_wp2_with (first
      | (go_at_call 33; refine (HR.out _).mono ?_; rintro e w1 ⟨rfl, hu1⟩; have hx := hu1.keepb (heap_alloc_new _ _) (by simp); have HU1 := Lib.hid (((Upd.refl [] W).alloc _).trans hu1); have x0 := cell_of_heap hx 0; have x1 := cell_of_heap hx 1; have x2 := cell_of_heap hx 2; simp at x0 x1 x2; clear hu1 hx)
      | (go_at_call 37; refine (HOP.out _ HU1.out).mono ?_; rintro e w2 ⟨rfl, hm2, hu2⟩; have HM2 := Lib.hid hm2; have HU2 := Lib.hid hu2; clear hm2 hu2))
    go_ret2
    exact ⟨rfl, ⟨_, _, by have := HD.out; omega, by have := HB.out; omega, by have := HE.out; omega, by have := HC.out; omega, HM2.out⟩, (HU1.out.mono (by simp)).trans (HU2.out.mono (by simp))⟩
  split at hd
  · rename_i ho
    subst ho
    simp only [Option.some.injEq, Prod.mk.injEq] at hd
    obtain ⟨rfl, rfl⟩ := hd
    have HR := Lib.hid fun w => act_right 3 x a HA w (by simp)
    have HOP := Lib.hid fun w (k : Upd [] W w) => swap_any a x (hm.keep k (by simp) (by simp)) ha st0 (by omega) lo0 (by omega)
    generalize xs[a]'ha = y at *
    clear hm ha HA hlen lo0 st0 lo1 st1 hc
    go_enter Try.func13, Try.ntmps13
    go_wp2_with (first
      | (go_at_call 33; refine (HR.out _).mono ?_; rintro e w1 ⟨rfl, hu1⟩; have hx := hu1.keepb (heap_alloc_new _ _) (by simp); have HU1 := Lib.hid (((Upd.refl [] W).alloc _).trans hu1); have x0 := cell_of_heap hx 0; have x1 := cell_of_heap hx 1; have x2 := cell_of_heap hx 2; simp at x0 x1 x2; clear hu1 hx)
      | (go_at_call 34; refine (HOP.out _ HU1.out).mono ?_; rintro e w2 ⟨rfl, hm2, hu2⟩; have HM2 := Lib.hid hm2; have HU2 := Lib.hid hu2; clear hm2 hu2))
    go_ret2
    exact ⟨rfl, ⟨_, _, by have := HD.out; omega, by have := HB.out; omega, by have := HE.out; omega, by have := HC.out; omega, HM2.out⟩, (HU1.out.mono (by simp)).trans (HU2.out.mono (by simp))⟩
  split at hd
  · rename_i ho
    subst ho
    simp only [Option.some.injEq, Prod.mk.injEq] at hd
    obtain ⟨rfl, rfl⟩ := hd
    have HR := Lib.hid fun w => act_right 4 x a HA w (by simp)
    have HOP := Lib.hid fun w (k : Upd [] W w) => or_any a x (hm.keep k (by simp) (by simp)) ha st0 (by omega) lo0 (by omega)
    generalize xs[a]'ha = y at *
    clear hm ha HA hlen lo0 st0 lo1 st1 hc
    go_enter Try.func13, Try.ntmps13
    go_wp2_with (first
      | (go_at_call 33; refine (HR.out _).mono ?_; rintro e w1 ⟨rfl, hu1⟩; have hx := hu1.keepb (heap_alloc_new _ _) (by simp); have HU1 := Lib.hid (((Upd.refl [] W).alloc _).trans hu1); have x0 := cell_of_heap hx 0; have x1 := cell_of_heap hx 1; have x2 := cell_of_heap hx 2; simp at x0 x1 x2; clear hu1 hx)
      | (go_at_call 38; refine (HOP.out _ HU1.out).mono ?_; rintro e w2 ⟨rfl, hm2, hu2⟩; have HM2 := Lib.hid hm2; have HU2 := Lib.hid hu2; clear hm2 hu2))
    go_ret2
    exact ⟨rfl, ⟨_, _, by have := HD.out; omega, by have := HB.out; omega, by have := HE.out; omega, by have := HC.out; omega, HM2.out⟩, (HU1.out.mono (by simp)).trans (HU2.out.mono (by simp))⟩
  split at hd
  · rename_i ho
    subst ho
    simp only [Option.some.injEq, Prod.mk.injEq] at hd
    obtain ⟨rfl, rfl⟩ := hd
    have HR := Lib.hid fun w => act_right 5 x a HA w (by simp)
    have HOP := Lib.hid fun w (k : Upd [] W w) => and_any a x (hm.keep k (by simp) (by simp)) ha st0 (by omega) lo0 (by omega)
    generalize xs[a]'ha = y at *
    clear hm ha HA hlen lo0 st0 lo1 st1 hc
    go_enter Try.func13, Try.ntmps13
    go_wp2_with (first
      | (go_at_call 33; refine (HR.out _).mono ?_; rintro e w1 ⟨rfl, hu1⟩; have hx := hu1.keepb (heap_alloc_new _ _) (by simp); have HU1 := Lib.hid (((Upd.refl [] W).alloc _).trans hu1); have x0 := cell_of_heap hx 0; have x1 := cell_of_heap hx 1; have x2 := cell_of_heap hx 2; simp at x0 x1 x2; clear hu1 hx)
      | (go_at_call 39; refine (HOP.out _ HU1.out).mono ?_; rintro e w2 ⟨rfl, hm2, hu2⟩; have HM2 := Lib.hid hm2; have HU2 := Lib.hid hu2; clear hm2 hu2))
    go_ret2
    exact ⟨rfl, ⟨_, _, by have := HD.out; omega, by have := HB.out; omega, by have := HE.out; omega, by have := HC.out; omega, HM2.out⟩, (HU1.out.mono (by simp)).trans (HU2.out.mono (by simp))⟩
  · cases hd
end Go.Proofs.Ytnnakiojfpnphaa
