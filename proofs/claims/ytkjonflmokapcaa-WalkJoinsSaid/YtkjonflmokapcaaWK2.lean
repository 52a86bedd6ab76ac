/- Package walk: a walk from here. -/
import Derived.Test.YtkjonflmokapcaaWK1
set_option linter.unusedVariables false
set_option linter.unusedSimpArgs false
namespace Go.Proofs.Ytkjonflmokapcaa
open Go.RowKit

theorem heap_alloc_at {w : World} {g : Nat} (o : Obj) (h : g = w.heap.size) : (w.alloc o).heap[g]? = some o := by subst h; exact heap_alloc_new _ _
theorem results_cell1 {P : Program} {fn : Func} {p : Tmp} {ty : TypeId} (h : fn.results = #[.cell p ty]) (tmps : Array Value) (w : World) (g : Nat) (t : TypeId) (cs : Array Value) (fr : Nat × Nat) (d : TypeDesc)
    (hp : tmps.getD p undef = .pointer (some ⟨g, 0, none⟩)) (hg : w.heap[g]? = some (.cells cs t fr))
    (hu : P.underlying ty = some d) (hd : (match d with | .struct _ | .array _ _ => true | _ => false) = true) (hi : (P.info? ty).map (·.size) = some cs.size) :
    (results fn tmps).run P w = .ok (.agg cs) w := by
  have hp' : tmps[p]?.getD undef = .pointer (some ⟨g, 0, none⟩) := by simpa using hp
  simp [results, h, hp', asAddr, run_loadVar_row w g t ty cs fr d hg hu hd hi]
theorem info_walk (a b c : Value) : (Try.prog.info? 28).map (·.size) = some (#[a, b, c] : Array Value).size := by kernel_rfl
theorem info_rwalk (a b c : Value) : (Try.prog.info? 25).map (·.size) = some (#[a, b, c] : Array Value).size := by kernel_rfl
theorem info_walker (a b : Value) : (Try.prog.info? 118).map (·.size) = some (#[a, b] : Array Value).size := by kernel_rfl
theorem info_rnum (a b : Value) : (Try.prog.info? 23).map (·.size) = some (#[a, b] : Array Value).size := by kernel_rfl
theorem ret_walk1 {fn : Func} {p : Tmp} (h : fn.results = #[.cell p 28]) {R : Ending → World → Prop} {a : Act} {w : World} {g : Nat} {t : TypeId} {fr : Nat × Nat} {x y z : Value}
    (hp : a.tmps.getD p undef = .pointer (some ⟨g, 0, none⟩)) (hd : a.defers = []) (hg : w.heap[g]? = some (.cells [x, y, z].toArray t fr)) (hR : R (.returned (.agg #[x, y, z])) w) : bodyPost Try.prog fn R .ret a w :=
  bodyPost_ret (results_cell1 h _ _ g t _ fr _ hp hg Try.underlying28 rfl (info_walk x y z)) hd hR
theorem ret_rwalk1 {fn : Func} {p : Tmp} (h : fn.results = #[.cell p 25]) {R : Ending → World → Prop} {a : Act} {w : World} {g : Nat} {t : TypeId} {fr : Nat × Nat} {x y z : Value}
    (hp : a.tmps.getD p undef = .pointer (some ⟨g, 0, none⟩)) (hd : a.defers = []) (hg : w.heap[g]? = some (.cells [x, y, z].toArray t fr)) (hR : R (.returned (.agg #[x, y, z])) w) : bodyPost Try.prog fn R .ret a w :=
  bodyPost_ret (results_cell1 h _ _ g t _ fr _ hp hg Try.underlying25 rfl (info_rwalk x y z)) hd hR
theorem ret_walker1 {fn : Func} {p : Tmp} (h : fn.results = #[.cell p 118]) {R : Ending → World → Prop} {a : Act} {w : World} {g : Nat} {t : TypeId} {fr : Nat × Nat} {x y : Value}
    (hp : a.tmps.getD p undef = .pointer (some ⟨g, 0, none⟩)) (hd : a.defers = []) (hg : w.heap[g]? = some (.cells [x, y].toArray t fr)) (hR : R (.returned (.agg #[x, y])) w) : bodyPost Try.prog fn R .ret a w :=
  bodyPost_ret (results_cell1 h _ _ g t _ fr _ hp hg Try.underlying118 rfl (info_walker x y)) hd hR
theorem ret_rnum1 {fn : Func} {p : Tmp} (h : fn.results = #[.cell p 23]) {R : Ending → World → Prop} {a : Act} {w : World} {g : Nat} {t : TypeId} {fr : Nat × Nat} {x y : Value}
    (hp : a.tmps.getD p undef = .pointer (some ⟨g, 0, none⟩)) (hd : a.defers = []) (hg : w.heap[g]? = some (.cells [x, y].toArray t fr)) (hR : R (.returned (.agg #[x, y])) w) : bodyPost Try.prog fn R .ret a w :=
  bodyPost_ret (results_cell1 h _ _ g t _ fr _ hp hg Try.underlying23 rfl (info_rnum x y)) hd hR
theorem ret_walk2 {fn : Func} {p q : Tmp} (h : fn.results = #[.cell p 28, .tmp q]) {R : Ending → World → Prop} {a : Act} {w : World} {g : Nat} {t : TypeId} {fr : Nat × Nat} {x y z v : Value}
    (hp : a.tmps.getD p undef = .pointer (some ⟨g, 0, none⟩)) (hq : a.tmps.getD q undef = v) (hd : a.defers = []) (hg : w.heap[g]? = some (.cells [x, y, z].toArray t fr)) (hR : R (.returned (.tuple #[.agg #[x, y, z], v])) w) : bodyPost Try.prog fn R .ret a w :=
  bodyPost_ret (results_cell_tmp h _ _ g t _ fr _ v hp hq hg Try.underlying28 rfl (info_walk x y z)) hd hR
theorem ret_rwalk2 {fn : Func} {p q : Tmp} (h : fn.results = #[.cell p 25, .tmp q]) {R : Ending → World → Prop} {a : Act} {w : World} {g : Nat} {t : TypeId} {fr : Nat × Nat} {x y z v : Value}
    (hp : a.tmps.getD p undef = .pointer (some ⟨g, 0, none⟩)) (hq : a.tmps.getD q undef = v) (hd : a.defers = []) (hg : w.heap[g]? = some (.cells [x, y, z].toArray t fr)) (hR : R (.returned (.tuple #[.agg #[x, y, z], v])) w) : bodyPost Try.prog fn R .ret a w :=
  bodyPost_ret (results_cell_tmp h _ _ g t _ fr _ v hp hq hg Try.underlying25 rfl (info_rwalk x y z)) hd hR

set_option maxRecDepth 100000 in
theorem l_own (x y t : Int) (w : World) : Calls Try.prog 10 #[.agg #[.int .i64 x, .int .i64 y, .int .i64 t]] w fun e w' => e = .returned (.agg #[.int .i64 x, .int .i64 y, .int .i64 t]) ∧ Upd [] w w' := by
  go_enter Try.func10, Try.ntmps10
  go_wp2
  exact ret_walk1 rfl rfl rfl (heap_alloc_at _ (by simp)) ⟨rfl, ((Upd.refl _ _).alloc _).alloc _⟩
set_option maxRecDepth 100000 in
theorem l_back (x y t : Int) (w : World) : Calls Try.prog 14 #[.agg #[.int .i64 x, .int .i64 y, .int .i64 t]] w fun e w' => e = .returned (.agg #[.int .i64 x, .int .i64 y, .int .i64 t]) ∧ Upd [] w w' := by
  go_enter Try.func14, Try.ntmps14
  go_wp2
  exact ret_rwalk1 rfl rfl rfl (heap_alloc_at _ (by simp)) ⟨rfl, ((Upd.refl _ _).alloc _).alloc _⟩

/-- A number turned. -/
def tre (x y : Int) (r : Nat) : Int := if r = 0 then x else if r = 1 then -y else if r = 2 then -x else y
def tim (x y : Int) (r : Nat) : Int := if r = 0 then y else if r = 1 then x else if r = 2 then -y else -x
theorem tre_eq (x y : Int) {r : Nat} (h : r < 4) : x * qre r - y * qim r = tre x y r := by
  have : r = 0 ∨ r = 1 ∨ r = 2 ∨ r = 3 := by omega
  rcases this with rfl | rfl | rfl | rfl <;> simp [tre, qre, qim]
theorem tim_eq (x y : Int) {r : Nat} (h : r < 4) : x * qim r + y * qre r = tim x y r := by
  have : r = 0 ∨ r = 1 ∨ r = 2 ∨ r = 3 := by omega
  rcases this with rfl | rfl | rfl | rfl <;> simp [tim, qre, qim]
theorem q_join {r s : Nat} (h : r < 4) (h2 : s < 4) : tre (qre r) (qim r) s = qre ((r + s) % 4) ∧ tim (qre r) (qim r) s = qim ((r + s) % 4) := by
  have a : r = 0 ∨ r = 1 ∨ r = 2 ∨ r = 3 := by omega
  have b : s = 0 ∨ s = 1 ∨ s = 2 ∨ s = 3 := by omega
  rcases a with rfl | rfl | rfl | rfl <;> rcases b with rfl | rfl | rfl | rfl <;> decide
theorem q_le (r : Nat) : (qre r).natAbs ≤ 1 ∧ (qim r).natAbs ≤ 1 := by unfold qre qim; constructor <;> (split <;> (try split) <;> decide)
theorem mul_small {x q : Int} (hq : q.natAbs ≤ 1) : (x * q).natAbs ≤ x.natAbs := by
  rw [Int.natAbs_mul]
  exact Nat.le_trans (Nat.mul_le_mul_left _ hq) (by omega)
def Sm (x : Int) : Prop := x.natAbs ≤ 2 ^ 40
theorem sm_lt {a b : Nat} (h : a ≤ 2 ^ 40) (h2 : b ≤ 2 ^ 40) : a + b < 2 ^ 53 := by
  have : 2 ^ 40 + 2 ^ 40 < 2 ^ 53 := by decide
  omega
theorem cv_turned {a b c d r : Nat} {x y : Int} (h1 : CV a b x y) (hr : r < 4) (h2 : CV c d (qre r) (qim r)) (hx : Sm x) (hy : Sm y) : ∃ p q, cMulBits a b c d = some (p, q) ∧ CV p q (tre x y r) (tim x y r) := by
  obtain ⟨q1, q2⟩ := q_le r
  have e : (2 : Nat) ^ 40 + 2 ^ 40 < 2 ^ 53 := by decide
  unfold Sm at hx hy
  have m1 := mul_small (x := x) q1
  have m2 := mul_small (x := y) q2
  have m3 := mul_small (x := x) q2
  have m4 := mul_small (x := y) q1
  generalize (2 : Nat) ^ 40 = E at e hx hy
  obtain ⟨p, q, e1, g⟩ := cv_mul h1 h2 (by omega) (by omega) (by omega) (by omega) (by omega) (by omega)
  rw [tre_eq x y hr, tim_eq x y hr] at g
  exact ⟨p, q, e1, g⟩
theorem tre_sm {x y : Int} (hx : Sm x) (hy : Sm y) (r : Nat) : Sm (tre x y r) ∧ Sm (tim x y r) := by
  unfold Sm tre tim at *
  generalize (2 : Nat) ^ 40 = E at *
  constructor <;> (split <;> (try split) <;> (try split) <;> omega)
theorem w_turn2 (k : Int) {r : Nat} (hr : (k % 4).toNat = r) (w : World) {a b : Nat} (h : turnW r = .complex .f64 a b) : Calls Try.prog 54 #[.int .i64 k] w fun e w' => e = .returned (.complex .f64 a b) ∧ w = w' := by
  have := w_turn k w
  rw [hr, h] at this
  exact this

set_option maxRecDepth 100000 in
set_option maxHeartbeats 1000000 in
theorem w_then {a b c d r s : Nat} {x y re im t : Int} (h1 : CV a b x y) (hr : r < 4) (h2 : CV c d (qre r) (qim r)) (hx : Sm x) (hy : Sm y) (hre : Sm re) (him : Sm im) (hs : (t % 4).toNat = s) (w : World) :
    Calls Try.prog 52 #[.agg #[.complex .f64 a b, .complex .f64 c d], .agg #[.int .i64 re, .int .i64 im, .int .i64 t]] w fun e w' => ∃ p q u v, e = .returned (.agg #[.complex .f64 p q, .complex .f64 u v]) ∧ CV p q (x + tre re im r) (y + tim re im r) ∧ CV u v (qre ((r + s) % 4)) (qim ((r + s) % 4)) ∧ Upd [] w w' := by
  have hs4 : s < 4 := by omega
  obtain ⟨ta, tb, et, ht⟩ := cv_turn hs4
  have hi : CV (FloatKind.f64.nearest re) (FloatKind.f64.nearest im) re im := cv_int (by have := sm_lt hre (Nat.zero_le _); omega) (by have := sm_lt him (Nat.zero_le _); omega)
  obtain ⟨p1, q1, e1, g1⟩ := cv_turned hi hr h2 hre him
  obtain ⟨t1, t2⟩ := tre_sm hre him r
  obtain ⟨p2, q2, e2, g2⟩ := cv_add h1 g1 (by have := sm_lt hx t1; omega) (by have := sm_lt hy t2; omega)
  obtain ⟨p3, q3, e3, g3⟩ := cv_turned h2 hs4 ht (by have := (q_le r).1; unfold Sm; exact Nat.le_trans this (by decide)) (by have := (q_le r).2; unfold Sm; exact Nat.le_trans this (by decide))
  rw [(q_join hr hs4).1, (q_join hr hs4).2] at g3
  have HT := Lib.hid (fun w => w_turn2 t hs w et)
  have HG := Lib.hid (And.intro g2 g3)
  have m1 := fun w => run_complex_mul (P := Try.prog) w 116 _ _ _ _ _ _ e1
  have m2 := fun w => run_complex_sum (P := Try.prog) w .add (.inl rfl) 116 .f64 _ _ _ _ _ _ e2
  have m3 := fun w => run_complex_mul (P := Try.prog) w 116 _ _ _ _ _ _ e3
  have HB := Lib.hid (show ∀ w', w' = ((w.alloc (.cells #[.complex .f64 a b, .complex .f64 c d] 118)).alloc (.cells #[.int .i64 re, .int .i64 im, .int .i64 t] 28)).alloc (.cells #[.complex .f64 0 0, .complex .f64 0 0] 118) → w'.heap[w.heap.size]? = some (.cells #[.complex .f64 a b, .complex .f64 c d] 118) ∧ w'.heap[w.heap.size + 1]? = some (.cells #[.int .i64 re, .int .i64 im, .int .i64 t] 28) ∧ w'.heap[w.heap.size + 1 + 1]? = some (.cells [.complex .f64 0 0, .complex .f64 0 0].toArray 118) ∧ Upd [] w w' from fun w' e => by
    subst e
    exact ⟨heap_alloc' (heap_alloc' (heap_alloc_new _ _)), heap_alloc' (heap_alloc_at _ (by simp)), heap_alloc_at _ (by simp), (((Upd.refl _ _).alloc _).alloc _).alloc _⟩)
  clear h1 h2 hx hy hre him ht hi g1 t1 t2 g2 g3 e1 e2 e3 et hs
  go_enter Try.func52, Try.ntmps52
  go_wp2_with fail
  generalize hW : World.alloc _ _ = w0
  obtain ⟨hb0, hb1, hb2, hu0⟩ := HB.out w0 hW.symm
  obtain ⟨c0, c1, c2⟩ := cells3 hb1
  have a0 := cell_of_heap hb0 0
  have a1 := cell_of_heap hb0 1
  have z0 := cell_of_heap hb2 0
  have z1 := cell_of_heap hb2 1
  have zf := fun i => frozen_of_heap hb2 i
  have l0 := heap_lt hb2
  simp at a0 a1 z0 z1
  have HB0 := Lib.hid hb0
  have HB1 := Lib.hid hb1
  have HB2 := Lib.hid hb2
  have HU0 := Lib.hid hu0
  clear hW hb0 hb1 hb2 hu0
  have hst := fun (p : Addr) (x y : Nat) (w : World) => run_store Try.prog w p (.complex .f64 x y) .plain rfl
  go_region_held3 (fun w' => w'.cell? ⟨w.heap.size, 0, none⟩ = some (.complex .f64 a b) ∧ w'.cell? ⟨w.heap.size, 1, none⟩ = some (.complex .f64 c d) ∧ w'.cell? ⟨w.heap.size + 1, 0, none⟩ = some (.int .i64 re) ∧ w'.cell? ⟨w.heap.size + 1, 1, none⟩ = some (.int .i64 im) ∧ w'.cell? ⟨w.heap.size + 1, 2, none⟩ = some (.int .i64 t))
    (((try dsimp only); (repeat' apply And.intro) <;> (repeat (first | (with_reducible assumption) | (with_reducible apply cell_allocE) | (with_reducible apply cell_drewE) | (with_reducible apply cell_drewNE) | (with_reducible refine cell_setE (by omega) ?_)))))
    (first
      | (go_at_call 53; refine (w_of re im _).mono ?_; rintro e w1 ⟨rfl, hu1⟩; have hu1' : Upd [] w0 w1 := Upd.trans (by first | exact Upd.refl _ _ | exact (Upd.refl _ _).drew | exact (Upd.refl _ _).drewN _) hu1; obtain ⟨c0', c1', c2'⟩ := cells3 (hu1'.keepb HB1.out (by simp)); have hb0' := hu1'.keepb HB0.out (by simp); have hb2' := hu1'.keepb HB2.out (by simp); have a0' := cell_of_heap hb0' 0; have a1' := cell_of_heap hb0' 1; have z0' : w1.cell? ⟨w.heap.size + 1 + 1, 0, none⟩ = some (.complex .f64 0 0) := (cell_of_heap hb2' 0).trans rfl; have z1' : w1.cell? ⟨w.heap.size + 1 + 1, 1, none⟩ = some (.complex .f64 0 0) := (cell_of_heap hb2' 1).trans rfl; have zf' := fun i => frozen_of_heap hb2' i; have l0' := heap_lt hb2'; simp at a0' a1'; have HB2' := Lib.hid hb2'; have HU1 := Lib.hid (HU0.out.trans hu1'); clear hb0' hb2' hu1 hu1')
      | (go_at_call 54; refine (HT.out _).mono ?_; rintro e w2 ⟨rfl, rfl⟩))
  go_wp2_with fail
  refine ret_walker1 rfl (g := w.heap.size + 1 + 1) (x := .complex .f64 p2 q2) (y := .complex .f64 p3 q3) (t := 118) (fr := (0, 0)) rfl rfl (hg := ?hg) ?_
  case hg =>
    repeat (first | (with_reducible exact HB2'.out) | (with_reducible apply heap_set2))
    all_goals rfl
  refine ⟨_, _, _, _, rfl, HG.out.1, HG.out.2, ?_⟩
  exact Upd.then (S := []) HU1.out (((Upd.refl [w.heap.size + 1 + 1] w1).setCell (by simp) _).setCell (by simp) _) (fun i hi => .inr (by simp at hi; omega))
end Go.Proofs.Ytkjonflmokapcaa
