/- The walk, part 10: Ring3 Ring13. -/
import Derived.Test.YtnnakiojfpnphaaZi09
set_option linter.unusedVariables false
set_option linter.unusedSimpArgs false

namespace Go.Proofs.Ytnnakiojfpnphaa
open Go.RowKit

theorem cell_alloc' {w : World} {p : Addr} {v : Value} {o : Obj} (hp : p.block < w.heap.size) (h : w.cell? p = some v) : (w.alloc o).cell? p = some v := (World.cell?_of_block (w := w) (heap_alloc_other w o hp)).trans h
theorem cell_alloc2 {w : World} {p : Addr} {v : Value} {o : Obj} (h : w.cell? p = some v) : (w.alloc o).cell? p = some v := by
  refine cell_alloc' ?_ h
  apply Nat.lt_of_not_le
  intro hp
  have : w.heap[p.block]? = none := Array.getElem?_eq_none hp
  simp [World.cell?, this] at h
theorem cell_drew2 {w : World} {p : Addr} {v : Value} (h : w.cell? p = some v) : w.drew.cell? p = some v := h
theorem cells19 {w : World} {g : Nat} {t : TypeId} {f : Nat × Nat} (h : w.heap[g]? = some (.cells #[.int .i64 0, .int .i64 0, .int .i64 0, .int .i64 0, .int .i64 0, .int .i64 0, .int .u32 0, .int .u32 0, .int .u32 0, .int .u32 0, .int .u32 0, .int .u32 0, .int .i64 0, .int .u32 0, .int .u32 0, .int .u32 0, .int .u32 0, .bool false, .bool false] t f)) : w.cell? ⟨g, 0, none⟩ = some (.int .i64 0) ∧ w.cell? ⟨g, 1, none⟩ = some (.int .i64 0) ∧ w.cell? ⟨g, 2, none⟩ = some (.int .i64 0) ∧ w.cell? ⟨g, 3, none⟩ = some (.int .i64 0) ∧ w.cell? ⟨g, 4, none⟩ = some (.int .i64 0) ∧ w.cell? ⟨g, 5, none⟩ = some (.int .i64 0) ∧ w.cell? ⟨g, 6, none⟩ = some (.int .u32 0) ∧ w.cell? ⟨g, 7, none⟩ = some (.int .u32 0) ∧ w.cell? ⟨g, 8, none⟩ = some (.int .u32 0) ∧ w.cell? ⟨g, 9, none⟩ = some (.int .u32 0) ∧ w.cell? ⟨g, 10, none⟩ = some (.int .u32 0) ∧ w.cell? ⟨g, 11, none⟩ = some (.int .u32 0) ∧ w.cell? ⟨g, 12, none⟩ = some (.int .i64 0) ∧ w.cell? ⟨g, 13, none⟩ = some (.int .u32 0) ∧ w.cell? ⟨g, 14, none⟩ = some (.int .u32 0) ∧ w.cell? ⟨g, 15, none⟩ = some (.int .u32 0) ∧ w.cell? ⟨g, 16, none⟩ = some (.int .u32 0) ∧ w.cell? ⟨g, 17, none⟩ = some (.bool false) ∧ w.cell? ⟨g, 18, none⟩ = some (.bool false) :=
  ⟨(by rw [cell_of_heap h]; rfl), (by rw [cell_of_heap h]; rfl), (by rw [cell_of_heap h]; rfl), (by rw [cell_of_heap h]; rfl), (by rw [cell_of_heap h]; rfl), (by rw [cell_of_heap h]; rfl), (by rw [cell_of_heap h]; rfl), (by rw [cell_of_heap h]; rfl), (by rw [cell_of_heap h]; rfl), (by rw [cell_of_heap h]; rfl), (by rw [cell_of_heap h]; rfl), (by rw [cell_of_heap h]; rfl), (by rw [cell_of_heap h]; rfl), (by rw [cell_of_heap h]; rfl), (by rw [cell_of_heap h]; rfl), (by rw [cell_of_heap h]; rfl), (by rw [cell_of_heap h]; rfl), (by rw [cell_of_heap h]; rfl), (by rw [cell_of_heap h]; rfl)⟩
theorem alloc_first {w0 w1 : World} {o o1 o2 o3 : Obj} (hw : (((w0.alloc o).alloc o1).alloc o2).alloc o3 = w1) : w1.heap[w0.heap.size]? = some o ∧ Upd [] w0 w1 := by
  subst hw
  exact ⟨heap_alloc' (heap_alloc' (heap_alloc' (heap_alloc_new _ _))), ((((Upd.refl _ _).alloc _).alloc _).alloc _).alloc _⟩
theorem alloc_first2 {w0 w1 : World} {o o1 o2 o3 : Obj} (hw : (((w0.alloc o).drew.alloc o1).alloc o2).alloc o3 = w1) : w1.heap[w0.heap.size]? = some o ∧ Upd [] w0 w1 := by
  subst hw
  exact ⟨heap_alloc' (heap_alloc' (heap_alloc' (heap_drew' (heap_alloc_new _ _)))), (((((Upd.refl _ _).alloc _).drew).alloc _).alloc _).alloc _⟩
theorem alloc_first3 {w0 w1 : World} {o o1 o2 o3 : Obj} (hw : (((w0.drew.alloc o).alloc o1).alloc o2).alloc o3 = w1) : w1.heap[w0.heap.size]? = some o ∧ Upd [] w0 w1 := by
  subst hw
  exact ⟨heap_alloc' (heap_alloc' (heap_alloc' (heap_alloc_new w0.drew _))), (((((Upd.refl _ _).drew).alloc _).alloc _).alloc _).alloc _⟩
theorem cell_set3 {w : World} {g i p j : Nat} {v u : Value} (h : g ≠ p) (hc : w.cell? ⟨p, j, none⟩ = some u) : (w.setCell ⟨g, i, none⟩ v).cell? ⟨p, j, none⟩ = some u :=
  (World.cell?_of_block (w := w) (heap_set_other w i v (fun e => h e.symm))).trans hc
def ring0 : RgS := ⟨0, 0, 0, 0, 0, 0, 0, 0, 0, 0, 0, 0, true⟩
theorem ringC_one (cap wd : Int) (s : RgS) : (ringC cap wd s).toArray.all (·.oneCell') = true := by simp [ringC, Value.oneCell']
theorem info_ring : (Try.prog.info? 139).map (·.size) = some 19 := by kernel_rfl
set_option maxRecDepth 100000 in
set_option maxHeartbeats 1000000 in
theorem right_exact (cap wd : Int) (h : Cap5 cap) (h1 : 1 ≤ wd) (h4 : wd ≤ 4) (w : World) : Calls Try.prog 19 #[.agg #[.int .i64 1, .int .i64 cap, .int .i64 wd, .int .i64 0, .int .i64 0, .int .i64 0, .int .u32 0, .int .u32 0, .int .u32 0, .int .u32 0]] w fun e w' => e = .returned (.bool true) ∧ w.alloc (.cells #[.int .i64 1, .int .i64 cap, .int .i64 wd, .int .i64 0, .int .i64 0, .int .i64 0, .int .u32 0, .int .u32 0, .int .u32 0, .int .u32 0] 56) = w' := by
  have d1 : decide (1 ≤ wd) = true := by simpa using h1
  have d2 : decide (wd ≤ 4) = true := by simpa using h4
  have d3 : decide (cap ≤ 64) = true := by have := h.le; simp; omega
  have HP := Lib.hid fun w => power_ok cap h w
  clear h h1 h4
  go_enter Try.func19, Try.ntmps19
  go_wp2_with (first
    | (go_at_call 43; refine (within_any _ _ _ _).mono ?_; rintro e w1 ⟨rfl, rfl⟩; rw [d1, d2])
    | (go_at_call 44; refine (HP.out _).mono ?_; rintro e w1 ⟨rfl, rfl⟩))
  go_ret
  exact ⟨rfl, rfl⟩
set_option maxRecDepth 100000 in
set_option maxHeartbeats 1000000 in
theorem room_exact (cap wd : Int) (h : Cap5 cap) (h1 : 1 ≤ wd) (h4 : wd ≤ 4) (w : World) : Calls Try.prog 80 #[.agg #[.int .i64 1, .int .i64 0, .int .i64 cap, .int .i64 wd, .int .i64 0], .int .u32 0] w fun e w' => e = .returned (.int .i64 0) ∧ ((w.alloc (.cells #[.int .i64 1, .int .i64 0, .int .i64 cap, .int .i64 wd, .int .i64 0] 27)).alloc (.cells #[.int .i64 1, .int .i64 cap, .int .i64 wd, .int .i64 0, .int .i64 0, .int .i64 0, .int .u32 0, .int .u32 0, .int .u32 0, .int .u32 0] 56)).alloc (.cells #[.int .i64 1, .int .i64 cap, .int .i64 wd, .int .i64 0, .int .i64 0, .int .i64 0, .int .u32 0, .int .u32 0, .int .u32 0, .int .u32 0] 56) = w' := by
  have HR := Lib.hid fun w => right_exact cap wd h h1 h4 w
  have hcl := h.le
  have e1 : IntKind.i64.wrap (cap - 1) = cap - 1 := by rw [IntKind.wrap_i64]; omega
  have e2 : IntKind.u32.wrap (cap - 1) = cap - 1 := by rw [IntKind.wrap_u32]; omega
  have e3 := and_room 0 h
  have e0 : roomI cap 0 = 0 := by simp [roomI]
  rw [e0] at e3
  clear h h1 h4 hcl
  go_enter Try.func80, Try.ntmps80
  go_wp2_with (go_at_call 19; refine (HR.out _).mono ?_; rintro e w1 ⟨rfl, rfl⟩)
  go_ret
  refine ⟨?_, rfl⟩
  first | rfl | simp [e1, e2, e3, show IntKind.i64.wrap 0 = 0 by decide]
/-- A block of a state whose cells are zero. -/
def RZ (w : World) (g : Nat) : Prop := w.heap[g]? = some (.cells #[.int .i64 0, .int .i64 0, .int .i64 0, .int .i64 0, .int .i64 0, .int .i64 0, .int .u32 0, .int .u32 0, .int .u32 0, .int .u32 0, .int .u32 0, .int .u32 0, .int .i64 0, .int .u32 0, .int .u32 0, .int .u32 0, .int .u32 0, .bool false, .bool false] 139 (0, 0))
theorem RZ.new (w : World) (g : Nat) (hg : g = w.heap.size) : RZ (w.alloc (.cells #[.int .i64 0, .int .i64 0, .int .i64 0, .int .i64 0, .int .i64 0, .int .i64 0, .int .u32 0, .int .u32 0, .int .u32 0, .int .u32 0, .int .u32 0, .int .u32 0, .int .i64 0, .int .u32 0, .int .u32 0, .int .u32 0, .int .u32 0, .bool false, .bool false] 139)) g := heap_alloc_at _ hg
theorem RZ.drew {w : World} {g : Nat} (h : RZ w g) : RZ w.drew g := h
theorem ringR_one (cap wd : Int) : (#[.int .i64 1, .int .i64 0, .int .i64 cap, .int .i64 wd, .int .i64 0, .int .i64 0, .int .u32 0, .int .u32 0, .int .u32 0, .int .u32 0, .int .u32 0, .int .u32 0, .int .i64 0, .int .u32 0, .int .u32 0, .int .u32 0, .int .u32 0, .bool true, .bool true] : Array Value).all (·.oneCell') = true := by simp [Value.oneCell']
theorem info_ring19 (cap wd : Int) : (Try.prog.info? 139).map (·.size) = some (#[.int .i64 1, .int .i64 0, .int .i64 cap, .int .i64 wd, .int .i64 0, .int .i64 0, .int .u32 0, .int .u32 0, .int .u32 0, .int .u32 0, .int .u32 0, .int .u32 0, .int .i64 0, .int .u32 0, .int .u32 0, .int .u32 0, .int .u32 0, .bool true, .bool true] : Array Value).size := info_ring
theorem st_ring (cap wd : Int) (w : World) (g : Nat) (h : RZ w g) : (storeVar 139 ⟨g, 0, none⟩ (.agg #[.int .i64 1, .int .i64 0, .int .i64 cap, .int .i64 wd, .int .i64 0, .int .i64 0, .int .u32 0, .int .u32 0, .int .u32 0, .int .u32 0, .int .u32 0, .int .u32 0, .int .i64 0, .int .u32 0, .int .u32 0, .int .u32 0, .int .u32 0, .bool true, .bool true])).run Try.prog w = .ok () (w.setRow g #[.int .i64 1, .int .i64 0, .int .i64 cap, .int .i64 wd, .int .i64 0, .int .i64 0, .int .u32 0, .int .u32 0, .int .u32 0, .int .u32 0, .int .u32 0, .int .u32 0, .int .i64 0, .int .u32 0, .int .u32 0, .int .u32 0, .int .u32 0, .bool true, .bool true]) :=
  run_storeVar_row w g _ _ _ _ h (info_ring19 cap wd) rfl (ringR_one cap wd)
theorem st_ring' (cap wd : Int) (w : World) (g : Nat) (h : RZ w g) : (Instr.storeAt 139 (.pointer (some ⟨g, 0, none⟩)) (.agg #[.int .i64 1, .int .i64 0, .int .i64 cap, .int .i64 wd, .int .i64 0, .int .i64 0, .int .u32 0, .int .u32 0, .int .u32 0, .int .u32 0, .int .u32 0, .int .u32 0, .int .i64 0, .int .u32 0, .int .u32 0, .int .u32 0, .int .u32 0, .bool true, .bool true])).run Try.prog w = .ok () (w.setRow g #[.int .i64 1, .int .i64 0, .int .i64 cap, .int .i64 wd, .int .i64 0, .int .i64 0, .int .u32 0, .int .u32 0, .int .u32 0, .int .u32 0, .int .u32 0, .int .u32 0, .int .i64 0, .int .u32 0, .int .u32 0, .int .u32 0, .int .u32 0, .bool true, .bool true]) := by
  simp only [Instr.storeAt, Instr.sureAddr, Sem.run_bind, Sem.run_pure, Result.andThen_ok, st_ring cap wd w g h]
set_option maxRecDepth 100000 in
set_option maxHeartbeats 16000000 in
theorem ring_begun (cap wd : Int) (h : Cap5 cap) (h1 : 1 ≤ wd) (h4 : wd ≤ 4) (W : World) : Calls Try.prog 75 #[.agg #[.int .i64 1, .int .i64 0, .int .i64 cap, .int .i64 wd, .int .i64 0]] W fun e w' => e = .returned (.agg (ringC cap wd ring0).toArray) ∧ Upd [] W w' := by
  have HR := Lib.hid (show ∀ w, Calls Try.prog 80 #[.agg #[.int .i64 1, .int .i64 0, .int .i64 cap, .int .i64 wd, .int .i64 0], .int .u32 0] w fun e w' => e = .returned (.int .i64 0) ∧ ∃ o1 o2 o3, ((w.alloc o1).alloc o2).alloc o3 = w' from fun w => (room_exact cap wd h h1 h4 w).mono fun e w' hh => ⟨hh.1, _, _, _, hh.2⟩)
  clear h h1 h4
  unfold ringC ring0
  go_enter Try.func75, Try.ntmps75
  have hu0 : Upd [] W ((W.alloc (.cells #[.int .i64 1, .int .i64 0, .int .i64 cap, .int .i64 wd, .int .i64 0] 27)).alloc (.cells #[.int .i64 0, .int .i64 0, .int .i64 0, .int .i64 0, .int .i64 0, .int .i64 0, .int .u32 0, .int .u32 0, .int .u32 0, .int .u32 0, .int .u32 0, .int .u32 0, .int .i64 0, .int .u32 0, .int .u32 0, .int .u32 0, .int .u32 0, .bool false, .bool false] 139)) := ((Upd.refl _ _).alloc _).alloc _
  have hx0 : ((W.alloc (.cells #[.int .i64 1, .int .i64 0, .int .i64 cap, .int .i64 wd, .int .i64 0] 27)).alloc (.cells #[.int .i64 0, .int .i64 0, .int .i64 0, .int .i64 0, .int .i64 0, .int .i64 0, .int .u32 0, .int .u32 0, .int .u32 0, .int .u32 0, .int .u32 0, .int .u32 0, .int .i64 0, .int .u32 0, .int .u32 0, .int .u32 0, .int .u32 0, .bool false, .bool false] 139)).heap[W.heap.size]? = some (.cells #[.int .i64 1, .int .i64 0, .int .i64 cap, .int .i64 wd, .int .i64 0] 27 (0, 0)) := heap_alloc' (heap_alloc_new _ _)
  have hx1 : ((W.alloc (.cells #[.int .i64 1, .int .i64 0, .int .i64 cap, .int .i64 wd, .int .i64 0] 27)).alloc (.cells #[.int .i64 0, .int .i64 0, .int .i64 0, .int .i64 0, .int .i64 0, .int .i64 0, .int .u32 0, .int .u32 0, .int .u32 0, .int .u32 0, .int .u32 0, .int .u32 0, .int .i64 0, .int .u32 0, .int .u32 0, .int .u32 0, .int .u32 0, .bool false, .bool false] 139)).heap[W.heap.size + 1]? = some (.cells #[.int .i64 0, .int .i64 0, .int .i64 0, .int .i64 0, .int .i64 0, .int .i64 0, .int .u32 0, .int .u32 0, .int .u32 0, .int .u32 0, .int .u32 0, .int .u32 0, .int .i64 0, .int .u32 0, .int .u32 0, .int .u32 0, .int .u32 0, .bool false, .bool false] 139 (0, 0)) := heap_alloc_at _ (by simp)
  go_wp2
  change Code.wp _ _ _ _ ((W.alloc (.cells #[.int .i64 1, .int .i64 0, .int .i64 cap, .int .i64 wd, .int .i64 0] 27)).alloc (.cells #[.int .i64 0, .int .i64 0, .int .i64 0, .int .i64 0, .int .i64 0, .int .i64 0, .int .u32 0, .int .u32 0, .int .u32 0, .int .u32 0, .int .u32 0, .int .u32 0, .int .i64 0, .int .u32 0, .int .u32 0, .int .u32 0, .int .u32 0, .bool false, .bool false] 139))
  obtain ⟨w0, hw0⟩ : ∃ w0, w0 = ((W.alloc (.cells #[.int .i64 1, .int .i64 0, .int .i64 cap, .int .i64 wd, .int .i64 0] 27)).alloc (.cells #[.int .i64 0, .int .i64 0, .int .i64 0, .int .i64 0, .int .i64 0, .int .i64 0, .int .u32 0, .int .u32 0, .int .u32 0, .int .u32 0, .int .u32 0, .int .u32 0, .int .i64 0, .int .u32 0, .int .u32 0, .int .u32 0, .int .u32 0, .bool false, .bool false] 139)) := ⟨_, rfl⟩
  rw [← hw0] at hu0 hx0 hx1 ⊢
  have HU0 := Lib.hid hu0
  have HX1 := Lib.hid hx1
  have p0 := cell_of_heap hx0 0
  have p1 := cell_of_heap hx0 1
  have p2 := cell_of_heap hx0 2
  have p3 := cell_of_heap hx0 3
  have p4 := cell_of_heap hx0 4
  simp at p0 p1 p2 p3 p4
  have l0 := heap_lt hx0
  have l1 := heap_lt hx1
  have nx : w0.heap.size ≠ W.heap.size := by omega
  have nx' : W.heap.size ≠ w0.heap.size := by omega
  clear hu0 hx0 hx1 hw0
  refine wp_region_held_drew (S := fun w' => w'.cell? ⟨W.heap.size, 0, none⟩ = some (.int .i64 1) ∧ w'.cell? ⟨W.heap.size, 1, none⟩ = some (.int .i64 0) ∧ w'.cell? ⟨W.heap.size, 2, none⟩ = some (.int .i64 cap) ∧ w'.cell? ⟨W.heap.size, 3, none⟩ = some (.int .i64 wd) ∧ w'.cell? ⟨W.heap.size, 4, none⟩ = some (.int .i64 0)) (by kernel_rfl) ⟨p0, p1, p2, p3, p4⟩ (fun hHeld => ?_)
  refine wpAnyH_take (i := 0) (oi := { dst := some 4, op := Op.load 27 (Operand.tmp 1), type := 27, pos := "ring.go:28", after := #[], guard := none }) (v := (.agg #[.int .i64 1, .int .i64 0, .int .i64 cap, .int .i64 wd, .int .i64 0])) rfl (by kernel_rfl) (by kernel_rfl) (by kernel_rfl) (fun _ _ _ h => h) (Or.inl ⟨by rfl, ?_⟩) (by assumption) ?_
  · intro w hSw
    (try dsimp only at hSw)
    obtain ⟨s0, s1, s2, s3, s4⟩ := hSw
    go_simp
  (try simp only [Act.put, List.setIfInBounds_toArray, List.set_cons_zero, List.set_cons_succ])
  refine wpAnyH_take (i := 1) (oi := { dst := some 5, op := Op.load 27 (Operand.tmp 1), type := 27, pos := "ring.go:28", after := #[], guard := none }) (v := (.agg #[.int .i64 1, .int .i64 0, .int .i64 cap, .int .i64 wd, .int .i64 0])) rfl (by kernel_rfl) (by kernel_rfl) (by kernel_rfl) (fun _ _ _ h => h) (Or.inl ⟨by rfl, ?_⟩) (by assumption) ?_
  · intro w hSw
    (try dsimp only at hSw)
    obtain ⟨s0, s1, s2, s3, s4⟩ := hSw
    go_simp
  (try simp only [Act.put, List.setIfInBounds_toArray, List.set_cons_zero, List.set_cons_succ])
  refine wpAnyH_ready (rs := [2, 5]) (by kernel_rfl) (by simp) ?_
  refine AllReadyH.cons (o := { dst := some 6, op := Op.call { callee := Callee.value (Operand.func 80), args := #[Operand.tmp 5, Operand.const (Value.int IntKind.u32 0)], argTypes := #[27, 32] }, type := 3, pos := "ring.go:28", after := #[{ on := 1, ground := Ground.data }], guard := none }) rfl (fun K hK => ?_) (AllReadyH.cons (o := { dst := some 3, op := Op.alloc 139, type := 0, pos := "ring.go:28", after := #[], guard := none }) rfl (fun K hK => ?_) AllReadyH.nil)
  · go_simp
    refine (HR.out _).mono ?_
    rintro e w1 ⟨rfl, o1, o2, o3, hw⟩
    have hw2 : RZ (w1.alloc (.cells #[.int .i64 0, .int .i64 0, .int .i64 0, .int .i64 0, .int .i64 0, .int .i64 0, .int .u32 0, .int .u32 0, .int .u32 0, .int .u32 0, .int .u32 0, .int .u32 0, .int .i64 0, .int .u32 0, .int .u32 0, .int .u32 0, .int .u32 0, .bool false, .bool false] 139)) w1.heap.size := RZ.new _ _ rfl
    have hu1 : Upd [] w0 w1 := by subst hw; exact ((((Upd.refl [] w0).drew).alloc _).alloc _).alloc _
    have hsz1 := hu1.size
    clear hw
    refine hK.out _ _ ?_ (fun hHeld => ?_)
    · exact ⟨(hu1.cell (p := ⟨W.heap.size, 0, none⟩) l0 List.not_mem_nil).trans p0, (hu1.cell (p := ⟨W.heap.size, 1, none⟩) l0 List.not_mem_nil).trans p1, (hu1.cell (p := ⟨W.heap.size, 2, none⟩) l0 List.not_mem_nil).trans p2, (hu1.cell (p := ⟨W.heap.size, 3, none⟩) l0 List.not_mem_nil).trans p3, (hu1.cell (p := ⟨W.heap.size, 4, none⟩) l0 List.not_mem_nil).trans p4⟩
    clear hK K
    (try simp only [Act.put, List.setIfInBounds_toArray, List.set_cons_zero, List.set_cons_succ])
    refine wpAnyH_take (i := 3) (oi := { dst := some 7, op := Op.binOp BinOp.geq 3 (Operand.tmp 6) (Operand.const (Value.int IntKind.i64 0)) 3, type := 4, pos := "ring.go:28", after := #[{ on := 2, ground := Ground.data }], guard := none }) (v := .bool true) rfl (by kernel_rfl) (by kernel_rfl) (by kernel_rfl) (fun _ _ _ h => h) (Or.inl ⟨by rfl, ?_⟩) (by assumption) ?_
    · intro w hSw
      go_simp
    (try simp only [Act.put, List.setIfInBounds_toArray, List.set_cons_zero, List.set_cons_succ])
    refine wpAnyH_take (i := 4) (oi := { dst := some 8, op := Op.build 139 #[(0, Operand.tmp 4), (6, Operand.const (Value.bool true)), (7, Operand.tmp 7)], type := 139, pos := "ring.go:28", after := #[{ on := 0, ground := Ground.data }, { on := 3, ground := Ground.data }], guard := none }) (v := (.agg #[.int .i64 1, .int .i64 0, .int .i64 cap, .int .i64 wd, .int .i64 0, .int .i64 0, .int .u32 0, .int .u32 0, .int .u32 0, .int .u32 0, .int .u32 0, .int .u32 0, .int .i64 0, .int .u32 0, .int .u32 0, .int .u32 0, .int .u32 0, .bool true, .bool true])) rfl (by kernel_rfl) (by kernel_rfl) (by kernel_rfl) (fun _ _ _ h => h) (Or.inl ⟨by rfl, ?_⟩) (by assumption) ?_
    · intro w hSw
      go_simp
    (try simp only [Act.put, List.setIfInBounds_toArray, List.set_cons_zero, List.set_cons_succ])
    refine wpAnyH_ready (rs := [5]) (by kernel_rfl) (by simp) ?_
    refine AllReadyH.cons (o := { dst := some 3, op := Op.alloc 139, type := 0, pos := "ring.go:28", after := #[], guard := none }) rfl (fun K hK => ?_) AllReadyH.nil
    go_simp
    refine hK.out _ _ ?_ (fun hHeld => ?_)
    · obtain ⟨s0, s1, s2, s3, s4⟩ := hHeld
      exact ⟨cell_alloc2 s0, cell_alloc2 s1, cell_alloc2 s2, cell_alloc2 s3, cell_alloc2 s4⟩
    clear hK K
    (try simp only [Act.put, List.setIfInBounds_toArray, List.set_cons_zero, List.set_cons_succ])
    refine wpAnyH_ready (rs := [6]) (by kernel_rfl) (by simp) ?_
    refine AllReadyH.cons (o := { dst := none, op := Op.store 139 (Operand.tmp 3) (Operand.tmp 8), type := 0, pos := "ring.go:28", after := #[{ on := 5, ground := Ground.data }, { on := 4, ground := Ground.data }, { on := 2, ground := Ground.chain }, { on := 0, ground := Ground.phase }, { on := 1, ground := Ground.phase }, { on := 2, ground := Ground.phase }, { on := 3, ground := Ground.phase }, { on := 4, ground := Ground.phase }, { on := 5, ground := Ground.phase }], guard := none }) rfl (fun K hK => ?_) AllReadyH.nil
    rw [if_pos (by rfl)]
    refine wp_store_row 139 _ _ rfl w1.heap.size #[.int .i64 1, .int .i64 0, .int .i64 cap, .int .i64 wd, .int .i64 0, .int .i64 0, .int .u32 0, .int .u32 0, .int .u32 0, .int .u32 0, .int .u32 0, .int .u32 0, .int .i64 0, .int .u32 0, .int .u32 0, .int .u32 0, .int .u32 0, .bool true, .bool true] rfl rfl 139 _ hw2 (info_ring19 cap wd) rfl (ringR_one cap wd) ?_
    refine hK.out _ _ ?_ (fun hHeld => ?_)
    · obtain ⟨s0, s1, s2, s3, s4⟩ := hHeld
      exact ⟨(cell_setRow_other _ _ _ _ (by simp; omega)).trans s0, (cell_setRow_other _ _ _ _ (by simp; omega)).trans s1, (cell_setRow_other _ _ _ _ (by simp; omega)).trans s2, (cell_setRow_other _ _ _ _ (by simp; omega)).trans s3, (cell_setRow_other _ _ _ _ (by simp; omega)).trans s4⟩
    clear hK K
    (try simp only [Act.put, List.setIfInBounds_toArray, List.set_cons_zero, List.set_cons_succ])
    refine wpAnyH_done (by kernel_rfl) ?_ _
    have hg4 := setRow_heap _ _ _ #[.int .i64 1, .int .i64 0, .int .i64 cap, .int .i64 wd, .int .i64 0, .int .i64 0, .int .u32 0, .int .u32 0, .int .u32 0, .int .u32 0, .int .u32 0, .int .u32 0, .int .i64 0, .int .u32 0, .int .u32 0, .int .u32 0, .int .u32 0, .bool true, .bool true] _ _ (show (w1.alloc (.cells #[.int .i64 0, .int .i64 0, .int .i64 0, .int .i64 0, .int .i64 0, .int .i64 0, .int .u32 0, .int .u32 0, .int .u32 0, .int .u32 0, .int .u32 0, .int .u32 0, .int .i64 0, .int .u32 0, .int .u32 0, .int .u32 0, .int .u32 0, .bool false, .bool false] 139)).heap[w1.heap.size]? = some (.cells #[.int .i64 0, .int .i64 0, .int .i64 0, .int .i64 0, .int .i64 0, .int .i64 0, .int .u32 0, .int .u32 0, .int .u32 0, .int .u32 0, .int .u32 0, .int .u32 0, .int .i64 0, .int .u32 0, .int .u32 0, .int .u32 0, .int .u32 0, .bool false, .bool false] 139 (0, 0)) from hw2)
    have hs4 : ((w1.alloc (.cells #[.int .i64 0, .int .i64 0, .int .i64 0, .int .i64 0, .int .i64 0, .int .i64 0, .int .u32 0, .int .u32 0, .int .u32 0, .int .u32 0, .int .u32 0, .int .u32 0, .int .i64 0, .int .u32 0, .int .u32 0, .int .u32 0, .int .u32 0, .bool false, .bool false] 139)).setRow w1.heap.size #[.int .i64 1, .int .i64 0, .int .i64 cap, .int .i64 wd, .int .i64 0, .int .i64 0, .int .u32 0, .int .u32 0, .int .u32 0, .int .u32 0, .int .u32 0, .int .u32 0, .int .i64 0, .int .u32 0, .int .u32 0, .int .u32 0, .int .u32 0, .bool true, .bool true]).heap[W.heap.size + 1]? = some (.cells #[.int .i64 0, .int .i64 0, .int .i64 0, .int .i64 0, .int .i64 0, .int .i64 0, .int .u32 0, .int .u32 0, .int .u32 0, .int .u32 0, .int .u32 0, .int .u32 0, .int .i64 0, .int .u32 0, .int .u32 0, .int .u32 0, .int .u32 0, .bool false, .bool false] 139 (0, 0)) := (setRow_other _ _ _ _ (by omega)).trans (heap_alloc' (hu1.keepb HX1.out (by simp)))
    have hu4 : Upd [] W ((w1.alloc (.cells #[.int .i64 0, .int .i64 0, .int .i64 0, .int .i64 0, .int .i64 0, .int .i64 0, .int .u32 0, .int .u32 0, .int .u32 0, .int .u32 0, .int .u32 0, .int .u32 0, .int .i64 0, .int .u32 0, .int .u32 0, .int .u32 0, .int .u32 0, .bool false, .bool false] 139)).setRow w1.heap.size #[.int .i64 1, .int .i64 0, .int .i64 cap, .int .i64 wd, .int .i64 0, .int .i64 0, .int .u32 0, .int .u32 0, .int .u32 0, .int .u32 0, .int .u32 0, .int .u32 0, .int .i64 0, .int .u32 0, .int .u32 0, .int .u32 0, .int .u32 0, .bool true, .bool true]) := (show Upd [] W (w1.alloc (.cells #[.int .i64 0, .int .i64 0, .int .i64 0, .int .i64 0, .int .i64 0, .int .i64 0, .int .u32 0, .int .u32 0, .int .u32 0, .int .u32 0, .int .u32 0, .int .u32 0, .int .i64 0, .int .u32 0, .int .u32 0, .int .u32 0, .int .u32 0, .bool false, .bool false] 139)) from (HU0.out.trans hu1).alloc _).then (upd_setRow _ _ _) (fun i hi => .inr (by simp at hi; omega))
    have z18 := cell_of_heap hg4 18
    simp at z18
    have lg := heap_lt hg4
    generalize (w1.alloc (.cells #[.int .i64 0, .int .i64 0, .int .i64 0, .int .i64 0, .int .i64 0, .int .i64 0, .int .u32 0, .int .u32 0, .int .u32 0, .int .u32 0, .int .u32 0, .int .u32 0, .int .i64 0, .int .u32 0, .int .u32 0, .int .u32 0, .int .u32 0, .bool false, .bool false] 139)).setRow w1.heap.size #[.int .i64 1, .int .i64 0, .int .i64 cap, .int .i64 wd, .int .i64 0, .int .i64 0, .int .u32 0, .int .u32 0, .int .u32 0, .int .u32 0, .int .u32 0, .int .u32 0, .int .i64 0, .int .u32 0, .int .u32 0, .int .u32 0, .int .u32 0, .bool true, .bool true] = w4 at hg4 hs4 hu4 z18 lg ⊢
    have HG4 := Lib.hid hg4
    have HS4 := Lib.hid hs4
    have HU4 := Lib.hid hu4
    clear hg4 hs4 hu4 hw2
    go_wp2_with (first
      | (refine wpList_load_row rfl 139 _ rfl (w1.heap.size) rfl _ _ (0, 0) _ HG4.out Try.underlying139 rfl (info_ring19 cap wd) ?_)
      | (refine wpList_store_row rfl 139 _ _ rfl (W.heap.size + 1) #[.int .i64 1, .int .i64 0, .int .i64 cap, .int .i64 wd, .int .i64 0, .int .i64 0, .int .u32 0, .int .u32 0, .int .u32 0, .int .u32 0, .int .u32 0, .int .u32 0, .int .i64 0, .int .u32 0, .int .u32 0, .int .u32 0, .int .u32 0, .bool true, .bool true] rfl rfl _ _ HS4.out (info_ring19 cap wd) rfl (ringR_one cap wd) ?_; have HS := Lib.hid (setRow_heap _ _ _ #[.int .i64 1, .int .i64 0, .int .i64 cap, .int .i64 wd, .int .i64 0, .int .i64 0, .int .u32 0, .int .u32 0, .int .u32 0, .int .u32 0, .int .u32 0, .int .u32 0, .int .i64 0, .int .u32 0, .int .u32 0, .int .u32 0, .int .u32 0, .bool true, .bool true] _ _ HS4.out)))
    refine bodyPost_ret (v := .agg #[.int .i64 1, .int .i64 0, .int .i64 cap, .int .i64 wd, .int .i64 0, .int .i64 0, .int .u32 0, .int .u32 0, .int .u32 0, .int .u32 0, .int .u32 0, .int .u32 0, .int .i64 0, .int .u32 0, .int .u32 0, .int .u32 0, .int .u32 0, .bool true, .bool true]) (results_cell_row rfl _ _ (W.heap.size + 1) _ _ (0, 0) _ rfl HS.out Try.underlying139 rfl (info_ring19 cap wd)) rfl ?_
    exact ⟨rfl, HU4.out.then (upd_setRow _ _ _) (fun i hi => .inr (by simp at hi; omega))⟩
  · go_simp
    refine hK.out _ _ ?_ (fun hHeld => ?_)
    · exact ⟨cell_alloc2 p0, cell_alloc2 p1, cell_alloc2 p2, cell_alloc2 p3, cell_alloc2 p4⟩
    clear hK K
    (try simp only [Act.put, List.setIfInBounds_toArray, List.set_cons_zero, List.set_cons_succ])
    refine wpAnyH_ready (rs := [2]) (by kernel_rfl) (by simp) ?_
    refine AllReadyH.cons (o := { dst := some 6, op := Op.call { callee := Callee.value (Operand.func 80), args := #[Operand.tmp 5, Operand.const (Value.int IntKind.u32 0)], argTypes := #[27, 32] }, type := 3, pos := "ring.go:28", after := #[{ on := 1, ground := Ground.data }], guard := none }) rfl (fun K hK => ?_) AllReadyH.nil
    go_simp
    refine (HR.out _).mono ?_
    rintro e w1 ⟨rfl, o1, o2, o3, hw⟩
    have hw2 : RZ w1 w0.heap.size := by subst hw; exact heap_alloc' (heap_alloc' (heap_alloc' (RZ.new w0.drew _ rfl)))
    have hu1 : Upd [] w0 w1 := by subst hw; exact (((((Upd.refl [] w0).drew).alloc _).alloc _).alloc _).alloc _
    have hsz1 := hu1.size
    clear hw
    refine hK.out _ _ ?_ (fun hHeld => ?_)
    · exact ⟨(hu1.cell (p := ⟨W.heap.size, 0, none⟩) l0 List.not_mem_nil).trans p0, (hu1.cell (p := ⟨W.heap.size, 1, none⟩) l0 List.not_mem_nil).trans p1, (hu1.cell (p := ⟨W.heap.size, 2, none⟩) l0 List.not_mem_nil).trans p2, (hu1.cell (p := ⟨W.heap.size, 3, none⟩) l0 List.not_mem_nil).trans p3, (hu1.cell (p := ⟨W.heap.size, 4, none⟩) l0 List.not_mem_nil).trans p4⟩
    clear hK K
    (try simp only [Act.put, List.setIfInBounds_toArray, List.set_cons_zero, List.set_cons_succ])
    refine wpAnyH_take (i := 3) (oi := { dst := some 7, op := Op.binOp BinOp.geq 3 (Operand.tmp 6) (Operand.const (Value.int IntKind.i64 0)) 3, type := 4, pos := "ring.go:28", after := #[{ on := 2, ground := Ground.data }], guard := none }) (v := .bool true) rfl (by kernel_rfl) (by kernel_rfl) (by kernel_rfl) (fun _ _ _ h => h) (Or.inl ⟨by rfl, ?_⟩) (by assumption) ?_
    · intro w hSw
      go_simp
    (try simp only [Act.put, List.setIfInBounds_toArray, List.set_cons_zero, List.set_cons_succ])
    refine wpAnyH_take (i := 4) (oi := { dst := some 8, op := Op.build 139 #[(0, Operand.tmp 4), (6, Operand.const (Value.bool true)), (7, Operand.tmp 7)], type := 139, pos := "ring.go:28", after := #[{ on := 0, ground := Ground.data }, { on := 3, ground := Ground.data }], guard := none }) (v := (.agg #[.int .i64 1, .int .i64 0, .int .i64 cap, .int .i64 wd, .int .i64 0, .int .i64 0, .int .u32 0, .int .u32 0, .int .u32 0, .int .u32 0, .int .u32 0, .int .u32 0, .int .i64 0, .int .u32 0, .int .u32 0, .int .u32 0, .int .u32 0, .bool true, .bool true])) rfl (by kernel_rfl) (by kernel_rfl) (by kernel_rfl) (fun _ _ _ h => h) (Or.inl ⟨by rfl, ?_⟩) (by assumption) ?_
    · intro w hSw
      go_simp
    (try simp only [Act.put, List.setIfInBounds_toArray, List.set_cons_zero, List.set_cons_succ])
    refine wpAnyH_ready (rs := [6]) (by kernel_rfl) (by simp) ?_
    refine AllReadyH.cons (o := { dst := none, op := Op.store 139 (Operand.tmp 3) (Operand.tmp 8), type := 0, pos := "ring.go:28", after := #[{ on := 5, ground := Ground.data }, { on := 4, ground := Ground.data }, { on := 2, ground := Ground.chain }, { on := 0, ground := Ground.phase }, { on := 1, ground := Ground.phase }, { on := 2, ground := Ground.phase }, { on := 3, ground := Ground.phase }, { on := 4, ground := Ground.phase }, { on := 5, ground := Ground.phase }], guard := none }) rfl (fun K hK => ?_) AllReadyH.nil
    rw [if_pos (by rfl)]
    refine wp_store_row 139 _ _ rfl w0.heap.size #[.int .i64 1, .int .i64 0, .int .i64 cap, .int .i64 wd, .int .i64 0, .int .i64 0, .int .u32 0, .int .u32 0, .int .u32 0, .int .u32 0, .int .u32 0, .int .u32 0, .int .i64 0, .int .u32 0, .int .u32 0, .int .u32 0, .int .u32 0, .bool true, .bool true] rfl rfl 139 _ hw2 (info_ring19 cap wd) rfl (ringR_one cap wd) ?_
    refine hK.out _ _ ?_ (fun hHeld => ?_)
    · obtain ⟨s0, s1, s2, s3, s4⟩ := hHeld
      exact ⟨(cell_setRow_other _ _ _ _ (by simp; omega)).trans s0, (cell_setRow_other _ _ _ _ (by simp; omega)).trans s1, (cell_setRow_other _ _ _ _ (by simp; omega)).trans s2, (cell_setRow_other _ _ _ _ (by simp; omega)).trans s3, (cell_setRow_other _ _ _ _ (by simp; omega)).trans s4⟩
    clear hK K
    (try simp only [Act.put, List.setIfInBounds_toArray, List.set_cons_zero, List.set_cons_succ])
    refine wpAnyH_done (by kernel_rfl) ?_ _
    have hg4 := setRow_heap _ _ _ #[.int .i64 1, .int .i64 0, .int .i64 cap, .int .i64 wd, .int .i64 0, .int .i64 0, .int .u32 0, .int .u32 0, .int .u32 0, .int .u32 0, .int .u32 0, .int .u32 0, .int .i64 0, .int .u32 0, .int .u32 0, .int .u32 0, .int .u32 0, .bool true, .bool true] _ _ (show (w1).heap[w0.heap.size]? = some (.cells #[.int .i64 0, .int .i64 0, .int .i64 0, .int .i64 0, .int .i64 0, .int .i64 0, .int .u32 0, .int .u32 0, .int .u32 0, .int .u32 0, .int .u32 0, .int .u32 0, .int .i64 0, .int .u32 0, .int .u32 0, .int .u32 0, .int .u32 0, .bool false, .bool false] 139 (0, 0)) from hw2)
    have hs4 : ((w1).setRow w0.heap.size #[.int .i64 1, .int .i64 0, .int .i64 cap, .int .i64 wd, .int .i64 0, .int .i64 0, .int .u32 0, .int .u32 0, .int .u32 0, .int .u32 0, .int .u32 0, .int .u32 0, .int .i64 0, .int .u32 0, .int .u32 0, .int .u32 0, .int .u32 0, .bool true, .bool true]).heap[W.heap.size + 1]? = some (.cells #[.int .i64 0, .int .i64 0, .int .i64 0, .int .i64 0, .int .i64 0, .int .i64 0, .int .u32 0, .int .u32 0, .int .u32 0, .int .u32 0, .int .u32 0, .int .u32 0, .int .i64 0, .int .u32 0, .int .u32 0, .int .u32 0, .int .u32 0, .bool false, .bool false] 139 (0, 0)) := (setRow_other _ _ _ _ (by omega)).trans (hu1.keepb HX1.out (by simp))
    have hu4 : Upd [] W ((w1).setRow w0.heap.size #[.int .i64 1, .int .i64 0, .int .i64 cap, .int .i64 wd, .int .i64 0, .int .i64 0, .int .u32 0, .int .u32 0, .int .u32 0, .int .u32 0, .int .u32 0, .int .u32 0, .int .i64 0, .int .u32 0, .int .u32 0, .int .u32 0, .int .u32 0, .bool true, .bool true]) := (show Upd [] W (w1) from HU0.out.trans hu1).then (upd_setRow _ _ _) (fun i hi => .inr (by simp at hi; omega))
    have z18 := cell_of_heap hg4 18
    simp at z18
    have lg := heap_lt hg4
    generalize (w1).setRow w0.heap.size #[.int .i64 1, .int .i64 0, .int .i64 cap, .int .i64 wd, .int .i64 0, .int .i64 0, .int .u32 0, .int .u32 0, .int .u32 0, .int .u32 0, .int .u32 0, .int .u32 0, .int .i64 0, .int .u32 0, .int .u32 0, .int .u32 0, .int .u32 0, .bool true, .bool true] = w4 at hg4 hs4 hu4 z18 lg ⊢
    have HG4 := Lib.hid hg4
    have HS4 := Lib.hid hs4
    have HU4 := Lib.hid hu4
    clear hg4 hs4 hu4 hw2
    go_wp2_with (first
      | (refine wpList_load_row rfl 139 _ rfl (w0.heap.size) rfl _ _ (0, 0) _ HG4.out Try.underlying139 rfl (info_ring19 cap wd) ?_)
      | (refine wpList_store_row rfl 139 _ _ rfl (W.heap.size + 1) #[.int .i64 1, .int .i64 0, .int .i64 cap, .int .i64 wd, .int .i64 0, .int .i64 0, .int .u32 0, .int .u32 0, .int .u32 0, .int .u32 0, .int .u32 0, .int .u32 0, .int .i64 0, .int .u32 0, .int .u32 0, .int .u32 0, .int .u32 0, .bool true, .bool true] rfl rfl _ _ HS4.out (info_ring19 cap wd) rfl (ringR_one cap wd) ?_; have HS := Lib.hid (setRow_heap _ _ _ #[.int .i64 1, .int .i64 0, .int .i64 cap, .int .i64 wd, .int .i64 0, .int .i64 0, .int .u32 0, .int .u32 0, .int .u32 0, .int .u32 0, .int .u32 0, .int .u32 0, .int .i64 0, .int .u32 0, .int .u32 0, .int .u32 0, .int .u32 0, .bool true, .bool true] _ _ HS4.out)))
    refine bodyPost_ret (v := .agg #[.int .i64 1, .int .i64 0, .int .i64 cap, .int .i64 wd, .int .i64 0, .int .i64 0, .int .u32 0, .int .u32 0, .int .u32 0, .int .u32 0, .int .u32 0, .int .u32 0, .int .i64 0, .int .u32 0, .int .u32 0, .int .u32 0, .int .u32 0, .bool true, .bool true]) (results_cell_row rfl _ _ (W.heap.size + 1) _ _ (0, 0) _ rfl HS.out Try.underlying139 rfl (info_ring19 cap wd)) rfl ?_
    exact ⟨rfl, HU4.out.then (upd_setRow _ _ _) (fun i hi => .inr (by simp at hi; omega))⟩
end Go.Proofs.Ytnnakiojfpnphaa
namespace Go.Proofs.Ytnnakiojfpnphaa
open Go.RowKit

set_option maxRecDepth 100000 in
set_option maxHeartbeats 2000000 in
theorem pop_new (cap wd : Int) (h : Cap5 cap) (h1 : 1 ≤ wd) (h4 : wd ≤ 4) (W : World) : Calls Try.prog 66 #[.agg #[.int .i64 1, .int .i64 0, .int .i64 cap, .int .i64 wd, .int .i64 0]] W fun e w' => ∃ b, e = .returned (.pointer (some ⟨b, 0, none⟩)) ∧ W.heap.size ≤ b ∧ RG cap wd w' b 143 ring0 ∧ Upd [] W w' := by
  have HB := Lib.hid fun w => ring_begun cap wd h h1 h4 w
  unfold ringC ring0 at HB
  clear h h1 h4
  go_enter Try.func66, Try.ntmps66
  go_wp2_with (go_at_call 75; refine (HB.out _).mono ?_; rintro e w1 ⟨rfl, hu1⟩; have HU1 := Lib.hid (((Upd.refl [] W).alloc _).trans hu1); clear hu1)
  go_ret
  have hsz := HU1.out.size
  exact ⟨_, rfl, hsz, ⟨heap_alloc_new _ _⟩, HU1.out.alloc _⟩

set_option maxRecDepth 100000 in
set_option maxHeartbeats 2000000 in
theorem push_new (cap wd x0 x1 x2 x3 : Int) (h : Cap5 cap) (h1 : 1 ≤ wd) (h4 : wd ≤ 4) (W : World) : Calls Try.prog 65 #[.agg #[.int .i64 1, .int .i64 0, .int .i64 cap, .int .i64 wd, .int .i64 0], .agg #[.int .u32 x0, .int .u32 x1, .int .u32 x2, .int .u32 x3]] W fun e w' => ∃ b, e = .returned (.pointer (some ⟨b, 0, none⟩)) ∧ W.heap.size ≤ b ∧ RG cap wd w' b 142 { ring0 with v0 := x0, v1 := x1, v2 := x2, v3 := x3 } ∧ Upd [] W w' := by
  have HB := Lib.hid fun w => ring_begun cap wd h h1 h4 w
  unfold ringC ring0 at HB
  clear h h1 h4
  go_enter Try.func65, Try.ntmps65
  go_wp2_with (go_at_call 75; refine (HB.out _).mono ?_; rintro e w1 ⟨rfl, hu1⟩; have HU1 := Lib.hid ((((Upd.refl [] W).alloc _).alloc _).trans hu1); have hx := hu1.keepb (heap_alloc_at (w := W.alloc _) (g := W.heap.size + 1) _ (by simp)) (by simp); have z0 := cell_of_heap hx 0; have z1 := cell_of_heap hx 1; have z2 := cell_of_heap hx 2; have z3 := cell_of_heap hx 3; simp at z0 z1 z2 z3; have lx := heap_lt hx; clear hx hu1)
  go_ret
  have hsz := HU1.out.size
  refine ⟨_, rfl, hsz, ⟨?hg⟩, ?_⟩
  case hg =>
    exact heap_alloc_new _ _
  repeat (first | (with_reducible refine Upd.setCell ?_ (by simp; omega) _) | (with_reducible refine Upd.alloc ?_ _))
  exact HU1.out
end Go.Proofs.Ytnnakiojfpnphaa
