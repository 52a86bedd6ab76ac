/- The walk, part 31: BD9. -/
import Derived.Test.YtnnakiojfpnphaaZi30
import Derived.Test.YtnnakiojfpnphaaZi06
set_option linter.unusedVariables false
set_option linter.unusedSimpArgs false

namespace Go.Proofs.Ytnnakiojfpnphaa
open Go.RowKit
theorem bacts_any {k cap wd rt : Int} (kind : Int) (hr : rightB k cap wd rt = true) (w : World) : Calls Try.prog 22 #[.int .i64 kind, .agg #[.int .i64 k, .int .i64 0, .int .i64 cap, .int .i64 wd, .int .i64 rt]] w fun e w' => e = .returned (.int .i64 (actsP kind k wd rt)) ∧ Upd [] w w' := by
  rcases right_kind hr with ⟨rfl, _, _, _, _, rfl⟩ | ⟨rfl, _, _, rfl, rfl⟩ | ⟨rfl, _, _, rfl, _, _⟩ | ⟨rfl, rfl, rfl, rfl⟩
  · exact bacts1 0 wd cap w kind hr
  · exact bacts2 0 wd w kind hr
  · exact bacts3 0 wd rt w kind hr
  · exact bacts4 0 w kind hr
theorem acts_le {k cap wd rt : Int} (kind : Int) (hr : rightB k cap wd rt = true) : 0 ≤ actsP kind k wd rt ∧ actsP kind k wd rt ≤ 54 := by
  unfold actsP
  rcases right_kind hr with ⟨rfl, h1, h2, _, _, rfl⟩ | ⟨rfl, h1, h2, rfl, rfl⟩ | ⟨rfl, h1, h2, rfl, h3, h4⟩ | ⟨rfl, rfl, rfl, rfl⟩
  · rw [if_pos rfl]; split <;> omega
  · rw [if_neg (by omega), if_pos rfl]; repeat (first | omega | split)
  · rw [if_neg (by omega), if_neg (by omega), if_pos rfl]
    have e : wd = 1 ∨ wd = 2 ∨ wd = 3 ∨ wd = 4 := by omega
    have hp : 0 ≤ (rt + 1) * (wd + 2) ∧ (rt + 1) * (wd + 2) ≤ 54 := by rcases e with rfl | rfl | rfl | rfl <;> omega
    repeat (first | omega | split)
  · rw [if_neg (by omega), if_neg (by omega), if_neg (by omega)]; split <;> omega
theorem routine_any {k cap wd rt : Int} (kind x0 x1 x2 x3 cn : Int) (hr : rightB k cap wd rt = true) (pb po pc : Nat) (W : World) (lb : pb < W.heap.size)
    (c0 : W.cell? ⟨pb, po, none⟩ = some (.int .i64 k)) (c1 : W.cell? ⟨pb, po + 1, none⟩ = some (.int .i64 0)) (c2 : W.cell? ⟨pb, po + 2, none⟩ = some (.int .i64 cap)) (c3 : W.cell? ⟨pb, po + 3, none⟩ = some (.int .i64 wd)) (c4 : W.cell? ⟨pb, po + 4, none⟩ = some (.int .i64 rt)) :
    Calls Try.prog 23 #[.slice (some ⟨pb, po, none⟩) 1 pc, .agg #[.int .i64 kind, .int .i64 0, .int .u32 x0, .int .u32 x1, .int .u32 x2, .int .u32 x3, .int .u32 cn]] W fun e w' => Upd [] W w' ∧ ∃ T v, e = .returned (.iface T v) ∧ BR kind wd (actsP kind k wd rt) W.heap.size T v w' := by
  cases hk : kinds kind with
  | true => exact routine_ok kind x0 x1 x2 x3 cn hr hk pb po pc W lb c0 c1 c2 c3 c4
  | false =>
    refine (routine_bad kind x0 x1 x2 x3 cn hk (some ⟨pb, po, none⟩) pc W).mono fun e w' ⟨hu, he⟩ => ⟨hu, _, _, he, ?_⟩
    rw [acts_none hk]
    exact br_told kind wd 1 (by decide) _ _
section
variable (k cap wd rt f t i0 i1 i2 i3 kind obj x0 x1 x2 x3 cn : Int) (ga : Option Addr) (gc : Nat) (got : List Int) (W : World)
set_option maxRecDepth 100000 in
set_option maxHeartbeats 4000000 in
theorem bh_wrong (hr : rightB k cap wd rt = false) : Calls Try.prog 5 #[.agg #[.int .i64 k, .int .i64 cap, .int .i64 wd, .int .i64 rt, .int .i64 f, .int .i64 t, .int .u32 i0, .int .u32 i1, .int .u32 i2, .int .u32 i3], .agg #[.int .i64 kind, .int .i64 obj, .int .u32 x0, .int .u32 x1, .int .u32 x2, .int .u32 x3, .int .u32 cn], .slice ga got.length gc] W fun e w' => e = .returned (.bool true) ∧ Upd [] W w' := by
  have HR := Lib.hid fun w => sright_any cap wd rt f t i0 i1 i2 i3 w k
  rw [hr] at HR
  unfold obA at HR
  have HA := Lib.hid alive17
  clear hr
  go_enter Try.func5, Try.ntmps5
  go_wp2_with (first
    | (go_at_call 19; (with_reducible refine (HR.out _).mono ?_); rintro e w1 ⟨rfl, hu1⟩; obtain ⟨p1, rfl⟩ := hu1.grown; clear hu1)
    | (go_at_call 20; (with_reducible refine (HA.out _).mono ?_); rintro e w2 ⟨rfl, hu2⟩; obtain ⟨p2, rfl⟩ := hu2.grown; clear hu2))
  go_ret
  exact ⟨rfl, by repeat (first | (with_reducible exact Upd.refl _ _) | (with_reducible apply Upd.drew) | (with_reducible refine Upd.grE ?_ _) | (with_reducible refine Upd.alloc ?_ _))⟩
theorem own_ge {w : World} {base size : Nat} {e : TypeId} {a : Option Addr} {l c : Nat} {xs : List Value} {b o : Nat} (h : w.ownsRow base e size (.slice a l c) l xs) (ha : a = some ⟨b, o, none⟩) : base ≤ b := own_base h b (by subst ha; rfl)
set_option maxRecDepth 100000 in
set_option maxHeartbeats 8000000 in
theorem bh_right (hr : rightB k cap wd rt = true) (hg : Reads W ga got.length (got.map (Value.int .u32))) : Calls Try.prog 5 #[.agg #[.int .i64 k, .int .i64 cap, .int .i64 wd, .int .i64 rt, .int .i64 f, .int .i64 t, .int .u32 i0, .int .u32 i1, .int .u32 i2, .int .u32 i3], .agg #[.int .i64 kind, .int .i64 obj, .int .u32 x0, .int .u32 x1, .int .u32 x2, .int .u32 x3, .int .u32 cn], .slice ga got.length gc] W fun e w' => e = .returned (.bool true) ∧ Upd [] W w' := by
  have HR := Lib.hid fun w => sright_any cap wd rt f t i0 i1 i2 i3 w k
  rw [hr] at HR
  unfold obA at HR
  have HRB := Lib.hid hr
  have HA := Lib.hid alive17
  have HB := Lib.hid fun w => bacts_any kind hr w
  have HM := Lib.hid (acts_le kind hr)
  obtain ⟨A, hA⟩ : ∃ A, actsP kind k wd rt = A := ⟨_, rfl⟩
  rw [hA] at HB HM
  have HAE := Lib.hid hA
  have HG := Lib.hid hg
  clear hr hg hA
  go_enter Try.func5, Try.ntmps5
  go_wp2_with (first
    | (go_at_call 19; (with_reducible refine (HR.out _).mono ?_); rintro e w1 ⟨rfl, hu1⟩; obtain ⟨p1, rfl⟩ := hu1.grown; clear hu1)
    | (go_at_call 21; refine Go.RowKit.Hid.out ?_))
  refine Lib.hid ?_
  refine (sof_o (l := [⟨k, cap, wd, rt, f, t, i0, i1, i2, i3⟩]) 1 ?els (by simp)).mono ?_
  case els =>
    intro _
    refine ⟨_, 0, rfl, by simp, fun i hi j v hj => ?_⟩
    obtain rfl : i = 0 := by simp at hi; omega
    rw [cell_of_heap (heap_alloc_at _ (by simp))]
    simpa [OBJ.cells, obA] using hj
  rintro e w3 ⟨hu3, va, vc, rfl, hel, hown⟩
  have hpl : (pls 0 [⟨k, cap, wd, rt, f, t, i0, i1, i2, i3⟩]).map PL.cells = [[.int .i64 k, .int .i64 0, .int .i64 cap, .int .i64 wd, .int .i64 rt]] := by simp [pls, plOf, HRB.out, PL.cells]
  rw [hpl] at hel
  obtain ⟨pb, po, rfl, lpb, hcl⟩ := hel (by simp)
  have c0 := hcl 0 (by simp) 0 _ rfl
  have c1 := hcl 0 (by simp) 1 _ rfl
  have c2 := hcl 0 (by simp) 2 _ rfl
  have c3 := hcl 0 (by simp) 3 _ rfl
  have c4 := hcl 0 (by simp) 4 _ rfl
  simp only [Nat.zero_mul, Nat.add_zero] at c0 c1 c2 c3 c4
  have hC3 := hu3.keepb (heap_alloc' (heap_grE (heap_alloc_at (w := W.alloc _) (g := W.heap.size + 1) _ (by simp)))) (by simp)
  have hge := own_ge hown rfl
  have hpbC : W.heap.size + 1 < pb := by simp at hge; omega
  have HU3 := Lib.hid ((show Upd [] W _ by repeat (first | (with_reducible exact Upd.refl _ _) | (with_reducible apply Upd.drew) | (with_reducible refine Upd.grE ?_ _) | (with_reducible refine Upd.alloc ?_ _))).trans hu3)
  have lC := heap_lt hC3
  have z0 := cell_of_heap hC3 0
  have z1 := cell_of_heap hC3 1
  have z2 := cell_of_heap hC3 2
  have z3 := cell_of_heap hC3 3
  have z4 := cell_of_heap hC3 4
  have z5 := cell_of_heap hC3 5
  have z6 := cell_of_heap hC3 6
  simp at z0 z1 z2 z3 z4 z5 z6
  have zf := fun j => frozen_of_heap hC3 j
  have HC3 := Lib.hid hC3
  have HP0 := Lib.hid c0
  have HP1 := Lib.hid c1
  have HP2 := Lib.hid c2
  have HP3 := Lib.hid c3
  have HP4 := Lib.hid c4
  have HPC := Lib.hid hpbC
  have HLP := Lib.hid lpb
  clear hu3 hel hown hcl hpl hC3 hge c0 c1 c2 c3 c4 hpbC lpb
  go_wp2_with (go_at_call 23; refine Go.RowKit.Hid.out ?_)
  refine Lib.hid ?_
  have HS := Lib.hid (show Upd [W.heap.size + 1] w3 (w3.setCell ⟨W.heap.size + 1, 1, none⟩ (.int .i64 0)) from (Upd.refl _ _).setB (.inl (by simp)))
  have HC4 := Lib.hid (show (w3.setCell ⟨W.heap.size + 1, 1, none⟩ (.int .i64 0)).heap[W.heap.size + 1]? = some (.cells #[.int .i64 kind, .int .i64 0, .int .u32 x0, .int .u32 x1, .int .u32 x2, .int .u32 x3, .int .u32 cn] 67 (0, 0)) from heap_set2c HC3.out rfl)
  have hnb : pb ∉ [W.heap.size + 1] := by have := HPC.out; simp; omega
  have L4 := Lib.hid (show pb < (w3.setCell ⟨W.heap.size + 1, 1, none⟩ (.int .i64 0)).heap.size from Nat.lt_of_lt_of_le HLP.out HS.out.size)
  have P0 := Lib.hid ((HS.out.cell (p := ⟨pb, po, none⟩) HLP.out hnb).trans HP0.out)
  have P1 := Lib.hid ((HS.out.cell (p := ⟨pb, po + 1, none⟩) HLP.out hnb).trans HP1.out)
  have P2 := Lib.hid ((HS.out.cell (p := ⟨pb, po + 2, none⟩) HLP.out hnb).trans HP2.out)
  have P3 := Lib.hid ((HS.out.cell (p := ⟨pb, po + 3, none⟩) HLP.out hnb).trans HP3.out)
  have P4 := Lib.hid ((HS.out.cell (p := ⟨pb, po + 4, none⟩) HLP.out hnb).trans HP4.out)
  have HU4 := Lib.hid (show Upd [] W (w3.setCell ⟨W.heap.size + 1, 1, none⟩ (.int .i64 0)) from HU3.out.then HS.out (by simp))
  clear z0 z1 z2 z3 z4 z5 z6 zf HP0 HP1 HP2 HP3 HP4 hnb HC3 HS HU3 lC HLP
  generalize w3.setCell ⟨W.heap.size + 1, 1, none⟩ (.int .i64 0) = w4 at *
  refine (routine_any kind x0 x1 x2 x3 cn HRB.out pb po vc w4 L4.out P0.out P1.out P2.out P3.out P4.out).mono ?_
  rintro e w5 ⟨hu5, T, v, rfl, hbr⟩
  rw [HAE.out] at hbr
  have HC5 := Lib.hid (hu5.keepb HC4.out (by simp))
  have L5 := Lib.hid (Nat.lt_of_lt_of_le L4.out hu5.size)
  have Q0 := Lib.hid ((hu5.cell (p := ⟨pb, po, none⟩) L4.out (by simp)).trans P0.out)
  have Q1 := Lib.hid ((hu5.cell (p := ⟨pb, po + 1, none⟩) L4.out (by simp)).trans P1.out)
  have Q2 := Lib.hid ((hu5.cell (p := ⟨pb, po + 2, none⟩) L4.out (by simp)).trans P2.out)
  have Q3 := Lib.hid ((hu5.cell (p := ⟨pb, po + 3, none⟩) L4.out (by simp)).trans P3.out)
  have Q4 := Lib.hid ((hu5.cell (p := ⟨pb, po + 4, none⟩) L4.out (by simp)).trans P4.out)
  have HU5 := Lib.hid (HU4.out.trans hu5)
  have HBR := Lib.hid (hbr.mono (Nat.le_trans HU4.out.size (Nat.le_refl _)))
  clear P0 P1 P2 P3 P4 HU4 hu5 HC4 L4 hbr
  go_upto_region 8 with (fail)
  have R0 : ∀ w1 : World, Upd [] w5 w1 → w1.cell? ⟨pb, po, none⟩ = some (.int .i64 k) := fun w1 h => (h.cell (p := ⟨pb, po, none⟩) L5.out (by simp)).trans Q0.out
  have R1 : ∀ w1 : World, Upd [] w5 w1 → w1.cell? ⟨pb, po + 1, none⟩ = some (.int .i64 0) := fun w1 h => (h.cell (p := ⟨pb, po + 1, none⟩) L5.out (by simp)).trans Q1.out
  have R2 : ∀ w1 : World, Upd [] w5 w1 → w1.cell? ⟨pb, po + 2, none⟩ = some (.int .i64 cap) := fun w1 h => (h.cell (p := ⟨pb, po + 2, none⟩) L5.out (by simp)).trans Q2.out
  have R3 : ∀ w1 : World, Upd [] w5 w1 → w1.cell? ⟨pb, po + 3, none⟩ = some (.int .i64 wd) := fun w1 h => (h.cell (p := ⟨pb, po + 3, none⟩) L5.out (by simp)).trans Q3.out
  have R4 : ∀ w1 : World, Upd [] w5 w1 → w1.cell? ⟨pb, po + 4, none⟩ = some (.int .i64 rt) := fun w1 h => (h.cell (p := ⟨pb, po + 4, none⟩) L5.out (by simp)).trans Q4.out
  have D0 : ∀ w1 : World, Upd [] w5 w1 → w1.cell? ⟨W.heap.size + 1, 0, none⟩ = some (.int .i64 kind) := fun w1 h => by rw [cell_of_heap (h.keepb HC5.out (by simp))]; rfl
  refine wp_region_held_drew (S := fun w1 => Upd [] w5 w1) (by kernel_rfl) ?_ (fun hHeld => ?_)
  · exact (Upd.refl _ w5).drew
  apply wpAnyH_take (i := 0) (oi := { dst := some 33, op := Op.fieldAddr 67 (Operand.tmp 4) 0, type := 0, pos := "law.go:37", after := #[], guard := none }) rfl (by kernel_rfl) (by kernel_rfl) (by kernel_rfl) (fun _ _ _ h => h) (Or.inl ⟨by rfl, ?_⟩) hHeld ?_
  rotate_left 1
  · intro w1 hSw
    (try dsimp only at hSw)
    go_simp
    rfl
  (try simp only [Act.put, List.setIfInBounds_toArray, List.set_cons_zero, List.set_cons_succ])
  apply wpAnyH_take (i := 1) (oi := { dst := some 34, op := Op.load 3 (Operand.tmp 33), type := 3, pos := "law.go:37", after := #[{ on := 0, ground := Ground.data }], guard := none }) rfl (by kernel_rfl) (by kernel_rfl) (by kernel_rfl) (fun _ _ _ h => h) (Or.inl ⟨by rfl, ?_⟩) hHeld ?_
  rotate_left 1
  · intro w1 hSw
    (try dsimp only at hSw)
    go_simp
    rfl
  (try simp only [Act.put, List.setIfInBounds_toArray, List.set_cons_zero, List.set_cons_succ])
  apply wpAnyH_take (i := 2) (oi := { dst := some 35, op := Op.move (Operand.tmp 7), type := 58, pos := "law.go:37", after := #[], guard := none }) rfl (by kernel_rfl) (by kernel_rfl) (by kernel_rfl) (fun _ _ _ h => h) (Or.inl ⟨by rfl, ?_⟩) hHeld ?_
  rotate_left 1
  · intro w1 hSw
    (try dsimp only at hSw)
    go_simp
    rfl
  (try simp only [Act.put, List.setIfInBounds_toArray, List.set_cons_zero, List.set_cons_succ])
  apply wpAnyH_take (i := 3) (oi := { dst := some 36, op := Op.indexAddr 58 (Operand.tmp 35) (Operand.const (Value.int IntKind.i64 0)), type := 0, pos := "law.go:37", after := #[{ on := 2, ground := Ground.data }], guard := none }) rfl (by kernel_rfl) (by kernel_rfl) (by kernel_rfl) (fun _ _ _ h => h) (Or.inl ⟨by rfl, ?_⟩) hHeld ?_
  rotate_left 1
  · intro w1 hSw
    (try dsimp only at hSw)
    go_simp
    rfl
  (try simp only [Act.put, List.setIfInBounds_toArray, List.set_cons_zero, List.set_cons_succ])
  apply wpAnyH_take (i := 4) (oi := { dst := some 37, op := Op.load 27 (Operand.tmp 36), type := 27, pos := "law.go:37", after := #[{ on := 3, ground := Ground.data }], guard := none }) rfl (by kernel_rfl) (by kernel_rfl) (by kernel_rfl) (fun _ _ _ h => h) (Or.inl ⟨by rfl, ?_⟩) hHeld ?_
  rotate_left 1
  · intro w1 hSw
    (try dsimp only at hSw)
    go_simp
    rfl
  (try simp only [Act.put, List.setIfInBounds_toArray, List.set_cons_zero, List.set_cons_succ])
  refine wpAnyH_ready (rs := [5]) (by kernel_rfl) (by simp) ?_
  refine AllReadyH.cons (o := { dst := some 38, op := Op.call { callee := Callee.value (Operand.func 22), args := #[Operand.tmp 34, Operand.tmp 37], argTypes := #[3, 27] }, type := 3, pos := "law.go:37", after := #[{ on := 1, ground := Ground.data }, { on := 4, ground := Ground.data }], guard := none }) rfl (fun K hK => ?_) AllReadyH.nil
  go_simp
  (with_reducible refine (HB.out _).mono ?_)
  rintro e w6 ⟨rfl, hu6⟩
  have hHeld := hHeld.trans (show Upd [] _ _ from hu6)
  refine hK.out _ _ (by repeat (first | (with_reducible exact Upd.refl _ _) | (with_reducible exact hHeld) | (with_reducible apply Upd.drew) | (with_reducible refine Upd.grE ?_ _))) (fun hHeld => ?_)
  clear hK K
  (try simp only [Act.put, List.setIfInBounds_toArray, List.set_cons_zero, List.set_cons_succ])
  apply wpAnyH_take (i := 6) (oi := { dst := some 10, op := Op.assign (Operand.tmp 38), type := 3, pos := "law.go:37", after := #[{ on := 5, ground := Ground.data }, { on := 5, ground := Ground.chain }, { on := 0, ground := Ground.phase }, { on := 1, ground := Ground.phase }, { on := 2, ground := Ground.phase }, { on := 3, ground := Ground.phase }, { on := 4, ground := Ground.phase }, { on := 5, ground := Ground.phase }], guard := none }) rfl (by kernel_rfl) (by kernel_rfl) (by kernel_rfl) (fun _ _ _ h => h) (Or.inl ⟨by rfl, ?_⟩) hHeld ?_
  rotate_left 1
  · intro w1 hSw
    (try dsimp only at hSw)
    go_simp
    rfl
  (try simp only [Act.put, List.setIfInBounds_toArray, List.set_cons_zero, List.set_cons_succ])
  refine wpAnyH_done (by kernel_rfl) ?_ _
  have HU6 := Lib.hid (HU5.out.trans hHeld)
  have HBR6 := Lib.hid (HBR.out.keep hHeld (by simp))
  clear hHeld R0 R1 R2 R3 R4 D0
  obtain ⟨σ, S, At, act, take, res, fA, fT, fR, s0, R, hat, hS, ⟨inv, hi0, hstep, hend⟩, -⟩ := HBR6.out
  have qA := R.mA
  have qT := R.mT
  have qR := R.mR
  have cA := R.cA
  have cT := R.cT
  have cR := R.cR
  have HRO := Lib.hid R
  have HAT0 := Lib.hid hat
  have HSS := Lib.hid hS
  have HI0 := Lib.hid hi0
  have HSTEP := Lib.hid hstep
  have HEND := Lib.hid hend
  clear R hat hS hi0 hstep hend
  go_wp2
  go_loopg [11] 101 (fun n i wr => ∃ j : Nat, n + j = 101 ∧ i = .int .i64 j ∧ (j : Int) ≤ A ∧ ∃ s, At s wr ∧ inv s j ∧ Upd [] W wr)
  case atStart => exact ⟨0, rfl, rfl, HM.out.1, s0, HAT0.out, HI0.out, HU6.out⟩
  case round =>
    obtain ⟨j, hj, rfl, hjA, s, hat, hiv, hu⟩ := hrel
    have q1 : decide ((j : Int) ≤ 100) = true := by have := HM.out; simp; omega
    have q2 : decide ((j : Int) ≤ A) = true := by simpa using hjA
    have HJ := Lib.hid hj
    have HJA := Lib.hid hjA
    have HAT := Lib.hid hat
    have HIV := Lib.hid hiv
    have HU := Lib.hid hu
    clear hj hjA hat hiv hu
    rcases hac : act s with _ | ⟨o, a, x⟩
    · have HAC := Lib.hid hac
      have he := HEND.out s j HIV.out hac
      obtain ⟨F, hF⟩ : ∃ F, (res s).f = F := ⟨_, rfl⟩
      rw [hF] at he
      have q3 : decide (0 < A) = false → (F != 0) = true := fun h => by
        have h0 : ¬ 0 < A := by simpa using h
        have := he.2
        simp; omega
      have q4 : decide (0 < A) = false → (F == 0) = false := fun h => by
        have h0 : ¬ 0 < A := by simpa using h
        have := he.2
        simp; omega
      have HF := Lib.hid hF
      clear hac he
      obtain ⟨b0, hb0⟩ : ∃ b0, decide (0 < A) = b0 := ⟨_, rfl⟩
      have hb1 : decide (A > 0) = b0 := hb0
      rw [hb0] at q3 q4
      rcases b0 with _ | _
      · have q5 := q3 rfl
        have q6 := q4 rfl
        clear q3 q4
        (
            go_wp2_with (first
              | (refine (HRO.out.noAct s _ HAT.out HAC.out).mono ?_; rintro e w7 ⟨rfl, hu7⟩; obtain ⟨p7, rfl⟩ := hu7.grown; clear hu7)
              | (refine (HRO.out.ans s _ (HRO.out.keep _ _ _ [] HAT.out (show Upd [] _ _ by repeat (first | (with_reducible exact Upd.refl _ _) | (with_reducible apply Upd.drew) | (with_reducible refine Upd.grE ?_ _) | (with_reducible refine Upd.alloc ?_ _))) (by simp)) HAC.out).mono ?_; rintro e w8 ⟨rfl, hu8⟩; obtain ⟨p8, rfl⟩ := hu8.grown; clear hu8; unfold Ans.v; rw [HF.out])
              | (go_at_call 20; (with_reducible refine (HA.out _).mono ?_); rintro e w9 ⟨rfl, hu9⟩; obtain ⟨p9, rfl⟩ := hu9.grown; clear hu9))
            go_ret
            refine ⟨rfl, HU.out.trans ?_⟩
            repeat (first | (with_reducible exact Upd.refl _ _) | (with_reducible apply Upd.drew) | (with_reducible refine Upd.grE ?_ _) | (with_reducible refine Upd.alloc ?_ _)))
      · clear q3 q4
        (
            go_wp2_with (first
              | (refine (HRO.out.noAct s _ HAT.out HAC.out).mono ?_; rintro e w7 ⟨rfl, hu7⟩; obtain ⟨p7, rfl⟩ := hu7.grown; clear hu7)
              | (refine (HRO.out.ans s _ (HRO.out.keep _ _ _ [] HAT.out (show Upd [] _ _ by repeat (first | (with_reducible exact Upd.refl _ _) | (with_reducible apply Upd.drew) | (with_reducible refine Upd.grE ?_ _) | (with_reducible refine Upd.alloc ?_ _))) (by simp)) HAC.out).mono ?_; rintro e w8 ⟨rfl, hu8⟩; obtain ⟨p8, rfl⟩ := hu8.grown; clear hu8; unfold Ans.v; rw [HF.out])
              | (go_at_call 20; (with_reducible refine (HA.out _).mono ?_); rintro e w9 ⟨rfl, hu9⟩; obtain ⟨p9, rfl⟩ := hu9.grown; clear hu9))
            go_ret
            refine ⟨rfl, HU.out.trans ?_⟩
            repeat (first | (with_reducible exact Upd.refl _ _) | (with_reducible apply Upd.drew) | (with_reducible refine Upd.grE ?_ _) | (with_reducible refine Upd.alloc ?_ _)))
    · have HAC := Lib.hid hac
      have hst := HSTEP.out s j HIV.out (by rw [hac]; rfl)
      have HST := Lib.hid hst
      clear hac hst
      by_cases hlt : j < got.length
      · obtain ⟨gb, go, rfl, lgb, hgc⟩ := HG.out.2 (by omega)
        have hx := (HU.out.cell (p := ⟨gb, go + j, none⟩) lgb (by simp)).trans (hgc j (.int .u32 got[j]) (by simp [hlt]))
        have lg := Nat.lt_of_lt_of_le lgb HU.out.size
        have b1 : (0 : Int) ≤ (j : Int) := by omega
        have b2 : decide ((j : Int) < (got.length : Int)) = true := by simp; omega
        have b3 : (j : Int) < (got.length : Int) := by omega
        have HLT := Lib.hid hlt
        generalize got[j] = y at *
        clear hgc hlt
        (
            go_wp2_with (first
              | (refine (HRO.out.more s _ o a x HAT.out HAC.out).mono ?_; rintro e w7 ⟨rfl, hu7⟩; obtain ⟨p7, rfl⟩ := hu7.grown; clear hu7)
              | (refine (HRO.out.took s _ o a x y (HRO.out.keep _ _ _ [] HAT.out (show Upd [] _ _ by repeat (first | (with_reducible exact Upd.refl _ _) | (with_reducible apply Upd.drew) | (with_reducible refine Upd.grE ?_ _) | (with_reducible refine Upd.alloc ?_ _))) (by simp)) HAC.out).mono ?_; rintro e w8 ⟨rfl, hat8, hu8⟩; have HAT8 := Lib.hid hat8; have HU8 := Lib.hid hu8; clear hat8 hu8))
            have hj1 : j + 1 ≤ 101 := by have := HM.out; have := HJA.out; omega
            have hw : wrap64 ((j : Int) + 1) = ((j + 1 : Nat) : Int) := by unfold wrap64; omega
            go_roundg (gk - 1)
            case rel =>
              refine ⟨j + 1, by have := HJ.out; have := HM.out; have := HJA.out; omega, by rw [hw], by have := HST.out.1; push_cast; omega, _, HAT8.out, HST.out.2 _, ?_⟩
              refine (HU.out.trans ?_).then HU8.out (fun i hi => .inr (HSS.out i hi))
              repeat (first | (with_reducible exact Upd.refl _ _) | (with_reducible apply Upd.drew) | (with_reducible refine Upd.grE ?_ _) | (with_reducible refine Upd.alloc ?_ _))
            case measure => have := HJ.out; have := HM.out; have := HJA.out; omega)
      · have b2 : decide ((j : Int) < (got.length : Int)) = false := by simp; omega
        have HLT := Lib.hid hlt
        clear hlt
        (
            go_wp2_with (first
              | (refine (HRO.out.more s _ o a x HAT.out HAC.out).mono ?_; rintro e w7 ⟨rfl, hu7⟩; obtain ⟨p7, rfl⟩ := hu7.grown; clear hu7)
              | (refine (HRO.out.took s _ o a x (0 : Int) (HRO.out.keep _ _ _ [] HAT.out (show Upd [] _ _ by repeat (first | (with_reducible exact Upd.refl _ _) | (with_reducible apply Upd.drew) | (with_reducible refine Upd.grE ?_ _) | (with_reducible refine Upd.alloc ?_ _))) (by simp)) HAC.out).mono ?_; rintro e w8 ⟨rfl, hat8, hu8⟩; have HAT8 := Lib.hid hat8; have HU8 := Lib.hid hu8; clear hat8 hu8))
            have hj1 : j + 1 ≤ 101 := by have := HM.out; have := HJA.out; omega
            have hw : wrap64 ((j : Int) + 1) = ((j + 1 : Nat) : Int) := by unfold wrap64; omega
            go_roundg (gk - 1)
            case rel =>
              refine ⟨j + 1, by have := HJ.out; have := HM.out; have := HJA.out; omega, by rw [hw], by have := HST.out.1; push_cast; omega, _, HAT8.out, HST.out.2 _, ?_⟩
              refine (HU.out.trans ?_).then HU8.out (fun i hi => .inr (HSS.out i hi))
              repeat (first | (with_reducible exact Upd.refl _ _) | (with_reducible apply Upd.drew) | (with_reducible refine Upd.grE ?_ _) | (with_reducible refine Upd.alloc ?_ _))
            case measure => have := HJ.out; have := HM.out; have := HJA.out; omega)
end
theorem arr4w {w : World} {cs : List Value} (h : (Sh.ar 4 (.int .u32)).ok w cs) : ∃ a b c d : Int, cs = [.int .u32 a, .int .u32 b, .int .u32 c, .int .u32 d] := by
  obtain ⟨_, _, rfl, ⟨a, rfl, _⟩, _, _, rfl, ⟨b, rfl, _⟩, _, _, rfl, ⟨c, rfl, _⟩, _, _, rfl, ⟨d, rfl, _⟩, rfl⟩ := h
  exact ⟨a, b, c, d, rfl⟩
theorem obj_okV {W : World} {v : Value} (h : Sh.okV W (.st (.cons (.int .i64) (.cons (.int .i64) (.cons (.int .i64) (.cons (.int .i64) (.cons (.int .i64) (.cons (.int .i64) (.cons (.ar 4 (.int .u32)) (.nil))))))))) v) :
    ∃ k cap wd rt f t i0 i1 i2 i3 : Int, v = .agg #[.int .i64 k, .int .i64 cap, .int .i64 wd, .int .i64 rt, .int .i64 f, .int .i64 t, .int .u32 i0, .int .u32 i1, .int .u32 i2, .int .u32 i3] := by
  obtain ⟨cs, rfl, h⟩ := h
  obtain ⟨_, _, e, ⟨k, rfl, _⟩, _, _, rfl, ⟨cap, rfl, _⟩, _, _, rfl, ⟨wd, rfl, _⟩, _, _, rfl, ⟨rt, rfl, _⟩, _, _, rfl, ⟨f, rfl, _⟩, _, _, rfl, ⟨t, rfl, _⟩, _, _, rfl, h4, rfl⟩ := h
  obtain ⟨i0, i1, i2, i3, rfl⟩ := arr4w h4
  refine ⟨k, cap, wd, rt, f, t, i0, i1, i2, i3, ?_⟩
  rw [← Array.toArray_toList (xs := cs), e]
  rfl
theorem call_okV {W : World} {v : Value} (h : Sh.okV W (.st (.cons (.int .i64) (.cons (.int .i64) (.cons (.ar 4 (.int .u32)) (.cons (.int .u32) (.nil)))))) v) :
    ∃ kind obj x0 x1 x2 x3 cn : Int, v = .agg #[.int .i64 kind, .int .i64 obj, .int .u32 x0, .int .u32 x1, .int .u32 x2, .int .u32 x3, .int .u32 cn] := by
  obtain ⟨cs, rfl, h⟩ := h
  obtain ⟨_, _, e, ⟨k, rfl, _⟩, _, _, rfl, ⟨cap, rfl, _⟩, _, _, rfl, h4, _, _, rfl, ⟨cn, rfl, _⟩, rfl⟩ := h
  obtain ⟨i0, i1, i2, i3, rfl⟩ := arr4w h4
  refine ⟨k, cap, i0, i1, i2, i3, cn, ?_⟩
  rw [← Array.toArray_toList (xs := cs), e]
  rfl
theorem boundHolds_walk (W : World) (v0 v1 v2 : Value) (h0 : Sh.okV W (.st (.cons (.int .i64) (.cons (.int .i64) (.cons (.int .i64) (.cons (.int .i64) (.cons (.int .i64) (.cons (.int .i64) (.cons (.ar 4 (.int .u32)) (.nil))))))))) v0) (h1 : Sh.okV W (.st (.cons (.int .i64) (.cons (.int .i64) (.cons (.ar 4 (.int .u32)) (.cons (.int .u32) (.nil)))))) v1) (h2 : Sh.okV W (.slice (.int .u32)) v2) :
    Calls Try.prog 5 #[v0, v1, v2] W fun e w' => e = .returned (.bool true) ∧ Upd [] W w' := by
  obtain ⟨k, cap, wd, rt, f, t, i0, i1, i2, i3, rfl⟩ := obj_okV h0
  obtain ⟨kind, obj, x0, x1, x2, x3, cn, rfl⟩ := call_okV h1
  obtain ⟨ga, gc, xs, rfl, hl, hr, -⟩ := reads_ints h2
  cases hb : rightB k cap wd rt with
  | true => exact bh_right k cap wd rt f t i0 i1 i2 i3 kind obj x0 x1 x2 x3 cn ga gc xs W hb hr
  | false => exact bh_wrong k cap wd rt f t i0 i1 i2 i3 kind obj x0 x1 x2 x3 cn ga gc xs W hb
end Go.Proofs.Ytnnakiojfpnphaa
