/- Package walk: the chapter's example: Of of three events. -/
import Derived.Test.YtkjonflmokapcaaWK7
import Derived.Deep.MidRow
set_option linter.unusedVariables false
set_option linter.unusedSimpArgs false
namespace Go.Proofs.Ytkjonflmokapcaa
open Go.RowKit

def evs3 : Array Value := #[.int .i64 0, .int .i64 (-1), .int .i64 4, .int .i64 0, .int .i64 0, .int .u32 0, .int .u32 0, .int .u32 0, .int .u32 0, .int .u32 0, .int .i64 0, .int .i64 0, .int .u32 0, .int .u32 0, .int .i64 0, .int .u32 0, .int .u32 0, .int .u32 0, .int .u32 0, .int .i64 0, .int .i64 0, .int .i64 0, .int .u32 0, .int .i64 0, .int .i64 (-1), .int .i64 2, .int .i64 0, .int .i64 0, .int .u32 0, .int .u32 0, .int .u32 0, .int .u32 0, .int .u32 0, .int .i64 0, .int .i64 0, .int .u32 0, .int .u32 0, .int .i64 0, .int .u32 0, .int .u32 0, .int .u32 0, .int .u32 0, .int .i64 0, .int .i64 0, .int .i64 0, .int .u32 0, .int .i64 0, .int .i64 (-1), .int .i64 5, .int .i64 0, .int .i64 0, .int .u32 0, .int .u32 0, .int .u32 0, .int .u32 0, .int .u32 0, .int .i64 0, .int .i64 0, .int .u32 0, .int .u32 0, .int .i64 0, .int .u32 0, .int .u32 0, .int .u32 0, .int .u32 0, .int .i64 0, .int .i64 0, .int .i64 0, .int .u32 0]
/-- What lies in memory while 'Of' runs on three events. -/
structure OF (w : World) (b : Nat) (x y : Int) (r : Nat) (w' : World) : Prop where
  he : w'.heap[b]? = some (.cells evs3 132)
  h0 : w'.heap[w.heap.size]? = some (.cells [.int .i64 0, .int .i64 0, .int .i64 0].toArray 28)
  h1 : ∃ p q u v, w'.heap[w.heap.size + 1]? = some (.cells #[.complex .f64 p q, .complex .f64 u v] 118) ∧ CV p q x y ∧ CV u v (qre r) (qim r)
  u : Upd [] w w' 
theorem range_of {w : World} {b : Nat} {cs : Array Value} {t : TypeId} {f : Nat × Nat} (h : w.heap[b]? = some (.cells cs t f)) {o : Nat} {l : List Value} (hl : (cs.toList.drop o).take l.length = l) : w.rangeAt b o l := fun j v hj => by
  rw [cell_of_heap h]
  rw [← hl, List.getElem?_take] at hj
  split at hj
  · rw [List.getElem?_drop] at hj
    simpa using hj
  · cases hj
theorem ev_range0 {w : World} {b : Nat} (h : w.heap[b]? = some (.cells evs3 132)) : w.rangeAt b 0 (evC (-1) 4) := range_of h rfl
theorem ev_range1 {w : World} {b : Nat} (h : w.heap[b]? = some (.cells evs3 132)) : w.rangeAt b 23 (evC (-1) 2) := range_of h rfl
theorem ev_range2 {w : World} {b : Nat} (h : w.heap[b]? = some (.cells evs3 132)) : w.rangeAt b 46 (evC (-1) 5) := range_of h rfl
theorem info_event (ctx kind : Int) : (Try.prog.info? 132).map (·.size) = some (evC ctx kind).length := by kernel_rfl
set_option maxRecDepth 100000 in
theorem then_0 {p q u v : Nat} (h1 : CV p q 0 0) (h2 : CV u v (qre 0) (qim 0)) (w : World) : Calls Try.prog 52 #[.agg #[.complex .f64 p q, .complex .f64 u v], .agg #[.int .i64 0, .int .i64 0, .int .i64 1]] w fun e w' => ∃ p q u v, e = .returned (.agg #[.complex .f64 p q, .complex .f64 u v]) ∧ CV p q 0 0 ∧ CV u v (qre 1) (qim 1) ∧ Upd [] w w' := by
  refine (w_then (s := 1) h1 (by omega) h2 (by unfold Sm; decide) (by unfold Sm; decide) (by unfold Sm; decide) (by unfold Sm; decide) (by decide) w).mono ?_
  rintro e w' ⟨p, q, u, v, rfl, g1, g2, hu⟩
  exact ⟨p, q, u, v, rfl, by simpa [tre, tim] using g1, by simpa using g2, hu⟩
set_option maxRecDepth 100000 in
theorem then_1 {p q u v : Nat} (h1 : CV p q 0 0) (h2 : CV u v (qre 1) (qim 1)) (w : World) : Calls Try.prog 52 #[.agg #[.complex .f64 p q, .complex .f64 u v], .agg #[.int .i64 1, .int .i64 0, .int .i64 0]] w fun e w' => ∃ p q u v, e = .returned (.agg #[.complex .f64 p q, .complex .f64 u v]) ∧ CV p q 0 1 ∧ CV u v (qre 1) (qim 1) ∧ Upd [] w w' := by
  refine (w_then (s := 0) h1 (by omega) h2 (by unfold Sm; decide) (by unfold Sm; decide) (by unfold Sm; decide) (by unfold Sm; decide) (by decide) w).mono ?_
  rintro e w' ⟨p, q, u, v, rfl, g1, g2, hu⟩
  exact ⟨p, q, u, v, rfl, by simpa [tre, tim] using g1, by simpa using g2, hu⟩
set_option maxRecDepth 100000 in
theorem then_2 {p q u v : Nat} (h1 : CV p q 0 1) (h2 : CV u v (qre 1) (qim 1)) (w : World) : Calls Try.prog 52 #[.agg #[.complex .f64 p q, .complex .f64 u v], .agg #[.int .i64 0, .int .i64 0, .int .i64 3]] w fun e w' => ∃ p q u v, e = .returned (.agg #[.complex .f64 p q, .complex .f64 u v]) ∧ CV p q 0 1 ∧ CV u v (qre 0) (qim 0) ∧ Upd [] w w' := by
  refine (w_then (s := 3) h1 (by omega) h2 (by unfold Sm; decide) (by unfold Sm; decide) (by unfold Sm; decide) (by unfold Sm; decide) (by decide) w).mono ?_
  rintro e w' ⟨p, q, u, v, rfl, g1, g2, hu⟩
  exact ⟨p, q, u, v, rfl, by simpa [tre, tim] using g1, by simpa using g2, hu⟩
theorem OF.upd {w a b' : World} {b : Nat} {x y : Int} {r : Nat} (h : OF w b x y r a) (hu : Upd [] a b') : OF w b x y r b' := by
  obtain ⟨p, q, u, v, h1, h2, h3⟩ := h.h1
  exact ⟨hu.keepb h.he (by simp), hu.keepb h.h0 (by simp), ⟨p, q, u, v, hu.keepb h1 (by simp), h2, h3⟩, h.u.trans hu⟩
theorem OF.set {w a : World} {b : Nat} {x y x' y' : Int} {r r' : Nat} (h : OF w b x y r a) (hb : b < w.heap.size) {p q u v : Nat} (g1 : CV p q x' y') (g2 : CV u v (qre r') (qim r')) : OF w b x' y' r' ((a.setCell ⟨w.heap.size + 1, 0, none⟩ (.complex .f64 p q)).setCell ⟨w.heap.size + 1, 1, none⟩ (.complex .f64 u v)) := by
  obtain ⟨p1, q1, u1, v1, h1, h2, h3⟩ := h.h1
  refine ⟨?_, ?_, ⟨p, q, u, v, ?_, g1, g2⟩, Upd.then (S := []) h.u (((Upd.refl [w.heap.size + 1] a).setCell (by simp) _).setCell (by simp) _) (fun i hi => .inr (by simp at hi; omega))⟩
  · rw [heap_set_other _ _ _ (by omega), heap_set_other _ _ _ (by omega)]; exact h.he
  · rw [heap_set_other _ _ _ (by omega), heap_set_other _ _ _ (by omega)]; exact h.h0
  · rw [heap_set (heap_set h1 _ _)]; simp
theorem OF.drew {w a : World} {b : Nat} {x y : Int} {r : Nat} (h : OF w b x y r a) : OF w b x y r a.drew := ⟨h.he, h.h0, h.h1, h.u.drew⟩
theorem OF.drewN {w a : World} {b : Nat} {x y : Int} {r : Nat} (h : OF w b x y r a) (n : Nat) : OF w b x y r (a.drewN n) := ⟨h.he, h.h0, h.h1, h.u.drewN n⟩
def ofX (i : Nat) : Int := 0
def ofY (i : Nat) : Int := if i < 2 then 0 else 1
def ofR (i : Nat) : Nat := if i = 1 ∨ i = 2 then 1 else 0
set_option maxRecDepth 100000 in
set_option maxHeartbeats 4000000 in
theorem w_Of3 {b : Nat} (w : World) (hb : w.heap[b]? = some (.cells evs3 132)) : Calls Try.prog 60 #[.slice (some ⟨b, 0, none⟩) 3 3] w fun e w' => e = .returned (.tuple #[.agg #[.int .i64 0, .int .i64 1, .int .i64 0], .bool true]) ∧ Upd [] w w' := by
  have hlt := heap_lt hb
  have HLT := Lib.hid hlt
  have z : FV 0 0 := fv_int 0 (by decide)
  have p1 : FV 4607182418800017408 1 := ⟨false, 52, rfl, fun _ => rfl⟩
  have H0 := Lib.hid (show OF w b 0 0 0 ((w.alloc (.cells #[.int .i64 0, .int .i64 0, .int .i64 0] 28)).alloc (.cells #[.complex .f64 0 0, .complex .f64 4607182418800017408 0] 118)) from ⟨heap_alloc' (heap_alloc' hb), heap_alloc' (heap_alloc_new _ _), ⟨0, 0, 4607182418800017408, 0, heap_alloc_at _ (by simp), ⟨z, z⟩, ⟨p1, z⟩⟩, ((Upd.refl _ _).alloc _).alloc _⟩)
  clear z p1 hb
  go_enter Try.func60, Try.ntmps60
  go_wp2_with fail
  refine wp_scope_ghost 0 (fun n a' w' => ∃ (i : Nat) (iv : Int) (u1 u6 u7 u8 u9 u10 u11 u12 u13 u14 u15 u16 u17 u18 u19 u20 u21 u22 u23 u24 u25 u26 u27 : Value), n + i = 3 ∧ iv = i ∧ a' = { tmps := #[.slice (some ⟨b, 0, none⟩) 3 3, u1, .pointer (some ⟨w.heap.size, 0, none⟩), .bool false, .pointer (some ⟨w.heap.size + 1, 0, none⟩), .int .i64 iv, u6, u7, u8, u9, u10, u11, u12, u13, u14, u15, u16, u17, u18, u19, u20, u21, u22, u23, u24, u25, u26, u27], defers := [] } ∧ OF w b (ofX i) (ofY i) (ofR i) w') rfl ?_ ?_
  · rintro n a' w' ⟨i, iv, _, _, _, _, _, _, _, _, _, _, _, _, _, _, _, _, _, _, _, _, _, _, _, hn, hiv, rfl, hof⟩
    have HN := Lib.hid hn
    have HO := Lib.hid hof
    have hi : i = 0 ∨ i = 1 ∨ i = 2 ∨ i = 3 := by omega
    obtain ⟨p, q, u, v, hb1, hcv1, hcv2⟩ := hof.h1
    obtain ⟨c0, c1⟩ := cells2' hb1
    have zf := fun i => frozen_of_heap hb1 i
    have l1 := heap_lt hb1
    have HB1 := Lib.hid hb1
    have HC1 := Lib.hid hcv1
    have HC2 := Lib.hid hcv2
    clear hn hof hb1 hcv1 hcv2 hlt
    rcases hi with rfl | rfl | rfl | rfl
    · obtain rfl : iv = 0 := by omega
      clear hiv
      go_wp2_with fail
      refine wp_region_held_drew (S := fun w' => w'.heap[b]? = some (.cells evs3 132)) (by kernel_rfl) HO.out.he (fun hHeld => ?_)
      refine wpAnyH_take (i := 1) (oi := { dst := some 16, op := Op.move (Operand.tmp 0), type := 133, pos := "walk.go:94", after := #[], guard := none }) (v := .slice (some ⟨b, 0, none⟩) 3 3) rfl (by kernel_rfl) (by kernel_rfl) (by kernel_rfl) (fun _ _ _ h => h) (Or.inl ⟨by rfl, ?_⟩) (by assumption) ?_
      · intro w hSw
        go_simp
      (try simp only [Act.put, List.setIfInBounds_toArray, List.set_cons_zero, List.set_cons_succ])
      refine wpAnyH_take (i := 2) (oi := { dst := some 17, op := Op.move (Operand.tmp 5), type := 3, pos := "walk.go:94", after := #[], guard := none }) (v := .int .i64 0) rfl (by kernel_rfl) (by kernel_rfl) (by kernel_rfl) (fun _ _ _ h => h) (Or.inl ⟨by rfl, ?_⟩) (by assumption) ?_
      · intro w hSw
        go_simp
      (try simp only [Act.put, List.setIfInBounds_toArray, List.set_cons_zero, List.set_cons_succ])
      refine wpAnyH_take (i := 3) (oi := { dst := some 18, op := Op.indexAddr 133 (Operand.tmp 16) (Operand.tmp 17), type := 0, pos := "walk.go:94", after := #[{ on := 1, ground := Ground.data }, { on := 2, ground := Ground.data }], guard := none }) (v := .pointer (some ⟨b, 0, none⟩)) rfl (by kernel_rfl) (by kernel_rfl) (by kernel_rfl) (fun _ _ _ h => h) (Or.inl ⟨by rfl, ?_⟩) (by assumption) ?_
      · intro w hSw
        go_simp
      (try simp only [Act.put, List.setIfInBounds_toArray, List.set_cons_zero, List.set_cons_succ])
      refine wpAnyH_take (i := 4) (oi := { dst := some 19, op := Op.load 132 (Operand.tmp 18), type := 132, pos := "walk.go:94", after := #[{ on := 3, ground := Ground.data }], guard := none }) (v := .agg (evC (-1) 4).toArray) rfl (by kernel_rfl) (by kernel_rfl) (by kernel_rfl) (fun _ _ _ h => h) (yieldsIf_load_mid (by rfl) 132 _ rfl b 0 rfl (evC (-1) 4) _ (fun w hSw => ev_range0 hSw) Try.underlying132 rfl (info_event _ _)) (by assumption) ?_
      (try simp only [Act.put, List.setIfInBounds_toArray, List.set_cons_zero, List.set_cons_succ])
      refine wpAnyH_ready (rs := [0, 5]) (by kernel_rfl) (by simp) ?_
      refine AllReadyH.cons (o := { dst := some 15, op := Op.load 118 (Operand.tmp 4), type := 118, pos := "walk.go:94", after := #[], guard := none }) rfl (fun K hK => ?_) (AllReadyH.cons (o := { dst := some 20, op := Op.call { callee := Callee.value (Operand.func 92), args := #[Operand.tmp 19], argTypes := #[132] }, type := 28, pos := "walk.go:94", after := #[{ on := 4, ground := Ground.data }], guard := none }) rfl (fun K hK => ?_) AllReadyH.nil)
      · go_simp
        refine hK.out _ _ HO.out.he (fun hHeld => ?_)
        clear hK K
        (try simp only [Act.put, List.setIfInBounds_toArray, List.set_cons_zero, List.set_cons_succ])
        refine wpAnyH_ready (rs := [5]) (by kernel_rfl) (by simp) ?_
        refine AllReadyH.cons (o := { dst := some 20, op := Op.call { callee := Callee.value (Operand.func 92), args := #[Operand.tmp 19], argTypes := #[132] }, type := 28, pos := "walk.go:94", after := #[{ on := 4, ground := Ground.data }], guard := none }) rfl (fun K hK => ?_) AllReadyH.nil
        go_simp
        refine (event_enters _).mono ?_
        rintro e w1 ⟨rfl, hu1⟩
        have ho1 := HO.out.upd (Upd.trans (by first | exact Upd.refl _ _ | exact (Upd.refl _ _).drew | exact (Upd.refl _ _).drewN _) hu1)
        refine hK.out _ _ ho1.he (fun hHeld => ?_)
        clear hK K
        (try simp only [Act.put, List.setIfInBounds_toArray, List.set_cons_zero, List.set_cons_succ])
        refine wpAnyH_ready (rs := [6]) (by kernel_rfl) (by simp) ?_
        refine AllReadyH.cons (o := { dst := some 21, op := Op.call { callee := Callee.value (Operand.func 52), args := #[Operand.tmp 15, Operand.tmp 20], argTypes := #[118, 28] }, type := 118, pos := "walk.go:94", after := #[{ on := 0, ground := Ground.data }, { on := 5, ground := Ground.data }, { on := 5, ground := Ground.chain }], guard := none }) rfl (fun K hK => ?_) AllReadyH.nil
        go_simp
        refine (then_0 HC1.out HC2.out _).mono ?_
        rintro e w2 ⟨p', q', u', v', rfl, g1, g2, hu2⟩
        have ho2 := ho1.upd (Upd.trans (by first | exact Upd.refl _ _ | exact (Upd.refl _ _).drew | exact (Upd.refl _ _).drewN _) hu2)
        refine hK.out _ _ ho2.he (fun hHeld => ?_)
        clear hK K
        (try simp only [Act.put, List.setIfInBounds_toArray, List.set_cons_zero, List.set_cons_succ])
        obtain ⟨_, _, _, _, hb2, _, _⟩ := ho2.h1
        obtain ⟨k0, k1⟩ := cells2' hb2
        have zf2 := fun i => frozen_of_heap hb2 i
        have l2 := heap_lt hb2
        have ho3 := Lib.hid (ho2.set HLT.out g1 g2)
        clear hb2 g1 g2 hu1 hu2
        refine wpAnyH_ready (rs := [7]) (by kernel_rfl) (by simp) ?_
        refine AllReadyH.cons (o := { dst := none, op := Op.store 118 (Operand.tmp 4) (Operand.tmp 21), type := 0, pos := "walk.go:94", after := #[{ on := 6, ground := Ground.data }, { on := 6, ground := Ground.chain }, { on := 0, ground := Ground.phase }, { on := 1, ground := Ground.phase }, { on := 2, ground := Ground.phase }, { on := 3, ground := Ground.phase }, { on := 4, ground := Ground.phase }, { on := 5, ground := Ground.phase }, { on := 6, ground := Ground.phase }], guard := none }) rfl (fun K hK => ?_) AllReadyH.nil
        have hst := fun (p : Addr) (x y : Nat) (w : World) => run_store Try.prog w p (.complex .f64 x y) .plain rfl
        go_simp
        refine hK.out _ _ ho3.out.he (fun hHeld => ?_)
        clear hK K
        (try simp only [Act.put, List.setIfInBounds_toArray, List.set_cons_zero, List.set_cons_succ])
        refine wpAnyH_done (by kernel_rfl) ?_ _
        have hn := HN.out
        have hx3 := Lib.hid (show OF w b (ofX 1) (ofY 1) (ofR 1) _ from ho3.out)
        clear ho1 ho2 ho3 hHeld
        go_wp2
        go_step3
        refine ⟨rfl, n - 1, by omega, 1, 1, _, _, _, _, _, _, _, _, _, _, _, _, _, _, _, _, _, _, _, _, _, _, _, by omega, by omega, rfl, ?_⟩
        first | exact hx3.out | exact hx3.out.drew
      · go_simp
        refine (event_enters _).mono ?_
        rintro e w1 ⟨rfl, hu1⟩
        have hu1' : Upd [] w' w1 := (Upd.trans (by first | exact Upd.refl _ _ | exact (Upd.refl _ _).drew | exact (Upd.refl _ _).drewN _) hu1)
        have ho1 := HO.out.upd hu1'
        obtain ⟨d0, d1⟩ := cells2' (hu1'.keepb HB1.out (by simp))
        refine hK.out _ _ ho1.he (fun hHeld => ?_)
        clear hK K
        (try simp only [Act.put, List.setIfInBounds_toArray, List.set_cons_zero, List.set_cons_succ])
        refine wpAnyH_ready (rs := [0]) (by kernel_rfl) (by simp) ?_
        refine AllReadyH.cons (o := { dst := some 15, op := Op.load 118 (Operand.tmp 4), type := 118, pos := "walk.go:94", after := #[], guard := none }) rfl (fun K hK => ?_) AllReadyH.nil
        go_simp
        refine hK.out _ _ ho1.he (fun hHeld => ?_)
        clear hK K
        (try simp only [Act.put, List.setIfInBounds_toArray, List.set_cons_zero, List.set_cons_succ])
        refine wpAnyH_ready (rs := [6]) (by kernel_rfl) (by simp) ?_
        refine AllReadyH.cons (o := { dst := some 21, op := Op.call { callee := Callee.value (Operand.func 52), args := #[Operand.tmp 15, Operand.tmp 20], argTypes := #[118, 28] }, type := 118, pos := "walk.go:94", after := #[{ on := 0, ground := Ground.data }, { on := 5, ground := Ground.data }, { on := 5, ground := Ground.chain }], guard := none }) rfl (fun K hK => ?_) AllReadyH.nil
        go_simp
        refine (then_0 HC1.out HC2.out _).mono ?_
        rintro e w2 ⟨p', q', u', v', rfl, g1, g2, hu2⟩
        have ho2 := ho1.upd (Upd.trans (by first | exact Upd.refl _ _ | exact (Upd.refl _ _).drew | exact (Upd.refl _ _).drewN _) hu2)
        refine hK.out _ _ ho2.he (fun hHeld => ?_)
        clear hK K
        (try simp only [Act.put, List.setIfInBounds_toArray, List.set_cons_zero, List.set_cons_succ])
        obtain ⟨_, _, _, _, hb2, _, _⟩ := ho2.h1
        obtain ⟨k0, k1⟩ := cells2' hb2
        have zf2 := fun i => frozen_of_heap hb2 i
        have l2 := heap_lt hb2
        have ho3 := Lib.hid (ho2.set HLT.out g1 g2)
        clear hb2 g1 g2 hu1 hu2
        refine wpAnyH_ready (rs := [7]) (by kernel_rfl) (by simp) ?_
        refine AllReadyH.cons (o := { dst := none, op := Op.store 118 (Operand.tmp 4) (Operand.tmp 21), type := 0, pos := "walk.go:94", after := #[{ on := 6, ground := Ground.data }, { on := 6, ground := Ground.chain }, { on := 0, ground := Ground.phase }, { on := 1, ground := Ground.phase }, { on := 2, ground := Ground.phase }, { on := 3, ground := Ground.phase }, { on := 4, ground := Ground.phase }, { on := 5, ground := Ground.phase }, { on := 6, ground := Ground.phase }], guard := none }) rfl (fun K hK => ?_) AllReadyH.nil
        have hst := fun (p : Addr) (x y : Nat) (w : World) => run_store Try.prog w p (.complex .f64 x y) .plain rfl
        go_simp
        refine hK.out _ _ ho3.out.he (fun hHeld => ?_)
        clear hK K
        (try simp only [Act.put, List.setIfInBounds_toArray, List.set_cons_zero, List.set_cons_succ])
        refine wpAnyH_done (by kernel_rfl) ?_ _
        have hn := HN.out
        have hx3 := Lib.hid (show OF w b (ofX 1) (ofY 1) (ofR 1) _ from ho3.out)
        clear ho1 ho2 ho3 hHeld
        go_wp2
        go_step3
        refine ⟨rfl, n - 1, by omega, 1, 1, _, _, _, _, _, _, _, _, _, _, _, _, _, _, _, _, _, _, _, _, _, _, _, by omega, by omega, rfl, ?_⟩
        first | exact hx3.out | exact hx3.out.drew
    · obtain rfl : iv = 1 := by omega
      clear hiv
      go_wp2_with fail
      refine wp_region_held_drew (S := fun w' => w'.heap[b]? = some (.cells evs3 132)) (by kernel_rfl) HO.out.he (fun hHeld => ?_)
      refine wpAnyH_take (i := 1) (oi := { dst := some 16, op := Op.move (Operand.tmp 0), type := 133, pos := "walk.go:94", after := #[], guard := none }) (v := .slice (some ⟨b, 0, none⟩) 3 3) rfl (by kernel_rfl) (by kernel_rfl) (by kernel_rfl) (fun _ _ _ h => h) (Or.inl ⟨by rfl, ?_⟩) (by assumption) ?_
      · intro w hSw
        go_simp
      (try simp only [Act.put, List.setIfInBounds_toArray, List.set_cons_zero, List.set_cons_succ])
      refine wpAnyH_take (i := 2) (oi := { dst := some 17, op := Op.move (Operand.tmp 5), type := 3, pos := "walk.go:94", after := #[], guard := none }) (v := .int .i64 1) rfl (by kernel_rfl) (by kernel_rfl) (by kernel_rfl) (fun _ _ _ h => h) (Or.inl ⟨by rfl, ?_⟩) (by assumption) ?_
      · intro w hSw
        go_simp
      (try simp only [Act.put, List.setIfInBounds_toArray, List.set_cons_zero, List.set_cons_succ])
      refine wpAnyH_take (i := 3) (oi := { dst := some 18, op := Op.indexAddr 133 (Operand.tmp 16) (Operand.tmp 17), type := 0, pos := "walk.go:94", after := #[{ on := 1, ground := Ground.data }, { on := 2, ground := Ground.data }], guard := none }) (v := .pointer (some ⟨b, 23, none⟩)) rfl (by kernel_rfl) (by kernel_rfl) (by kernel_rfl) (fun _ _ _ h => h) (Or.inl ⟨by rfl, ?_⟩) (by assumption) ?_
      · intro w hSw
        go_simp
      (try simp only [Act.put, List.setIfInBounds_toArray, List.set_cons_zero, List.set_cons_succ])
      refine wpAnyH_take (i := 4) (oi := { dst := some 19, op := Op.load 132 (Operand.tmp 18), type := 132, pos := "walk.go:94", after := #[{ on := 3, ground := Ground.data }], guard := none }) (v := .agg (evC (-1) 2).toArray) rfl (by kernel_rfl) (by kernel_rfl) (by kernel_rfl) (fun _ _ _ h => h) (yieldsIf_load_mid (by rfl) 132 _ rfl b 23 rfl (evC (-1) 2) _ (fun w hSw => ev_range1 hSw) Try.underlying132 rfl (info_event _ _)) (by assumption) ?_
      (try simp only [Act.put, List.setIfInBounds_toArray, List.set_cons_zero, List.set_cons_succ])
      refine wpAnyH_ready (rs := [0, 5]) (by kernel_rfl) (by simp) ?_
      refine AllReadyH.cons (o := { dst := some 15, op := Op.load 118 (Operand.tmp 4), type := 118, pos := "walk.go:94", after := #[], guard := none }) rfl (fun K hK => ?_) (AllReadyH.cons (o := { dst := some 20, op := Op.call { callee := Callee.value (Operand.func 92), args := #[Operand.tmp 19], argTypes := #[132] }, type := 28, pos := "walk.go:94", after := #[{ on := 4, ground := Ground.data }], guard := none }) rfl (fun K hK => ?_) AllReadyH.nil)
      · go_simp
        refine hK.out _ _ HO.out.he (fun hHeld => ?_)
        clear hK K
        (try simp only [Act.put, List.setIfInBounds_toArray, List.set_cons_zero, List.set_cons_succ])
        refine wpAnyH_ready (rs := [5]) (by kernel_rfl) (by simp) ?_
        refine AllReadyH.cons (o := { dst := some 20, op := Op.call { callee := Callee.value (Operand.func 92), args := #[Operand.tmp 19], argTypes := #[132] }, type := 28, pos := "walk.go:94", after := #[{ on := 4, ground := Ground.data }], guard := none }) rfl (fun K hK => ?_) AllReadyH.nil
        go_simp
        refine (event_does _).mono ?_
        rintro e w1 ⟨rfl, hu1⟩
        have ho1 := HO.out.upd (Upd.trans (by first | exact Upd.refl _ _ | exact (Upd.refl _ _).drew | exact (Upd.refl _ _).drewN _) hu1)
        refine hK.out _ _ ho1.he (fun hHeld => ?_)
        clear hK K
        (try simp only [Act.put, List.setIfInBounds_toArray, List.set_cons_zero, List.set_cons_succ])
        refine wpAnyH_ready (rs := [6]) (by kernel_rfl) (by simp) ?_
        refine AllReadyH.cons (o := { dst := some 21, op := Op.call { callee := Callee.value (Operand.func 52), args := #[Operand.tmp 15, Operand.tmp 20], argTypes := #[118, 28] }, type := 118, pos := "walk.go:94", after := #[{ on := 0, ground := Ground.data }, { on := 5, ground := Ground.data }, { on := 5, ground := Ground.chain }], guard := none }) rfl (fun K hK => ?_) AllReadyH.nil
        go_simp
        refine (then_1 HC1.out HC2.out _).mono ?_
        rintro e w2 ⟨p', q', u', v', rfl, g1, g2, hu2⟩
        have ho2 := ho1.upd (Upd.trans (by first | exact Upd.refl _ _ | exact (Upd.refl _ _).drew | exact (Upd.refl _ _).drewN _) hu2)
        refine hK.out _ _ ho2.he (fun hHeld => ?_)
        clear hK K
        (try simp only [Act.put, List.setIfInBounds_toArray, List.set_cons_zero, List.set_cons_succ])
        obtain ⟨_, _, _, _, hb2, _, _⟩ := ho2.h1
        obtain ⟨k0, k1⟩ := cells2' hb2
        have zf2 := fun i => frozen_of_heap hb2 i
        have l2 := heap_lt hb2
        have ho3 := Lib.hid (ho2.set HLT.out g1 g2)
        clear hb2 g1 g2 hu1 hu2
        refine wpAnyH_ready (rs := [7]) (by kernel_rfl) (by simp) ?_
        refine AllReadyH.cons (o := { dst := none, op := Op.store 118 (Operand.tmp 4) (Operand.tmp 21), type := 0, pos := "walk.go:94", after := #[{ on := 6, ground := Ground.data }, { on := 6, ground := Ground.chain }, { on := 0, ground := Ground.phase }, { on := 1, ground := Ground.phase }, { on := 2, ground := Ground.phase }, { on := 3, ground := Ground.phase }, { on := 4, ground := Ground.phase }, { on := 5, ground := Ground.phase }, { on := 6, ground := Ground.phase }], guard := none }) rfl (fun K hK => ?_) AllReadyH.nil
        have hst := fun (p : Addr) (x y : Nat) (w : World) => run_store Try.prog w p (.complex .f64 x y) .plain rfl
        go_simp
        refine hK.out _ _ ho3.out.he (fun hHeld => ?_)
        clear hK K
        (try simp only [Act.put, List.setIfInBounds_toArray, List.set_cons_zero, List.set_cons_succ])
        refine wpAnyH_done (by kernel_rfl) ?_ _
        have hn := HN.out
        have hx3 := Lib.hid (show OF w b (ofX 2) (ofY 2) (ofR 2) _ from ho3.out)
        clear ho1 ho2 ho3 hHeld
        go_wp2
        go_step3
        refine ⟨rfl, n - 1, by omega, 2, 2, _, _, _, _, _, _, _, _, _, _, _, _, _, _, _, _, _, _, _, _, _, _, _, by omega, by omega, rfl, ?_⟩
        first | exact hx3.out | exact hx3.out.drew
      · go_simp
        refine (event_does _).mono ?_
        rintro e w1 ⟨rfl, hu1⟩
        have hu1' : Upd [] w' w1 := (Upd.trans (by first | exact Upd.refl _ _ | exact (Upd.refl _ _).drew | exact (Upd.refl _ _).drewN _) hu1)
        have ho1 := HO.out.upd hu1'
        obtain ⟨d0, d1⟩ := cells2' (hu1'.keepb HB1.out (by simp))
        refine hK.out _ _ ho1.he (fun hHeld => ?_)
        clear hK K
        (try simp only [Act.put, List.setIfInBounds_toArray, List.set_cons_zero, List.set_cons_succ])
        refine wpAnyH_ready (rs := [0]) (by kernel_rfl) (by simp) ?_
        refine AllReadyH.cons (o := { dst := some 15, op := Op.load 118 (Operand.tmp 4), type := 118, pos := "walk.go:94", after := #[], guard := none }) rfl (fun K hK => ?_) AllReadyH.nil
        go_simp
        refine hK.out _ _ ho1.he (fun hHeld => ?_)
        clear hK K
        (try simp only [Act.put, List.setIfInBounds_toArray, List.set_cons_zero, List.set_cons_succ])
        refine wpAnyH_ready (rs := [6]) (by kernel_rfl) (by simp) ?_
        refine AllReadyH.cons (o := { dst := some 21, op := Op.call { callee := Callee.value (Operand.func 52), args := #[Operand.tmp 15, Operand.tmp 20], argTypes := #[118, 28] }, type := 118, pos := "walk.go:94", after := #[{ on := 0, ground := Ground.data }, { on := 5, ground := Ground.data }, { on := 5, ground := Ground.chain }], guard := none }) rfl (fun K hK => ?_) AllReadyH.nil
        go_simp
        refine (then_1 HC1.out HC2.out _).mono ?_
        rintro e w2 ⟨p', q', u', v', rfl, g1, g2, hu2⟩
        have ho2 := ho1.upd (Upd.trans (by first | exact Upd.refl _ _ | exact (Upd.refl _ _).drew | exact (Upd.refl _ _).drewN _) hu2)
        refine hK.out _ _ ho2.he (fun hHeld => ?_)
        clear hK K
        (try simp only [Act.put, List.setIfInBounds_toArray, List.set_cons_zero, List.set_cons_succ])
        obtain ⟨_, _, _, _, hb2, _, _⟩ := ho2.h1
        obtain ⟨k0, k1⟩ := cells2' hb2
        have zf2 := fun i => frozen_of_heap hb2 i
        have l2 := heap_lt hb2
        have ho3 := Lib.hid (ho2.set HLT.out g1 g2)
        clear hb2 g1 g2 hu1 hu2
        refine wpAnyH_ready (rs := [7]) (by kernel_rfl) (by simp) ?_
        refine AllReadyH.cons (o := { dst := none, op := Op.store 118 (Operand.tmp 4) (Operand.tmp 21), type := 0, pos := "walk.go:94", after := #[{ on := 6, ground := Ground.data }, { on := 6, ground := Ground.chain }, { on := 0, ground := Ground.phase }, { on := 1, ground := Ground.phase }, { on := 2, ground := Ground.phase }, { on := 3, ground := Ground.phase }, { on := 4, ground := Ground.phase }, { on := 5, ground := Ground.phase }, { on := 6, ground := Ground.phase }], guard := none }) rfl (fun K hK => ?_) AllReadyH.nil
        have hst := fun (p : Addr) (x y : Nat) (w : World) => run_store Try.prog w p (.complex .f64 x y) .plain rfl
        go_simp
        refine hK.out _ _ ho3.out.he (fun hHeld => ?_)
        clear hK K
        (try simp only [Act.put, List.setIfInBounds_toArray, List.set_cons_zero, List.set_cons_succ])
        refine wpAnyH_done (by kernel_rfl) ?_ _
        have hn := HN.out
        have hx3 := Lib.hid (show OF w b (ofX 2) (ofY 2) (ofR 2) _ from ho3.out)
        clear ho1 ho2 ho3 hHeld
        go_wp2
        go_step3
        refine ⟨rfl, n - 1, by omega, 2, 2, _, _, _, _, _, _, _, _, _, _, _, _, _, _, _, _, _, _, _, _, _, _, _, by omega, by omega, rfl, ?_⟩
        first | exact hx3.out | exact hx3.out.drew
    · obtain rfl : iv = 2 := by omega
      clear hiv
      go_wp2_with fail
      refine wp_region_held_drew (S := fun w' => w'.heap[b]? = some (.cells evs3 132)) (by kernel_rfl) HO.out.he (fun hHeld => ?_)
      refine wpAnyH_take (i := 1) (oi := { dst := some 16, op := Op.move (Operand.tmp 0), type := 133, pos := "walk.go:94", after := #[], guard := none }) (v := .slice (some ⟨b, 0, none⟩) 3 3) rfl (by kernel_rfl) (by kernel_rfl) (by kernel_rfl) (fun _ _ _ h => h) (Or.inl ⟨by rfl, ?_⟩) (by assumption) ?_
      · intro w hSw
        go_simp
      (try simp only [Act.put, List.setIfInBounds_toArray, List.set_cons_zero, List.set_cons_succ])
      refine wpAnyH_take (i := 2) (oi := { dst := some 17, op := Op.move (Operand.tmp 5), type := 3, pos := "walk.go:94", after := #[], guard := none }) (v := .int .i64 2) rfl (by kernel_rfl) (by kernel_rfl) (by kernel_rfl) (fun _ _ _ h => h) (Or.inl ⟨by rfl, ?_⟩) (by assumption) ?_
      · intro w hSw
        go_simp
      (try simp only [Act.put, List.setIfInBounds_toArray, List.set_cons_zero, List.set_cons_succ])
      refine wpAnyH_take (i := 3) (oi := { dst := some 18, op := Op.indexAddr 133 (Operand.tmp 16) (Operand.tmp 17), type := 0, pos := "walk.go:94", after := #[{ on := 1, ground := Ground.data }, { on := 2, ground := Ground.data }], guard := none }) (v := .pointer (some ⟨b, 46, none⟩)) rfl (by kernel_rfl) (by kernel_rfl) (by kernel_rfl) (fun _ _ _ h => h) (Or.inl ⟨by rfl, ?_⟩) (by assumption) ?_
      · intro w hSw
        go_simp
      (try simp only [Act.put, List.setIfInBounds_toArray, List.set_cons_zero, List.set_cons_succ])
      refine wpAnyH_take (i := 4) (oi := { dst := some 19, op := Op.load 132 (Operand.tmp 18), type := 132, pos := "walk.go:94", after := #[{ on := 3, ground := Ground.data }], guard := none }) (v := .agg (evC (-1) 5).toArray) rfl (by kernel_rfl) (by kernel_rfl) (by kernel_rfl) (fun _ _ _ h => h) (yieldsIf_load_mid (by rfl) 132 _ rfl b 46 rfl (evC (-1) 5) _ (fun w hSw => ev_range2 hSw) Try.underlying132 rfl (info_event _ _)) (by assumption) ?_
      (try simp only [Act.put, List.setIfInBounds_toArray, List.set_cons_zero, List.set_cons_succ])
      refine wpAnyH_ready (rs := [0, 5]) (by kernel_rfl) (by simp) ?_
      refine AllReadyH.cons (o := { dst := some 15, op := Op.load 118 (Operand.tmp 4), type := 118, pos := "walk.go:94", after := #[], guard := none }) rfl (fun K hK => ?_) (AllReadyH.cons (o := { dst := some 20, op := Op.call { callee := Callee.value (Operand.func 92), args := #[Operand.tmp 19], argTypes := #[132] }, type := 28, pos := "walk.go:94", after := #[{ on := 4, ground := Ground.data }], guard := none }) rfl (fun K hK => ?_) AllReadyH.nil)
      · go_simp
        refine hK.out _ _ HO.out.he (fun hHeld => ?_)
        clear hK K
        (try simp only [Act.put, List.setIfInBounds_toArray, List.set_cons_zero, List.set_cons_succ])
        refine wpAnyH_ready (rs := [5]) (by kernel_rfl) (by simp) ?_
        refine AllReadyH.cons (o := { dst := some 20, op := Op.call { callee := Callee.value (Operand.func 92), args := #[Operand.tmp 19], argTypes := #[132] }, type := 28, pos := "walk.go:94", after := #[{ on := 4, ground := Ground.data }], guard := none }) rfl (fun K hK => ?_) AllReadyH.nil
        go_simp
        refine (event_leaves _).mono ?_
        rintro e w1 ⟨rfl, hu1⟩
        have ho1 := HO.out.upd (Upd.trans (by first | exact Upd.refl _ _ | exact (Upd.refl _ _).drew | exact (Upd.refl _ _).drewN _) hu1)
        refine hK.out _ _ ho1.he (fun hHeld => ?_)
        clear hK K
        (try simp only [Act.put, List.setIfInBounds_toArray, List.set_cons_zero, List.set_cons_succ])
        refine wpAnyH_ready (rs := [6]) (by kernel_rfl) (by simp) ?_
        refine AllReadyH.cons (o := { dst := some 21, op := Op.call { callee := Callee.value (Operand.func 52), args := #[Operand.tmp 15, Operand.tmp 20], argTypes := #[118, 28] }, type := 118, pos := "walk.go:94", after := #[{ on := 0, ground := Ground.data }, { on := 5, ground := Ground.data }, { on := 5, ground := Ground.chain }], guard := none }) rfl (fun K hK => ?_) AllReadyH.nil
        go_simp
        refine (then_2 HC1.out HC2.out _).mono ?_
        rintro e w2 ⟨p', q', u', v', rfl, g1, g2, hu2⟩
        have ho2 := ho1.upd (Upd.trans (by first | exact Upd.refl _ _ | exact (Upd.refl _ _).drew | exact (Upd.refl _ _).drewN _) hu2)
        refine hK.out _ _ ho2.he (fun hHeld => ?_)
        clear hK K
        (try simp only [Act.put, List.setIfInBounds_toArray, List.set_cons_zero, List.set_cons_succ])
        obtain ⟨_, _, _, _, hb2, _, _⟩ := ho2.h1
        obtain ⟨k0, k1⟩ := cells2' hb2
        have zf2 := fun i => frozen_of_heap hb2 i
        have l2 := heap_lt hb2
        have ho3 := Lib.hid (ho2.set HLT.out g1 g2)
        clear hb2 g1 g2 hu1 hu2
        refine wpAnyH_ready (rs := [7]) (by kernel_rfl) (by simp) ?_
        refine AllReadyH.cons (o := { dst := none, op := Op.store 118 (Operand.tmp 4) (Operand.tmp 21), type := 0, pos := "walk.go:94", after := #[{ on := 6, ground := Ground.data }, { on := 6, ground := Ground.chain }, { on := 0, ground := Ground.phase }, { on := 1, ground := Ground.phase }, { on := 2, ground := Ground.phase }, { on := 3, ground := Ground.phase }, { on := 4, ground := Ground.phase }, { on := 5, ground := Ground.phase }, { on := 6, ground := Ground.phase }], guard := none }) rfl (fun K hK => ?_) AllReadyH.nil
        have hst := fun (p : Addr) (x y : Nat) (w : World) => run_store Try.prog w p (.complex .f64 x y) .plain rfl
        go_simp
        refine hK.out _ _ ho3.out.he (fun hHeld => ?_)
        clear hK K
        (try simp only [Act.put, List.setIfInBounds_toArray, List.set_cons_zero, List.set_cons_succ])
        refine wpAnyH_done (by kernel_rfl) ?_ _
        have hn := HN.out
        have hx3 := Lib.hid (show OF w b (ofX 3) (ofY 3) (ofR 3) _ from ho3.out)
        clear ho1 ho2 ho3 hHeld
        go_wp2
        go_step3
        refine ⟨rfl, n - 1, by omega, 3, 3, _, _, _, _, _, _, _, _, _, _, _, _, _, _, _, _, _, _, _, _, _, _, _, by omega, by omega, rfl, ?_⟩
        first | exact hx3.out | exact hx3.out.drew
      · go_simp
        refine (event_leaves _).mono ?_
        rintro e w1 ⟨rfl, hu1⟩
        have hu1' : Upd [] w' w1 := (Upd.trans (by first | exact Upd.refl _ _ | exact (Upd.refl _ _).drew | exact (Upd.refl _ _).drewN _) hu1)
        have ho1 := HO.out.upd hu1'
        obtain ⟨d0, d1⟩ := cells2' (hu1'.keepb HB1.out (by simp))
        refine hK.out _ _ ho1.he (fun hHeld => ?_)
        clear hK K
        (try simp only [Act.put, List.setIfInBounds_toArray, List.set_cons_zero, List.set_cons_succ])
        refine wpAnyH_ready (rs := [0]) (by kernel_rfl) (by simp) ?_
        refine AllReadyH.cons (o := { dst := some 15, op := Op.load 118 (Operand.tmp 4), type := 118, pos := "walk.go:94", after := #[], guard := none }) rfl (fun K hK => ?_) AllReadyH.nil
        go_simp
        refine hK.out _ _ ho1.he (fun hHeld => ?_)
        clear hK K
        (try simp only [Act.put, List.setIfInBounds_toArray, List.set_cons_zero, List.set_cons_succ])
        refine wpAnyH_ready (rs := [6]) (by kernel_rfl) (by simp) ?_
        refine AllReadyH.cons (o := { dst := some 21, op := Op.call { callee := Callee.value (Operand.func 52), args := #[Operand.tmp 15, Operand.tmp 20], argTypes := #[118, 28] }, type := 118, pos := "walk.go:94", after := #[{ on := 0, ground := Ground.data }, { on := 5, ground := Ground.data }, { on := 5, ground := Ground.chain }], guard := none }) rfl (fun K hK => ?_) AllReadyH.nil
        go_simp
        refine (then_2 HC1.out HC2.out _).mono ?_
        rintro e w2 ⟨p', q', u', v', rfl, g1, g2, hu2⟩
        have ho2 := ho1.upd (Upd.trans (by first | exact Upd.refl _ _ | exact (Upd.refl _ _).drew | exact (Upd.refl _ _).drewN _) hu2)
        refine hK.out _ _ ho2.he (fun hHeld => ?_)
        clear hK K
        (try simp only [Act.put, List.setIfInBounds_toArray, List.set_cons_zero, List.set_cons_succ])
        obtain ⟨_, _, _, _, hb2, _, _⟩ := ho2.h1
        obtain ⟨k0, k1⟩ := cells2' hb2
        have zf2 := fun i => frozen_of_heap hb2 i
        have l2 := heap_lt hb2
        have ho3 := Lib.hid (ho2.set HLT.out g1 g2)
        clear hb2 g1 g2 hu1 hu2
        refine wpAnyH_ready (rs := [7]) (by kernel_rfl) (by simp) ?_
        refine AllReadyH.cons (o := { dst := none, op := Op.store 118 (Operand.tmp 4) (Operand.tmp 21), type := 0, pos := "walk.go:94", after := #[{ on := 6, ground := Ground.data }, { on := 6, ground := Ground.chain }, { on := 0, ground := Ground.phase }, { on := 1, ground := Ground.phase }, { on := 2, ground := Ground.phase }, { on := 3, ground := Ground.phase }, { on := 4, ground := Ground.phase }, { on := 5, ground := Ground.phase }, { on := 6, ground := Ground.phase }], guard := none }) rfl (fun K hK => ?_) AllReadyH.nil
        have hst := fun (p : Addr) (x y : Nat) (w : World) => run_store Try.prog w p (.complex .f64 x y) .plain rfl
        go_simp
        refine hK.out _ _ ho3.out.he (fun hHeld => ?_)
        clear hK K
        (try simp only [Act.put, List.setIfInBounds_toArray, List.set_cons_zero, List.set_cons_succ])
        refine wpAnyH_done (by kernel_rfl) ?_ _
        have hn := HN.out
        have hx3 := Lib.hid (show OF w b (ofX 3) (ofY 3) (ofR 3) _ from ho3.out)
        clear ho1 ho2 ho3 hHeld
        go_wp2
        go_step3
        refine ⟨rfl, n - 1, by omega, 3, 3, _, _, _, _, _, _, _, _, _, _, _, _, _, _, _, _, _, _, _, _, _, _, _, by omega, by omega, rfl, ?_⟩
        first | exact hx3.out | exact hx3.out.drew
    · obtain rfl : iv = 3 := by omega
      clear hiv
      obtain ⟨k0, k1, k2⟩ := cells3 HO.out.h0
      go_wp2_with fail
      refine (w_walk HC1.out (by decide) HC2.out (by unfold Sm; decide) (by unfold Sm; decide) _).mono ?_
      rintro e w5 ⟨he5, hu5⟩
      have ha : walkAns (ofX 3) (ofY 3) (ofR 3) = .tuple #[.agg #[.int .i64 0, .int .i64 1, .int .i64 0], .bool true] := if_pos (show WR 0 1 0 from by decide)
      rw [ha] at he5
      subst he5
      have h5 := HO.out.upd hu5
      obtain ⟨m0, m1, m2⟩ := cells3 h5.h0
      have zf5 := fun i => frozen_of_heap h5.h0 i
      have l5 := heap_lt h5.h0
      have H5 := Lib.hid h5
      clear h5 hu5 ha
      go_wp2_with fail
      simp only [Exit.jump]
      refine ret_walk2 rfl (g := w.heap.size) (x := .int .i64 0) (y := .int .i64 1) (z := .int .i64 0) (v := .bool true) (t := 28) (fr := (0, 0)) rfl rfl rfl (hg := ?hg) ?_
      case hg =>
        repeat (first | (with_reducible exact H5.out.h0) | (with_reducible apply heap_set2))
        all_goals rfl
      · exact ⟨rfl, Upd.then (S := []) H5.out.u ((((Upd.refl [w.heap.size] _).setCell (by simp) _).setCell (by simp) _).setCell (by simp) _) (fun i hi => .inr (by simp at hi; omega))⟩
  · intro HP
    have hst := fun (p : Addr) (x y : Nat) (w : World) => run_store Try.prog w p (.complex .f64 x y) .plain rfl
    go_wp2
    go_step3
    go_step
    go_step
    exact HP.out 3 _ _ ⟨0, 0, _, _, _, _, _, _, _, _, _, _, _, _, _, _, _, _, _, _, _, _, _, _, _, rfl, rfl, rfl, H0.out⟩
end Go.Proofs.Ytkjonflmokapcaa
