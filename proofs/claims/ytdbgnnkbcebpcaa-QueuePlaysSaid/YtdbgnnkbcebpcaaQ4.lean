/- Package queue: all waits, and those at an object. -/
import Derived.Test.YtdbgnnkbcebpcaaQ3
set_option linter.unusedVariables false
set_option linter.unusedSimpArgs false
namespace Go.Proofs.Ytdbgnnkbcebpcaa
open Go.RowKit Go.Shelf
attribute [local go_sem] Oper.semAt_some

theorem info_wait : (Try.prog.info? 51).map (fun i => (i.zero, i.size, i.bytes)) = some (some (.agg #[.int .i64 0, .int .i64 0, .int .i64 0, .int .u32 0]), 4, 32) := by kernel_rfl
def flatQ (xs : List QW) : List Value := xs.flatMap QW.cells
theorem flatQ_snoc (xs : List QW) (x : QW) : flatQ (xs ++ [x]) = flatQ xs ++ x.cells := by simp [flatQ]
/-- append of one element to an own row, at its step of a drawn region inside a fence. -/
theorem allReadyIn_push {F : Fence} {n : Nat} {P : Program} {ops : Array Oper} {Q : Exit → Act → World → Prop} {md : Region.Mode} {fuel : Nat} {listed : Array Bool} {a : Act} {w : World} {i : Nat} {o : Oper} (ho : ops[i]? = some o) (hgd : o.guard = none)
    (s x : Operand) (t : TypeId) (hop : o.op = Op.call { callee := Callee.builtin Builtin.append, args := #[s, x], argTypes := #[t, t] })
    (base : Nat) (e : TypeId) (ti : TypeInfo) (z : Value) (size bytes : Nat) (h1 : P.underlying t = some (.slice e)) (h2 : P.info? e = some ti) (h3 : ti.zero = some z) (h4 : ti.size = size) (h5 : ti.bytes = bytes) (h6 : z.cells.size = size) (h7 : 0 < size)
    (v : Value) (k : Nat) (xs : List Value) (hs : a.eval s = v) (hown : w.ownsRow base e size v k xs) (ad : Addr) (m c : Nat) (news : List Value) (hx : a.eval x = .slice (some ad) m c) (hn : news.length = m * size)
    (hc : ∀ j u, news[j]? = some u → w.cell? (ad.add j) = some u) (h1c : ∀ u ∈ news, u.oneCell' = true) (b1 : k + m ≤ maxLen) (b2 : (k + m) * bytes ≤ 140737488355328) (b3 : base ≤ w.heap.size)
    (hK : ∀ v' w', w'.ownsRow base e size v' (k + m) (xs ++ news) → w.grownBy w' v.ownBlock → wpAnyIn F n P md ops Q fuel (listed.setIfInBounds i true) (a.put o.dst v') w') :
    AllReadyIn F n P md ops Q fuel listed a w [i] := by
  refine BigFrame.allReadyIn_want ho (by simp [Region.wanted, hgd]) (fun K hK' => ?_) AllReadyIn.nil
  obtain ⟨v', w', hrun, r1, r2, r3⟩ := run_append_own (P := P) w base t o.type e ti z size bytes h1 h2 h3 h4 h5 h6 h7 v k xs hown ad m c news hn hc h1c b1 b2 b3
  unfold Oper.wpIn
  refine ⟨?_, ?_⟩
  · simp [Oper.about, hop, resolve, Target.leads, Sem.run_pure]
  · rw [Oper.semAt_plain F _ _ (by rw [hop]; intro c hc'; cases hc')]
    simp [execOp, hop, resolve, invoke, builtin, hs, hx, hrun, Result.andThen]
    exact hK' _ _ (hK v' w' r1 r2)
theorem cell_four_new (W : World) (a b c d : Value) (t : TypeId) : ∀ j u, [a, b, c, d][j]? = some u → (W.alloc (.cells #[a, b, c, d] t)).cell? ((⟨W.heap.size, 0, none⟩ : Addr).add j) = some u := by
  intro j u hj
  have : j = 0 ∨ j = 1 ∨ j = 2 ∨ j = 3 := by
    have := (List.getElem?_eq_some_iff.1 hj).1
    simp at this
    omega
  rcases this with rfl | rfl | rfl | rfl <;> (simp at hj; subst hj; simp only [Addr.add]; exact (cell_of_heap (heap_alloc_new W _) _).trans rfl)
set_option maxRecDepth 100000 in
set_option maxHeartbeats 4000000 in
theorem qlist_in (F : Fence) (n : Nat) (h3 : F.fn 27) (h4 : F.fn 55) (h5 : F.fn 76) (hro : F.round = none) (hn : 3 ≤ n) (q : Nat) (xs : List QN) (w : World) (hL : QL w q xs) (hlen : xs.length ≤ 1000) :
    CallsIn F n Try.prog 27 #[.pointer (some ⟨q, 0, none⟩)] w fun e W' => (∃ v, e = .returned v ∧ W'.ownsRow w.heap.size 51 4 v xs.length (flatQ (xs.map QN.w))) ∧ Below w.heap.size w W' := by
  have h1 : 1 ≤ n := by omega
  obtain ⟨i0, hi, hz0, hz1, hz2⟩ := info_parts info_wait
  refine callsIn_of_wp_marks Try.func27 rfl h3 ?_ hro
  simp only [Try.ntmps27, List.size_toArray, List.length_cons, List.length_nil, Nat.reduceAdd, Nat.reduceSub, Array.replicate_succ, Array.replicate_zero, List.push_toArray, List.append_toArray, List.nil_append, List.cons_append]
  have HL := Lib.hid hL
  have HN := Lib.hid hlen
  clear hL hlen
  gi_wp2_with (gi_at_call 55; refine (qall_in F (n - 1) h4 hro _ _ rfl _).mono ?_; rintro e w' ⟨rfl, rfl⟩)
  have bO := Boxed.new w 73 (.slice none 0 0)
  have bN := Boxed.new (w.alloc (.cells #[.slice none 0 0] 73)) 49 (.pointer (some ⟨q, 0, none⟩))
  rw [World.size_alloc] at bN
  have hB0 : Below w.heap.size w ((w.alloc (.cells #[.slice none 0 0] 73)).alloc (.cells #[.pointer (some ⟨q, 0, none⟩)] 49)) := ((Below.refl _ w).alloc (Nat.le_refl _) _).alloc (by simp) _
  refine wpIn_rangeFunc_ownG hro h1 (gf := 76) (lb := #[.pointer (some ⟨w.heap.size + 1, 0, none⟩)]) rfl h5 (enters_of Try.func76 (by kernel_rfl) rfl)
    (qall_stops F (n - 1) h5 hro (by omega) (w.heap.size + 1) w.heap.size q xs _ (by simp) (by simp; omega) bN.cell (HL.out.below hB0 HL.out.lt) HL.out.lt (by have := HN.out; omega)) KpQ.trans (kpQ_b (by simp; omega) (by simp)) (Below.refl _ _) (fun _ => rfl)
    (fun pre W => ((∃ v, Boxed W w.heap.size 73 v ∧ W.ownsRow w.heap.size 51 4 v pre.length (flatQ ((QE.v pre).map QN.w)) ∧ True) ∧ Boxed W (w.heap.size + 1) 49 (.pointer (some ⟨q, 0, none⟩))) ∧ Below w.heap.size w W)
    (fun _ _ _ => False)
    (OwnFrom.and (OwnFrom.and (Own.from (holdsRow_own w.heap.size w.heap.size 73 51 4 (fun pre => pre.length) (fun pre => flatQ ((QE.v pre).map QN.w)) (fun pre v => True)) _) (Own.from (boxed_own _ _ (fun _ => .pointer (some ⟨q, 0, none⟩))) _)) (ownFrom_below (Nat.le_refl _) (by simp; omega)))
    (fun _ _ _ _ _ hs _ _ => hs)
    ⟨⟨⟨_, bO.alloc _, World.ownsRow_nil _ _ _ _, trivial⟩, bN⟩, hB0⟩
    (fun x => { tmps := #[.pointer (some ⟨q, 0, none⟩), undef, .pointer (some ⟨w.heap.size, 0, none⟩), qptr x.1.b, .pointer (some ⟨q, 0, none⟩), .func (.func 76) #[] #[.pointer (some ⟨w.heap.size + 1, 0, none⟩)], qptr x.1.b, undef, undef, undef, undef, undef, undef, undef, undef], defers := [] }) ?assign ?body ?done ?stop
  case assign =>
    intro l x W K hK
    gi_wp2
    exact hK
  case body =>
    rintro l pre x W ⟨⟨⟨v, hv, hrow, _⟩, hbn⟩, hB⟩ hlt
    have HPL := Lib.hid (show pre.length ≤ 1000 by have := HN.out; omega)
    clear hlt
    obtain ⟨va, vn, hx⟩ := (HL.out.below hB HL.out.lt).seg.mem x.2
    obtain ⟨d0, d1, d2, d3, d4, d5⟩ := cellsQ hx
    have hxb := heap_lt hx
    have HB := Lib.hid hB
    clear hx hB
    obtain ⟨p, cap, rfl, _, _⟩ := own_shape hrow
    have hc := hv.cell
    have hbl := hv.lt
    unfold qptr
    gi_wp2
    refine wpIn_region_any (by kernel_rfl) ?_
    change wpAnyIn _ _ _ _ _ _ _ _ _ (World.drew _)
    refine wpAnyIn_ready (rs := [0, 1]) (by kernel_rfl) (by simp) ?_
    refine AllReadyIn.cons rfl (fun K hK => ?_) (AllReadyIn.cons rfl (fun K hK => ?_) AllReadyIn.nil)
    · go_simp
      refine hK _ _ ?_
      clear hK K
      refine wpAnyIn_ready (rs := [1]) (by kernel_rfl) (by simp) ?_
      refine AllReadyIn.cons rfl (fun K hK => ?_) AllReadyIn.nil
      go_simp
      refine hK _ _ ?_
      clear hK K
      refine wpAnyIn_ready (rs := [2]) (by kernel_rfl) (by simp) ?_
      refine AllReadyIn.cons rfl (fun K hK => ?_) AllReadyIn.nil
      go_simp
      refine hK _ _ ?_
      clear hK K
      refine wpAnyIn_ready (rs := [3]) (by kernel_rfl) (by simp) ?_
      refine AllReadyIn.cons rfl (fun K hK => ?_) AllReadyIn.nil
      go_simp
      refine hK _ _ ?_
      clear hK K
      refine wpAnyIn_ready (rs := [4]) (by kernel_rfl) (by simp) ?_
      refine AllReadyIn.cons rfl (fun K hK => ?_) AllReadyIn.nil
      go_simp
      refine hK _ _ ?_
      clear hK K
      refine wpAnyIn_ready (rs := [5]) (by kernel_rfl) (by simp) ?_
      refine AllReadyIn.cons rfl (fun K hK => ?_) AllReadyIn.nil
      go_simp
      refine hK _ _ ?_
      clear hK K
      refine wpAnyIn_ready (rs := [6]) (by kernel_rfl) (by simp) ?_
      refine allReadyIn_push rfl rfl _ _ 73 rfl w.heap.size 51 i0 _ 4 32 Try.underlying73 hi hz0 hz1 hz2 rfl (by decide) _ _ _ rfl (by exact ⟨hrow.1, (hrow.alloc _).2⟩) ⟨_, 0, none⟩ 1 1 x.1.w.cells rfl rfl (cell_four_new W _ _ _ _ _) (by intro u hu; simp [QW.cells] at hu; rcases hu with rfl | rfl | rfl | rfl <;> rfl) (by have := HPL.out; simp only [maxLen]; omega) (by have := HPL.out; omega) (by have := HB.out.size; show _ ≤ (World.alloc _ _).heap.size; rw [World.size_alloc]; exact Nat.le_succ_of_le this) ?_
      intro v' w1 hown' hgrow
      obtain ⟨g', cap', rfl⟩ := ownsRow_succ hown'
      have hgrow : (W.alloc (.cells #[.int .i64 x.1.w.t, .int .i64 x.1.w.k, .int .i64 x.1.w.o, .int .u32 x.1.w.m] 51)).grownBy w1 (Value.ownBlock (.slice p pre.length cap)) := ⟨hgrow.os, hgrow.tape, hgrow.output, hgrow.size, hgrow.block⟩
      obtain ⟨hv1, hv2, hr2, hk2, hb2⟩ := Boxed.appended (W := W) hv (by decide) hrow HB.out.size (Nat.le_refl _) hown' hgrow
      have hbn1 := Boxed.kept (Boxed.alloc (W := W) hbn _) hgrow (Boxed.not_row hbn (by decide) hrow)
      have hbn2 := hbn1.other (B' := w.heap.size) (by omega) (.slice (some ⟨g', 0, none⟩) (pre.length + 1) cap')
      have hc1 := hv1.cell
      have hf1 := hv1.frozen
      refine wpAnyIn_ready (rs := [7]) (by kernel_rfl) (by simp) ?_
      refine AllReadyIn.cons rfl (fun K hK => ?_) AllReadyIn.nil
      go_simp
      refine hK _ _ ?_
      clear hK K
      refine wpAnyIn_done (by kernel_rfl) ?_ _
      gi_wp2
      exact ⟨hk2.from _, ⟨hb2, hbn2.cell.trans hbn.cell.symm⟩, ⟨⟨_, hv2, by rw [QE.v_snoc, List.map_append, List.map_singleton, flatQ_snoc, List.length_append]; exact hr2, trivial⟩, hbn2⟩, HB.out.trans hb2⟩
    · go_simp
      refine hK _ _ ?_
      clear hK K
      refine wpAnyIn_ready (rs := [0, 2]) (by kernel_rfl) (by simp) ?_
      refine AllReadyIn.cons rfl (fun K hK => ?_) (AllReadyIn.cons rfl (fun K hK => ?_) AllReadyIn.nil)
      · go_simp
        refine hK _ _ ?_
        clear hK K
        refine wpAnyIn_ready (rs := [2]) (by kernel_rfl) (by simp) ?_
        refine AllReadyIn.cons rfl (fun K hK => ?_) AllReadyIn.nil
        go_simp
        refine hK _ _ ?_
        clear hK K
        refine wpAnyIn_ready (rs := [3]) (by kernel_rfl) (by simp) ?_
        refine AllReadyIn.cons rfl (fun K hK => ?_) AllReadyIn.nil
        go_simp
        refine hK _ _ ?_
        clear hK K
        refine wpAnyIn_ready (rs := [4]) (by kernel_rfl) (by simp) ?_
        refine AllReadyIn.cons rfl (fun K hK => ?_) AllReadyIn.nil
        go_simp
        refine hK _ _ ?_
        clear hK K
        refine wpAnyIn_ready (rs := [5]) (by kernel_rfl) (by simp) ?_
        refine AllReadyIn.cons rfl (fun K hK => ?_) AllReadyIn.nil
        go_simp
        refine hK _ _ ?_
        clear hK K
        refine wpAnyIn_ready (rs := [6]) (by kernel_rfl) (by simp) ?_
        refine allReadyIn_push rfl rfl _ _ 73 rfl w.heap.size 51 i0 _ 4 32 Try.underlying73 hi hz0 hz1 hz2 rfl (by decide) _ _ _ rfl (by exact ⟨hrow.1, (hrow.alloc _).2⟩) ⟨_, 0, none⟩ 1 1 x.1.w.cells rfl rfl (cell_four_new W _ _ _ _ _) (by intro u hu; simp [QW.cells] at hu; rcases hu with rfl | rfl | rfl | rfl <;> rfl) (by have := HPL.out; simp only [maxLen]; omega) (by have := HPL.out; omega) (by have := HB.out.size; show _ ≤ (World.alloc _ _).heap.size; rw [World.size_alloc]; exact Nat.le_succ_of_le this) ?_
        intro v' w1 hown' hgrow
        obtain ⟨g', cap', rfl⟩ := ownsRow_succ hown'
        have hgrow : (W.alloc (.cells #[.int .i64 x.1.w.t, .int .i64 x.1.w.k, .int .i64 x.1.w.o, .int .u32 x.1.w.m] 51)).grownBy w1 (Value.ownBlock (.slice p pre.length cap)) := ⟨hgrow.os, hgrow.tape, hgrow.output, hgrow.size, hgrow.block⟩
        obtain ⟨hv1, hv2, hr2, hk2, hb2⟩ := Boxed.appended (W := W) hv (by decide) hrow HB.out.size (Nat.le_refl _) hown' hgrow
        have hbn1 := Boxed.kept (Boxed.alloc (W := W) hbn _) hgrow (Boxed.not_row hbn (by decide) hrow)
        have hbn2 := hbn1.other (B' := w.heap.size) (by omega) (.slice (some ⟨g', 0, none⟩) (pre.length + 1) cap')
        have hc1 := hv1.cell
        have hf1 := hv1.frozen
        refine wpAnyIn_ready (rs := [7]) (by kernel_rfl) (by simp) ?_
        refine AllReadyIn.cons rfl (fun K hK => ?_) AllReadyIn.nil
        go_simp
        refine hK _ _ ?_
        clear hK K
        refine wpAnyIn_done (by kernel_rfl) ?_ _
        gi_wp2
        exact ⟨hk2.from _, ⟨hb2, hbn2.cell.trans hbn.cell.symm⟩, ⟨⟨_, hv2, by rw [QE.v_snoc, List.map_append, List.map_singleton, flatQ_snoc, List.length_append]; exact hr2, trivial⟩, hbn2⟩, HB.out.trans hb2⟩
      · go_simp
        refine hK _ _ ?_
        clear hK K
        refine wpAnyIn_ready (rs := [0, 3]) (by kernel_rfl) (by simp) ?_
        refine AllReadyIn.cons rfl (fun K hK => ?_) (AllReadyIn.cons rfl (fun K hK => ?_) AllReadyIn.nil)
        · go_simp
          refine hK _ _ ?_
          clear hK K
          refine wpAnyIn_ready (rs := [3]) (by kernel_rfl) (by simp) ?_
          refine AllReadyIn.cons rfl (fun K hK => ?_) AllReadyIn.nil
          go_simp
          refine hK _ _ ?_
          clear hK K
          refine wpAnyIn_ready (rs := [4]) (by kernel_rfl) (by simp) ?_
          refine AllReadyIn.cons rfl (fun K hK => ?_) AllReadyIn.nil
          go_simp
          refine hK _ _ ?_
          clear hK K
          refine wpAnyIn_ready (rs := [5]) (by kernel_rfl) (by simp) ?_
          refine AllReadyIn.cons rfl (fun K hK => ?_) AllReadyIn.nil
          go_simp
          refine hK _ _ ?_
          clear hK K
          refine wpAnyIn_ready (rs := [6]) (by kernel_rfl) (by simp) ?_
          refine allReadyIn_push rfl rfl _ _ 73 rfl w.heap.size 51 i0 _ 4 32 Try.underlying73 hi hz0 hz1 hz2 rfl (by decide) _ _ _ rfl (by exact ⟨hrow.1, (hrow.alloc _).2⟩) ⟨_, 0, none⟩ 1 1 x.1.w.cells rfl rfl (cell_four_new W _ _ _ _ _) (by intro u hu; simp [QW.cells] at hu; rcases hu with rfl | rfl | rfl | rfl <;> rfl) (by have := HPL.out; simp only [maxLen]; omega) (by have := HPL.out; omega) (by have := HB.out.size; show _ ≤ (World.alloc _ _).heap.size; rw [World.size_alloc]; exact Nat.le_succ_of_le this) ?_
          intro v' w1 hown' hgrow
          obtain ⟨g', cap', rfl⟩ := ownsRow_succ hown'
          have hgrow : (W.alloc (.cells #[.int .i64 x.1.w.t, .int .i64 x.1.w.k, .int .i64 x.1.w.o, .int .u32 x.1.w.m] 51)).grownBy w1 (Value.ownBlock (.slice p pre.length cap)) := ⟨hgrow.os, hgrow.tape, hgrow.output, hgrow.size, hgrow.block⟩
          obtain ⟨hv1, hv2, hr2, hk2, hb2⟩ := Boxed.appended (W := W) hv (by decide) hrow HB.out.size (Nat.le_refl _) hown' hgrow
          have hbn1 := Boxed.kept (Boxed.alloc (W := W) hbn _) hgrow (Boxed.not_row hbn (by decide) hrow)
          have hbn2 := hbn1.other (B' := w.heap.size) (by omega) (.slice (some ⟨g', 0, none⟩) (pre.length + 1) cap')
          have hc1 := hv1.cell
          have hf1 := hv1.frozen
          refine wpAnyIn_ready (rs := [7]) (by kernel_rfl) (by simp) ?_
          refine AllReadyIn.cons rfl (fun K hK => ?_) AllReadyIn.nil
          go_simp
          refine hK _ _ ?_
          clear hK K
          refine wpAnyIn_done (by kernel_rfl) ?_ _
          gi_wp2
          exact ⟨hk2.from _, ⟨hb2, hbn2.cell.trans hbn.cell.symm⟩, ⟨⟨_, hv2, by rw [QE.v_snoc, List.map_append, List.map_singleton, flatQ_snoc, List.length_append]; exact hr2, trivial⟩, hbn2⟩, HB.out.trans hb2⟩
        · go_simp
          refine hK _ _ ?_
          clear hK K
          refine wpAnyIn_ready (rs := [0, 4]) (by kernel_rfl) (by simp) ?_
          refine AllReadyIn.cons rfl (fun K hK => ?_) (AllReadyIn.cons rfl (fun K hK => ?_) AllReadyIn.nil)
          · go_simp
            refine hK _ _ ?_
            clear hK K
            refine wpAnyIn_ready (rs := [4]) (by kernel_rfl) (by simp) ?_
            refine AllReadyIn.cons rfl (fun K hK => ?_) AllReadyIn.nil
            go_simp
            refine hK _ _ ?_
            clear hK K
            refine wpAnyIn_ready (rs := [5]) (by kernel_rfl) (by simp) ?_
            refine AllReadyIn.cons rfl (fun K hK => ?_) AllReadyIn.nil
            go_simp
            refine hK _ _ ?_
            clear hK K
            refine wpAnyIn_ready (rs := [6]) (by kernel_rfl) (by simp) ?_
            refine allReadyIn_push rfl rfl _ _ 73 rfl w.heap.size 51 i0 _ 4 32 Try.underlying73 hi hz0 hz1 hz2 rfl (by decide) _ _ _ rfl (by exact ⟨hrow.1, (hrow.alloc _).2⟩) ⟨_, 0, none⟩ 1 1 x.1.w.cells rfl rfl (cell_four_new W _ _ _ _ _) (by intro u hu; simp [QW.cells] at hu; rcases hu with rfl | rfl | rfl | rfl <;> rfl) (by have := HPL.out; simp only [maxLen]; omega) (by have := HPL.out; omega) (by have := HB.out.size; show _ ≤ (World.alloc _ _).heap.size; rw [World.size_alloc]; exact Nat.le_succ_of_le this) ?_
            intro v' w1 hown' hgrow
            obtain ⟨g', cap', rfl⟩ := ownsRow_succ hown'
            have hgrow : (W.alloc (.cells #[.int .i64 x.1.w.t, .int .i64 x.1.w.k, .int .i64 x.1.w.o, .int .u32 x.1.w.m] 51)).grownBy w1 (Value.ownBlock (.slice p pre.length cap)) := ⟨hgrow.os, hgrow.tape, hgrow.output, hgrow.size, hgrow.block⟩
            obtain ⟨hv1, hv2, hr2, hk2, hb2⟩ := Boxed.appended (W := W) hv (by decide) hrow HB.out.size (Nat.le_refl _) hown' hgrow
            have hbn1 := Boxed.kept (Boxed.alloc (W := W) hbn _) hgrow (Boxed.not_row hbn (by decide) hrow)
            have hbn2 := hbn1.other (B' := w.heap.size) (by omega) (.slice (some ⟨g', 0, none⟩) (pre.length + 1) cap')
            have hc1 := hv1.cell
            have hf1 := hv1.frozen
            refine wpAnyIn_ready (rs := [7]) (by kernel_rfl) (by simp) ?_
            refine AllReadyIn.cons rfl (fun K hK => ?_) AllReadyIn.nil
            go_simp
            refine hK _ _ ?_
            clear hK K
            refine wpAnyIn_done (by kernel_rfl) ?_ _
            gi_wp2
            exact ⟨hk2.from _, ⟨hb2, hbn2.cell.trans hbn.cell.symm⟩, ⟨⟨_, hv2, by rw [QE.v_snoc, List.map_append, List.map_singleton, flatQ_snoc, List.length_append]; exact hr2, trivial⟩, hbn2⟩, HB.out.trans hb2⟩
          · go_simp
            refine hK _ _ ?_
            clear hK K
            refine wpAnyIn_ready (rs := [0, 5]) (by kernel_rfl) (by simp) ?_
            refine AllReadyIn.cons rfl (fun K hK => ?_) (AllReadyIn.cons rfl (fun K hK => ?_) AllReadyIn.nil)
            · go_simp
              refine hK _ _ ?_
              clear hK K
              refine wpAnyIn_ready (rs := [5]) (by kernel_rfl) (by simp) ?_
              refine AllReadyIn.cons rfl (fun K hK => ?_) AllReadyIn.nil
              go_simp
              refine hK _ _ ?_
              clear hK K
              refine wpAnyIn_ready (rs := [6]) (by kernel_rfl) (by simp) ?_
              refine allReadyIn_push rfl rfl _ _ 73 rfl w.heap.size 51 i0 _ 4 32 Try.underlying73 hi hz0 hz1 hz2 rfl (by decide) _ _ _ rfl (by exact ⟨hrow.1, (hrow.alloc _).2⟩) ⟨_, 0, none⟩ 1 1 x.1.w.cells rfl rfl (cell_four_new W _ _ _ _ _) (by intro u hu; simp [QW.cells] at hu; rcases hu with rfl | rfl | rfl | rfl <;> rfl) (by have := HPL.out; simp only [maxLen]; omega) (by have := HPL.out; omega) (by have := HB.out.size; show _ ≤ (World.alloc _ _).heap.size; rw [World.size_alloc]; exact Nat.le_succ_of_le this) ?_
              intro v' w1 hown' hgrow
              obtain ⟨g', cap', rfl⟩ := ownsRow_succ hown'
              have hgrow : (W.alloc (.cells #[.int .i64 x.1.w.t, .int .i64 x.1.w.k, .int .i64 x.1.w.o, .int .u32 x.1.w.m] 51)).grownBy w1 (Value.ownBlock (.slice p pre.length cap)) := ⟨hgrow.os, hgrow.tape, hgrow.output, hgrow.size, hgrow.block⟩
              obtain ⟨hv1, hv2, hr2, hk2, hb2⟩ := Boxed.appended (W := W) hv (by decide) hrow HB.out.size (Nat.le_refl _) hown' hgrow
              have hbn1 := Boxed.kept (Boxed.alloc (W := W) hbn _) hgrow (Boxed.not_row hbn (by decide) hrow)
              have hbn2 := hbn1.other (B' := w.heap.size) (by omega) (.slice (some ⟨g', 0, none⟩) (pre.length + 1) cap')
              have hc1 := hv1.cell
              have hf1 := hv1.frozen
              refine wpAnyIn_ready (rs := [7]) (by kernel_rfl) (by simp) ?_
              refine AllReadyIn.cons rfl (fun K hK => ?_) AllReadyIn.nil
              go_simp
              refine hK _ _ ?_
              clear hK K
              refine wpAnyIn_done (by kernel_rfl) ?_ _
              gi_wp2
              exact ⟨hk2.from _, ⟨hb2, hbn2.cell.trans hbn.cell.symm⟩, ⟨⟨_, hv2, by rw [QE.v_snoc, List.map_append, List.map_singleton, flatQ_snoc, List.length_append]; exact hr2, trivial⟩, hbn2⟩, HB.out.trans hb2⟩
            · go_simp
              refine hK _ _ ?_
              clear hK K
              refine wpAnyIn_ready (rs := [0]) (by kernel_rfl) (by simp) ?_
              refine AllReadyIn.cons rfl (fun K hK => ?_) AllReadyIn.nil
              go_simp
              refine hK _ _ ?_
              clear hK K
              refine wpAnyIn_ready (rs := [6]) (by kernel_rfl) (by simp) ?_
              refine allReadyIn_push rfl rfl _ _ 73 rfl w.heap.size 51 i0 _ 4 32 Try.underlying73 hi hz0 hz1 hz2 rfl (by decide) _ _ _ rfl (by exact ⟨hrow.1, (hrow.alloc _).2⟩) ⟨_, 0, none⟩ 1 1 x.1.w.cells rfl rfl (cell_four_new W _ _ _ _ _) (by intro u hu; simp [QW.cells] at hu; rcases hu with rfl | rfl | rfl | rfl <;> rfl) (by have := HPL.out; simp only [maxLen]; omega) (by have := HPL.out; omega) (by have := HB.out.size; show _ ≤ (World.alloc _ _).heap.size; rw [World.size_alloc]; exact Nat.le_succ_of_le this) ?_
              intro v' w1 hown' hgrow
              obtain ⟨g', cap', rfl⟩ := ownsRow_succ hown'
              have hgrow : (W.alloc (.cells #[.int .i64 x.1.w.t, .int .i64 x.1.w.k, .int .i64 x.1.w.o, .int .u32 x.1.w.m] 51)).grownBy w1 (Value.ownBlock (.slice p pre.length cap)) := ⟨hgrow.os, hgrow.tape, hgrow.output, hgrow.size, hgrow.block⟩
              obtain ⟨hv1, hv2, hr2, hk2, hb2⟩ := Boxed.appended (W := W) hv (by decide) hrow HB.out.size (Nat.le_refl _) hown' hgrow
              have hbn1 := Boxed.kept (Boxed.alloc (W := W) hbn _) hgrow (Boxed.not_row hbn (by decide) hrow)
              have hbn2 := hbn1.other (B' := w.heap.size) (by omega) (.slice (some ⟨g', 0, none⟩) (pre.length + 1) cap')
              have hc1 := hv1.cell
              have hf1 := hv1.frozen
              refine wpAnyIn_ready (rs := [7]) (by kernel_rfl) (by simp) ?_
              refine AllReadyIn.cons rfl (fun K hK => ?_) AllReadyIn.nil
              go_simp
              refine hK _ _ ?_
              clear hK K
              refine wpAnyIn_done (by kernel_rfl) ?_ _
              gi_wp2
              exact ⟨hk2.from _, ⟨hb2, hbn2.cell.trans hbn.cell.symm⟩, ⟨⟨_, hv2, by rw [QE.v_snoc, List.map_append, List.map_singleton, flatQ_snoc, List.length_append]; exact hr2, trivial⟩, hbn2⟩, HB.out.trans hb2⟩
  case done =>
    rintro D ys W hD hys ⟨⟨⟨v, hv, hrow, _⟩, hbn⟩, hB⟩ hK
    have hlen : ys.length = xs.length := by have := congrArg List.length hys; simpa [QE.v] using this
    rw [hlen, hys] at hrow
    obtain ⟨p, cap, rfl, _, _⟩ := own_shape hrow
    have hc := hv.cell
    have hf := hv.frozen
    have HB := Lib.hid hB
    have HD := Lib.hid hD
    have HY := Lib.hid hys
    clear hB hD hys
    gi_wp2
    have hK' := (KeepsOthers.setCell W ⟨w.heap.size, 0, none⟩ (.slice p xs.length cap)).same D _ hK rfl
    refine ⟨by simp, .inl ⟨_, _, rfl, run_takeDeferred hK', ?_⟩⟩
    have hc5 := cell_kept (World.cell?_setCell_same' W ⟨w.heap.size, 0, none⟩ (.slice p xs.length cap) (by rw [hc]; rfl)) (grownBy_putObj' _ D (.deferred none)) (fun r e => by cases e; exact ⟨_, hK', rfl⟩)
    have hrow2 := hrow.kept (grownBy_setCell' W w.heap.size (.slice p xs.length cap)) (.inr (hv.not_row (by decide) hrow).symm)
    refine ⟨.slice p xs.length cap, ?_, ⟨_, rfl, ownsRow_putObj hrow2 _ hK' rfl⟩, (HB.out.setCell (p := ⟨w.heap.size, 0, none⟩) (Nat.le_refl _) _).trans (belowK_b (w := w) (Nat.le_refl _) _ D _ _ (by have := HD.out; simp at this; omega) hK' rfl rfl)⟩
    simp [results, Try.f27, go_sem, hc5]
  case stop =>
    rintro D c pre W _ _ h _
    exact h.elim
end Go.Proofs.Ytdbgnnkbcebpcaa
