/- Package queue: the waits at an object. -/
import Derived.Test.YtdbgnnkbcebpcaaQ4
set_option linter.unusedVariables false
set_option linter.unusedSimpArgs false
namespace Go.Proofs.Ytdbgnnkbcebpcaa
open Go.RowKit Go.Shelf
attribute [local go_sem] Oper.semAt_some

def qofN (o : Int) (xs : List QN) : List QW := qof o (xs.map QN.w)
theorem qofN_snoc (o : Int) (xs : List QN) (x : QN) : qofN o (xs ++ [x]) = if x.w.o == o then qofN o xs ++ [x.w] else qofN o xs := by
  unfold qofN qof
  rw [List.map_append, List.filter_append]
  cases h : (x.w.o == o) <;> simp [h]
theorem qofN_le (o : Int) (xs : List QN) : (qofN o xs).length ≤ xs.length := by
  unfold qofN qof
  exact Nat.le_trans (List.length_filter_le _ _) (by simp)
set_option maxRecDepth 100000 in
set_option maxHeartbeats 4000000 in
theorem qof_in (F : Fence) (n : Nat) (h3 : F.fn 28) (h4 : F.fn 55) (h5 : F.fn 76) (hro : F.round = none) (hn : 3 ≤ n) (q : Nat) (xs : List QN) (obj : Int) (w : World) (hL : QL w q xs) (hlen : xs.length ≤ 1000) :
    CallsIn F n Try.prog 28 #[.pointer (some ⟨q, 0, none⟩), .int .i64 obj] w fun e W' => (∃ v, e = .returned v ∧ W'.ownsRow w.heap.size 51 4 v (qofN obj xs).length (flatQ (qofN obj xs))) ∧ Below w.heap.size w W' := by
  have h1 : 1 ≤ n := by omega
  obtain ⟨i0, hi, hz0, hz1, hz2⟩ := info_parts info_wait
  refine callsIn_of_wp_marks Try.func28 rfl h3 ?_ hro
  simp only [Try.ntmps28, List.size_toArray, List.length_cons, List.length_nil, Nat.reduceAdd, Nat.reduceSub, Array.replicate_succ, Array.replicate_zero, List.push_toArray, List.append_toArray, List.nil_append, List.cons_append]
  have HL := Lib.hid hL
  have HN := Lib.hid hlen
  clear hL hlen
  gi_wp2_with (gi_at_call 55; refine (qall_in F (n - 1) h4 hro _ _ rfl _).mono ?_; rintro e w' ⟨rfl, rfl⟩)
  have bT := Boxed.new w 3 (.int .i64 obj)
  have bO := Boxed.new (w.alloc (.cells #[.int .i64 obj] 3)) 73 (.slice none 0 0)
  have bN := Boxed.new ((w.alloc (.cells #[.int .i64 obj] 3)).alloc (.cells #[.slice none 0 0] 73)) 49 (.pointer (some ⟨q, 0, none⟩))
  simp only [World.size_alloc] at bN bO
  have hB0 : Below w.heap.size w (((w.alloc (.cells #[.int .i64 obj] 3)).alloc (.cells #[.slice none 0 0] 73)).alloc (.cells #[.pointer (some ⟨q, 0, none⟩)] 49)) := (((Below.refl _ w).alloc (Nat.le_refl _) _).alloc (by simp) _).alloc (by simp; omega) _
  refine wpIn_rangeFunc_ownG hro h1 (gf := 76) (lb := #[.pointer (some ⟨w.heap.size + 1 + 1, 0, none⟩)]) rfl h5 (enters_of Try.func76 (by kernel_rfl) rfl)
    (qall_stops F (n - 1) h5 hro (by omega) (w.heap.size + 1 + 1) w.heap.size q xs _ (by simp) (by simp; omega) bN.cell (HL.out.below hB0 HL.out.lt) HL.out.lt (by have := HN.out; omega)) KpQ.trans (kpQ_b (by simp; omega) (by simp)) (Below.refl _ _) (fun _ => rfl)
    (fun pre W => (((∃ v, Boxed W (w.heap.size + 1) 73 v ∧ W.ownsRow w.heap.size 51 4 v (qofN obj (QE.v pre)).length (flatQ (qofN obj (QE.v pre))) ∧ True) ∧ Boxed W w.heap.size 3 (.int .i64 obj)) ∧ Boxed W (w.heap.size + 1 + 1) 49 (.pointer (some ⟨q, 0, none⟩))) ∧ Below w.heap.size w W)
    (fun _ _ _ => False)
    (OwnFrom.and (OwnFrom.and (OwnFrom.and (Own.from (holdsRow_own w.heap.size (w.heap.size + 1) 73 51 4 (fun pre => (qofN obj (QE.v pre)).length) (fun pre => flatQ (qofN obj (QE.v pre))) (fun pre v => True)) _) (Own.from (boxed_own _ _ (fun _ => .int .i64 obj)) _)) (Own.from (boxed_own _ _ (fun _ => .pointer (some ⟨q, 0, none⟩))) _)) (ownFrom_below (Nat.le_refl _) (by simp; omega)))
    (fun _ _ _ _ _ hs _ _ => hs)
    ⟨⟨⟨⟨_, bO.alloc _, World.ownsRow_nil _ _ _ _, trivial⟩, (bT.alloc _).alloc _⟩, bN⟩, hB0⟩
    (fun x => { tmps := #[.pointer (some ⟨q, 0, none⟩), .int .i64 obj, undef, .pointer (some ⟨w.heap.size, 0, none⟩), .pointer (some ⟨w.heap.size + 1, 0, none⟩), qptr x.1.b, .pointer (some ⟨q, 0, none⟩), .func (.func 76) #[] #[.pointer (some ⟨w.heap.size + 1 + 1, 0, none⟩)], qptr x.1.b, undef, undef, undef, undef, undef, undef, undef, undef, undef, undef, undef, undef, undef, undef, undef], defers := [] }) ?assign ?body ?done ?stop
  case assign =>
    intro l x W K hK
    gi_wp2
    exact hK
  case body =>
    rintro l pre x W ⟨⟨⟨⟨v, hv, hrow, _⟩, hbt⟩, hbn⟩, hB⟩ hlt
    have hpl := qofN_le obj (QE.v pre)
    have hpl2 : (QE.v pre).length = pre.length := by simp [QE.v]
    have HPL := Lib.hid (show (qofN obj (QE.v pre)).length ≤ 1000 by have := HN.out; omega)
    clear hpl hpl2
    clear hlt
    obtain ⟨va, vn, hx⟩ := (HL.out.below hB HL.out.lt).seg.mem x.2
    obtain ⟨d0, d1, d2, d3, d4, d5⟩ := cellsQ hx
    have hxb := heap_lt hx
    have HB := Lib.hid hB
    clear hx hB
    obtain ⟨p, cap, rfl, _, _⟩ := own_shape hrow
    have hc := hv.cell
    have hct := hbt.cell
    have hbl := hv.lt
    have hbtl := hbt.lt
    have hsn := qofN_snoc obj (QE.v pre) x.1
    unfold qptr
    rcases hx : (x.1.w.o == obj) with _ | _
    · rw [hx] at hsn
      simp only [Bool.false_eq_true, if_false] at hsn
      have HSN := Lib.hid hsn
      clear hsn
      gi_wp2
      gi_region
      all_goals gi_wp2
      all_goals exact ⟨(KeepsOthers.drew W).from _, ⟨(Below.refl _ W).drew, rfl⟩, ⟨⟨⟨_, hv, by rw [QE.v_snoc, HSN.out]; exact hrow, trivial⟩, hbt⟩, hbn⟩, HB.out.drew⟩
    · rw [hx] at hsn
      simp only [if_true] at hsn
      have HSN := Lib.hid hsn
      clear hsn
      gi_wp2
      gi_region
      all_goals gi_wp2
      all_goals refine wpIn_region_any (by kernel_rfl) ?_
      all_goals change wpAnyIn _ _ _ _ _ _ _ _ _ (World.drew _)
      all_goals
        (
        refine wpAnyIn_ready (rs := [0, 1]) (by kernel_rfl) (by simp) ?_
        refine AllReadyIn.cons rfl (fun K hK => ?_) (AllReadyIn.cons rfl (fun K hK => ?_) AllReadyIn.nil)
        · go_simp
          refine hK _ _ ?_
          clear hK K
          refine wpAnyIn_ready (rs := [1]) (by kernel_rfl) (by simp) ?_
          refine AllReadyIn.cons rfl (fun K hK => ?_) AllReadyIn.nil
          go_simp
          refine hK _ _ ?_
          clear hK K
          refine wpAnyIn_ready (rs := [2]) (by kernel_rfl) (by simp) ?_
          refine AllReadyIn.cons rfl (fun K hK => ?_) AllReadyIn.nil
          go_simp
          refine hK _ _ ?_
          clear hK K
          refine wpAnyIn_ready (rs := [3]) (by kernel_rfl) (by simp) ?_
          refine AllReadyIn.cons rfl (fun K hK => ?_) AllReadyIn.nil
          go_simp
          refine hK _ _ ?_
          clear hK K
          refine wpAnyIn_ready (rs := [4]) (by kernel_rfl) (by simp) ?_
          refine AllReadyIn.cons rfl (fun K hK => ?_) AllReadyIn.nil
          go_simp
          refine hK _ _ ?_
          clear hK K
          refine wpAnyIn_ready (rs := [5]) (by kernel_rfl) (by simp) ?_
          refine AllReadyIn.cons rfl (fun K hK => ?_) AllReadyIn.nil
          go_simp
          refine hK _ _ ?_
          clear hK K
          refine wpAnyIn_ready (rs := [6]) (by kernel_rfl) (by simp) ?_
          refine allReadyIn_push rfl rfl _ _ 73 rfl w.heap.size 51 i0 _ 4 32 Try.underlying73 hi hz0 hz1 hz2 rfl (by decide) _ _ _ rfl (by exact ⟨hrow.1, (hrow.alloc _).2⟩) ⟨_, 0, none⟩ 1 1 x.1.w.cells rfl rfl (cell_four_new W _ _ _ _ _) (by intro u hu; simp [QW.cells] at hu; rcases hu with rfl | rfl | rfl | rfl <;> rfl) (by have := HPL.out; simp only [maxLen]; omega) (by have := HPL.out; omega) (by have := HB.out.size; show _ ≤ (World.alloc _ _).heap.size; rw [World.size_alloc]; exact Nat.le_succ_of_le this) ?_
          intro v' w1 hown' hgrow
          obtain ⟨g', cap', rfl⟩ := ownsRow_succ hown'
          have hgrow : (W.alloc (.cells #[.int .i64 x.1.w.t, .int .i64 x.1.w.k, .int .i64 x.1.w.o, .int .u32 x.1.w.m] 51)).grownBy w1 (Value.ownBlock (.slice p (qofN obj (QE.v pre)).length cap)) := ⟨hgrow.os, hgrow.tape, hgrow.output, hgrow.size, hgrow.block⟩
          obtain ⟨hv1, hv2, hr2, hk2, hb2⟩ := Boxed.appended (W := W) hv (by decide) hrow HB.out.size (by omega) hown' hgrow
          have hbn1 := Boxed.kept (Boxed.alloc (W := W) hbn _) hgrow (Boxed.not_row hbn (by decide) hrow)
          have hbn2 := hbn1.other (B' := (w.heap.size + 1)) (by omega) (.slice (some ⟨g', 0, none⟩) ((qofN obj (QE.v pre)).length + 1) cap')
          have hbt1 := Boxed.kept (Boxed.alloc (W := W) hbt _) hgrow (Boxed.not_row hbt (by decide) hrow)
          have hbt2 := hbt1.other (B' := (w.heap.size + 1)) (by omega) (.slice (some ⟨g', 0, none⟩) ((qofN obj (QE.v pre)).length + 1) cap')
          have hc1 := hv1.cell
          have hf1 := hv1.frozen
          refine wpAnyIn_ready (rs := [7]) (by kernel_rfl) (by simp) ?_
          refine AllReadyIn.cons rfl (fun K hK => ?_) AllReadyIn.nil
          go_simp
          refine hK _ _ ?_
          clear hK K
          refine wpAnyIn_done (by kernel_rfl) ?_ _
          gi_wp2
          exact ⟨hk2.from _, ⟨hb2, hbn2.cell.trans hbn.cell.symm⟩, ⟨⟨⟨_, hv2, by rw [QE.v_snoc, HSN.out, flatQ_snoc, List.length_append]; exact hr2, trivial⟩, hbt2⟩, hbn2⟩, HB.out.trans hb2⟩
        · go_simp
          refine hK _ _ ?_
          clear hK K
          refine wpAnyIn_ready (rs := [0, 2]) (by kernel_rfl) (by simp) ?_
          refine AllReadyIn.cons rfl (fun K hK => ?_) (AllReadyIn.cons rfl (fun K hK => ?_) AllReadyIn.nil)
          · go_simp
            refine hK _ _ ?_
            clear hK K
            refine wpAnyIn_ready (rs := [2]) (by kernel_rfl) (by simp) ?_
            refine AllReadyIn.cons rfl (fun K hK => ?_) AllReadyIn.nil
            go_simp
            refine hK _ _ ?_
            clear hK K
            refine wpAnyIn_ready (rs := [3]) (by kernel_rfl) (by simp) ?_
            refine AllReadyIn.cons rfl (fun K hK => ?_) AllReadyIn.nil
            go_simp
            refine hK _ _ ?_
            clear hK K
            refine wpAnyIn_ready (rs := [4]) (by kernel_rfl) (by simp) ?_
            refine AllReadyIn.cons rfl (fun K hK => ?_) AllReadyIn.nil
            go_simp
            refine hK _ _ ?_
            clear hK K
            refine wpAnyIn_ready (rs := [5]) (by kernel_rfl) (by simp) ?_
            refine AllReadyIn.cons rfl (fun K hK => ?_) AllReadyIn.nil
            go_simp
            refine hK _ _ ?_
            clear hK K
            refine wpAnyIn_ready (rs := [6]) (by kernel_rfl) (by simp) ?_
            refine allReadyIn_push rfl rfl _ _ 73 rfl w.heap.size 51 i0 _ 4 32 Try.underlying73 hi hz0 hz1 hz2 rfl (by decide) _ _ _ rfl (by exact ⟨hrow.1, (hrow.alloc _).2⟩) ⟨_, 0, none⟩ 1 1 x.1.w.cells rfl rfl (cell_four_new W _ _ _ _ _) (by intro u hu; simp [QW.cells] at hu; rcases hu with rfl | rfl | rfl | rfl <;> rfl) (by have := HPL.out; simp only [maxLen]; omega) (by have := HPL.out; omega) (by have := HB.out.size; show _ ≤ (World.alloc _ _).heap.size; rw [World.size_alloc]; exact Nat.le_succ_of_le this) ?_
            intro v' w1 hown' hgrow
            obtain ⟨g', cap', rfl⟩ := ownsRow_succ hown'
            have hgrow : (W.alloc (.cells #[.int .i64 x.1.w.t, .int .i64 x.1.w.k, .int .i64 x.1.w.o, .int .u32 x.1.w.m] 51)).grownBy w1 (Value.ownBlock (.slice p (qofN obj (QE.v pre)).length cap)) := ⟨hgrow.os, hgrow.tape, hgrow.output, hgrow.size, hgrow.block⟩
            obtain ⟨hv1, hv2, hr2, hk2, hb2⟩ := Boxed.appended (W := W) hv (by decide) hrow HB.out.size (by omega) hown' hgrow
            have hbn1 := Boxed.kept (Boxed.alloc (W := W) hbn _) hgrow (Boxed.not_row hbn (by decide) hrow)
            have hbn2 := hbn1.other (B' := (w.heap.size + 1)) (by omega) (.slice (some ⟨g', 0, none⟩) ((qofN obj (QE.v pre)).length + 1) cap')
            have hbt1 := Boxed.kept (Boxed.alloc (W := W) hbt _) hgrow (Boxed.not_row hbt (by decide) hrow)
            have hbt2 := hbt1.other (B' := (w.heap.size + 1)) (by omega) (.slice (some ⟨g', 0, none⟩) ((qofN obj (QE.v pre)).length + 1) cap')
            have hc1 := hv1.cell
            have hf1 := hv1.frozen
            refine wpAnyIn_ready (rs := [7]) (by kernel_rfl) (by simp) ?_
            refine AllReadyIn.cons rfl (fun K hK => ?_) AllReadyIn.nil
            go_simp
            refine hK _ _ ?_
            clear hK K
            refine wpAnyIn_done (by kernel_rfl) ?_ _
            gi_wp2
            exact ⟨hk2.from _, ⟨hb2, hbn2.cell.trans hbn.cell.symm⟩, ⟨⟨⟨_, hv2, by rw [QE.v_snoc, HSN.out, flatQ_snoc, List.length_append]; exact hr2, trivial⟩, hbt2⟩, hbn2⟩, HB.out.trans hb2⟩
          · go_simp
            refine hK _ _ ?_
            clear hK K
            refine wpAnyIn_ready (rs := [0, 3]) (by kernel_rfl) (by simp) ?_
            refine AllReadyIn.cons rfl (fun K hK => ?_) (AllReadyIn.cons rfl (fun K hK => ?_) AllReadyIn.nil)
            · go_simp
              refine hK _ _ ?_
              clear hK K
              refine wpAnyIn_ready (rs := [3]) (by kernel_rfl) (by simp) ?_
              refine AllReadyIn.cons rfl (fun K hK => ?_) AllReadyIn.nil
              go_simp
              refine hK _ _ ?_
              clear hK K
              refine wpAnyIn_ready (rs := [4]) (by kernel_rfl) (by simp) ?_
              refine AllReadyIn.cons rfl (fun K hK => ?_) AllReadyIn.nil
              go_simp
              refine hK _ _ ?_
              clear hK K
              refine wpAnyIn_ready (rs := [5]) (by kernel_rfl) (by simp) ?_
              refine AllReadyIn.cons rfl (fun K hK => ?_) AllReadyIn.nil
              go_simp
              refine hK _ _ ?_
              clear hK K
              refine wpAnyIn_ready (rs := [6]) (by kernel_rfl) (by simp) ?_
              refine allReadyIn_push rfl rfl _ _ 73 rfl w.heap.size 51 i0 _ 4 32 Try.underlying73 hi hz0 hz1 hz2 rfl (by decide) _ _ _ rfl (by exact ⟨hrow.1, (hrow.alloc _).2⟩) ⟨_, 0, none⟩ 1 1 x.1.w.cells rfl rfl (cell_four_new W _ _ _ _ _) (by intro u hu; simp [QW.cells] at hu; rcases hu with rfl | rfl | rfl | rfl <;> rfl) (by have := HPL.out; simp only [maxLen]; omega) (by have := HPL.out; omega) (by have := HB.out.size; show _ ≤ (World.alloc _ _).heap.size; rw [World.size_alloc]; exact Nat.le_succ_of_le this) ?_
              intro v' w1 hown' hgrow
              obtain ⟨g', cap', rfl⟩ := ownsRow_succ hown'
              have hgrow : (W.alloc (.cells #[.int .i64 x.1.w.t, .int .i64 x.1.w.k, .int .i64 x.1.w.o, .int .u32 x.1.w.m] 51)).grownBy w1 (Value.ownBlock (.slice p (qofN obj (QE.v pre)).length cap)) := ⟨hgrow.os, hgrow.tape, hgrow.output, hgrow.size, hgrow.block⟩
              obtain ⟨hv1, hv2, hr2, hk2, hb2⟩ := Boxed.appended (W := W) hv (by decide) hrow HB.out.size (by omega) hown' hgrow
              have hbn1 := Boxed.kept (Boxed.alloc (W := W) hbn _) hgrow (Boxed.not_row hbn (by decide) hrow)
              have hbn2 := hbn1.other (B' := (w.heap.size + 1)) (by omega) (.slice (some ⟨g', 0, none⟩) ((qofN obj (QE.v pre)).length + 1) cap')
              have hbt1 := Boxed.kept (Boxed.alloc (W := W) hbt _) hgrow (Boxed.not_row hbt (by decide) hrow)
              have hbt2 := hbt1.other (B' := (w.heap.size + 1)) (by omega) (.slice (some ⟨g', 0, none⟩) ((qofN obj (QE.v pre)).length + 1) cap')
              have hc1 := hv1.cell
              have hf1 := hv1.frozen
              refine wpAnyIn_ready (rs := [7]) (by kernel_rfl) (by simp) ?_
              refine AllReadyIn.cons rfl (fun K hK => ?_) AllReadyIn.nil
              go_simp
              refine hK _ _ ?_
              clear hK K
              refine wpAnyIn_done (by kernel_rfl) ?_ _
              gi_wp2
              exact ⟨hk2.from _, ⟨hb2, hbn2.cell.trans hbn.cell.symm⟩, ⟨⟨⟨_, hv2, by rw [QE.v_snoc, HSN.out, flatQ_snoc, List.length_append]; exact hr2, trivial⟩, hbt2⟩, hbn2⟩, HB.out.trans hb2⟩
            · go_simp
              refine hK _ _ ?_
              clear hK K
              refine wpAnyIn_ready (rs := [0, 4]) (by kernel_rfl) (by simp) ?_
              refine AllReadyIn.cons rfl (fun K hK => ?_) (AllReadyIn.cons rfl (fun K hK => ?_) AllReadyIn.nil)
              · go_simp
                refine hK _ _ ?_
                clear hK K
                refine wpAnyIn_ready (rs := [4]) (by kernel_rfl) (by simp) ?_
                refine AllReadyIn.cons rfl (fun K hK => ?_) AllReadyIn.nil
                go_simp
                refine hK _ _ ?_
                clear hK K
                refine wpAnyIn_ready (rs := [5]) (by kernel_rfl) (by simp) ?_
                refine AllReadyIn.cons rfl (fun K hK => ?_) AllReadyIn.nil
                go_simp
                refine hK _ _ ?_
                clear hK K
                refine wpAnyIn_ready (rs := [6]) (by kernel_rfl) (by simp) ?_
                refine allReadyIn_push rfl rfl _ _ 73 rfl w.heap.size 51 i0 _ 4 32 Try.underlying73 hi hz0 hz1 hz2 rfl (by decide) _ _ _ rfl (by exact ⟨hrow.1, (hrow.alloc _).2⟩) ⟨_, 0, none⟩ 1 1 x.1.w.cells rfl rfl (cell_four_new W _ _ _ _ _) (by intro u hu; simp [QW.cells] at hu; rcases hu with rfl | rfl | rfl | rfl <;> rfl) (by have := HPL.out; simp only [maxLen]; omega) (by have := HPL.out; omega) (by have := HB.out.size; show _ ≤ (World.alloc _ _).heap.size; rw [World.size_alloc]; exact Nat.le_succ_of_le this) ?_
                intro v' w1 hown' hgrow
                obtain ⟨g', cap', rfl⟩ := ownsRow_succ hown'
                have hgrow : (W.alloc (.cells #[.int .i64 x.1.w.t, .int .i64 x.1.w.k, .int .i64 x.1.w.o, .int .u32 x.1.w.m] 51)).grownBy w1 (Value.ownBlock (.slice p (qofN obj (QE.v pre)).length cap)) := ⟨hgrow.os, hgrow.tape, hgrow.output, hgrow.size, hgrow.block⟩
                obtain ⟨hv1, hv2, hr2, hk2, hb2⟩ := Boxed.appended (W := W) hv (by decide) hrow HB.out.size (by omega) hown' hgrow
                have hbn1 := Boxed.kept (Boxed.alloc (W := W) hbn _) hgrow (Boxed.not_row hbn (by decide) hrow)
                have hbn2 := hbn1.other (B' := (w.heap.size + 1)) (by omega) (.slice (some ⟨g', 0, none⟩) ((qofN obj (QE.v pre)).length + 1) cap')
                have hbt1 := Boxed.kept (Boxed.alloc (W := W) hbt _) hgrow (Boxed.not_row hbt (by decide) hrow)
                have hbt2 := hbt1.other (B' := (w.heap.size + 1)) (by omega) (.slice (some ⟨g', 0, none⟩) ((qofN obj (QE.v pre)).length + 1) cap')
                have hc1 := hv1.cell
                have hf1 := hv1.frozen
                refine wpAnyIn_ready (rs := [7]) (by kernel_rfl) (by simp) ?_
                refine AllReadyIn.cons rfl (fun K hK => ?_) AllReadyIn.nil
                go_simp
                refine hK _ _ ?_
                clear hK K
                refine wpAnyIn_done (by kernel_rfl) ?_ _
                gi_wp2
                exact ⟨hk2.from _, ⟨hb2, hbn2.cell.trans hbn.cell.symm⟩, ⟨⟨⟨_, hv2, by rw [QE.v_snoc, HSN.out, flatQ_snoc, List.length_append]; exact hr2, trivial⟩, hbt2⟩, hbn2⟩, HB.out.trans hb2⟩
              · go_simp
                refine hK _ _ ?_
                clear hK K
                refine wpAnyIn_ready (rs := [0, 5]) (by kernel_rfl) (by simp) ?_
                refine AllReadyIn.cons rfl (fun K hK => ?_) (AllReadyIn.cons rfl (fun K hK => ?_) AllReadyIn.nil)
                · go_simp
                  refine hK _ _ ?_
                  clear hK K
                  refine wpAnyIn_ready (rs := [5]) (by kernel_rfl) (by simp) ?_
                  refine AllReadyIn.cons rfl (fun K hK => ?_) AllReadyIn.nil
                  go_simp
                  refine hK _ _ ?_
                  clear hK K
                  refine wpAnyIn_ready (rs := [6]) (by kernel_rfl) (by simp) ?_
                  refine allReadyIn_push rfl rfl _ _ 73 rfl w.heap.size 51 i0 _ 4 32 Try.underlying73 hi hz0 hz1 hz2 rfl (by decide) _ _ _ rfl (by exact ⟨hrow.1, (hrow.alloc _).2⟩) ⟨_, 0, none⟩ 1 1 x.1.w.cells rfl rfl (cell_four_new W _ _ _ _ _) (by intro u hu; simp [QW.cells] at hu; rcases hu with rfl | rfl | rfl | rfl <;> rfl) (by have := HPL.out; simp only [maxLen]; omega) (by have := HPL.out; omega) (by have := HB.out.size; show _ ≤ (World.alloc _ _).heap.size; rw [World.size_alloc]; exact Nat.le_succ_of_le this) ?_
                  intro v' w1 hown' hgrow
                  obtain ⟨g', cap', rfl⟩ := ownsRow_succ hown'
                  have hgrow : (W.alloc (.cells #[.int .i64 x.1.w.t, .int .i64 x.1.w.k, .int .i64 x.1.w.o, .int .u32 x.1.w.m] 51)).grownBy w1 (Value.ownBlock (.slice p (qofN obj (QE.v pre)).length cap)) := ⟨hgrow.os, hgrow.tape, hgrow.output, hgrow.size, hgrow.block⟩
                  obtain ⟨hv1, hv2, hr2, hk2, hb2⟩ := Boxed.appended (W := W) hv (by decide) hrow HB.out.size (by omega) hown' hgrow
                  have hbn1 := Boxed.kept (Boxed.alloc (W := W) hbn _) hgrow (Boxed.not_row hbn (by decide) hrow)
                  have hbn2 := hbn1.other (B' := (w.heap.size + 1)) (by omega) (.slice (some ⟨g', 0, none⟩) ((qofN obj (QE.v pre)).length + 1) cap')
                  have hbt1 := Boxed.kept (Boxed.alloc (W := W) hbt _) hgrow (Boxed.not_row hbt (by decide) hrow)
                  have hbt2 := hbt1.other (B' := (w.heap.size + 1)) (by omega) (.slice (some ⟨g', 0, none⟩) ((qofN obj (QE.v pre)).length + 1) cap')
                  have hc1 := hv1.cell
                  have hf1 := hv1.frozen
                  refine wpAnyIn_ready (rs := [7]) (by kernel_rfl) (by simp) ?_
                  refine AllReadyIn.cons rfl (fun K hK => ?_) AllReadyIn.nil
                  go_simp
                  refine hK _ _ ?_
                  clear hK K
                  refine wpAnyIn_done (by kernel_rfl) ?_ _
                  gi_wp2
                  exact ⟨hk2.from _, ⟨hb2, hbn2.cell.trans hbn.cell.symm⟩, ⟨⟨⟨_, hv2, by rw [QE.v_snoc, HSN.out, flatQ_snoc, List.length_append]; exact hr2, trivial⟩, hbt2⟩, hbn2⟩, HB.out.trans hb2⟩
                · go_simp
                  refine hK _ _ ?_
                  clear hK K
                  refine wpAnyIn_ready (rs := [0]) (by kernel_rfl) (by simp) ?_
                  refine AllReadyIn.cons rfl (fun K hK => ?_) AllReadyIn.nil
                  go_simp
                  refine hK _ _ ?_
                  clear hK K
                  refine wpAnyIn_ready (rs := [6]) (by kernel_rfl) (by simp) ?_
                  refine allReadyIn_push rfl rfl _ _ 73 rfl w.heap.size 51 i0 _ 4 32 Try.underlying73 hi hz0 hz1 hz2 rfl (by decide) _ _ _ rfl (by exact ⟨hrow.1, (hrow.alloc _).2⟩) ⟨_, 0, none⟩ 1 1 x.1.w.cells rfl rfl (cell_four_new W _ _ _ _ _) (by intro u hu; simp [QW.cells] at hu; rcases hu with rfl | rfl | rfl | rfl <;> rfl) (by have := HPL.out; simp only [maxLen]; omega) (by have := HPL.out; omega) (by have := HB.out.size; show _ ≤ (World.alloc _ _).heap.size; rw [World.size_alloc]; exact Nat.le_succ_of_le this) ?_
                  intro v' w1 hown' hgrow
                  obtain ⟨g', cap', rfl⟩ := ownsRow_succ hown'
                  have hgrow : (W.alloc (.cells #[.int .i64 x.1.w.t, .int .i64 x.1.w.k, .int .i64 x.1.w.o, .int .u32 x.1.w.m] 51)).grownBy w1 (Value.ownBlock (.slice p (qofN obj (QE.v pre)).length cap)) := ⟨hgrow.os, hgrow.tape, hgrow.output, hgrow.size, hgrow.block⟩
                  obtain ⟨hv1, hv2, hr2, hk2, hb2⟩ := Boxed.appended (W := W) hv (by decide) hrow HB.out.size (by omega) hown' hgrow
                  have hbn1 := Boxed.kept (Boxed.alloc (W := W) hbn _) hgrow (Boxed.not_row hbn (by decide) hrow)
                  have hbn2 := hbn1.other (B' := (w.heap.size + 1)) (by omega) (.slice (some ⟨g', 0, none⟩) ((qofN obj (QE.v pre)).length + 1) cap')
                  have hbt1 := Boxed.kept (Boxed.alloc (W := W) hbt _) hgrow (Boxed.not_row hbt (by decide) hrow)
                  have hbt2 := hbt1.other (B' := (w.heap.size + 1)) (by omega) (.slice (some ⟨g', 0, none⟩) ((qofN obj (QE.v pre)).length + 1) cap')
                  have hc1 := hv1.cell
                  have hf1 := hv1.frozen
                  refine wpAnyIn_ready (rs := [7]) (by kernel_rfl) (by simp) ?_
                  refine AllReadyIn.cons rfl (fun K hK => ?_) AllReadyIn.nil
                  go_simp
                  refine hK _ _ ?_
                  clear hK K
                  refine wpAnyIn_done (by kernel_rfl) ?_ _
                  gi_wp2
                  exact ⟨hk2.from _, ⟨hb2, hbn2.cell.trans hbn.cell.symm⟩, ⟨⟨⟨_, hv2, by rw [QE.v_snoc, HSN.out, flatQ_snoc, List.length_append]; exact hr2, trivial⟩, hbt2⟩, hbn2⟩, HB.out.trans hb2⟩
        )
  case done =>
    rintro D ys W hD hys ⟨⟨⟨⟨v, hv, hrow, _⟩, hbt⟩, hbn⟩, hB⟩ hK
    rw [hys] at hrow
    obtain ⟨p, cap, rfl, _, _⟩ := own_shape hrow
    have hc := hv.cell
    have hf := hv.frozen
    have HB := Lib.hid hB
    have HD := Lib.hid hD
    have HY := Lib.hid hys
    clear hB hD hys
    gi_wp2
    have hK' := (KeepsOthers.setCell W ⟨w.heap.size + 1, 0, none⟩ (.slice p (qofN obj xs).length cap)).same D _ hK rfl
    refine ⟨by simp, .inl ⟨_, _, rfl, run_takeDeferred hK', ?_⟩⟩
    have hc5 := cell_kept (World.cell?_setCell_same' W ⟨w.heap.size + 1, 0, none⟩ (.slice p (qofN obj xs).length cap) (by rw [hc]; rfl)) (grownBy_putObj' _ D (.deferred none)) (fun r e => by cases e; exact ⟨_, hK', rfl⟩)
    have hrow2 := hrow.kept (grownBy_setCell' W (w.heap.size + 1) (.slice p (qofN obj xs).length cap)) (.inr (hv.not_row (by decide) hrow).symm)
    refine ⟨.slice p (qofN obj xs).length cap, ?_, ⟨_, rfl, ownsRow_putObj hrow2 _ hK' rfl⟩, (HB.out.setCell (p := ⟨w.heap.size + 1, 0, none⟩) (by simp) _).trans (belowK_b (w := w) (Nat.le_refl _) _ D _ _ (by have := HD.out; simp at this; omega) hK' rfl rfl)⟩
    simp [results, Try.f28, go_sem, hc5]
  case stop =>
    rintro D c pre W _ _ h _
    exact h.elim

theorem qlist_c {w : World} {q : Nat} {xs : List QN} (hL : QL w q xs) (hlen : xs.length ≤ 1000) :
    Calls Try.prog 27 #[.pointer (some ⟨q, 0, none⟩)] w fun e W' => (∃ v, e = .returned v ∧ W'.ownsRow w.heap.size 51 4 v xs.length (flatQ (xs.map QN.w))) ∧ Upd [] w W' :=
  (callsIn_wide.1 (qlist_in Fence.wide 3 trivial trivial trivial rfl (Nat.le_refl _) q xs w hL hlen)).mono fun _ _ h => ⟨h.1, below_upd h.2⟩
theorem qof_c {w : World} {q : Nat} {xs : List QN} (obj : Int) (hL : QL w q xs) (hlen : xs.length ≤ 1000) :
    Calls Try.prog 28 #[.pointer (some ⟨q, 0, none⟩), .int .i64 obj] w fun e W' => (∃ v, e = .returned v ∧ W'.ownsRow w.heap.size 51 4 v (qofN obj xs).length (flatQ (qofN obj xs))) ∧ Upd [] w W' :=
  (callsIn_wide.1 (qof_in Fence.wide 3 trivial trivial trivial rfl (Nat.le_refl _) q xs obj w hL hlen)).mono fun _ _ h => ⟨h.1, below_upd h.2⟩
end Go.Proofs.Ytdbgnnkbcebpcaa
