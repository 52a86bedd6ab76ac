/- Package ref24: the document's Tick. -/
import Derived.Test.YtgmdhjlbedgafaaRefD2
set_option linter.unusedVariables false
set_option linter.unusedSimpArgs false
namespace Go.Proofs.Ytgmdhjlbedgafaa
open Go.RowKit

/-- Who is told, and who still waits. -/
def rTold (L : List (Int × Int)) : List Int := (L.filter fun x => decide (x.2 = 1)).map (·.1)
def rRest (L : List (Int × Int)) : List (Int × Int) := (L.filter fun x => decide (x.2 ≠ 1)).map fun x => (x.1, x.2 - 1)
theorem rTold_snoc (L : List (Int × Int)) (x : Int × Int) : rTold (L ++ [x]) = rTold L ++ (if x.2 = 1 then [x.1] else []) := by
  unfold rTold; rw [List.filter_append, List.map_append]; congr 1; by_cases h : x.2 = 1 <;> simp [h]
theorem rRest_snoc (L : List (Int × Int)) (x : Int × Int) : rRest (L ++ [x]) = rRest L ++ (if x.2 = 1 then [] else [(x.1, x.2 - 1)]) := by
  unfold rRest; rw [List.filter_append, List.map_append]; congr 1; by_cases h : x.2 = 1 <;> simp [h]
theorem rTold_le (L : List (Int × Int)) : (rTold L).length ≤ L.length := by unfold rTold; rw [List.length_map]; exact List.length_filter_le _ _
theorem rRest_le (L : List (Int × Int)) : (rRest L).length ≤ L.length := by unfold rRest; rw [List.length_map]; exact List.length_filter_le _ _
theorem own_disj {w : World} {b1 b2 n1 n2 s1 s2 : Nat} {e1 e2 : TypeId} {v1 v2 : Value} {x1 x2 : List Value} (h1 : w.ownsRow b1 e1 s1 v1 n1 x1) (h2 : w.ownsRow b2 e2 s2 v2 n2 x2) (he : e1 ≠ e2) : ∀ k, v1.ownBlock = some k → v2.ownBlock ≠ some k := by
  intro k hk
  rcases h1.2 with ⟨rfl, -⟩ | ⟨g, cap, cur, rfl, -, hg, -⟩
  · cases hk
  · obtain rfl : g = k := by simpa [Value.ownBlock] using hk
    exact own_ne h2 hg he
theorem ints_one (L : List Int) : ∀ u ∈ i64s L, u.oneCell' = true := by
  intro u hu
  simp only [i64s, List.mem_map] at hu
  obtain ⟨x, -, rfl⟩ := hu
  rfl

theorem src_new {w : World} {xs : List Value} {t : TypeId} {g : Nat} (hg : g = w.heap.size) : ∀ j u, xs[j]? = some u → (w.alloc (.cells xs.toArray t)).cell? ⟨g, 0 + j, none⟩ = some u := by
  intro j u h
  rw [Nat.zero_add, cell_of_heap (heap_alloc_at _ hg), List.getElem?_toArray]
  exact h
theorem wrap_succ {j l : Nat} (h : l ≤ 1000) (h2 : j < l) : wrap64 ((j : Int) + 1) = ((j + 1 : Nat) : Int) := by unfold wrap64; omega
theorem rd_measure {n j l : Nat} (h : n + j = l) (h2 : j < l) : l - (j + 1) < n := by omega
theorem rd_measure2 {j l : Nat} (h2 : j < l) : l - (j + 1) + (j + 1) = l := by omega
/-- The state of the loop. -/
structure TK (w : World) (v : Value) (L : List (Int × Int)) (j : Nat) (tv ov : Value) (wr : World) : Prop where
  told : wr.ownsRow w.heap.size 3 1 tv (rTold (L.take j)).length (i64s (rTold (L.take j)))
  out : RD wr w.heap.size ov (rRest (L.take j))
  h0 : wr.heap[w.heap.size]? = some (.cells [v].toArray 30 (0, 0))
  h1 : wr.heap[w.heap.size + 1]? = some (.cells [.slice none 0 0].toArray 30 (0, 0))
  h2 : wr.heap[w.heap.size + 2]? = some (.cells [ov].toArray 30 (0, 0))
  upd : Upd [] w wr
theorem own_nil2 {w : World} {e : TypeId} {base size : Nat} : w.ownsRow base e size (.slice none 0 0) 0 [] := World.ownsRow_nil w base e size

theorem TK.new {w wr W : World} {v tv ov : Value} {L : List (Int × Int)} {j : Nat} (h : TK w v L j tv ov wr) (hu : Upd [] wr W) : TK w v L j tv ov W :=
  ⟨own_upd h.told hu (fun _ _ hm => by cases hm), h.out.new hu, hu.keepb h.h0 (by simp), hu.keepb h.h1 (by simp), hu.keepb h.h2 (by simp), h.upd.trans hu⟩
theorem TK.told_step {w W w2 : World} {v tv tv2 ov : Value} {L : List (Int × Int)} {j : Nat} (h : TK w v L j tv ov W) (hlt : j < L.length) (ht : L[j].2 = 1) (hg : W.grownBy w2 tv.ownBlock)
    (ho : w2.ownsRow w.heap.size 3 1 tv2 ((rTold (L.take j)).length + 1) (i64s (rTold (L.take j)) ++ [.int .i64 L[j].1])) : TK w v L (j + 1) tv2 ov w2 := by
  have htk : L.take (j + 1) = L.take j ++ [L[j]] := by rw [List.take_succ_eq_append_getElem hlt]
  have hb := own_base h.told
  refine ⟨?_, ?_, ?_, ?_, ?_, ?_⟩
  · rw [htk, rTold_snoc, if_pos ht, List.length_append]
    unfold i64s at ho ⊢
    rw [List.map_append]
    exact ho
  · rw [htk, rRest_snoc, if_pos ht, List.append_nil]
    exact own_upd h.out (upd_grown hg) (fun k hk hm => own_disj h.out h.told (by decide) k hk (Option.mem_toList.1 hm))
  · rw [hg.block _ (heap_lt h.h0) (fun e => own_ne h.told h.h0 (by decide) e.symm)]; exact h.h0
  · rw [hg.block _ (heap_lt h.h1) (fun e => own_ne h.told h.h1 (by decide) e.symm)]; exact h.h1
  · rw [hg.block _ (heap_lt h.h2) (fun e => own_ne h.told h.h2 (by decide) e.symm)]; exact h.h2
  · exact h.upd.then (upd_grown hg) (fun i hi => .inr (hb i (Option.mem_toList.1 hi)))
theorem TK.out_step {w W w2 : World} {v tv ov ov2 : Value} {L : List (Int × Int)} {j : Nat} (h : TK w v L j tv ov W) (hlt : j < L.length) (ht : L[j].2 ≠ 1) (hg : W.grownBy w2 ov.ownBlock)
    (ho : w2.ownsRow w.heap.size 86 2 ov2 ((rRest (L.take j)).length + 1) (pairs (rRest (L.take j)) ++ [.int .i64 L[j].1, .int .u64 (L[j].2 - 1)])) : w2.heap[w.heap.size + 2]? = some (.cells [ov].toArray 30 (0, 0)) ∧ TK w v L (j + 1) tv ov2 (w2.setCell ⟨w.heap.size + 2, 0, none⟩ ov2) := by
  have htk : L.take (j + 1) = L.take j ++ [L[j]] := by rw [List.take_succ_eq_append_getElem hlt]
  have hb := own_base h.out
  have g0 : w2.heap[w.heap.size]? = some (.cells [v].toArray 30 (0, 0)) := by rw [hg.block _ (heap_lt h.h0) (fun e => own_ne h.out h.h0 (by decide) e.symm)]; exact h.h0
  have g1 : w2.heap[w.heap.size + 1]? = some (.cells [.slice none 0 0].toArray 30 (0, 0)) := by rw [hg.block _ (heap_lt h.h1) (fun e => own_ne h.out h.h1 (by decide) e.symm)]; exact h.h1
  have g2 : w2.heap[w.heap.size + 2]? = some (.cells [ov].toArray 30 (0, 0)) := by rw [hg.block _ (heap_lt h.h2) (fun e => own_ne h.out h.h2 (by decide) e.symm)]; exact h.h2
  have t2 := own_upd h.told (upd_grown hg) (fun k hk hm => own_disj h.told h.out (by decide) k hk (Option.mem_toList.1 hm))
  have hs : Upd [w.heap.size + 2] w2 (w2.setCell ⟨w.heap.size + 2, 0, none⟩ ov2) := (Upd.refl _ _).setCell (by simp) _
  have hu2 := h.upd.then (upd_grown hg) (fun i hi => .inr (hb i (Option.mem_toList.1 hi)))
  refine ⟨g2, ?_, ?_, ?_, ?_, ?_, ?_⟩
  · rw [htk, rTold_snoc, if_neg ht, List.append_nil]
    exact own_upd t2 hs (fun k hk hm => by simp at hm; subst hm; exact own_ne t2 g2 (by decide) hk)
  · rw [htk, rRest_snoc, if_neg ht]
    unfold RD
    rw [pairs_append, List.length_append]
    exact own_upd ho hs (fun k hk hm => by simp at hm; subst hm; exact own_ne ho g2 (by decide) hk)
  · exact hs.keepb g0 (by simp)
  · exact hs.keepb g1 (by simp)
  · exact heap_set2 g2 rfl
  · exact hu2.then hs (fun i hi => .inr (by simp at hi; omega))

set_option maxRecDepth 100000 in
set_option maxHeartbeats 2000000 in
theorem rd_tick {w : World} {B : Nat} {v : Value} {L : List (Int × Int)} (h : RD w B v L) (hl : L.length ≤ 1000) (hp : ∀ x ∈ L, 1 ≤ x.2 ∧ x.2 ≤ 4294967295) :
    Calls Try.prog 10 #[.agg #[v]] w fun e w' => ∃ v' tv, e = .returned (.tuple #[.agg #[v'], tv]) ∧ RD w' w.heap.size v' (rRest L) ∧ w'.ownsRow w.heap.size 3 1 tv (rTold L).length (i64s (rTold L)) ∧ Upd [] w w' := by
  obtain ⟨va, cap, rfl, -⟩ := h.shape
  have HR := Lib.hid h
  have HL := Lib.hid hl
  have HP := Lib.hid hp
  have HT0 := Lib.hid (show ∀ wr, wr = ((w.alloc (.cells #[.slice va L.length cap] 30)).alloc (.cells #[.slice none 0 0] 30)).alloc (.cells #[.slice none 0 0] 30) → TK w (.slice va L.length cap) L 0 (.slice none 0 0) (.slice none 0 0) wr from fun wr e => by
    subst e
    exact ⟨own_nil2, own_nil2, heap_alloc' (heap_alloc' (heap_alloc_new w _)), heap_alloc' (heap_alloc_at _ (by simp)), heap_alloc_at _ (by simp), (((Upd.refl _ _).alloc _).alloc _).alloc _⟩)
  obtain ⟨ip, hip, hi0, hi1, hi2⟩ := info_parts info_one
  obtain ⟨ii, hii, hii0, hii1, hii2⟩ := info_parts info_int
  clear h hl hp
  go_enter Try.func10, Try.ntmps10
  go_wp2
  go_loopg [5, 6] L.length (fun n t5 i wr => ∃ (j : Nat) (ov : Value), n + j = L.length ∧ i = .int .i64 j ∧ TK w (.slice va L.length cap) L j t5 ov wr)
  case atStart => exact ⟨0, _, by omega, rfl, HT0.out _ rfl⟩
  case round =>
    obtain ⟨j, ov, hj, rfl, hk⟩ := hrel
    obtain ⟨ta, tc, rfl, htc, -⟩ := own_shape hk.told
    obtain ⟨oa, oc, rfl, hoc⟩ := hk.out.shape
    have k0 := cell_of_heap hk.h0 0
    have k1 := cell_of_heap hk.h1 0
    have k2 := cell_of_heap hk.h2 0
    have f1 := fun i => frozen_of_heap hk.h1 i
    have f2 := fun i => frozen_of_heap hk.h2 i
    have l1 := heap_lt hk.h1
    have l2 := heap_lt hk.h2
    simp at k0 k1 k2
    have HK := Lib.hid hk
    have HJ := Lib.hid hj
    have hl0 := HL.out
    by_cases hlt : j < L.length
    · obtain ⟨b, cap', hv, hB, hb, hc⟩ := (HR.out.new hk.upd).cells (by omega)
      simp only [Value.slice.injEq] at hv
      obtain ⟨rfl, -, rfl⟩ := hv
      obtain ⟨c0, c1⟩ := hc j L[j] (List.getElem?_eq_getElem hlt)
      obtain ⟨hp1, hp2⟩ := HP.out L[j] (List.getElem_mem hlt)
      have b1 : (0 : Int) ≤ (j : Int) := by omega
      have b2 : (j : Int) < (L.length : Int) := by omega
      have htk : L.take (j + 1) = L.take j ++ [L[j]] := by rw [List.take_succ_eq_append_getElem hlt]
      have HTK := Lib.hid htk
      have hw1 : IntKind.u64.wrap (L[j].2 - 1) = L[j].2 - 1 := by rw [IntKind.wrap_u64]; omega
      obtain ⟨a0, ha0⟩ : ∃ a0, a0 = L[j].2 - 1 := ⟨_, rfl⟩
      have HA0 := Lib.hid ha0
      have HLT := Lib.hid hlt
      have HW := Lib.hid (show wrap64 ((j : Int) + 1) = ((j + 1 : Nat) : Int) from wrap_succ hl0 hlt)
      clear hc hj hk htk hl0
      by_cases ht : L[j].2 = 1
      · have q : (L[j].2 - 1 == 0) = true := by simp; omega
        go_wp2_with (at_builtin; refine Go.RowKit.Hid.out ?_)
        refine Lib.hid ?_
        have hu1 : Upd [] wr ((wr.alloc (.cells #[.int .i64 L[j].1, .int .u64 (L[j].2 - 1)] 86)).alloc (.cells #[.int .i64 L[j].1] 3)) := ((Upd.refl _ _).alloc _).alloc _
        have hk1 := HK.out.new hu1
        have HK1 := Lib.hid hk1
        have hle := rTold_le (L.take j)
        have HLE := Lib.hid (show (rTold (L.take j)).length ≤ 1000 by have := HL.out; rw [List.length_take] at hle; omega)
        have HSZ := Lib.hid hk1.upd.size
        clear hu1 hk1 hle
        refine wpList_append_reads rfl _ _ 41 rfl w.heap.size 3 ii _ 1 8 Try.underlying41 hii hii0 hii1 hii2 rfl (by decide) _ (rTold (L.take j)).length (i64s (rTold (L.take j))) rfl HK1.out.told (some ⟨wr.heap.size + 1, 0, none⟩) 1 1 [.int .i64 L[j].1] rfl rfl
          (fun _ => ⟨wr.heap.size + 1, 0, rfl, src_new (by simp)⟩) (fun h => by cases h) (fun u hu => by simp at hu; subst hu; rfl)
          (by have := HLE.out; simp only [maxLen]; omega) (by have := HLE.out; omega) HSZ.out ?_
        intro v2 w2 hown2 hgrow2
        have hk2 := HK1.out.told_step HLT.out ht hgrow2 hown2
        have HK2 := Lib.hid hk2
        clear hown2 hgrow2 hk2
        go_wp2
        go_roundg (L.length - (j + 1))
        case rel => exact ⟨j + 1, _, rd_measure2 HLT.out, by rw [HW.out], HK2.out⟩
        case measure => exact rd_measure HJ.out HLT.out
      · have q : (L[j].2 - 1 == 0) = false := by simp; omega
        go_wp2_with (at_builtin; refine Go.RowKit.Hid.out ?_)
        refine Lib.hid ?_
        have hu1 : Upd [] wr ((wr.alloc (.cells #[.int .i64 L[j].1, .int .u64 (L[j].2 - 1)] 86)).alloc (.cells #[.int .i64 L[j].1, .int .u64 (L[j].2 - 1)] 86)) := ((Upd.refl _ _).alloc _).alloc _
        have hk1 := HK.out.new hu1
        have HK1 := Lib.hid hk1
        have hle := rRest_le (L.take j)
        have HLE := Lib.hid (show (rRest (L.take j)).length ≤ 1000 by have := HL.out; rw [List.length_take] at hle; omega)
        have HSZ := Lib.hid hk1.upd.size
        clear hu1 hk1 hle
        refine wpList_append_reads rfl _ _ 28 rfl w.heap.size 86 ip _ 2 16 Try.underlying28 hip hi0 hi1 hi2 rfl (by decide) _ (rRest (L.take j)).length (pairs (rRest (L.take j))) rfl HK1.out.out (some ⟨wr.heap.size + 1, 0, none⟩) 1 1 [.int .i64 L[j].1, .int .u64 (L[j].2 - 1)] rfl rfl
          (fun _ => ⟨wr.heap.size + 1, 0, rfl, src_new (by simp)⟩) (fun h => by cases h) (fun u hu => by simp at hu; rcases hu with rfl | rfl <;> rfl)
          (by have := HLE.out; simp only [maxLen]; omega) (by have := HLE.out; omega) HSZ.out ?_
        intro v2 w2 hown2 hgrow2
        obtain ⟨g2, hk2⟩ := HK1.out.out_step HLT.out ht hgrow2 hown2
        have HK2 := Lib.hid hk2
        have s0 := cell_of_heap g2 0
        have s1 := fun i => frozen_of_heap g2 i
        have s2 := heap_lt g2
        obtain ⟨pa, pc, rfl, -, -⟩ := own_shape hown2
        simp at s0
        clear hown2 hgrow2 hk2 g2
        go_wp2
        go_roundg (L.length - (j + 1))
        case rel => exact ⟨j + 1, _, rd_measure2 HLT.out, by rw [HW.out], HK2.out⟩
        case measure => exact rd_measure HJ.out HLT.out
    · obtain rfl : j = L.length := by omega
      go_wp2
      refine ret_delta rfl (g := w.heap.size + 1) (t := 30) (fr := (0, 0)) (x := .slice oa (rRest L).length oc) rfl rfl rfl (hg := ?hg) ?_
      case hg =>
        repeat (first | (with_reducible exact HK.out.h1) | (with_reducible apply heap_set2))
        all_goals rfl
      have hk := HK.out
      have hko := hk.out
      have hkt := hk.told
      rw [List.take_length] at hko hkt
      have hs : Upd [w.heap.size + 1] wr (wr.setCell ⟨w.heap.size + 1, 0, none⟩ (.slice oa (rRest L).length oc)) := (Upd.refl _ _).setCell (by simp) _
      refine ⟨_, .slice ta (rTold L).length tc, (by
        show Ending.returned (.tuple #[.agg #[.slice oa (rRest L).length oc], .slice ta (rTold (L.take L.length)).length tc]) = _
        rw [List.take_length]), ?_, ?_, hk.upd.then hs (fun i hi => .inr (by simp at hi; omega))⟩
      · exact own_upd hko hs (fun k hk2 hm => by simp at hm; subst hm; exact own_ne hko hk.h1 (by decide) hk2)
      · exact own_upd hkt hs (fun k hk2 hm => by simp at hm; subst hm; exact own_ne hkt hk.h1 (by decide) hk2)
end Go.Proofs.Ytgmdhjlbedgafaa
