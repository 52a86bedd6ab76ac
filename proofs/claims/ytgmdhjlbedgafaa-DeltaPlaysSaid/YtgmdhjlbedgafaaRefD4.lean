/- Package ref24: the document's List. -/
import Derived.Test.YtgmdhjlbedgafaaRefD3
import Derived.Test.YtgmdhjlbedgafaaOwn3
import Derived.Deep.CutRange
import Derived.Deep.CutBlock
set_option linter.unusedVariables false
set_option linter.unusedSimpArgs false
namespace Go.Proofs.Ytgmdhjlbedgafaa
open Go.RowKit

/-- Where a number of ticks goes: behind all that are no more. -/
def rScan (a : Int) (l : List (Int × Int)) : Nat → Nat
  | 0 => 0
  | k + 1 => if a < (l[k]?.getD (0, 0)).2 then rScan a l k else k + 1
theorem rScan_le (a : Int) (l : List (Int × Int)) : ∀ k, rScan a l k ≤ k
  | 0 => Nat.le_refl _
  | k + 1 => by unfold rScan; split; · exact Nat.le_succ_of_le (rScan_le a l k)
                · exact Nat.le_refl _
def rIns (l : List (Int × Int)) (x : Int × Int) : List (Int × Int) := l.take (rScan x.2 l l.length) ++ x :: l.drop (rScan x.2 l l.length)
theorem rIns_length (l : List (Int × Int)) (x : Int × Int) : (rIns l x).length = l.length + 1 := by
  have := rScan_le x.2 l l.length
  simp [rIns]; omega
def rSort (L : List (Int × Int)) : List (Int × Int) := L.foldl rIns []
theorem rSort_snoc (L : List (Int × Int)) (x : Int × Int) : rSort (L ++ [x]) = rIns (rSort L) x := by simp [rSort]
theorem rSort_length (L : List (Int × Int)) : (rSort L).length = L.length := by
  have : ∀ (L acc : List (Int × Int)), (L.foldl rIns acc).length = acc.length + L.length := by
    intro L
    induction L with
    | nil => intro acc; rfl
    | cons x xs ih => intro acc; rw [List.foldl_cons, ih, rIns_length]; simp; omega
  have := this L []
  simp only [List.length_nil, Nat.zero_add] at this
  exact this

theorem rd_take {w w' : World} {B cap A : Nat} {la : Option Addr} {M : List (Int × Int)} (h : RD w B (.slice la M.length cap) M) (hu : Upd [] w w') (hA : A ≤ M.length) :
    0 < A → ∃ b off, la = some ⟨b, off, none⟩ ∧ ∀ i u, (pairs (M.take A))[i]? = some u → w'.cell? ⟨b, off + i, none⟩ = some u := fun h0 => by
  obtain ⟨b, off, e, hc⟩ := h.src hu (by omega)
  refine ⟨b, off, e, fun i u hi => hc i u ?_⟩
  have hp : pairs M = pairs (M.take A) ++ pairs (M.drop A) := by rw [← pairs_append, List.take_append_drop]
  rw [hp, List.getElem?_append_left (List.getElem?_eq_some_iff.1 hi).1]
  exact hi
theorem rd_drop {w w' : World} {B cap A : Nat} {la : Option Addr} {M : List (Int × Int)} (h : RD w B (.slice la M.length cap) M) (hu : Upd [] w w') (hA : A ≤ M.length) (hc : M.length ≤ cap) :
    0 < M.length - A → ∃ b off, (if cap = A then la else Option.map (fun x => x.add (A * 2)) la) = some ⟨b, off, none⟩ ∧ ∀ i u, (pairs (M.drop A))[i]? = some u → w'.cell? ⟨b, off + i, none⟩ = some u := fun h0 => by
  obtain ⟨b, off, rfl, hc⟩ := h.src hu (by omega)
  refine ⟨b, off + A * 2, ?_, fun i u hi => ?_⟩
  · rw [if_neg (by omega)]
    simp only [Option.map_some]
    unfold Addr.add
    split <;> simp_all
  · have hp : pairs M = pairs (M.take A) ++ pairs (M.drop A) := by rw [← pairs_append, List.take_append_drop]
    have hl : (pairs (M.take A)).length = A * 2 := by rw [pairs_length, List.length_take, Nat.min_eq_left hA]
    rw [Nat.add_assoc]
    refine hc _ u ?_
    rw [hp, ← hl, List.getElem?_append_right (by omega), Nat.add_sub_cancel_left]
    exact hi
theorem rd_none {cap A : Nat} {la : Option Addr} (h : la = none → cap = 0) : (if cap = A then la else Option.map (fun x : Addr => x.add (A * 2)) la) = none → cap - A = 0 := by
  split
  · intro _; omega
  · intro e
    have : la = none := by cases la <;> simp_all
    have := h this
    omega
theorem own_one {w : World} {base g : Nat} {t : TypeId} {x y : Value} (hb : base ≤ w.heap.size) (hg : g = w.heap.size) : (w.alloc (.cells #[x, y] t)).ownsRow base t 2 (.slice (some ⟨g, 0, none⟩) 1 1) 1 [x, y] := by
  subst hg
  exact ⟨rfl, .inr ⟨_, 1, _, rfl, hb, heap_alloc_new _ _, Nat.le_refl _, by simp only [maxLen]; omega, rfl, rfl⟩⟩

theorem own_cells0 {w : World} {base g n cap size : Nat} {e : TypeId} {xs : List Value} (h : w.ownsRow base e size (.slice (some ⟨g, 0, none⟩) n cap) n xs) : ∀ j u, xs[j]? = some u → w.cell? ⟨g, 0 + j, none⟩ = some u := fun j u hj => by
  have := h.cells (g := g) rfl j u hj
  have hadd : (⟨g, 0, none⟩ : Addr).add j = ⟨g, j, none⟩ := by unfold Addr.add; split <;> simp_all
  rw [hadd] at this
  rw [Nat.zero_add]
  exact this
theorem one_pairs {x y : Value} {M : List (Int × Int)} (hx : x.oneCell' = true) (hy : y.oneCell' = true) : ∀ u ∈ [x, y] ++ pairs M, u.oneCell' = true := by
  intro u hu
  simp only [List.cons_append, List.nil_append, List.mem_cons] at hu
  rcases hu with rfl | rfl | hu
  · exact hx
  · exact hy
  · exact pairs_one _ u hu

structure LK (w : World) (v : Value) (L : List (Int × Int)) (j : Nat) (lv : Value) (wr : World) : Prop where
  row : RD wr w.heap.size lv (rSort (L.take j))
  h0 : wr.heap[w.heap.size]? = some (.cells [v].toArray 30 (0, 0))
  upd : Upd [] w wr
theorem LK.step {w wr w3 : World} {v lv lv3 : Value} {L M : List (Int × Int)} {j A : Nat} {x : Int × Int} (h : LK w v L j lv wr) (hM : rSort (L.take (j + 1)) = M.take A ++ x :: M.drop A) (hA : A ≤ M.length) (hu : Upd [] wr w3)
    (ho : w3.ownsRow w.heap.size 86 2 lv3 (A + (1 + (M.length - A))) (pairs (M.take A) ++ ([.int .i64 x.1, .int .u64 x.2] ++ pairs (M.drop A)))) : LK w v L (j + 1) lv3 w3 := by
  refine ⟨?_, hu.keepb h.h0 (by simp), h.upd.trans hu⟩
  rw [hM]
  unfold RD
  rw [pairs_append, pairs_cons, List.length_append, List.length_cons, List.length_take, List.length_drop, Nat.min_eq_left hA, Nat.add_comm (M.length - A) 1]
  exact ho
/-- The third loop. -/
structure LK2 (w : World) (lv : Value) (M : List (Int × Int)) (j : Nat) (tv : Value) (wr : World) : Prop where
  told : wr.ownsRow w.heap.size 3 1 tv j (i64s ((M.take j).map (·.1)))
  row : RD wr w.heap.size lv M
  upd : Upd [] w wr
theorem LK2.new {w wr W : World} {lv tv : Value} {M : List (Int × Int)} {j : Nat} (h : LK2 w lv M j tv wr) (hu : Upd [] wr W) : LK2 w lv M j tv W := ⟨own_upd h.told hu (fun _ _ hm => by cases hm), h.row.new hu, h.upd.trans hu⟩
theorem LK2.step {w W w2 : World} {lv tv tv2 : Value} {M : List (Int × Int)} {j : Nat} (h : LK2 w lv M j tv W) (hlt : j < M.length) (hg : W.grownBy w2 tv.ownBlock)
    (ho : w2.ownsRow w.heap.size 3 1 tv2 (j + 1) (i64s ((M.take j).map (·.1)) ++ [.int .i64 M[j].1])) : LK2 w lv M (j + 1) tv2 w2 := by
  have hb := own_base h.told
  refine ⟨?_, own_upd h.row (upd_grown hg) (fun k hk hm => own_disj h.row h.told (by decide) k hk (Option.mem_toList.1 hm)), h.upd.then (upd_grown hg) (fun i hi => .inr (hb i (Option.mem_toList.1 hi)))⟩
  rw [List.take_succ_eq_append_getElem hlt, List.map_append]
  unfold i64s at ho ⊢
  rw [List.map_append]
  exact ho

set_option maxRecDepth 100000 in
set_option maxHeartbeats 2000000 in
theorem rd_list {w : World} {B : Nat} {v : Value} {L : List (Int × Int)} (h : RD w B v L) (hl : L.length ≤ 1000) :
    Calls Try.prog 17 #[.agg #[v]] w fun e w' => ∃ tv, e = .returned tv ∧ w'.ownsRow w.heap.size 3 1 tv L.length (i64s ((rSort L).map (·.1))) ∧ Upd [] w w' := by
  obtain ⟨va, cap, rfl, -⟩ := h.shape
  have HR := Lib.hid h
  have HL := Lib.hid hl
  have HT0 := Lib.hid (show ∀ wr, wr = w.alloc (.cells #[.slice va L.length cap] 30) → LK w (.slice va L.length cap) L 0 (.slice none 0 0) wr from fun wr e => by
    subst e
    exact ⟨own_nil2, heap_alloc_new w _, (Upd.refl _ _).alloc _⟩)
  obtain ⟨ip, hip, hi0, hi1, hi2⟩ := info_parts info_one
  obtain ⟨ii, hii, hii0, hii1, hii2⟩ := info_parts info_int
  clear h hl
  go_enter Try.func17, Try.ntmps17
  go_wp2
  go_loopg [3, 4] L.length (fun n lv i wr => ∃ (j : Nat), n + j = L.length ∧ i = .int .i64 j ∧ LK w (.slice va L.length cap) L j lv wr)
  case atStart => exact ⟨0, by omega, rfl, HT0.out _ rfl⟩
  case round =>
    obtain ⟨j, hj, rfl, hk⟩ := hrel
    have hrow := hk.row
    obtain ⟨M, hM⟩ : ∃ M, M = rSort (L.take j) := ⟨_, rfl⟩
    rw [← hM] at hrow
    obtain ⟨la, lc, rfl, hlc⟩ := hrow.shape
    have k0 := cell_of_heap hk.h0 0
    simp at k0
    have hl0 := HL.out
    have HK := Lib.hid hk
    have HJ := Lib.hid hj
    have HROW := Lib.hid hrow
    have hML : M.length = min j L.length := by rw [hM, rSort_length, List.length_take]
    by_cases hlt : j < L.length
    · have hML' : M.length = j := by omega
      have HM1 := Lib.hid (show rSort (L.take (j + 1)) = rIns M L[j] by rw [List.take_succ_eq_append_getElem hlt, rSort_snoc, hM])
      obtain ⟨b, cap', hv, hB, hb, hc⟩ := (HR.out.new hk.upd).cells (by omega)
      simp only [Value.slice.injEq] at hv
      obtain ⟨rfl, -, rfl⟩ := hv
      obtain ⟨c0, c1⟩ := hc j L[j] (List.getElem?_eq_getElem hlt)
      have b1 : (0 : Int) ≤ (j : Int) := by omega
      have b2 : (j : Int) < (L.length : Int) := by omega
      have HLT := Lib.hid hlt
      have HW := Lib.hid (show wrap64 ((j : Int) + 1) = ((j + 1 : Nat) : Int) from wrap_succ hl0 hlt)
      have HML := Lib.hid hML'
      clear hc hj hk hrow hM hML hML'
      go_upto_block 2 with fail
      go_cut [5] from 8 to 50 (fun a w' => a = .int .i64 (rScan L[j].2 M M.length) ∧ ∃ m, w' = wr.drewN m)
      case first =>
        go_wp2_with fail
        go_loopg [5] M.length (fun n a w' => ∃ k m : Nat, n = k ∧ k ≤ M.length ∧ a = .int .i64 k ∧ rScan L[j].2 M M.length = rScan L[j].2 M k ∧ w' = wr.drewN m)
        case atStart => exact ⟨_, 0, rfl, Nat.le_refl _, rfl, rfl, rfl⟩
        case round =>
          obtain ⟨k, m, hgk, hn, rfl, hs, rfl⟩ := hrel
          have HS := Lib.hid hs
          have HGK := Lib.hid hgk
          clear hs hgk
          rcases k with _ | k
          · have d0 : decide ((0 : Int) < ((0 : Nat) : Int)) = false := by simp
            go_wp2_with fail
            go_quiet (fail)
            go_wp2
            go_meet
            exact ⟨by rw [HS.out]; rfl, _, by first | rfl | exact World.drewN_drewN _ _ _⟩
          · obtain ⟨g, gc, hv, hgB, hgl, hgc⟩ := HROW.out.cells (by omega)
            simp only [Value.slice.injEq] at hv
            obtain ⟨rfl, -, rfl⟩ := hv
            obtain ⟨e0, e1⟩ := hgc k M[k] (List.getElem?_eq_getElem (by omega))
            have d0 : decide ((0 : Int) < ((k + 1 : Nat) : Int)) = true := by simp
            have d1 : (0 : Int) ≤ (k : Int) := by omega
            have d2 : (k : Int) < (M.length : Int) := by omega
            have hsk : rScan L[j].2 M (k + 1) = if L[j].2 < M[k].2 then rScan L[j].2 M k else k + 1 := by
              show (if L[j].2 < (M[k]?.getD (0, 0)).2 then _ else _) = _
              rw [List.getElem?_eq_getElem (by omega)]; rfl
            have HSK := Lib.hid hsk
            have hw : IntKind.i64.wrap (k : Int) = (k : Int) := by rw [IntKind.wrap_i64]; have := HML.out; omega
            clear hgc hsk
            by_cases hgt : L[j].2 < M[k].2
            · have d3 : decide (L[j].2 < M[k].2) = true := by simpa using hgt
              go_wp2_with fail
              go_quiet (fail)
              go_wp2
              go_roundg k
              case rel => exact ⟨k, _, rfl, by omega, by go_num, by rw [HS.out, HSK.out, if_pos hgt], by first | rfl | exact World.drewN_drewN _ _ _⟩
              case measure => have := HGK.out; omega
            · have d3 : decide (L[j].2 < M[k].2) = false := by simpa using hgt
              go_wp2_with fail
              go_quiet (fail)
              go_wp2
              go_meet
              exact ⟨by rw [HS.out, HSK.out, if_neg (Int.not_lt.2 hgt)]; rfl, _, by first | rfl | exact World.drewN_drewN _ _ _⟩
      case rest =>
        obtain ⟨rfl, m, rfl⟩ := hcut
        have hA := rScan_le L[j].2 M M.length
        obtain ⟨A, hA0⟩ : ∃ A, A = rScan L[j].2 M M.length := ⟨_, rfl⟩
        have HM2 := Lib.hid (show rSort (L.take (j + 1)) = M.take A ++ L[j] :: M.drop A by rw [HM1.out, hA0]; rfl)
        rw [← hA0] at hA ⊢
        have a1 : (0 : Int) ≤ (A : Int) := by omega
        have a2 : (A : Int) ≤ (M.length : Int) := by omega
        have hcl : M.length ≤ lc := by
          rcases HROW.out.2 with ⟨e, e0⟩ | ⟨g, cap', cur, e, -, hg, hx⟩
          · simp only [Value.slice.injEq] at e; omega
          · simp only [Value.slice.injEq] at e; obtain ⟨-, -, rfl⟩ := e; exact hx.1
        have a3 : (A : Int) ≤ (lc : Int) := by omega
        have a4 : (M.length : Int) ≤ (lc : Int) := by omega
        have HA := Lib.hid hA
        clear hA0 hA HM1
        go_wp2_with fail
        have HUA := Lib.hid (show Upd [] wr ((wr.drewN (m + 1)).alloc (.cells #[.int .i64 L[j].1, .int .u64 L[j].2] 86)) from ((Upd.refl _ _).drewN _).alloc _)
        have HOA := Lib.hid (show ((wr.drewN (m + 1)).alloc (.cells #[.int .i64 L[j].1, .int .u64 L[j].2] 86)).ownsRow wr.heap.size 86 2 (.slice (some ⟨wr.heap.size, 0, none⟩) 1 1) 1 [.int .i64 L[j].1, .int .u64 L[j].2] from own_one (Nat.le_refl _) rfl)
        have HCL := Lib.hid hcl
        have HCN := Lib.hid hlc
        have lk := Lib.hid (show w.heap.size < wr.heap.size from heap_lt HK.out.h0)
        have hbr := Lib.hid (show b < wr.heap.size from hb)
        have K0 := Lib.hid k0
        have C0 := Lib.hid c0
        have C1 := Lib.hid c1
        go_region_held3 (fun w' => w'.cell? ⟨w.heap.size, 0, none⟩ = some (.slice (some ⟨b, 0, none⟩) L.length cap) ∧ w'.cell? ⟨b, j * 2, none⟩ = some (.int .i64 L[j].1) ∧ w'.cell? ⟨b, j * 2 + 1, none⟩ = some (.int .u64 L[j].2))
          (((try dsimp only); (repeat' apply And.intro) <;> (repeat (first | (with_reducible assumption) | (with_reducible apply cell_allocE) | (with_reducible apply cell_drewE) | (with_reducible apply cell_drewNE) | (with_reducible refine cell_setE (by omega) ?_) | (exact c0) | (exact c1)))))
          (first
            | (refine step_append_reads rfl (.tmp 45) (.tmp 48) 28 rfl wr.heap.size 86 ip _ 2 16 Try.underlying28 hip hi0 hi1 hi2 rfl (by decide) _ 1 _ rfl HOA.out _ (M.length - A) (lc - A) (pairs (M.drop A)) rfl (by rw [pairs_length, List.length_drop]) (rd_drop HROW.out HUA.out HA.out HCL.out) (rd_none HCN.out) (pairs_one _) (by have := HML.out; have := HL.out; simp only [maxLen]; omega) (by have := HML.out; have := HL.out; omega) HUA.out.size ?_
               intro p2 c2 w2 hp2 hown2 hgrow2
               replace hgrow2 : ((wr.drewN (m + 1)).alloc (.cells #[.int .i64 L[j].1, .int .u64 L[j].2] 86)).grownBy w2 (Value.slice (some ⟨wr.heap.size, 0, none⟩) 1 1).ownBlock := hgrow2
               obtain ⟨g2, c2', e2, hg2, hg2l⟩ := own_some hown2 (by omega)
               simp only [Value.slice.injEq, true_and] at e2
               obtain ⟨rfl, rfl⟩ := e2
               obtain ⟨S2, hS2, hu2⟩ := grow_upd HOA.out hgrow2
               have HU2 := Lib.hid (HUA.out.then hu2 (fun k hk => .inr (hS2 k hk)))
               have HOWN2 := Lib.hid hown2
               have s0 : w2.cell? ⟨w.heap.size, 0, none⟩ = some (.slice (some ⟨b, 0, none⟩) L.length cap) := (HU2.out.cell (p := ⟨_, _, none⟩) lk.out (by simp)).trans K0.out
               have s1 : w2.cell? ⟨b, j * 2, none⟩ = some (.int .i64 L[j].1) := (HU2.out.cell (p := ⟨_, _, none⟩) hbr.out (by simp)).trans C0.out
               have s2 : w2.cell? ⟨b, j * 2 + 1, none⟩ = some (.int .u64 L[j].2) := (HU2.out.cell (p := ⟨_, _, none⟩) hbr.out (by simp)).trans C1.out
               clear hown2 hgrow2 hu2)
            | (refine step_append_full rfl (.tmp 39) (.tmp 49) 28 rfl w.heap.size 86 ip _ 2 16 Try.underlying28 hip hi0 hi1 hi2 rfl (by decide) la A (pairs (M.take A)) rfl (by rw [pairs_length, List.length_take, Nat.min_eq_left HA.out]) (rd_take HROW.out HU2.out HA.out) g2 0 (1 + (M.length - A)) c2 ([.int .i64 L[j].1, .int .u64 L[j].2] ++ pairs (M.drop A)) rfl (by omega) (by simp [pairs_length]; omega) (own_cells0 HOWN2.out) (one_pairs rfl rfl) (by have := HML.out; have := HL.out; have := HA.out; omega) (by omega) (by have := HU2.out.size; have := lk.out; omega) ?_
               intro g3 c3 w3 hg3 hown3 hu3
               have HU3 := Lib.hid (HU2.out.trans hu3)
               have HOWN3 := Lib.hid hown3
               have s0' : w3.cell? ⟨w.heap.size, 0, none⟩ = some (.slice (some ⟨b, 0, none⟩) L.length cap) := (HU3.out.cell (p := ⟨_, _, none⟩) lk.out (by simp)).trans K0.out
               have s1' : w3.cell? ⟨b, j * 2, none⟩ = some (.int .i64 L[j].1) := (HU3.out.cell (p := ⟨_, _, none⟩) hbr.out (by simp)).trans C0.out
               have s2' : w3.cell? ⟨b, j * 2 + 1, none⟩ = some (.int .u64 L[j].2) := (HU3.out.cell (p := ⟨_, _, none⟩) hbr.out (by simp)).trans C1.out
               clear hown3 hu3 hg3))
        go_wp2_with fail
        all_goals
          have HLK := Lib.hid (LK.step HK.out HM2.out HA.out HU3.out HOWN3.out)
          go_roundg (L.length - (j + 1))
          case rel => exact ⟨j + 1, rd_measure2 HLT.out, by first | rw [HW.out] | rfl, HLK.out⟩
          case measure => exact rd_measure HJ.out HLT.out
    · obtain rfl : j = L.length := by omega
      rw [List.take_length] at hM
      have HMS := Lib.hid hM
      have hmn : M.length = L.length := by omega
      have HMN := Lib.hid hmn
      have HT2 := Lib.hid (show LK2 w (.slice la M.length lc) M 0 (.slice none 0 0) wr from ⟨own_nil2, hrow, hk.upd⟩)
      clear hM hk hrow hML hmn
      go_wp2_with fail
      go_loopg [6, 7] M.length (fun n tv i w' => ∃ (k : Nat), n + k = M.length ∧ i = .int .i64 k ∧ LK2 w (.slice la M.length lc) M k tv w')
      case atStart => exact ⟨0, by omega, rfl, HT2.out⟩
      case round =>
        obtain ⟨k, hk, rfl, hk2⟩ := hrel
        obtain ⟨ta, tc, rfl, htc, -⟩ := own_shape hk2.told
        have HK2 := Lib.hid hk2
        have HKK := Lib.hid hk
        by_cases hlt : k < M.length
        · obtain ⟨g, gc, hv, hgB, hgl, hgc⟩ := hk2.row.cells (by omega)
          simp only [Value.slice.injEq] at hv
          obtain ⟨rfl, -, rfl⟩ := hv
          obtain ⟨e0, e1⟩ := hgc k M[k] (List.getElem?_eq_getElem hlt)
          have b1 : (0 : Int) ≤ (k : Int) := by omega
          have b2 : (k : Int) < (M.length : Int) := by omega
          have HLT := Lib.hid hlt
          have HW := Lib.hid (show wrap64 ((k : Int) + 1) = ((k + 1 : Nat) : Int) from wrap_succ (by have := HL.out; have := HMN.out; omega) hlt)
          have HX := Lib.hid (HK2.out.new ((Upd.refl _ _).alloc (.cells #[.int .i64 M[k].1] 3)))
          clear hgc hk hk2
          go_wp2_with (at_builtin; refine Go.RowKit.Hid.out ?_)
          refine Lib.hid ?_
          refine wpList_append_reads rfl _ _ 41 rfl w.heap.size 3 ii _ 1 8 Try.underlying41 hii hii0 hii1 hii2 rfl (by decide) _ k _ rfl HX.out.told (some ⟨wr.heap.size, 0, none⟩) 1 1 [.int .i64 M[k].1] rfl rfl
            (fun _ => ⟨wr.heap.size, 0, rfl, src_new rfl⟩) (fun h => by cases h) (fun u hu => by simp at hu; subst hu; rfl)
            (by have := HL.out; have := HMN.out; have := HLT.out; simp only [maxLen]; omega) (by have := HL.out; have := HMN.out; have := HLT.out; omega) HX.out.upd.size ?_
          intro v2 w2 hown2 hgrow2
          have HK3 := Lib.hid (HX.out.step HLT.out hgrow2 hown2)
          clear hown2 hgrow2
          go_wp2
          go_roundg (M.length - (k + 1))
          case rel => exact ⟨k + 1, rd_measure2 HLT.out, by first | rw [HW.out] | rfl, HK3.out⟩
          case measure => exact rd_measure HKK.out HLT.out
        · obtain rfl : k = M.length := by omega
          go_wp2
          go_ret
          have ht := HK2.out.told
          rw [List.take_length] at ht
          rw [← HMS.out, ← HMN.out]
          exact ⟨_, rfl, ht, HK2.out.upd⟩
end Go.Proofs.Ytgmdhjlbedgafaa
