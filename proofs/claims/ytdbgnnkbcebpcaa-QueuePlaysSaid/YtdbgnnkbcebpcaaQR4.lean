/- The document's queue (ref25): Remove. -/
import Derived.Test.YtdbgnnkbcebpcaaQR3
set_option linter.unusedVariables false
set_option linter.unusedSimpArgs false
namespace Go.Proofs.Ytdbgnnkbcebpcaa
open Go.RowKit

section
variable {w : World} {v : Value} {L : List QW}
/-- What the document's Remove answers. -/
def RQRemPost (w : World) (t : Int) (L : List QW) (e : Ending) (w' : World) : Prop :=
  (∃ v', e = .returned (.tuple #[v', .agg (((L[(qpl t 0 L).toNat]?).getD .zero).A), .bool true]) ∧ 0 ≤ qpl t 0 L ∧ RQ 58 w' v' (L.eraseIdx (qpl t 0 L).toNat) ∨ e = .returned (.tuple #[v', .agg QW.zero.A, .bool false]) ∧ qpl t 0 L < 0 ∧ RQ 58 w' v' L) ∧ Upd [] w w'
set_option maxRecDepth 100000 in
set_option maxHeartbeats 4000000 in
theorem rqremove_c (t : Int) (h : RQ 58 w v L) (hl : L.length ≤ 1000) :
    Calls Try.prog 18 #[v, .int .i64 t] w (RQRemPost w t L) := by
  have HP := Lib.hid (fun (w1 : World) (hu : Upd [] w w1) => rqplace_c t (h.upd hu) hl)
  have HR := Lib.hid h
  have HL := Lib.hid hl
  have hbd := qpl_bounds t L 0
  obtain ⟨ip, hip, hi0, hi1, hi2⟩ := info_parts info_rwait
  unfold RQRemPost
  rcases hbd with hq | ⟨hq0, hq1⟩
  · obtain ⟨a, cap, rfl, -⟩ := h.shape
    rw [hq] at HP ⊢
    clear h hl hq
    go_enter Try.func18, Try.ntmps18
    go_wp2_with (go_at_call 24; refine (HP.out _ ((Upd.refl _ _).alloc _)).mono ?_; rintro e w1 ⟨rfl, hu⟩; obtain ⟨p1, rfl⟩ := hu.grown; clear hu)
    refine bodyPost_ret (v := .tuple #[.slice a L.length cap, .agg QW.zero.A, .bool false]) (by simp [results, Try.f18, go_sem, QW.A, QW.zero]) rfl ?_
    exact ⟨⟨_, .inr ⟨rfl, by omega, HR.out.upd (((Upd.refl [] w).alloc _).grE _)⟩⟩, ((Upd.refl [] w).alloc _).grE _⟩
  · obtain ⟨i, hi⟩ : ∃ i : Nat, qpl t 0 L = i := ⟨(qpl t 0 L).toNat, by omega⟩
    rw [hi] at HP hq1 ⊢
    have hlt : i < L.length := by omega
    obtain ⟨b, cap, rfl, hcl, hb, hc⟩ := h.at hlt
    rw [Int.toNat_natCast, List.getElem?_eq_getElem hlt]
    simp only [Option.getD_some]
    have c0 := hc 0 _ rfl
    have c1 := hc 1 _ rfl
    have c2 := hc 2 _ rfl
    have c3 := hc 3 _ rfl
    rw [Nat.add_zero] at c0
    have b1 : (0 : Int) ≤ (i : Int) := by omega
    have b2 : (i : Int) < (L.length : Int) := by omega
    have b3 : (i : Int) ≤ (cap : Int) := by omega
    have b4 : (i : Int) + 1 ≤ (L.length : Int) := by omega
    have b5 : (L.length : Int) ≤ (cap : Int) := by omega
    have b6 : (0 : Int) ≤ (i : Int) + 1 := by omega
    have d1 : decide ((i : Int) < 0) = false := by simp
    have hwj : IntKind.i64.wrap ((i : Int) + 1) = (i : Int) + 1 := by rw [IntKind.wrap_i64]; omega
    have hsrc : ∀ w', Upd [] w w' → ∀ j u, (flatW L)[j]? = some u → w'.cell? ⟨b, 0 + j, none⟩ = some u := fun w' hw' => by
      obtain ⟨b', off, e, hx⟩ := HR.out.src hw' (by omega)
      simp only [Option.some.injEq, Addr.mk.injEq, and_true] at e
      obtain ⟨rfl, rfl⟩ := e
      exact hx
    have hpl : flatW L = flatW (L.take i) ++ flatW (L.drop i) := by rw [← flatW_app, List.take_append_drop]
    have hpl2 : flatW L = flatW (L.take (i + 1)) ++ flatW (L.drop (i + 1)) := by rw [← flatW_app, List.take_append_drop]
    have hlt1 : (flatW (L.take i)).length = i * 4 := by rw [flatW_len, List.length_take, Nat.min_eq_left (by omega)]
    have hlt2 : (flatW (L.take (i + 1))).length = (i + 1) * 4 := by rw [flatW_len, List.length_take, Nat.min_eq_left (by omega)]
    have HS1 := Lib.hid (show ∀ w', Upd [] w w' → ∀ j u, (flatW (L.take i))[j]? = some u → w'.cell? ⟨b, 0 + j, none⟩ = some u from fun w' hw' j u hj => hsrc w' hw' j u (by
      rw [hpl, List.getElem?_append_left (List.getElem?_eq_some_iff.1 hj).1]; exact hj))
    have HS2 := Lib.hid (show ∀ w', Upd [] w w' → ∀ j u, (flatW (L.drop (i + 1)))[j]? = some u → w'.cell? ⟨b, (i + 1) * 4 + j, none⟩ = some u from fun w' hw' j u hj => by
      have := hsrc w' hw' ((i + 1) * 4 + j) u (by rw [hpl2, ← hlt2, List.getElem?_append_right (by omega), Nat.add_sub_cancel_left]; exact hj)
      rw [Nat.zero_add] at this
      exact this)
    have HT1 := Lib.hid hlt1
    have HT2 := Lib.hid (show (flatW (L.drop (i + 1))).length = (L.length - (i + 1)) * 4 by rw [flatW_len, List.length_drop])
    have HER := Lib.hid (show L.eraseIdx i = L.take i ++ L.drop (i + 1) from List.eraseIdx_eq_take_drop_succ L i)
    have HLT := Lib.hid hlt
    have HZ0 := Lib.hid (show ∀ w', Upd [] w w' → w'.cell? ⟨b, i * 4, none⟩ = some (.int .i64 L[i].t) ∧ w'.cell? ⟨b, i * 4 + 1, none⟩ = some (.int .i64 L[i].k) ∧ w'.cell? ⟨b, i * 4 + 2, none⟩ = some (.int .i64 L[i].o) ∧ w'.cell? ⟨b, i * 4 + 3, none⟩ = some (.int .u32 L[i].m) from fun w' hw' => ⟨(hw'.cell (p := ⟨b, _, none⟩) hb (by simp)).trans c0, (hw'.cell (p := ⟨b, _, none⟩) hb (by simp)).trans c1, (hw'.cell (p := ⟨b, _, none⟩) hb (by simp)).trans c2, (hw'.cell (p := ⟨b, _, none⟩) hb (by simp)).trans c3⟩)
    generalize L[i] = z at *
    obtain ⟨z0, z1, z2, z3⟩ := z
    simp only at c0 c1 c2 c3 HZ0
    clear hc hsrc hpl hpl2 hlt1 hlt2 hlt h hl hi hq0 hq1 hcl
    go_enter Try.func18, Try.ntmps18
    go_wp2_with (go_at_call 24; refine (HP.out _ ((Upd.refl _ _).alloc _)).mono ?_; rintro e w1 ⟨rfl, hu⟩; obtain ⟨p1, rfl⟩ := hu.grown; clear hu)
    generalize hX : gr (w.alloc (.cells #[.int .i64 0, .int .i64 0, .int .i64 0, .int .u32 0] 58)) p1 = X
    have hBX : X.heap[w.heap.size]? = some (.cells [.int .i64 0, .int .i64 0, .int .i64 0, .int .u32 0].toArray 58) := by rw [← hX]; exact heap_grE (heap_alloc_new w _)
    have HBX := Lib.hid hBX
    have HUX := Lib.hid (show Upd [] w X by rw [← hX]; exact ((Upd.refl [] w).alloc _).grE p1)
    have hlX := heap_lt hBX
    have HLX := Lib.hid hlX
    have hbX : b < X.heap.size := Nat.lt_of_lt_of_le hb HUX.out.size
    obtain ⟨c0, c1, c2, c3⟩ := HZ0.out _ HUX.out
    clear hX hBX
    have HE := Lib.hid (show Upd [] X (X.drew.alloc (.cells #[] 58)) from (Upd.refl [] X).drew.alloc _)
    have HOE := Lib.hid (show (X.drew.alloc (.cells #[] 58)).ownsRow X.heap.size 58 4 (.slice (some ⟨X.heap.size, 0, none⟩) 0 0) 0 [] from own_empty' (Nat.le_refl _) rfl)
    go_region_held3 (fun w' => w'.cell? ⟨b, i * 4, none⟩ = some (.int .i64 z0) ∧ w'.cell? ⟨b, i * 4 + 1, none⟩ = some (.int .i64 z1) ∧ w'.cell? ⟨b, i * 4 + 2, none⟩ = some (.int .i64 z2) ∧ w'.cell? ⟨b, i * 4 + 3, none⟩ = some (.int .u32 z3))
      (((try dsimp only); (repeat' apply And.intro) <;> (repeat (first | (with_reducible assumption) | (with_reducible apply cell_allocE) | (with_reducible apply cell_drewE) | (with_reducible refine cell_setE (by omega) ?_)))))
      (first
        | (refine step_append_reads rfl (.tmp 15) (.tmp 18) 57 rfl X.heap.size 58 ip _ 4 32 Try.underlying57 hip hi0 hi1 hi2 rfl (by decide) _ 0 [] rfl HOE.out (some ⟨b, 0, none⟩) i cap (flatW (L.take i)) rfl HT1.out (fun _ => ⟨b, 0, rfl, HS1.out _ (HUX.out.trans HE.out)⟩) (fun h => by cases h) (flatW_one _) (by have := HL.out; have := HLT.out; simp only [maxLen]; omega) (by have := HL.out; have := HLT.out; omega) HE.out.size ?_
           intro p2 c2 w2 hp2 hown2 hgrow2
           simp only [Nat.zero_add, List.nil_append] at hown2 ⊢
           replace hgrow2 : (X.drew.alloc (.cells #[] 58)).grownBy w2 (Value.slice (some ⟨X.heap.size, 0, none⟩) 0 0).ownBlock := hgrow2
           have HU2 := Lib.hid (own_start HE.out HOE.out hgrow2 (Nat.le_refl _))
           have HOWN2 := Lib.hid hown2
           have hz2 := HZ0.out _ (HUX.out.trans HU2.out)
           obtain ⟨y0, y1, y2, y3⟩ := hz2
           clear hown2 hgrow2)
        | (refine step_append_reads rfl (.tmp 19) (.tmp 23) 57 rfl X.heap.size 58 ip _ 4 32 Try.underlying57 hip hi0 hi1 hi2 rfl (by decide) _ i (flatW (L.take i)) rfl HOWN2.out _ (L.length - (i + 1)) (cap - (i + 1)) (flatW (L.drop (i + 1))) rfl HT2.out (fun h0 => ⟨b, (i + 1) * 4, by rw [if_neg (by omega)], HS2.out _ (HUX.out.trans HU2.out)⟩) (fun h => by exfalso; revert h; split <;> simp) (flatW_one _) (by have := HL.out; have := HLT.out; simp only [maxLen]; omega) (by have := HL.out; have := HLT.out; omega) (by have := HU2.out.size; exact this) ?_
           intro p3 c3 w3 hp3 hown3 hgrow3
           replace hgrow3 : w2.grownBy w3 (Value.slice p2 i c2).ownBlock := hgrow3
           have HU3 := Lib.hid (own_start HU2.out HOWN2.out hgrow3 (Nat.le_refl _))
           have HOWN3 := Lib.hid hown3
           have hz3 := HZ0.out _ (HUX.out.trans HU3.out)
           obtain ⟨x0, x1, x2, x3⟩ := hz3
           have hbx3 := HU3.out.keepb HBX.out (by simp)
           have g0 := cell_of_heap hbx3 0
           have g1 := cell_of_heap hbx3 1
           have g2 := cell_of_heap hbx3 2
           have g3 := cell_of_heap hbx3 3
           have gf := fun j => frozen_of_heap hbx3 j
           have lb3 := heap_lt hbx3
           simp at g0 g1 g2 g3
           clear hown3 hgrow3 hbx3))
    all_goals
      go_wp2
      all_goals
        refine bodyPost_ret (v := .tuple #[.slice p3 (i + (L.length - (i + 1))) c3, .agg (QW.mk z0 z1 z2 z3).A, .bool true]) (by simp [results, Try.f18, go_sem, QW.A, g0, g1, g2, g3, lb3]) rfl ?_
        refine ⟨⟨_, .inl ⟨rfl, ?_⟩⟩, (((((HUX.out.trans HU3.out).setB (.inr (Nat.le_refl _))).setB (.inr (Nat.le_refl _))).setB (.inr (Nat.le_refl _))).setB (.inr (Nat.le_refl _)))⟩
        rw [HER.out]
        have hus : Upd [w.heap.size] w3 ((((w3.setCell ⟨w.heap.size, 0, none⟩ (.int .i64 z0)).setCell ⟨w.heap.size, 1, none⟩ (.int .i64 z1)).setCell ⟨w.heap.size, 2, none⟩ (.int .i64 z2)).setCell ⟨w.heap.size, 3, none⟩ (.int .u32 z3)) := (((((Upd.refl _ w3).setB (.inl (by simp))).setB (.inl (by simp))).setB (.inl (by simp))).setB (.inl (by simp)))
        have ho := own_upd HOWN3.out hus (fun k hk hm => by
          simp at hm
          subst hm
          have := own_base HOWN3.out _ hk
          have := HLX.out
          omega)
        have hlen : (L.take i ++ L.drop (i + 1)).length = i + (L.length - (i + 1)) := by have := HLT.out; simp; omega
        unfold RQ
        rw [hlen, flatW_app]
        exact World.ownsRow.mono ho (Nat.zero_le _)
end
end Go.Proofs.Ytdbgnnkbcebpcaa
