/- Package ref24: the document's Remove. -/
import Derived.Test.YtgmdhjlbedgafaaRefD1
import Derived.Test.YtgmdhjlbedgafaaOwn2
set_option linter.unusedVariables false
set_option linter.unusedSimpArgs false
namespace Go.Proofs.Ytgmdhjlbedgafaa
open Go.RowKit

/-- A document's Delta, and two more. -/
theorem ret_delta2 {fn : Func} {p q r : Tmp} (h : fn.results = #[.cell p 30, .tmp q, .tmp r]) {R : Ending → World → Prop} {a : Act} {w : World} {g : Nat} {t : TypeId} {fr : Nat × Nat} {x v u : Value}
    (hp : a.tmps.getD p undef = .pointer (some ⟨g, 0, none⟩)) (hq : a.tmps.getD q undef = v) (hr : a.tmps.getD r undef = u) (hd : a.defers = []) (hg : w.heap[g]? = some (.cells [x].toArray t fr)) (hR : R (.returned (.tuple #[.agg #[x], v, u])) w) : bodyPost Try.prog fn R .ret a w :=
  bodyPost_ret (results_cell_tmp2 h _ _ g t _ fr _ v u hp hq hr hg Try.underlying30 rfl (info_delta1 x)) hd hR

set_option maxRecDepth 100000 in
set_option maxHeartbeats 1000000 in
theorem rd_remove_none {w : World} {B : Nat} {v : Value} {L : List (Int × Int)} (t : Int) (h : RD w B v L) (hl : L.length ≤ 1000) (hn : plI t 0 L = -1) :
    Calls Try.prog 9 #[.agg #[v], .int .i64 t] w fun e w' => e = .returned (.tuple #[.agg #[v], .int .u32 0, .bool false]) ∧ Upd [] w w' := by
  obtain ⟨va, cap, rfl, hcap⟩ := h.shape
  have hz0 : ((w.alloc (.cells #[.slice va L.length cap] 30)).alloc (.cells #[.slice none 0 0] 30)).heap[w.heap.size + 1]? = some (.cells #[.slice none 0 0] 30 (0, 0)) := heap_alloc_at _ (by simp)
  have hb0 : ((w.alloc (.cells #[.slice va L.length cap] 30)).alloc (.cells #[.slice none 0 0] 30)).heap[w.heap.size]? = some (.cells #[.slice va L.length cap] 30 (0, 0)) := heap_alloc' (heap_alloc_new w _)
  have HP := Lib.hid (show Calls Try.prog 34 #[.agg #[.slice va L.length cap], .int .i64 t] ((w.alloc (.cells #[.slice va L.length cap] 30)).alloc (.cells #[.slice none 0 0] 30)) fun e w' => e = .returned (.int .i64 (-1)) ∧ Upd [] ((w.alloc (.cells #[.slice va L.length cap] 30)).alloc (.cells #[.slice none 0 0] 30)) w' from by
    have hp := rd_place t (h.new (((Upd.refl [] w).alloc (.cells #[.slice va L.length cap] 30)).alloc (.cells #[.slice none 0 0] 30))) hl
    rw [hn] at hp
    exact hp)
  clear h hl hcap hn
  go_enter Try.func9, Try.ntmps9
  go_wp2_with (go_at_call 34; refine (HP.out).mono ?_; rintro e w1 ⟨rfl, hu1⟩; have hz := hu1.keepb hz0 (by simp); have hbx := hu1.keepb hb0 (by simp); have HZ := Lib.hid (show w1.heap[w.heap.size + 1]? = some (.cells [.slice none 0 0].toArray 30 (0, 0)) from hz); have z0 := cell_of_heap hz 0; have zf := fun j => frozen_of_heap hz j; have lz := heap_lt hz; have lbx := heap_lt hbx; have kb := cell_of_heap hbx 0; simp at z0 kb; have HU1 := Lib.hid ((((Upd.refl [] w).alloc _).alloc _).trans hu1); clear hu1 hz hbx)
  refine ret_delta2 rfl (g := w.heap.size + 1) (t := 30) (fr := (0, 0)) (x := .slice va L.length cap) rfl rfl rfl rfl (hg := ?hg) ?_
  case hg =>
    repeat (first | (with_reducible exact HZ.out) | (with_reducible apply heap_set2))
    all_goals rfl
  exact ⟨rfl, Upd.then (S := []) HU1.out ((Upd.refl [w.heap.size + 1] w1).setCell (by simp) _) (fun i hi => .inr (by simp at hi; omega))⟩
set_option maxRecDepth 100000 in
set_option maxHeartbeats 1000000 in
theorem rd_remove_yes {w : World} {B : Nat} {v : Value} {L : List (Int × Int)} (t a : Int) (h : RD w B v L) (hl : L.length ≤ 1000) (j : Nat) (hn : plI t 0 L = j) (hj : L[j]? = some (t, a)) (ha0 : 0 ≤ a) (ha : a ≤ 4294967295) :
    Calls Try.prog 9 #[.agg #[v], .int .i64 t] w fun e w' => ∃ v', e = .returned (.tuple #[.agg #[v'], .int .u32 a, .bool true]) ∧ RD w' w.heap.size v' (L.take j ++ L.drop (j + 1)) ∧ Upd [] w w' := by
  have hjl := (List.getElem?_eq_some_iff.1 hj).1
  obtain ⟨b, cap, rfl, hB, hb, hc⟩ := h.cells (by omega)
  obtain ⟨c0, c1⟩ := hc j _ hj
  simp only at c0 c1
  have hz0 : ((w.alloc (.cells #[.slice (some ⟨b, 0, none⟩) L.length cap] 30)).alloc (.cells #[.slice none 0 0] 30)).heap[w.heap.size + 1]? = some (.cells #[.slice none 0 0] 30 (0, 0)) := heap_alloc_at _ (by simp)
  have hb0 : ((w.alloc (.cells #[.slice (some ⟨b, 0, none⟩) L.length cap] 30)).alloc (.cells #[.slice none 0 0] 30)).heap[w.heap.size]? = some (.cells #[.slice (some ⟨b, 0, none⟩) L.length cap] 30 (0, 0)) := heap_alloc' (heap_alloc_new w _)
  have HP := Lib.hid (show Calls Try.prog 34 #[.agg #[.slice (some ⟨b, 0, none⟩) L.length cap], .int .i64 t] ((w.alloc (.cells #[.slice (some ⟨b, 0, none⟩) L.length cap] 30)).alloc (.cells #[.slice none 0 0] 30)) fun e w' => e = .returned (.int .i64 (j : Int)) ∧ Upd [] ((w.alloc (.cells #[.slice (some ⟨b, 0, none⟩) L.length cap] 30)).alloc (.cells #[.slice none 0 0] 30)) w' from by
    have hp := rd_place t (h.new (((Upd.refl [] w).alloc (.cells #[.slice (some ⟨b, 0, none⟩) L.length cap] 30)).alloc (.cells #[.slice none 0 0] 30))) hl
    rw [hn] at hp
    exact hp)
  have b1 : (0 : Int) ≤ (j : Int) := by omega
  have b2 : (j : Int) < (L.length : Int) := by omega
  have hcl : L.length ≤ cap := by
    rcases h.2 with ⟨e, -⟩ | ⟨g, cap', cur, e, -, hg, hx⟩
    · cases e
    · simp only [Value.slice.injEq] at e; obtain ⟨-, -, rfl⟩ := e; exact hx.1
  have b3 : (j : Int) ≤ (cap : Int) := by omega
  have b4 : (j : Int) + 1 ≤ (L.length : Int) := by omega
  have b5 : (L.length : Int) ≤ (cap : Int) := by omega
  have b6 : (0 : Int) ≤ (j : Int) + 1 := by omega
  have d1 : decide ((j : Int) < 0) = false := by simp
  have hwa : IntKind.u32.wrap a = a := by rw [IntKind.wrap_u32]; omega
  have hwj : IntKind.i64.wrap ((j : Int) + 1) = (j : Int) + 1 := by rw [IntKind.wrap_i64]; omega
  have HC1 := Lib.hid c1
  have HR := Lib.hid h
  have HL := Lib.hid hl
  have HJL := Lib.hid hjl
  obtain ⟨ip, hip, hi0, hi1, hi2⟩ := info_parts info_one
  clear h hn hc hl hj hjl
  go_enter Try.func9, Try.ntmps9
  go_wp2_with (go_at_call 34; refine (HP.out).mono ?_; rintro e w1 ⟨rfl, hu1⟩; have hz := hu1.keepb hz0 (by simp); have hbx := hu1.keepb hb0 (by simp); have HZ := Lib.hid (show w1.heap[w.heap.size + 1]? = some (.cells [.slice none 0 0].toArray 30 (0, 0)) from hz); have z0 := cell_of_heap hz 0; have zf := fun j => frozen_of_heap hz j; have lz := heap_lt hz; have lbx := heap_lt hbx; have kb := cell_of_heap hbx 0; simp at z0 kb; have HBX := Lib.hid hbx; have k1 := (((((Upd.refl [] w).alloc _).alloc _).trans hu1).cell (p := ⟨b, _, none⟩) hb (by simp)).trans HC1.out; have HU1 := Lib.hid ((((Upd.refl [] w).alloc _).alloc _).trans hu1); clear hu1 hz hbx)
  have HE := Lib.hid (show Upd [] w (w1.drew.alloc (.cells #[] 86)) from HU1.out.drew.alloc _)
  have HOE := Lib.hid (show (w1.drew.alloc (.cells #[] 86)).ownsRow w.heap.size 86 2 (.slice (some ⟨w1.heap.size, 0, none⟩) 0 0) 0 [] from own_empty' (by have := HU1.out.size; exact this) rfl)
  have hsrc : ∀ w', Upd [] w w' → ∀ j u, (pairs L)[j]? = some u → w'.cell? ⟨b, 0 + j, none⟩ = some u := fun w' hw' => by
    obtain ⟨b', off, e, hx⟩ := RD.src HR.out hw' (by have := HJL.out; omega)
    simp only [Option.some.injEq, Addr.mk.injEq, and_true] at e
    obtain ⟨rfl, rfl⟩ := e
    exact hx
  have hpl : pairs L = pairs (L.take j) ++ pairs (L.drop j) := by rw [← pairs_append, List.take_append_drop]
  have hpl2 : pairs L = pairs (L.take (j + 1)) ++ pairs (L.drop (j + 1)) := by rw [← pairs_append, List.take_append_drop]
  have hlt1 : (pairs (L.take j)).length = j * 2 := by rw [pairs_length, List.length_take]; have := HJL.out; rw [Nat.min_eq_left (by omega)]
  have hlt2 : (pairs (L.take (j + 1))).length = (j + 1) * 2 := by rw [pairs_length, List.length_take]; have := HJL.out; rw [Nat.min_eq_left (by omega)]
  have HS1 := Lib.hid (show ∀ w', Upd [] w w' → ∀ i u, (pairs (L.take j))[i]? = some u → w'.cell? ⟨b, 0 + i, none⟩ = some u from fun w' hw' i u hi => hsrc w' hw' i u (by
    rw [hpl, List.getElem?_append_left (List.getElem?_eq_some_iff.1 hi).1]; exact hi))
  have HS2 := Lib.hid (show ∀ w', Upd [] w w' → ∀ i u, (pairs (L.drop (j + 1)))[i]? = some u → w'.cell? ⟨b, (j + 1) * 2 + i, none⟩ = some u from fun w' hw' i u hi => by
    have := hsrc w' hw' ((j + 1) * 2 + i) u (by rw [hpl2, ← hlt2, List.getElem?_append_right (by omega), Nat.add_sub_cancel_left]; exact hi)
    rw [Nat.zero_add] at this
    exact this)
  have HT1 := Lib.hid hlt1
  have HT2 := Lib.hid (show (pairs (L.drop (j + 1))).length = (L.length - (j + 1)) * 2 by rw [pairs_length, List.length_drop])
  clear hsrc hpl hpl2 hlt1 hlt2
  go_region_held3 (fun w' => w'.cell? ⟨w.heap.size, 0, none⟩ = some (.slice (some ⟨b, 0, none⟩) L.length cap) ∧ w'.cell? ⟨b, j * 2 + 1, none⟩ = some (.int .u64 a))
    (((try dsimp only); (repeat' apply And.intro) <;> (repeat (first | (with_reducible assumption) | (with_reducible apply cell_allocE) | (with_reducible apply cell_drewE) | (with_reducible refine cell_setE (by omega) ?_)))))
    (first
      | (refine step_append_reads rfl (.tmp 14) (.tmp 18) 28 rfl w.heap.size 86 ip _ 2 16 Try.underlying28 hip hi0 hi1 hi2 rfl (by decide) _ 0 [] rfl HOE.out (some ⟨b, 0, none⟩) j cap (pairs (L.take j)) rfl HT1.out (fun _ => ⟨b, 0, rfl, HS1.out _ HE.out⟩) (fun h => by cases h) (pairs_one _) (by have := HL.out; have := HJL.out; simp only [maxLen]; omega) (by have := HL.out; have := HJL.out; omega) HE.out.size ?_
         intro p2 c2 w2 hp2 hown2 hgrow2
         simp only [Nat.zero_add, List.nil_append] at hown2 ⊢
         replace hgrow2 : (w1.drew.alloc (.cells #[] 86)).grownBy w2 (Value.slice (some ⟨w1.heap.size, 0, none⟩) 0 0).ownBlock := hgrow2
         obtain ⟨S2, hS2, hu2⟩ := grow_upd HOE.out hgrow2
         have HU2 := Lib.hid (HE.out.then hu2 (fun k hk => .inr (hS2 k hk)))
         have HZ2 := Lib.hid (show w2.heap[w.heap.size + 1]? = some (.cells [.slice none 0 0].toArray 30 (0, 0)) from by
           rw [hgrow2.block (w.heap.size + 1) (heap_lt (heap_alloc' HZ.out)) (fun e => own_ne HOE.out (heap_alloc' HZ.out) (by decide) e.symm)]
           exact heap_alloc' HZ.out)
         have HOWN2 := Lib.hid hown2
         have HBX2 := Lib.hid (show w2.heap[w.heap.size]? = some (.cells #[.slice (some ⟨b, 0, none⟩) L.length cap] 30 (0, 0)) from by
           rw [hgrow2.block w.heap.size (heap_lt (heap_alloc' HBX.out)) (fun e => own_ne HOE.out (heap_alloc' HBX.out) (by decide) e.symm)]
           exact heap_alloc' HBX.out)
         have kb2 : w2.cell? ⟨w.heap.size, 0, none⟩ = some (.slice (some ⟨b, 0, none⟩) L.length cap) := by
           rw [hgrow2.cell_far _ (heap_lt (heap_alloc' HBX.out)) (fun e => own_ne HOE.out (heap_alloc' HBX.out) (by decide) e.symm)]
           exact cell_allocE kb
         have k2 : w2.cell? ⟨b, j * 2 + 1, none⟩ = some (.int .u64 a) := (HU2.out.cell (p := ⟨b, _, none⟩) hb (by simp)).trans HC1.out
         clear hown2 hgrow2 hu2)
      | (refine step_append_reads rfl (.tmp 19) (.tmp 24) 28 rfl w.heap.size 86 ip _ 2 16 Try.underlying28 hip hi0 hi1 hi2 rfl (by decide) _ j (pairs (L.take j)) rfl HOWN2.out _ (L.length - (j + 1)) (cap - (j + 1)) (pairs (L.drop (j + 1))) rfl HT2.out (fun h0 => ⟨b, (j + 1) * 2, by rw [if_neg (by omega)], HS2.out _ HU2.out⟩) (fun h => by exfalso; revert h; split <;> simp) (pairs_one _) (by have := HL.out; have := HJL.out; simp only [maxLen]; omega) (by have := HL.out; have := HJL.out; omega) (by have := HU2.out.size; exact this) ?_
         intro p3 c3 w3 hp3 hown3 hgrow3
         replace hgrow3 : w2.grownBy w3 (Value.slice p2 j c2).ownBlock := hgrow3
         obtain ⟨S3, hS3, hu3⟩ := grow_upd HOWN2.out hgrow3
         have HU3 := Lib.hid (HU2.out.then hu3 (fun k hk => .inr (hS3 k hk)))
         have hz3 : w3.heap[w.heap.size + 1]? = some (.cells [.slice none 0 0].toArray 30 (0, 0)) := by
           rw [hgrow3.block (w.heap.size + 1) (heap_lt HZ2.out) (fun e => own_ne HOWN2.out HZ2.out (by decide) e.symm)]
           exact HZ2.out
         have HZ3 := Lib.hid hz3
         have z3 := cell_of_heap hz3 0
         have zf3 := fun j => frozen_of_heap hz3 j
         have lz3 := heap_lt hz3
         simp at z3
         have HOWN3 := Lib.hid hown3
         have kb3 : w3.cell? ⟨w.heap.size, 0, none⟩ = some (.slice (some ⟨b, 0, none⟩) L.length cap) := by
           rw [hgrow3.cell_far _ (heap_lt HBX2.out) (fun e => own_ne HOWN2.out HBX2.out (by decide) e.symm)]
           exact kb2
         have k3 : w3.cell? ⟨b, j * 2 + 1, none⟩ = some (.int .u64 a) := (HU3.out.cell (p := ⟨b, _, none⟩) hb (by simp)).trans HC1.out
         clear hown3 hgrow3 hu3 hz3))
  go_wp2
  all_goals (
    refine ret_delta2 rfl (g := w.heap.size + 1) (t := 30) (fr := (0, 0)) (x := .slice p3 (j + (L.length - (j + 1))) c3) rfl rfl rfl rfl (hg := ?hg) ?_
    case hg =>
      repeat (first | (with_reducible exact HZ3.out) | (with_reducible apply heap_set2))
      all_goals rfl
    have hus : Upd [w.heap.size + 1] w3 (w3.setCell ⟨w.heap.size + 1, 0, none⟩ (.slice p3 (j + (L.length - (j + 1))) c3)) := (Upd.refl _ _).setCell (by simp) _
    refine ⟨_, rfl, ?_, HU3.out.then hus (fun k hk => .inr (by simp at hk; omega))⟩
    have ho := own_upd HOWN3.out hus (fun k hk hm => by
      simp at hm
      subst hm
      exact own_ne HOWN3.out HZ3.out (by decide) hk)
    unfold RD
    have hjl := HJL.out
    rw [pairs_append, List.length_append, List.length_take, List.length_drop, Nat.min_eq_left (by omega)]
    exact ho)
end Go.Proofs.Ytgmdhjlbedgafaa
