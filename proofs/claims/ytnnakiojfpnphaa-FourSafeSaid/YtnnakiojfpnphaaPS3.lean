/- Package site: Of, walked. -/
import Derived.Test.YtnnakiojfpnphaaPS2
set_option linter.unusedVariables false
set_option linter.unusedSimpArgs false
namespace Go.Proofs.Ytnnakiojfpnphaa
open Go.RowKit
section
variable {W : World} {oa : Option Addr} {l : List OBJ}
set_option maxRecDepth 100000 in
set_option maxHeartbeats 8000000 in
theorem sof_o (oc : Nat) (h : Els W oa 10 (l.map OBJ.cells)) (hn : l.length ≤ 1000) :
    Calls Try.prog 21 #[.slice oa l.length oc] W fun e w' => Upd [] W w' ∧ ∃ va vc, e = .returned (.tuple #[.slice va l.length vc, .int .i64 (sumS l)]) ∧ Els w' va 5 ((pls 0 l).map PL.cells) ∧ w'.ownsRow (W.heap.size + 1) 27 5 (.slice va l.length vc) l.length ((pls 0 l).flatMap PL.cells) := by
  have HE := Lib.hid h
  have HL := Lib.hid hn
  obtain ⟨ip, hip, hz0, hz1, hz2⟩ := info_parts info_pl
  have hmf : ∀ (fn : Fn) (first cap : Array Value) (w : World), (Instr.makeFunc fn first cap).run Try.prog w = .ok (.func fn first cap) w := fun _ _ _ _ => rfl
  clear h hn
  go_enter Try.func21, Try.ntmps21
  go_wp2
  have hstart : (W.alloc (.cells #[.int .i64 0] 3)).heap[W.heap.size]? = some (.cells #[.int .i64 0] 3 (0, 0)) := heap_alloc_new _ _
  have HSTART := Lib.hid hstart
  clear hstart
  go_loopg [2, 11] l.length (fun n out i wr => ∃ (j : Nat), n + j = l.length ∧ i = .int .i64 j ∧ wr.heap[W.heap.size]? = some (.cells #[.int .i64 (sumS (l.take j))] 3 (0, 0)) ∧ wr.ownsRow (W.heap.size + 1) 27 5 out j ((pls 0 (l.take j)).flatMap PL.cells) ∧ Upd [] W wr)
  case atStart => exact ⟨0, by omega, rfl, HSTART.out, own_none, (Upd.refl _ _).alloc _⟩
  case round =>
    obtain ⟨j, hj, rfl, hnb, hown, hu⟩ := hrel
    have HJ := Lib.hid hj
    have HNB := Lib.hid hnb
    have HOWN := Lib.hid hown
    have HU := Lib.hid hu
    have ln := heap_lt hnb
    have HLN := Lib.hid ln
    clear hnb hown hu
    have hl0 := HL.out
    by_cases hlt : j < l.length
    · obtain ⟨b, off, rfl, hb, hc⟩ := els_at HE.out hlt
      have HLT := Lib.hid hlt
      have htk : pls 0 (l.take (j + 1)) = pls 0 (l.take j) ++ [plOf (sumS (l.take j)) l[j]] := by rw [List.take_succ_eq_append_getElem hlt, pls_snoc, Int.zero_add]; rfl
      have hts : sumS (l.take (j + 1)) = sumS (l.take j) + l[j].size := by rw [List.take_succ_eq_append_getElem hlt, sumS_snoc]; rfl
      have hsb : 0 ≤ sumS (l.take j) ∧ sumS (l.take j) ≤ 260 * 1000 := by
        have h1 := sumS_bounds (l.take j)
        have h2 : (l.take j).length ≤ 1000 := by simp; omega
        omega
      have HSB := Lib.hid hsb
      have hbr : b < wr.heap.size := Nat.lt_of_lt_of_le hb HU.out.size
      generalize hz : l[j] = z at *
      obtain ⟨k, cap, wd, rt, f, t, i0, i1, i2, i3⟩ := z
      have HTS := Lib.hid (show sumS (l.take (j + 1)) = sumS (l.take j) + sizeP k cap wd rt from hts)
      have HRG := Lib.hid (fun (w1 : World) (h1 : Upd [] wr w1) => show w1.rangeAt b (off + j * 10) [.int .i64 k, .int .i64 cap, .int .i64 wd, .int .i64 rt, .int .i64 f, .int .i64 t, .int .u32 i0, .int .u32 i1, .int .u32 i2, .int .u32 i3] from fun m v hm => ((HU.out.trans h1).cell (p := ⟨b, off + j * 10 + m, none⟩) hb (by simp)).trans (hc m v hm))
      have g0 := HRG.out wr (Upd.refl _ _) 0 _ rfl
      rw [Nat.add_zero] at g0
      have b1 : (0 : Int) ≤ (j : Int) := by omega
      have b2 : (j : Int) < (l.length : Int) := by omega
      have HW := Lib.hid (show wrap64 ((j : Int) + 1) = ((j + 1 : Nat) : Int) from wrap_next (by omega) hlt)
      obtain ⟨va, vc, rfl, _, _⟩ := own_shape HOWN.out
      have HR := Lib.hid fun w => sright_any cap wd rt f t i0 i1 i2 i3 w k
      unfold obA at HR
      have HTK0 := Lib.hid htk
      clear hz hc hj hlt htk hts hsb hb
      cases hr : rightB k cap wd rt with
      | true =>
      rw [hr] at HR
      have HC2 := Lib.hid (show (pls 0 (l.take j)).flatMap PL.cells ++ PL.cells (plOf (sumS (l.take j)) ⟨k, cap, wd, rt, f, t, i0, i1, i2, i3⟩) = (pls 0 (l.take j)).flatMap PL.cells ++ [.int .i64 k, .int .i64 (sumS (l.take j)), .int .i64 cap, .int .i64 wd, .int .i64 rt] by simp [plOf, hr, PL.cells])
      have HTK := Lib.hid (show (pls 0 (l.take (j + 1))).flatMap PL.cells = (pls 0 (l.take j)).flatMap PL.cells ++ PL.cells (plOf (sumS (l.take j)) ⟨k, cap, wd, rt, f, t, i0, i1, i2, i3⟩) by rw [HTK0.out, List.flatMap_append]; simp)
      clear hr
      (
              go_wp2_with (first
                | (refine wpList_load_mid rfl 56 _ rfl b (off + j * 10) rfl _ _ (HRG.out _ (by repeat (first | (with_reducible exact Upd.refl _ _) | (with_reducible apply Upd.drew) | (with_reducible refine Upd.grE ?_ _) | (with_reducible refine Upd.alloc ?_ _)))) Try.underlying56 rfl (info_obL _ _ _ _ _ _ _ _ _ _) ?_)
                | (go_at_call 47; refine Go.RowKit.Hid.out ?_))
              refine Lib.hid ?_
              refine (take_c k cap wd rt f t i0 i1 i2 i3 W.heap.size (sumS (l.take j)) HSB.out.1 (by have := HSB.out.2; omega) _ ((heap_alloc_other _ _ ln).trans HNB.out)).mono ?_
              rintro e w1 ⟨rfl, hn1, hu1⟩
              have HN1 := Lib.hid hn1
              have HU1 := Lib.hid hu1
              have hx1 := hu1.keepb (heap_alloc_new _ _) (by simp; omega)
              have HX1 := Lib.hid hx1
              have HOWN1 := Lib.hid (own_upd (own_upd HOWN.out ((Upd.refl [] wr).alloc _) (by simp)) hu1 (fun q hq hm => by have := own_base HOWN.out q hq; simp at hm; omega))
              obtain ⟨g0, g1, g2, g3, g4, g5, g6, g7, g8, g9⟩ := cells10p hx1
              have lx1 := heap_lt hx1
              have nx1 : w1.heap.size ≠ wr.heap.size := by omega
              have nx2 : wr.heap.size ≠ w1.heap.size := by omega
              have HZ1 := Lib.hid (show wr.heap.size + 1 ≤ w1.heap.size by have := hu1.size; simpa using this)
              clear hn1 hu1 hx1
              go_wp2_with (go_at_call 19; refine Go.RowKit.Hid.out ?_)
              refine Lib.hid ?_
              refine (HR.out _).mono ?_
              rintro e w2 ⟨rfl, hu2⟩
              have HU2 := Lib.hid (((Upd.refl [] w1).alloc _).trans hu2)
              have HP2 := Lib.hid (hu2.keepb (heap_alloc_new _ _) (by simp))
              have HX2 := Lib.hid (HU2.out.keepb HX1.out (by simp))
              have HN2 := Lib.hid (HU2.out.keepb HN1.out (by simp))
              have HOWN2 := Lib.hid (own_upd HOWN1.out HU2.out (by simp))
              have HZ2 := Lib.hid (show w1.heap.size < w2.heap.size from heap_lt HP2.out)
              clear g0 g1 g2 g3 g4 g5 g6 g7 g8 g9 hu2
              obtain ⟨g0, g1, g2, g3, -, -, -, -, -, -⟩ := cells10p HX2.out
              have p0 : w2.cell? ⟨w1.heap.size, 0, none⟩ = some (.int .i64 0) := by rw [cell_of_heap HP2.out]; rfl
              have p1 : w2.cell? ⟨w1.heap.size, 1, none⟩ = some (.int .i64 (sumS (l.take j))) := by rw [cell_of_heap HP2.out]; rfl
              have p2 : w2.cell? ⟨w1.heap.size, 2, none⟩ = some (.int .i64 0) := by rw [cell_of_heap HP2.out]; rfl
              have p3 : w2.cell? ⟨w1.heap.size, 3, none⟩ = some (.int .i64 0) := by rw [cell_of_heap HP2.out]; rfl
              have p4 : w2.cell? ⟨w1.heap.size, 4, none⟩ = some (.int .i64 0) := by rw [cell_of_heap HP2.out]; rfl
              have pf := fun j => frozen_of_heap HP2.out j)
      go_wp2
      go_region
      go_wp2_with (at_builtin; refine Go.RowKit.Hid.out ?_)
      (
              refine Lib.hid ?_
              refine wpList_append_reads rfl _ _ 58 rfl (W.heap.size + 1) 27 ip _ 5 40 Try.underlying58 hip hz0 hz1 hz2 rfl (by decide) _ j _ rfl (own_upd (S := [w1.heap.size]) HOWN2.out (by repeat (first | (with_reducible exact Upd.refl _ _) | (with_reducible apply Upd.drew) | (with_reducible refine Upd.alloc ?_ _) | (with_reducible refine Upd.setB ?_ (.inl (by simp))))) (fun q hq hm => by have := (HOWN.out.lt q hq).2; have := HZ1.out; simp at hm; omega)) (some ⟨w2.heap.size, 0, none⟩) 1 1 [.int .i64 k, .int .i64 (sumS (l.take j)), .int .i64 cap, .int .i64 wd, .int .i64 rt] rfl rfl
                (fun _ => ⟨w2.heap.size, 0, rfl, fun j u hj => by rw [Nat.zero_add]; exact cell_of_list (heap_alloc_at _ (by simp [size_setCell])) _ _ hj⟩) (fun h => by cases h) (fun u hu => by simp at hu; rcases hu with rfl | rfl | rfl | rfl | rfl <;> rfl) (by have := HL.out; have := HLT.out; simp only [maxLen]; omega) (by have := HL.out; have := HLT.out; omega) ?base ?_
              case base => have h1 := HU.out.size; have h2 := HZ1.out; have h3 := HZ2.out; have h4 := HLN.out; simp [size_setCell]; omega
              intro v' w3 hown' hgrow
              obtain ⟨X, hc, hg3⟩ : ∃ X, Upd [w1.heap.size] w2 X ∧ Upd (Value.slice va j vc).ownBlock.toList X w3 := by
                refine ⟨_, ?_, upd_grown hgrow⟩
                exact (by repeat (first | (with_reducible exact Upd.refl _ _) | (with_reducible apply Upd.drew) | (with_reducible refine Upd.alloc ?_ _) | (with_reducible refine Upd.setB ?_ (.inl (by simp)))))
              have HG3 := Lib.hid hg3
              have hob : ∀ q, q ∈ (Value.slice va j vc).ownBlock.toList → W.heap.size + 1 ≤ q := fun q hq => own_base HOWN.out q (by simpa using hq)
              have HU3 := Lib.hid ((((((HU.out.alloc _).then HU1.out (by simp)).trans HU2.out)).then hc (by have h1 := HU.out.size; have := HZ1.out; simp; omega)).then HG3.out (fun q hq => .inr (by have := hob q hq; omega)))
              have HN3 := Lib.hid (HG3.out.keepb (hc.keepb HN2.out (by have h1 := HU.out.size; have := HZ1.out; have := HLN.out; simp; omega)) (fun hq => by have := hob _ hq; omega))
              rw [← HC2.out, ← HTK.out] at hown'
              have HOWN3 := Lib.hid hown'
              clear hown' hgrow hc hg3 hob
              go_wp2
              go_roundg (l.length - (j + 1))
              case rel => exact ⟨j + 1, by have := HLT.out; omega, by first | (rw [HW.out]; done) | (simp; done), by rw [HTS.out]; exact HN3.out, HOWN3.out, HU3.out⟩
              case measure => have := HLT.out; have := HJ.out; omega)
      | false =>
      rw [hr] at HR
      have HC2 := Lib.hid (show (pls 0 (l.take j)).flatMap PL.cells ++ PL.cells (plOf (sumS (l.take j)) ⟨k, cap, wd, rt, f, t, i0, i1, i2, i3⟩) = (pls 0 (l.take j)).flatMap PL.cells ++ [.int .i64 0, .int .i64 (sumS (l.take j)), .int .i64 0, .int .i64 0, .int .i64 0] by simp [plOf, hr, PL.cells])
      have HTK := Lib.hid (show (pls 0 (l.take (j + 1))).flatMap PL.cells = (pls 0 (l.take j)).flatMap PL.cells ++ PL.cells (plOf (sumS (l.take j)) ⟨k, cap, wd, rt, f, t, i0, i1, i2, i3⟩) by rw [HTK0.out, List.flatMap_append]; simp)
      clear hr
      (
              go_wp2_with (first
                | (refine wpList_load_mid rfl 56 _ rfl b (off + j * 10) rfl _ _ (HRG.out _ (by repeat (first | (with_reducible exact Upd.refl _ _) | (with_reducible apply Upd.drew) | (with_reducible refine Upd.grE ?_ _) | (with_reducible refine Upd.alloc ?_ _)))) Try.underlying56 rfl (info_obL _ _ _ _ _ _ _ _ _ _) ?_)
                | (go_at_call 47; refine Go.RowKit.Hid.out ?_))
              refine Lib.hid ?_
              refine (take_c k cap wd rt f t i0 i1 i2 i3 W.heap.size (sumS (l.take j)) HSB.out.1 (by have := HSB.out.2; omega) _ ((heap_alloc_other _ _ ln).trans HNB.out)).mono ?_
              rintro e w1 ⟨rfl, hn1, hu1⟩
              have HN1 := Lib.hid hn1
              have HU1 := Lib.hid hu1
              have hx1 := hu1.keepb (heap_alloc_new _ _) (by simp; omega)
              have HX1 := Lib.hid hx1
              have HOWN1 := Lib.hid (own_upd (own_upd HOWN.out ((Upd.refl [] wr).alloc _) (by simp)) hu1 (fun q hq hm => by have := own_base HOWN.out q hq; simp at hm; omega))
              obtain ⟨g0, g1, g2, g3, g4, g5, g6, g7, g8, g9⟩ := cells10p hx1
              have lx1 := heap_lt hx1
              have nx1 : w1.heap.size ≠ wr.heap.size := by omega
              have nx2 : wr.heap.size ≠ w1.heap.size := by omega
              have HZ1 := Lib.hid (show wr.heap.size + 1 ≤ w1.heap.size by have := hu1.size; simpa using this)
              clear hn1 hu1 hx1
              go_wp2_with (go_at_call 19; refine Go.RowKit.Hid.out ?_)
              refine Lib.hid ?_
              refine (HR.out _).mono ?_
              rintro e w2 ⟨rfl, hu2⟩
              have HU2 := Lib.hid (((Upd.refl [] w1).alloc _).trans hu2)
              have HP2 := Lib.hid (hu2.keepb (heap_alloc_new _ _) (by simp))
              have HX2 := Lib.hid (HU2.out.keepb HX1.out (by simp))
              have HN2 := Lib.hid (HU2.out.keepb HN1.out (by simp))
              have HOWN2 := Lib.hid (own_upd HOWN1.out HU2.out (by simp))
              have HZ2 := Lib.hid (show w1.heap.size < w2.heap.size from heap_lt HP2.out)
              clear g0 g1 g2 g3 g4 g5 g6 g7 g8 g9 hu2
              obtain ⟨g0, g1, g2, g3, -, -, -, -, -, -⟩ := cells10p HX2.out
              have p0 : w2.cell? ⟨w1.heap.size, 0, none⟩ = some (.int .i64 0) := by rw [cell_of_heap HP2.out]; rfl
              have p1 : w2.cell? ⟨w1.heap.size, 1, none⟩ = some (.int .i64 (sumS (l.take j))) := by rw [cell_of_heap HP2.out]; rfl
              have p2 : w2.cell? ⟨w1.heap.size, 2, none⟩ = some (.int .i64 0) := by rw [cell_of_heap HP2.out]; rfl
              have p3 : w2.cell? ⟨w1.heap.size, 3, none⟩ = some (.int .i64 0) := by rw [cell_of_heap HP2.out]; rfl
              have p4 : w2.cell? ⟨w1.heap.size, 4, none⟩ = some (.int .i64 0) := by rw [cell_of_heap HP2.out]; rfl
              have pf := fun j => frozen_of_heap HP2.out j)
      go_wp2_with (at_builtin; refine Go.RowKit.Hid.out ?_)
      (
              refine Lib.hid ?_
              refine wpList_append_reads rfl _ _ 58 rfl (W.heap.size + 1) 27 ip _ 5 40 Try.underlying58 hip hz0 hz1 hz2 rfl (by decide) _ j _ rfl (own_upd (S := [w1.heap.size]) HOWN2.out (by repeat (first | (with_reducible exact Upd.refl _ _) | (with_reducible apply Upd.drew) | (with_reducible refine Upd.alloc ?_ _) | (with_reducible refine Upd.setB ?_ (.inl (by simp))))) (fun q hq hm => by have := (HOWN.out.lt q hq).2; have := HZ1.out; simp at hm; omega)) (some ⟨w2.heap.size, 0, none⟩) 1 1 [.int .i64 0, .int .i64 (sumS (l.take j)), .int .i64 0, .int .i64 0, .int .i64 0] rfl rfl
                (fun _ => ⟨w2.heap.size, 0, rfl, fun j u hj => by rw [Nat.zero_add]; exact cell_of_list (heap_alloc_at _ (by simp [size_setCell])) _ _ hj⟩) (fun h => by cases h) (fun u hu => by simp at hu; rcases hu with rfl | rfl | rfl | rfl | rfl <;> rfl) (by have := HL.out; have := HLT.out; simp only [maxLen]; omega) (by have := HL.out; have := HLT.out; omega) ?base ?_
              case base => have h1 := HU.out.size; have h2 := HZ1.out; have h3 := HZ2.out; have h4 := HLN.out; simp [size_setCell]; omega
              intro v' w3 hown' hgrow
              obtain ⟨X, hc, hg3⟩ : ∃ X, Upd [w1.heap.size] w2 X ∧ Upd (Value.slice va j vc).ownBlock.toList X w3 := by
                refine ⟨_, ?_, upd_grown hgrow⟩
                exact (by repeat (first | (with_reducible exact Upd.refl _ _) | (with_reducible apply Upd.drew) | (with_reducible refine Upd.alloc ?_ _) | (with_reducible refine Upd.setB ?_ (.inl (by simp)))))
              have HG3 := Lib.hid hg3
              have hob : ∀ q, q ∈ (Value.slice va j vc).ownBlock.toList → W.heap.size + 1 ≤ q := fun q hq => own_base HOWN.out q (by simpa using hq)
              have HU3 := Lib.hid ((((((HU.out.alloc _).then HU1.out (by simp)).trans HU2.out)).then hc (by have h1 := HU.out.size; have := HZ1.out; simp; omega)).then HG3.out (fun q hq => .inr (by have := hob q hq; omega)))
              have HN3 := Lib.hid (HG3.out.keepb (hc.keepb HN2.out (by have h1 := HU.out.size; have := HZ1.out; have := HLN.out; simp; omega)) (fun hq => by have := hob _ hq; omega))
              rw [← HC2.out, ← HTK.out] at hown'
              have HOWN3 := Lib.hid hown'
              clear hown' hgrow hc hg3 hob
              go_wp2
              go_roundg (l.length - (j + 1))
              case rel => exact ⟨j + 1, by have := HLT.out; omega, by first | (rw [HW.out]; done) | (simp; done), by rw [HTS.out]; exact HN3.out, HOWN3.out, HU3.out⟩
              case measure => have := HLT.out; have := HJ.out; omega)
    · obtain rfl : j = l.length := by omega
      obtain ⟨va, vc, rfl, -, -⟩ := own_shape HOWN.out
      have hnb := HNB.out
      rw [List.take_length] at hnb
      have n0 : wr.cell? ⟨W.heap.size, 0, none⟩ = some (.int .i64 (sumS l)) := by rw [cell_of_heap hnb]; rfl
      have nf := frozen_of_heap hnb 0
      have HNB' := Lib.hid hnb
      clear hnb hj hlt
      go_wp2
      go_region
      go_wp2
      refine bodyPost_ret (v := .tuple #[.slice va l.length vc, .int .i64 (sumS l)]) (by simp [results, Try.results21, go_sem, n0]) rfl ?_
      have hS : Upd [W.heap.size] wr (wr.setCell ⟨W.heap.size, 0, none⟩ (.int .i64 (sumS l))).drew := ((Upd.refl _ _).setCell (by simp) _).drew
      have ho := own_upd HOWN.out hS (fun q hq hm => by have := own_base HOWN.out q hq; simp at hm; omega)
      rw [List.take_length] at ho
      have ho2 := ho
      obtain ⟨a, c, e, _, he⟩ := flat_own PL.cells pl_len ho (pls_len 0 l).symm
      simp only [Value.slice.injEq] at e
      obtain ⟨rfl, -, rfl⟩ := e
      exact ⟨HU.out.then hS (by simp), va, vc, rfl, he, ho2⟩
theorem sof_c (oc : Nat) (h : Els W oa 10 (l.map OBJ.cells)) (hn : l.length ≤ 1000) :
    Calls Try.prog 21 #[.slice oa l.length oc] W fun e w' => Upd [] W w' ∧ ∃ va vc, e = .returned (.tuple #[.slice va l.length vc, .int .i64 (sumS l)]) ∧ Els w' va 5 ((pls 0 l).map PL.cells) :=
  (sof_o oc h hn).mono fun e w' ⟨h1, va, vc, h2, h3, _⟩ => ⟨h1, va, vc, h2, h3⟩
end
end Go.Proofs.Ytnnakiojfpnphaa
