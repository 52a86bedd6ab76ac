/- The document's spec: Start. -/
import Derived.Test.YtdbgnnkbcebpcaaSR1
import Derived.Deep.MidRow
set_option linter.unusedVariables false
set_option linter.unusedSimpArgs false
namespace Go.Proofs.Ytdbgnnkbcebpcaa
open Go.RowKit

theorem info_ritem : (Try.prog.info? 114).map (fun i => (i.zero, i.size, i.bytes)) = some (some (.agg (itA 0 0 0 0 0 0 0 0 0 0 none 0 0 0 0 0 0)), 15, 104) := by kernel_rfl
theorem info_rit (a b c d e f g h i j k l m n o : Value) : (Try.prog.info? 114).map (·.size) = some (#[a, b, c, d, e, f, g, h, i, j, k, l, m, n, o] : Array Value).size := by kernel_rfl
theorem info_obj (a b c d e f g h i j : Value) : (Try.prog.info? 109).map (·.size) = some ([a, b, c, d, e, f, g, h, i, j] : List Value).length := by kernel_rfl
theorem alloc_setRowR (w : World) (cs ds : Array Value) (t : TypeId) : (w.alloc (.cells cs t)).setRow w.heap.size ds = w.alloc (.cells ds t) := by
  unfold World.setRow World.alloc
  simp only [World.mk.injEq, and_true]
  apply Array.ext_getElem?
  intro k
  rw [Array.getElem?_modify, Array.getElem?_push, Array.getElem?_push]
  by_cases h : k = w.heap.size
  · subst h; simp
  · rw [if_neg h, if_neg (fun e => h e.symm), if_neg h]
theorem ritem_one (k cap wd rt f t i0 i1 i2 i3 : Int) (ra : Option Addr) (rn rc : Nat) (v0 v1 v2 v3 : Int) : ∀ v ∈ (itA k cap wd rt f t i0 i1 i2 i3 ra rn rc v0 v1 v2 v3).toList, v.oneCell' = true := by
  intro v hv
  simp [itA] at hv
  rcases hv with rfl | rfl | rfl | rfl | rfl | rfl | rfl | rfl | rfl | rfl | rfl | rfl | rfl | rfl | rfl <;> rfl
section
variable {w : World} {oa : Option Addr} {l : List OBJ}
set_option maxRecDepth 100000 in
set_option maxHeartbeats 8000000 in
theorem rstart_c (oc : Nat) (h : Els w oa 10 (l.map OBJ.cells)) (hn : l.length ≤ 1000) :
    Calls Try.prog 9 #[.slice oa l.length oc] w fun e w' => Upd [] w w' ∧ ∃ sa sc, e = .returned (.slice sa l.length sc) ∧ SRel w' sa (l.map fun o => .new (itemP o)) := by
  have HE := Lib.hid h
  have HL := Lib.hid hn
  obtain ⟨ii, hii, hz0, hz1, hz2⟩ := info_parts info_ritem
  have HZ := Lib.hid (And.intro hii (And.intro hz0 (And.intro hz1 hz2)))
  clear h hn hii hz0 hz1 hz2
  go_enter Try.func9, Try.ntmps9
  go_wp2
  go_loopg [3, 4] l.length (fun n s3 s4 wr => ∃ (j : Nat), n + j = l.length ∧ s4 = .int .i64 j ∧ wr.ownsRow w.heap.size 114 15 s3 j ((l.take j).flatMap fun o => (IL.new (itemP o)).cells) ∧ Upd [] w wr)
  case atStart => exact ⟨0, by omega, rfl, own_none, Upd.refl _ _⟩
  case round =>
    obtain ⟨j, hj, rfl, hown, hu⟩ := hrel
    have HJ := Lib.hid hj
    have HOWN := Lib.hid hown
    have HU := Lib.hid hu
    clear hown hu
    have hl0 := HL.out
    by_cases hlt : j < l.length
    · obtain ⟨b, off, rfl, hb, hc⟩ := els_at HE.out hlt
      have HLT := Lib.hid hlt
      have htk : (l.take (j + 1)).flatMap (fun o => (IL.new (itemP o)).cells) = (l.take j).flatMap (fun o => (IL.new (itemP o)).cells) ++ (IL.new (itemP l[j])).cells := by rw [List.take_succ_eq_append_getElem hlt, List.flatMap_append]; simp; rfl
      have HTK := Lib.hid htk
      have hbr : b < wr.heap.size := Nat.lt_of_lt_of_le hb HU.out.size
      generalize hz : l[j] = z at *
      obtain ⟨k, cap, wd, rt, f, t, i0, i1, i2, i3⟩ := z
      have HRG := Lib.hid (fun (w1 : World) (h1 : Upd [] wr w1) => show w1.rangeAt b (off + j * 10) [.int .i64 k, .int .i64 cap, .int .i64 wd, .int .i64 rt, .int .i64 f, .int .i64 t, .int .u32 i0, .int .u32 i1, .int .u32 i2, .int .u32 i3] from fun m v hm => ((HU.out.trans h1).cell (p := ⟨b, off + j * 10 + m, none⟩) hb (by simp)).trans (hc m v hm))
      have g0 := HRG.out wr (Upd.refl _ _) 0 _ rfl
      have b1 : (0 : Int) ≤ (j : Int) := by omega
      have b2 : (j : Int) < (l.length : Int) := by omega
      have HW := Lib.hid (show wrap64 ((j : Int) + 1) = ((j + 1 : Nat) : Int) from wrap_next (by omega) hlt)
      have HK := Lib.hid fun w => rright_any cap wd rt f t i0 i1 i2 i3 w k
      rw [Nat.add_zero] at g0
      obtain ⟨va, vc, rfl, _, _⟩ := own_shape HOWN.out
      have htk1 : (IL.new (itemP ⟨k, cap, wd, rt, f, t, i0, i1, i2, i3⟩)).x.v = (itemP ⟨k, cap, wd, rt, f, t, i0, i1, i2, i3⟩).v := rfl
      rcases hr : rightB k cap wd rt with _ | _
      · rw [hr] at HK
        have hkp : kindP k cap wd rt = 0 := by unfold kindP; rw [hr]; rfl
        have HC := Lib.hid (show (IL.new (itemP ⟨k, cap, wd, rt, f, t, i0, i1, i2, i3⟩)).cells = [.int .i64 k, .int .i64 cap, .int .i64 wd, .int .i64 rt, .int .i64 f, .int .i64 t, .int .u32 i0, .int .u32 i1, .int .u32 i2, .int .u32 i3, .slice none 0 0, .int .u32 0, .int .u32 0, .int .u32 0, .int .u32 0] by simp [itemP, hkp, IL.new, IL.cells, IT.A, itA, v0])
        unfold obA at HK
        clear hr hc htk htk1 hj hlt
        (
            go_wp2_with (first
              | (refine wpList_load_mid rfl 109 _ rfl b (off + j * 10) rfl _ _ (HRG.out _ (by repeat (first | (with_reducible exact Upd.refl _ _) | (with_reducible apply Upd.drew) | (with_reducible refine Upd.grE ?_ _) | (with_reducible refine Upd.alloc ?_ _)))) Try.underlying109 rfl (info_obj _ _ _ _ _ _ _ _ _ _) ?_)
              | (refine wpList_store_row rfl 114 _ _ rfl wr.heap.size (itA k cap wd rt f t i0 i1 i2 i3 none 0 0 0 0 0 0) rfl rfl 114 _ (heap_alloc_new wr _) (info_rit _ _ _ _ _ _ _ _ _ _ _ _ _ _ _) rfl rfl ?_; rw [alloc_setRowR]; unfold itA)
              | (go_at_call 45; (with_reducible refine (HK.out _).mono ?_); rintro e w2 ⟨rfl, hu2⟩; obtain ⟨p2, rfl⟩ := hu2.grown; clear hu2)
              | (fail)
              | (at_builtin; refine Hid.out ?_)))
        (
            refine Lib.hid ?_
            refine wpList_push rfl _ _ 35 rfl 114 ii _ 15 104 Try.underlying35 HZ.out.1 HZ.out.2.1 HZ.out.2.2.1 HZ.out.2.2.2 rfl (by decide) w wr w.heap.size _ j _ rfl HOWN.out ?hur HU.out (Nat.le_refl _) HU.out.size
              _ [.int .i64 k, .int .i64 cap, .int .i64 wd, .int .i64 rt, .int .i64 f, .int .i64 t, .int .u32 i0, .int .u32 i1, .int .u32 i2, .int .u32 i3, .slice none 0 0, .int .u32 0, .int .u32 0, .int .u32 0, .int .u32 0] 114 (0, 0) rfl rfl ?hg (fun u hu => by have h2 := ritem_one k cap wd rt f t i0 i1 i2 i3 none 0 0 0 0 0 0; exact h2 u hu) (by have := HL.out; have := HLT.out; omega) (by decide) ?_
            case hur => repeat (first | (with_reducible exact Upd.refl _ _) | (with_reducible apply Upd.drew) | (with_reducible refine Upd.grE ?_ _) | (with_reducible refine Upd.alloc ?_ _))
            case hg => repeat (first | ((with_reducible refine heap_alloc_at _ ?_); (simp; done)) | (with_reducible apply heap_drewE) | (with_reducible apply heap_grE) | (with_reducible apply heap_alloc'))
            intro v' w' ho' hu' _
            rw [← HC.out, ← HTK.out] at ho'
            have HO' := Lib.hid ho'
            have HU' := Lib.hid hu'
            clear ho' hu'
            go_wp2
            go_roundg (l.length - (j + 1))
            case rel => exact ⟨j + 1, by have := HLT.out; omega, by first | (rw [HW.out]; done) | (simp; done), HO'.out, HU'.out⟩
            case measure => have := HLT.out; have := HJ.out; omega)
      by_cases h1 : k = 1
      · rw [hr] at HK
        have hkp : kindP k cap wd rt = 1 := by unfold kindP; rw [hr]; simp [h1]
        have HC := Lib.hid (show (IL.new (itemP ⟨k, cap, wd, rt, f, t, i0, i1, i2, i3⟩)).cells = [.int .i64 k, .int .i64 cap, .int .i64 wd, .int .i64 rt, .int .i64 f, .int .i64 t, .int .u32 i0, .int .u32 i1, .int .u32 i2, .int .u32 i3, .slice none 0 0, .int .u32 0, .int .u32 0, .int .u32 0, .int .u32 0] by simp [itemP, hkp, IL.new, IL.cells, IT.A, itA, v0])
        unfold obA at HK
        have hk1 : (k != 1) = false := by simp [h1]
        have hk2 : (k == 1) = true := by simp [h1]
        clear hr hc htk htk1 hj hlt hkp h1
        (
            go_wp2_with (first
              | (refine wpList_load_mid rfl 109 _ rfl b (off + j * 10) rfl _ _ (HRG.out _ (by repeat (first | (with_reducible exact Upd.refl _ _) | (with_reducible apply Upd.drew) | (with_reducible refine Upd.grE ?_ _) | (with_reducible refine Upd.alloc ?_ _)))) Try.underlying109 rfl (info_obj _ _ _ _ _ _ _ _ _ _) ?_)
              | (refine wpList_store_row rfl 114 _ _ rfl wr.heap.size (itA k cap wd rt f t i0 i1 i2 i3 none 0 0 0 0 0 0) rfl rfl 114 _ (heap_alloc_new wr _) (info_rit _ _ _ _ _ _ _ _ _ _ _ _ _ _ _) rfl rfl ?_; rw [alloc_setRowR]; unfold itA)
              | (go_at_call 45; (with_reducible refine (HK.out _).mono ?_); rintro e w2 ⟨rfl, hu2⟩; obtain ⟨p2, rfl⟩ := hu2.grown; clear hu2)
              | (fail)
              | (at_builtin; refine Hid.out ?_)))
        (
            refine Lib.hid ?_
            refine wpList_push rfl _ _ 35 rfl 114 ii _ 15 104 Try.underlying35 HZ.out.1 HZ.out.2.1 HZ.out.2.2.1 HZ.out.2.2.2 rfl (by decide) w wr w.heap.size _ j _ rfl HOWN.out ?hur HU.out (Nat.le_refl _) HU.out.size
              _ [.int .i64 k, .int .i64 cap, .int .i64 wd, .int .i64 rt, .int .i64 f, .int .i64 t, .int .u32 i0, .int .u32 i1, .int .u32 i2, .int .u32 i3, .slice none 0 0, .int .u32 0, .int .u32 0, .int .u32 0, .int .u32 0] 114 (0, 0) rfl rfl ?hg (fun u hu => by have h2 := ritem_one k cap wd rt f t i0 i1 i2 i3 none 0 0 0 0 0 0; exact h2 u hu) (by have := HL.out; have := HLT.out; omega) (by decide) ?_
            case hur => repeat (first | (with_reducible exact Upd.refl _ _) | (with_reducible apply Upd.drew) | (with_reducible refine Upd.grE ?_ _) | (with_reducible refine Upd.alloc ?_ _))
            case hg => repeat (first | ((with_reducible refine heap_alloc_at _ ?_); (simp; done)) | (with_reducible apply heap_drewE) | (with_reducible apply heap_grE) | (with_reducible apply heap_alloc'))
            intro v' w' ho' hu' _
            rw [← HC.out, ← HTK.out] at ho'
            have HO' := Lib.hid ho'
            have HU' := Lib.hid hu'
            clear ho' hu'
            go_wp2
            go_roundg (l.length - (j + 1))
            case rel => exact ⟨j + 1, by have := HLT.out; omega, by first | (rw [HW.out]; done) | (simp; done), HO'.out, HU'.out⟩
            case measure => have := HLT.out; have := HJ.out; omega)
      have G := fun m v hm => HRG.out wr (Upd.refl _ _) m v hm
      have g2 := G 2 _ rfl
      have g6 := G 6 _ rfl
      have g7 := G 7 _ rfl
      have g8 := G 8 _ rfl
      have g9 := G 9 _ rfl
      have hk1 : (k != 1) = true := by simpa using h1
      have HB := Lib.hid hb
      have hbne : wr.heap.size ≠ b := by omega
      by_cases h4 : k = 4
      · have hwd : wd = 0 := by rw [h4] at hr; simp [rightB] at hr; omega
        have hkp : kindP k cap wd rt = 4 := by unfold kindP; rw [hr]; simp [h4]
        have HC := Lib.hid (show (IL.new (itemP ⟨k, cap, wd, rt, f, t, i0, i1, i2, i3⟩)).cells = [.int .i64 k, .int .i64 cap, .int .i64 wd, .int .i64 rt, .int .i64 f, .int .i64 t, .int .u32 i0, .int .u32 i1, .int .u32 i2, .int .u32 i3, .slice none 0 0, .int .u32 i0, .int .u32 0, .int .u32 0, .int .u32 0] by simp [itemP, hkp, IL.new, IL.cells, IT.A, itA])
        have HCL := Lib.hid (fun (w : World) => show Calls Try.prog 46 #[.agg (v4A i0 i1 i2 i3), .int .i64 1] w fun e w' => e = .returned (.agg (v4A i0 0 0 0)) ∧ Upd [] w w' from rclip_1 i0 i1 i2 i3 w)
        have hm2 : wd < 1 := by omega
        unfold v4A at HCL
        rw [hr] at HK
        unfold obA at HK
        clear hr hc htk htk1 hj hlt h4 h1 G hb hkp hwd
        (
            go_wp2_with (first
              | (refine wpList_load_mid rfl 109 _ rfl b (off + j * 10) rfl _ _ (HRG.out _ (by repeat (first | (with_reducible exact Upd.refl _ _) | (with_reducible apply Upd.drew) | (with_reducible refine Upd.grE ?_ _) | (with_reducible refine Upd.alloc ?_ _)))) Try.underlying109 rfl (info_obj _ _ _ _ _ _ _ _ _ _) ?_)
              | (refine wpList_store_row rfl 114 _ _ rfl wr.heap.size (itA k cap wd rt f t i0 i1 i2 i3 none 0 0 0 0 0 0) rfl rfl 114 _ (heap_alloc_new wr _) (info_rit _ _ _ _ _ _ _ _ _ _ _ _ _ _ _) rfl rfl ?_; rw [alloc_setRowR]; unfold itA)
              | (go_at_call 45; (with_reducible refine (HK.out _).mono ?_); rintro e w2 ⟨rfl, hu2⟩; obtain ⟨p2, rfl⟩ := hu2.grown; clear hu2)
              | (fail)
              | (at_builtin; refine Hid.out ?_)))
        go_region_held3 (fun w' => w'.cell? ⟨b, off + j * 10 + 2, none⟩ = some (.int .i64 wd) ∧ w'.cell? ⟨b, off + j * 10 + 6, none⟩ = some (.int .u32 i0) ∧ w'.cell? ⟨b, off + j * 10 + 7, none⟩ = some (.int .u32 i1) ∧ w'.cell? ⟨b, off + j * 10 + 8, none⟩ = some (.int .u32 i2) ∧ w'.cell? ⟨b, off + j * 10 + 9, none⟩ = some (.int .u32 i3))
          (((try dsimp only); (repeat' apply And.intro) <;> (repeat (first | (with_reducible assumption) | (with_reducible apply cell_grE) | (with_reducible apply cell_allocE) | (with_reducible apply cell_drewE) | (with_reducible refine cell_setE (by omega) ?_)))))
          (first | (go_at_call 46; (with_reducible refine (HCL.out _).mono ?_); rintro e w3 ⟨rfl, hu3⟩; obtain ⟨p3, rfl⟩ := hu3.grown; clear hu3))
        all_goals
          go_wp2_with (at_builtin; refine Hid.out ?_)
          (
              refine Lib.hid ?_
              refine wpList_push rfl _ _ 35 rfl 114 ii _ 15 104 Try.underlying35 HZ.out.1 HZ.out.2.1 HZ.out.2.2.1 HZ.out.2.2.2 rfl (by decide) w wr w.heap.size _ j _ rfl HOWN.out ?hur HU.out (Nat.le_refl _) HU.out.size
                _ [.int .i64 k, .int .i64 cap, .int .i64 wd, .int .i64 rt, .int .i64 f, .int .i64 t, .int .u32 i0, .int .u32 i1, .int .u32 i2, .int .u32 i3, .slice none 0 0, .int .u32 i0, .int .u32 0, .int .u32 0, .int .u32 0] 114 (0, 0) rfl rfl ?hg (fun u hu => by have h2 := ritem_one k cap wd rt f t i0 i1 i2 i3 none 0 0 i0 0 0 0; exact h2 u hu) (by have := HL.out; have := HLT.out; omega) (by decide) ?_
              case hur => repeat (first | (with_reducible exact Upd.refl _ _) | (with_reducible apply Upd.drew) | (with_reducible refine Upd.grE ?_ _) | (with_reducible refine Upd.alloc ?_ _))
              case hg => repeat (first | ((with_reducible refine heap_alloc_at _ ?_); (simp; done)) | (with_reducible apply heap_drewE) | (with_reducible apply heap_grE) | (with_reducible apply heap_alloc'))
              intro v' w' ho' hu' _
              rw [← HC.out, ← HTK.out] at ho'
              have HO' := Lib.hid ho'
              have HU' := Lib.hid hu'
              clear ho' hu'
              go_wp2
              go_roundg (l.length - (j + 1))
              case rel => exact ⟨j + 1, by have := HLT.out; omega, by first | (rw [HW.out]; done) | (simp; done), HO'.out, HU'.out⟩
              case measure => have := HLT.out; have := HJ.out; omega)
      · have h23 : k = 2 ∨ k = 3 := by
          by_cases q2 : k = 2
          · exact .inl q2
          by_cases q3 : k = 3
          · exact .inr q3
          exfalso
          unfold rightB at hr
          rw [if_neg h1, if_neg h4, if_neg q2, if_neg q3] at hr
          cases hr
        have hkp : kindP k cap wd rt = k := by unfold kindP; rw [hr]; simp
        have hwd := kind_wide (x := ⟨⟨k, cap, wd, rt, f, t, i0, i1, i2, i3⟩, [], v0⟩) (by show kindP k cap wd rt = 1 ∨ kindP k cap wd rt = 2 ∨ kindP k cap wd rt = 3; rw [hkp]; omega)
        have hw1 : 1 ≤ wd := hwd.1
        have hw4 : wd ≤ 4 := hwd.2
        have HC := Lib.hid (show (IL.new (itemP ⟨k, cap, wd, rt, f, t, i0, i1, i2, i3⟩)).cells = [.int .i64 k, .int .i64 cap, .int .i64 wd, .int .i64 rt, .int .i64 f, .int .i64 t, .int .u32 i0, .int .u32 i1, .int .u32 i2, .int .u32 i3, .slice none 0 0, .int .u32 (clip1 (decide (0 < wd)) i0), .int .u32 (clip1 (decide (1 < wd)) i1), .int .u32 (clip1 (decide (2 < wd)) i2), .int .u32 (clip1 (decide (3 < wd)) i3)] by simp [itemP, hkp, h23, IL.new, IL.cells, IT.A, itA, V4.clip])
        have HCL := Lib.hid (fun (w : World) => show Calls Try.prog 46 #[.agg (v4A i0 i1 i2 i3), .int .i64 wd] w fun e w' => e = .returned (.agg (clipA wd i0 i1 i2 i3)) ∧ Upd [] w w' from rclip_c i0 i1 i2 i3 w wd hw1 hw4)
        have hm2 : (wd < 1) = False := eq_false (by omega)
        unfold clipA v4A at HCL
        generalize clip1 (decide (0 < wd)) i0 = x0 at HC HCL
        generalize clip1 (decide (1 < wd)) i1 = x1 at HC HCL
        generalize clip1 (decide (2 < wd)) i2 = x2 at HC HCL
        generalize clip1 (decide (3 < wd)) i3 = x3 at HC HCL
        rw [hr] at HK
        unfold obA at HK
        clear hr hc htk htk1 hj hlt h4 h1 G hb hkp hwd hw1 hw4 h23
        (
            go_wp2_with (first
              | (refine wpList_load_mid rfl 109 _ rfl b (off + j * 10) rfl _ _ (HRG.out _ (by repeat (first | (with_reducible exact Upd.refl _ _) | (with_reducible apply Upd.drew) | (with_reducible refine Upd.grE ?_ _) | (with_reducible refine Upd.alloc ?_ _)))) Try.underlying109 rfl (info_obj _ _ _ _ _ _ _ _ _ _) ?_)
              | (refine wpList_store_row rfl 114 _ _ rfl wr.heap.size (itA k cap wd rt f t i0 i1 i2 i3 none 0 0 0 0 0 0) rfl rfl 114 _ (heap_alloc_new wr _) (info_rit _ _ _ _ _ _ _ _ _ _ _ _ _ _ _) rfl rfl ?_; rw [alloc_setRowR]; unfold itA)
              | (go_at_call 45; (with_reducible refine (HK.out _).mono ?_); rintro e w2 ⟨rfl, hu2⟩; obtain ⟨p2, rfl⟩ := hu2.grown; clear hu2)
              | (fail)
              | (at_builtin; refine Hid.out ?_)))
        go_region_held3 (fun w' => w'.cell? ⟨b, off + j * 10 + 2, none⟩ = some (.int .i64 wd) ∧ w'.cell? ⟨b, off + j * 10 + 6, none⟩ = some (.int .u32 i0) ∧ w'.cell? ⟨b, off + j * 10 + 7, none⟩ = some (.int .u32 i1) ∧ w'.cell? ⟨b, off + j * 10 + 8, none⟩ = some (.int .u32 i2) ∧ w'.cell? ⟨b, off + j * 10 + 9, none⟩ = some (.int .u32 i3))
          (((try dsimp only); (repeat' apply And.intro) <;> (repeat (first | (with_reducible assumption) | (with_reducible apply cell_grE) | (with_reducible apply cell_allocE) | (with_reducible apply cell_drewE) | (with_reducible refine cell_setE (by omega) ?_)))))
          (first | (go_at_call 46; (with_reducible refine (HCL.out _).mono ?_); rintro e w3 ⟨rfl, hu3⟩; obtain ⟨p3, rfl⟩ := hu3.grown; clear hu3))
        all_goals
          go_wp2_with (at_builtin; refine Hid.out ?_)
          (
              refine Lib.hid ?_
              refine wpList_push rfl _ _ 35 rfl 114 ii _ 15 104 Try.underlying35 HZ.out.1 HZ.out.2.1 HZ.out.2.2.1 HZ.out.2.2.2 rfl (by decide) w wr w.heap.size _ j _ rfl HOWN.out ?hur HU.out (Nat.le_refl _) HU.out.size
                _ [.int .i64 k, .int .i64 cap, .int .i64 wd, .int .i64 rt, .int .i64 f, .int .i64 t, .int .u32 i0, .int .u32 i1, .int .u32 i2, .int .u32 i3, .slice none 0 0, .int .u32 x0, .int .u32 x1, .int .u32 x2, .int .u32 x3] 114 (0, 0) rfl rfl ?hg (fun u hu => by have h2 := ritem_one k cap wd rt f t i0 i1 i2 i3 none 0 0 x0 x1 x2 x3; exact h2 u hu) (by have := HL.out; have := HLT.out; omega) (by decide) ?_
              case hur => repeat (first | (with_reducible exact Upd.refl _ _) | (with_reducible apply Upd.drew) | (with_reducible refine Upd.grE ?_ _) | (with_reducible refine Upd.alloc ?_ _))
              case hg => repeat (first | ((with_reducible refine heap_alloc_at _ ?_); (simp; done)) | (with_reducible apply heap_drewE) | (with_reducible apply heap_grE) | (with_reducible apply heap_alloc'))
              intro v' w' ho' hu' _
              rw [← HC.out, ← HTK.out] at ho'
              have HO' := Lib.hid ho'
              have HU' := Lib.hid hu'
              clear ho' hu'
              go_wp2
              go_roundg (l.length - (j + 1))
              case rel => exact ⟨j + 1, by have := HLT.out; omega, by first | (rw [HW.out]; done) | (simp; done), HO'.out, HU'.out⟩
              case measure => have := HLT.out; have := HJ.out; omega)
    · have hd : decide ((j : Int) < (l.length : Int)) = false := by simp; omega
      obtain rfl : j = l.length := by omega
      go_wp2
      go_ret
      rw [List.take_length] at HOWN
      have hfl : (l.flatMap fun o => (IL.new (itemP o)).cells) = (l.map fun o => IL.new (itemP o)).flatMap IL.cells := by rw [List.flatMap_map]
      rw [hfl] at HOWN
      obtain ⟨a, cap, rfl, _, he⟩ := flat_own IL.cells il_len HOWN.out (by simp)
      refine ⟨HU.out, a, cap, by simp, ⟨he, fun r hr => ?_⟩⟩
      obtain ⟨o, _, rfl⟩ := List.mem_map.1 hr
      exact item_new _ o
end
end Go.Proofs.Ytdbgnnkbcebpcaa
