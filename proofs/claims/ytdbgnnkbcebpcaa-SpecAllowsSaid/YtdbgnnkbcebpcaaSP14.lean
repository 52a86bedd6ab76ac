/- Package spec: Start. -/
import Derived.Test.YtdbgnnkbcebpcaaSP13
set_option linter.unusedVariables false
set_option linter.unusedSimpArgs false
namespace Go.Proofs.Ytdbgnnkbcebpcaa
open Go.RowKit

theorem flat_own {α : Type} (f : α → List Value) {sz : Nat} (hl : ∀ x, (f x).length = sz) {w : World} {base n : Nat} {e : TypeId} {v : Value} {xs : List α} (h : w.ownsRow base e sz v n (xs.flatMap f)) (hn : n = xs.length) : ∃ a cap, v = .slice a xs.length cap ∧ (a = none → cap = 0) ∧ Els w a sz (xs.map f) := by
  subst hn
  obtain ⟨a, cap, e1, h0, h1⟩ := own_shape h
  refine ⟨a, cap, e1, h0, fun hp => ?_⟩
  obtain ⟨b, off, e2, hb, hc⟩ := h1 (by simpa using hp)
  refine ⟨b, off, e2, hb, fun i hi j u hu => ?_⟩
  have := hc _ _ (flat_get f sz hl xs i (by simpa using hi) j u (by simpa using hu))
  rw [← Nat.add_assoc] at this
  exact this
/-- An object as it is at first. -/
def itemP (o : OBJ) : IT := ⟨o, [], if kindP o.k o.cap o.wd o.rt = 2 ∨ kindP o.k o.cap o.wd o.rt = 3 then V4.clip o.wd ⟨o.i0, o.i1, o.i2, o.i3⟩ else if kindP o.k o.cap o.wd o.rt = 4 then ⟨o.i0, 0, 0, 0⟩ else v0⟩
def IL.new (x : IT) : IL := ⟨x, none, 0⟩
theorem item_new (w : World) (o : OBJ) : ItemR w (itemP o) none 0 := ⟨fun h => by simp [itemP] at h, by simp [itemP], by simp [maxLen], fun _ => rfl, fun b hb => by simp at hb⟩
theorem new_len (x : IT) : (IL.new x).cells.length = 15 := rfl
section
variable {w : World} {oa : Option Addr} {l : List OBJ}
set_option maxRecDepth 100000 in
set_option maxHeartbeats 8000000 in
theorem start_c (oc : Nat) (h : Els w oa 10 (l.map OBJ.cells)) (hn : l.length ≤ 1000) :
    Calls Try.prog 8 #[.slice oa l.length oc] w fun e w' => Upd [] w w' ∧ ∃ sa sc, e = .returned (.slice sa l.length sc) ∧ SRel w' sa (l.map fun o => .new (itemP o)) := by
  have HE := Lib.hid h
  have HL := Lib.hid hn
  obtain ⟨ii, hii, hz0, hz1, hz2⟩ := info_parts info_item15
  have HZ := Lib.hid (And.intro hii (And.intro hz0 (And.intro hz1 hz2)))
  clear h hn hii hz0 hz1 hz2
  go_enter Try.func8, Try.ntmps8
  go_wp2
  go_loopg [2, 8] l.length (fun n s2 s8 wr => ∃ (j : Nat), n + j = l.length ∧ s8 = .int .i64 j ∧ wr.ownsRow w.heap.size 112 15 s2 j ((l.take j).flatMap fun o => (IL.new (itemP o)).cells) ∧ Upd [] w wr)
  case atStart => exact ⟨0, by omega, rfl, own_none, Upd.refl _ _⟩
  case round =>
    obtain ⟨j, hj, rfl, hown, hu⟩ := hrel
    have HJ := Lib.hid hj
    have HOWN := Lib.hid hown
    have HU := Lib.hid hu
    clear hown hu
    have hl0 := HL.out
    by_cases hlt : j < l.length
    · obtain ⟨b, off, rfl, hb, hc⟩ := els_at HE.out hlt
      have HLT := Lib.hid hlt
      have htk : (l.take (j + 1)).flatMap (fun o => (IL.new (itemP o)).cells) = (l.take j).flatMap (fun o => (IL.new (itemP o)).cells) ++ (IL.new (itemP l[j])).cells := by rw [List.take_succ_eq_append_getElem hlt, List.flatMap_append]; simp; rfl
      have HTK := Lib.hid htk
      have hbr : b < wr.heap.size := Nat.lt_of_lt_of_le hb HU.out.size
      generalize hz : l[j] = z at *
      obtain ⟨k, cap, wd, rt, f, t, i0, i1, i2, i3⟩ := z
      have g := fun m v hm => (HU.out.cell (p := ⟨b, off + j * 10 + m, none⟩) hb (by simp)).trans (hc m v hm)
      have g0 := g 0 _ rfl
      have g1 := g 1 _ rfl
      have g2 := g 2 _ rfl
      have g3 := g 3 _ rfl
      have g4 := g 4 _ rfl
      have g5 := g 5 _ rfl
      have g6 := g 6 _ rfl
      have g7 := g 7 _ rfl
      have g8 := g 8 _ rfl
      have g9 := g 9 _ rfl
      rw [Nat.add_zero] at g0
      have b1 : (0 : Int) ≤ (j : Int) := by omega
      have b2 : (j : Int) < (l.length : Int) := by omega
      have HW := Lib.hid (show wrap64 ((j : Int) + 1) = ((j + 1 : Nat) : Int) from wrap_next (by omega) hlt)
      have HK := Lib.hid fun v0 v1 v2 v3 w => kind_c k cap wd rt f t i0 i1 i2 i3 none 0 0 v0 v1 v2 v3 w
      have HOB := Lib.hid (show wr.heap.size ≤ wr.heap.size from Nat.le_refl _)
      by_cases h4 : kindP k cap wd rt = 4
      · have HC := Lib.hid (show (IL.new (itemP ⟨k, cap, wd, rt, f, t, i0, i1, i2, i3⟩)).cells = [.int .i64 k, .int .i64 cap, .int .i64 wd, .int .i64 rt, .int .i64 f, .int .i64 t, .int .u32 i0, .int .u32 i1, .int .u32 i2, .int .u32 i3, .slice none 0 0, .int .u32 i0, .int .u32 0, .int .u32 0, .int .u32 0] from by simp [IL.new, IL.cells, IT.A, itA, itemP, h4])
        rw [h4] at HK
        unfold itA obA at HK
        clear h4
        (
            go_wp2_with (first
              | (go_at_call 43; (with_reducible refine (HK.out _ _ _ _ _).mono ?_); rintro e w2 ⟨rfl, rfl⟩)
              | (fail)
              | (at_builtin; refine Hid.out ?_)))
        (
            refine Lib.hid ?_
            refine wpList_push rfl _ _ 33 rfl 112 ii _ 15 104 Try.underlying33 HZ.out.1 HZ.out.2.1 HZ.out.2.2.1 HZ.out.2.2.2 rfl (by decide) w wr w.heap.size _ j _ rfl HOWN.out ?hur HU.out (Nat.le_refl _) HU.out.size
              _ [.int .i64 k, .int .i64 cap, .int .i64 wd, .int .i64 rt, .int .i64 f, .int .i64 t, .int .u32 i0, .int .u32 i1, .int .u32 i2, .int .u32 i3, .slice none 0 0, .int .u32 i0, .int .u32 0, .int .u32 0, .int .u32 0] 112 (0, 0) rfl rfl ?hg (fun u hu => il_one (IL.new (itemP ⟨k, cap, wd, rt, f, t, i0, i1, i2, i3⟩)) u (by rw [HC.out]; exact hu)) (by have := HL.out; have := HLT.out; omega) (by decide) ?_
            case hur => repeat (first | (with_reducible exact Upd.refl _ _) | (with_reducible apply Upd.drew) | (with_reducible refine Upd.grE ?_ _) | (with_reducible refine Upd.alloc ?_ _))
            case hg => repeat (first | ((with_reducible refine heap_alloc_at _ ?_); (simp; done)) | (with_reducible apply heap_drewE) | (with_reducible apply heap_grE) | (with_reducible apply heap_alloc'))
            intro v' w' ho' hu' _
            rw [← HC.out, ← HTK.out] at ho'
            have HO' := Lib.hid ho'
            have HU' := Lib.hid hu'
            clear ho' hu'
            go_wp2
            go_roundg (l.length - (j + 1))
            case rel => exact ⟨j + 1, by have := HLT.out; omega, by first | (rw [HW.out]; done) | (simp; done), HO'.out, HU'.out⟩
            case measure => have := HLT.out; have := HJ.out; omega)
      by_cases h23 : kindP k cap wd rt = 2 ∨ kindP k cap wd rt = 3
      · have hwd := kind_wide (x := ⟨⟨k, cap, wd, rt, f, t, i0, i1, i2, i3⟩, [], v0⟩) (.inr h23)
        have HQ := Lib.hid fun w => clip_c i0 i1 i2 i3 w wd hwd.1 hwd.2
        have HC := Lib.hid (show (IL.new (itemP ⟨k, cap, wd, rt, f, t, i0, i1, i2, i3⟩)).cells = [.int .i64 k, .int .i64 cap, .int .i64 wd, .int .i64 rt, .int .i64 f, .int .i64 t, .int .u32 i0, .int .u32 i1, .int .u32 i2, .int .u32 i3, .slice none 0 0, .int .u32 (clip1 (decide (0 < wd)) i0), .int .u32 (clip1 (decide (1 < wd)) i1), .int .u32 (clip1 (decide (2 < wd)) i2), .int .u32 (clip1 (decide (3 < wd)) i3)] from by simp [IL.new, IL.cells, IT.A, itA, itemP, h23, V4.clip])
        unfold clipA v4A at HQ
        generalize clip1 (decide (0 < wd)) i0 = x0 at HC HQ
        generalize clip1 (decide (1 < wd)) i1 = x1 at HC HQ
        generalize clip1 (decide (2 < wd)) i2 = x2 at HC HQ
        generalize clip1 (decide (3 < wd)) i3 = x3 at HC HQ
        unfold itA obA at HK
        clear hwd h4
        rcases h23 with h2 | h2
        all_goals
          rw [h2] at HK
          clear h2
          (
              go_wp2_with (first
                | (go_at_call 43; (with_reducible refine (HK.out _ _ _ _ _).mono ?_); rintro e w2 ⟨rfl, rfl⟩)
                | (go_at_call 44; (with_reducible refine (HQ.out _).mono ?_); rintro e w2 ⟨rfl, rfl⟩)
                | (at_builtin; refine Hid.out ?_)))
          (
              refine Lib.hid ?_
              refine wpList_push rfl _ _ 33 rfl 112 ii _ 15 104 Try.underlying33 HZ.out.1 HZ.out.2.1 HZ.out.2.2.1 HZ.out.2.2.2 rfl (by decide) w wr w.heap.size _ j _ rfl HOWN.out ?hur HU.out (Nat.le_refl _) HU.out.size
                _ [.int .i64 k, .int .i64 cap, .int .i64 wd, .int .i64 rt, .int .i64 f, .int .i64 t, .int .u32 i0, .int .u32 i1, .int .u32 i2, .int .u32 i3, .slice none 0 0, .int .u32 x0, .int .u32 x1, .int .u32 x2, .int .u32 x3] 112 (0, 0) rfl rfl ?hg (fun u hu => il_one (IL.new (itemP ⟨k, cap, wd, rt, f, t, i0, i1, i2, i3⟩)) u (by rw [HC.out]; exact hu)) (by have := HL.out; have := HLT.out; omega) (by decide) ?_
              case hur => repeat (first | (with_reducible exact Upd.refl _ _) | (with_reducible apply Upd.drew) | (with_reducible refine Upd.grE ?_ _) | (with_reducible refine Upd.alloc ?_ _))
              case hg => repeat (first | ((with_reducible refine heap_alloc_at _ ?_); (simp; done)) | (with_reducible apply heap_drewE) | (with_reducible apply heap_grE) | (with_reducible apply heap_alloc'))
              intro v' w' ho' hu' _
              rw [← HC.out, ← HTK.out] at ho'
              have HO' := Lib.hid ho'
              have HU' := Lib.hid hu'
              clear ho' hu'
              go_wp2
              go_roundg (l.length - (j + 1))
              case rel => exact ⟨j + 1, by have := HLT.out; omega, by first | (rw [HW.out]; done) | (simp; done), HO'.out, HU'.out⟩
              case measure => have := HLT.out; have := HJ.out; omega)
      · have HC := Lib.hid (show (IL.new (itemP ⟨k, cap, wd, rt, f, t, i0, i1, i2, i3⟩)).cells = [.int .i64 k, .int .i64 cap, .int .i64 wd, .int .i64 rt, .int .i64 f, .int .i64 t, .int .u32 i0, .int .u32 i1, .int .u32 i2, .int .u32 i3, .slice none 0 0, .int .u32 0, .int .u32 0, .int .u32 0, .int .u32 0] from by simp [IL.new, IL.cells, IT.A, itA, itemP, h4, h23, v0])
        unfold itA obA at HK
        have k2 : (kindP k cap wd rt == 2) = false := by simp; omega
        have k3 : (kindP k cap wd rt == 3) = false := by simp; omega
        have k4 : (kindP k cap wd rt == 4) = false := by simp; omega
        generalize kindP k cap wd rt = kk at *
        clear h4 h23
        (
            go_wp2_with (first
              | (go_at_call 43; (with_reducible refine (HK.out _ _ _ _ _).mono ?_); rintro e w2 ⟨rfl, rfl⟩)
              | (fail)
              | (at_builtin; refine Hid.out ?_)))
        (
            refine Lib.hid ?_
            refine wpList_push rfl _ _ 33 rfl 112 ii _ 15 104 Try.underlying33 HZ.out.1 HZ.out.2.1 HZ.out.2.2.1 HZ.out.2.2.2 rfl (by decide) w wr w.heap.size _ j _ rfl HOWN.out ?hur HU.out (Nat.le_refl _) HU.out.size
              _ [.int .i64 k, .int .i64 cap, .int .i64 wd, .int .i64 rt, .int .i64 f, .int .i64 t, .int .u32 i0, .int .u32 i1, .int .u32 i2, .int .u32 i3, .slice none 0 0, .int .u32 0, .int .u32 0, .int .u32 0, .int .u32 0] 112 (0, 0) rfl rfl ?hg (fun u hu => il_one (IL.new (itemP ⟨k, cap, wd, rt, f, t, i0, i1, i2, i3⟩)) u (by rw [HC.out]; exact hu)) (by have := HL.out; have := HLT.out; omega) (by decide) ?_
            case hur => repeat (first | (with_reducible exact Upd.refl _ _) | (with_reducible apply Upd.drew) | (with_reducible refine Upd.grE ?_ _) | (with_reducible refine Upd.alloc ?_ _))
            case hg => repeat (first | ((with_reducible refine heap_alloc_at _ ?_); (simp; done)) | (with_reducible apply heap_drewE) | (with_reducible apply heap_grE) | (with_reducible apply heap_alloc'))
            intro v' w' ho' hu' _
            rw [← HC.out, ← HTK.out] at ho'
            have HO' := Lib.hid ho'
            have HU' := Lib.hid hu'
            clear ho' hu'
            go_wp2
            go_roundg (l.length - (j + 1))
            case rel => exact ⟨j + 1, by have := HLT.out; omega, by first | (rw [HW.out]; done) | (simp; done), HO'.out, HU'.out⟩
            case measure => have := HLT.out; have := HJ.out; omega)
    · have hd : decide ((j : Int) < (l.length : Int)) = false := by simp; omega
      obtain rfl : j = l.length := by omega
      go_wp2
      go_ret
      rw [List.take_length] at HOWN
      have hfl : (l.flatMap fun o => (IL.new (itemP o)).cells) = (l.map fun o => IL.new (itemP o)).flatMap IL.cells := by rw [List.flatMap_map]
      rw [hfl] at HOWN
      obtain ⟨a, cap, rfl, _, he⟩ := flat_own IL.cells il_len HOWN.out (by simp)
      refine ⟨HU.out, a, cap, by simp, ⟨he, fun r hr => ?_⟩⟩
      obtain ⟨o, _, rfl⟩ := List.mem_map.1 hr
      exact item_new _ o
end
end Go.Proofs.Ytdbgnnkbcebpcaa
