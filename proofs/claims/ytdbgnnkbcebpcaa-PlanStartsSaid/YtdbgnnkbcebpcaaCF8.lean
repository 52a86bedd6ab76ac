/- Package conf: what is wrong with a level, an object. -/
import Derived.Test.YtdbgnnkbcebpcaaCF7
import Derived.Deep.MidRow
set_option linter.unusedVariables false
set_option linter.unusedSimpArgs false
namespace Go.Proofs.Ytdbgnnkbcebpcaa
open Go.RowKit

theorem range_of {w : World} {b : Nat} {cs : Array Value} {t : TypeId} {f : Nat × Nat} (h : w.heap[b]? = some (.cells cs t f)) {o : Nat} {l : List Value} (hl : (cs.toList.drop o).take l.length = l) : w.rangeAt b o l := fun j v hj => by
  rw [cell_of_heap h]
  rw [← hl, List.getElem?_take] at hj
  split at hj
  · rw [List.getElem?_drop] at hj
    simpa using hj
  · cases hj
section
variable {ta la oa : Option Addr} (tc lc oc : Nat) {c : CF} {w : World}
set_option maxRecDepth 100000 in
set_option maxHeartbeats 4000000 in
theorem levels_c (h : CFR w ta la oa c) (a : Nat) (ha : a ≤ c.ls.length) : Calls Try.prog 79 #[.agg (cfA ta c.ts.length tc la c.ls.length lc oa c.os.length oc c.tk), .int .i64 a] w fun e w' => e = .returned (ansV ((c.faults 3)[a]?)) ∧ Upd [] w w' := by
  have b1 := h.ln
  have e1 : (c.faults 3)[a]? = (c.ls.map LV.fault)[a]? := rfl
  rw [e1]
  clear e1
  by_cases hlt : a < c.ls.length
  · obtain ⟨b, off, rfl, hb, hc⟩ := els_at h.l hlt
    have hm := h.lcn c.ls[a] (List.getElem_mem hlt)
    rw [List.getElem?_map, List.getElem?_eq_getElem hlt, Option.map_some]
    generalize c.ls[a] = x at hc hm ⊢
    obtain ⟨r, ca, cn, cc⟩ := x
    have k0 := hc 0 _ rfl
    have k1 := hc 1 _ rfl
    rw [Nat.add_zero] at k0
    have e2 : ((a : Int) == (c.ls.length : Int)) = false := by simp; omega
    unfold maxLen at hm
    have HW := Lib.hid fun w => room_c r w
    have HF := Lib.hid (show ∀ b : Bool, pw7 r = b → LV.fault ⟨r, ca, cn, cc⟩ = if b then (if 64 < cn then 14 else 0) else 13 from fun b h => by rw [← h]; rfl)
    generalize pw7 r = q at HW HF
    have HG := Lib.hid (HF.out q rfl)
    simp only at hm
    generalize c.ts.length = tn at *
    generalize c.ls.length = ln at *
    generalize c.os.length = on at *
    generalize c.tk = tk at *
    clear HF h hc ha
    unfold cfA
    cases q
    · go_enter Try.func79, Try.ntmps79
      go_wp2_with (go_at_call 91; refine (HW.out _).mono ?_; rintro e w1 ⟨rfl, rfl⟩)
      go_ret2
      exact ⟨congrArg Ending.returned (by show _ = ansV (some _); rw [HG.out]; rfl), by repeat (first | exact Upd.refl _ _ | apply Upd.alloc)⟩
    · by_cases h64 : 64 < cn
      · have e3 : decide ((64 : Int) < cn) = true := by simp; omega
        have HGG := Lib.hid (show LV.fault ⟨r, ca, cn, cc⟩ = 14 by rw [HG.out]; simp [h64])
        go_enter Try.func79, Try.ntmps79
        go_wp2_with (go_at_call 91; refine (HW.out _).mono ?_; rintro e w1 ⟨rfl, rfl⟩)
        go_ret2
        exact ⟨congrArg Ending.returned (by show _ = ansV (some _); rw [HGG.out]; rfl), by repeat (first | exact Upd.refl _ _ | apply Upd.alloc)⟩
      · have e3 : decide ((64 : Int) < cn) = false := by simp; omega
        have HGG := Lib.hid (show LV.fault ⟨r, ca, cn, cc⟩ = 0 by rw [HG.out]; simp [h64])
        go_enter Try.func79, Try.ntmps79
        go_wp2_with (go_at_call 91; refine (HW.out _).mono ?_; rintro e w1 ⟨rfl, rfl⟩)
        go_ret2
        exact ⟨congrArg Ending.returned (by show _ = ansV (some _); rw [HGG.out]; rfl), by repeat (first | exact Upd.refl _ _ | apply Upd.alloc)⟩
  · obtain rfl : a = c.ls.length := by omega
    rw [List.getElem?_eq_none (by simp)]
    clear h ha hlt
    generalize c.ts.length = tn at *
    generalize c.ls.length = ln at *
    generalize c.os.length = on at *
    generalize c.tk = tk at *
    unfold cfA
    go_enter Try.func79, Try.ntmps79
    go_wp2
    go_ret2
    exact ⟨rfl, by repeat (first | exact Upd.refl _ _ | apply Upd.alloc)⟩
set_option maxRecDepth 100000 in
set_option maxHeartbeats 8000000 in
theorem objects_c (h : CFR w ta la oa c) (a : Nat) (ha : a ≤ c.os.length) : Calls Try.prog 80 #[.agg (cfA ta c.ts.length tc la c.ls.length lc oa c.os.length oc c.tk), .int .i64 a] w fun e w' => e = .returned (ansV ((c.faults 4)[a]?)) ∧ Upd [] w w' := by
  have b1 := h.tn
  have b2 := h.ln
  have b3 := h.on
  have e1 : (c.faults 4)[a]? = (c.os.map (OBJ.fault c.ts.length c.ls.length))[a]? := rfl
  rw [e1]
  clear e1
  by_cases hlt : a < c.os.length
  · obtain ⟨b, off, rfl, hb, hc⟩ := els_at h.o hlt
    rw [List.getElem?_map, List.getElem?_eq_getElem hlt, Option.map_some]
    generalize c.os[a] = x at hc ⊢
    obtain ⟨k, cap, wd, rt, f, t, i0, i1, i2, i3⟩ := x
    have k0 := hc 0 _ rfl
    have k1 := hc 1 _ rfl
    have k2 := hc 2 _ rfl
    have k3 := hc 3 _ rfl
    have k4 := hc 4 _ rfl
    have k5 := hc 5 _ rfl
    have k6 := hc 6 _ rfl
    have k7 := hc 7 _ rfl
    have k8 := hc 8 _ rfl
    have k9 := hc 9 _ rfl
    rw [Nat.add_zero] at k0
    have e2 : ((a : Int) == (c.os.length : Int)) = false := by simp; omega
    generalize c.ts.length = tn at *
    generalize c.ls.length = ln at *
    generalize c.os.length = on at *
    generalize c.tk = tk at *
    have HW := Lib.hid fun w => cwithin k 1 4 w
    have HRM := Lib.hid fun w => room_c cap w
    have HRT := Lib.hid fun w => sright_any cap wd rt f t i0 i1 i2 i3 w k
    have HOW := Lib.hid fun w => owned_c ta la (some ⟨b, off, none⟩) tn tc ln lc on oc tk w k cap wd rt f t i0 i1 i2 i3 b1 b2
    have HF := Lib.hid (show ∀ q1 q2 q3 q4 q5 : Bool, (decide (1 ≤ k) && decide (k ≤ 4)) = q1 → (k == 1) = q2 → pw7 cap = q3 → rightB k cap wd rt = q4 → ownB tn ln k f t = q5 → OBJ.fault tn ln ⟨k, cap, wd, rt, f, t, i0, i1, i2, i3⟩ = if q1 then (if q2 && !q3 then 13 else if q4 then (if q5 then 0 else 10) else 2) else 12 from fun q1 q2 q3 q4 q5 h1 h2 h3 h4 h5 => by rw [← h1, ← h2, ← h3, ← h4, ← h5]; rfl)
    rcases hk : (k == 1) with _ | _ <;>
    ( generalize (decide ((1 : Int) ≤ k) && decide (k ≤ 4)) = q1 at HW HF
      generalize pw7 cap = q3 at HRM HF
      generalize rightB k cap wd rt = q4 at HRT HF
      generalize ownB tn ln k f t = q5 at HOW HF
      have HG := Lib.hid (HF.out q1 _ q3 q4 q5 rfl hk rfl rfl rfl)
      clear HF )
    all_goals
      clear h hc ha
      unfold cfA obA at *
    · cases q1
      · go_enter Try.func80, Try.ntmps80
        go_wp2_with (go_at_call 90; refine (HW.out _).mono ?_; rintro e w1 ⟨rfl, rfl⟩)
        go_ret2
        exact ⟨congrArg Ending.returned (by show _ = ansV (some _); rw [HG.out]; rfl), by repeat (first | exact Upd.refl _ _ | apply Upd.alloc)⟩
      · cases q4
        · go_enter Try.func80, Try.ntmps80
          go_wp2_with (first | (go_at_call 90; refine (HW.out _).mono ?_; rintro e w1 ⟨rfl, rfl⟩))
          refine (HRT.out _).mono ?_
          rintro e w1 ⟨rfl, hu1⟩
          go_wp2
          go_ret2
          exact ⟨congrArg Ending.returned (by show _ = ansV (some _); rw [HG.out]; rfl), (((Upd.refl [] _).alloc _).alloc _).trans hu1⟩
        · have HBB := Lib.hid (show _ ∧ _ from ⟨heap_alloc' (o := .cells #[.int .i64 k, .int .i64 cap, .int .i64 wd, .int .i64 rt, .int .i64 f, .int .i64 t, .int .u32 i0, .int .u32 i1, .int .u32 i2, .int .u32 i3] 109) (heap_alloc_new w (.cells #[.slice ta tn tc, .slice la ln lc, .slice (some ⟨b, off, none⟩) on oc, .int .i64 tk] 161)), heap_alloc_at (w := w.alloc (.cells #[.slice ta tn tc, .slice la ln lc, .slice (some ⟨b, off, none⟩) on oc, .int .i64 tk] 161)) (g := w.heap.size + 1) (.cells #[.int .i64 k, .int .i64 cap, .int .i64 wd, .int .i64 rt, .int .i64 f, .int .i64 t, .int .u32 i0, .int .u32 i1, .int .u32 i2, .int .u32 i3] 109) (by simp)⟩)
          cases q5 <;>
          ( go_enter Try.func80, Try.ntmps80
            go_wp2_with (first | (go_at_call 90; refine (HW.out _).mono ?_; rintro e w1 ⟨rfl, rfl⟩))
            refine (HRT.out _).mono ?_
            rintro e w1 ⟨rfl, hu1⟩
            obtain ⟨m0, m1, m2, m3⟩ := cells4 (hu1.keepb HBB.out.1 (by simp))
            have HR := Lib.hid (range_of (hu1.keepb HBB.out.2 (by simp)) (o := 0) (l := [.int .i64 k, .int .i64 cap, .int .i64 wd, .int .i64 rt, .int .i64 f, .int .i64 t, .int .u32 i0, .int .u32 i1, .int .u32 i2, .int .u32 i3]) rfl)
            have HU1 := Lib.hid ((((Upd.refl [] w).alloc _).alloc _).trans hu1)
            clear hu1
            go_wp2_with (first | (refine wpList_load_mid rfl 109 _ rfl (w.heap.size + 1) 0 rfl _ _ HR.out Try.underlying109 rfl (by kernel_rfl) ?_) | (go_at_call 92; refine (HOW.out _).mono ?_; rintro e w2 ⟨rfl, hu2⟩))
            go_ret2
            exact ⟨congrArg Ending.returned (by show _ = ansV (some _); rw [HG.out]; rfl), HU1.out.trans hu2⟩)
    · cases q1
      · go_enter Try.func80, Try.ntmps80
        go_wp2_with (go_at_call 90; refine (HW.out _).mono ?_; rintro e w1 ⟨rfl, rfl⟩)
        go_ret2
        exact ⟨congrArg Ending.returned (by show _ = ansV (some _); rw [HG.out]; rfl), by repeat (first | exact Upd.refl _ _ | apply Upd.alloc)⟩
      · cases q3
        · go_enter Try.func80, Try.ntmps80
          go_wp2_with (first | (go_at_call 90; refine (HW.out _).mono ?_; rintro e w1 ⟨rfl, rfl⟩) | (go_at_call 91; refine (HRM.out _).mono ?_; rintro e w1 ⟨rfl, rfl⟩))
          go_ret2
          exact ⟨congrArg Ending.returned (by show _ = ansV (some _); rw [HG.out]; rfl), by repeat (first | exact Upd.refl _ _ | apply Upd.alloc)⟩
        · cases q4
          · go_enter Try.func80, Try.ntmps80
            go_wp2_with (first | (go_at_call 90; refine (HW.out _).mono ?_; rintro e w1 ⟨rfl, rfl⟩) | (go_at_call 91; refine (HRM.out _).mono ?_; rintro e w1 ⟨rfl, rfl⟩))
            refine (HRT.out _).mono ?_
            rintro e w1 ⟨rfl, hu1⟩
            go_wp2
            go_ret2
            exact ⟨congrArg Ending.returned (by show _ = ansV (some _); rw [HG.out]; rfl), (((Upd.refl [] _).alloc _).alloc _).trans hu1⟩
          · have HBB := Lib.hid (show _ ∧ _ from ⟨heap_alloc' (o := .cells #[.int .i64 k, .int .i64 cap, .int .i64 wd, .int .i64 rt, .int .i64 f, .int .i64 t, .int .u32 i0, .int .u32 i1, .int .u32 i2, .int .u32 i3] 109) (heap_alloc_new w (.cells #[.slice ta tn tc, .slice la ln lc, .slice (some ⟨b, off, none⟩) on oc, .int .i64 tk] 161)), heap_alloc_at (w := w.alloc (.cells #[.slice ta tn tc, .slice la ln lc, .slice (some ⟨b, off, none⟩) on oc, .int .i64 tk] 161)) (g := w.heap.size + 1) (.cells #[.int .i64 k, .int .i64 cap, .int .i64 wd, .int .i64 rt, .int .i64 f, .int .i64 t, .int .u32 i0, .int .u32 i1, .int .u32 i2, .int .u32 i3] 109) (by simp)⟩)
            cases q5 <;>
            ( go_enter Try.func80, Try.ntmps80
              go_wp2_with (first | (go_at_call 90; refine (HW.out _).mono ?_; rintro e w1 ⟨rfl, rfl⟩) | (go_at_call 91; refine (HRM.out _).mono ?_; rintro e w1 ⟨rfl, rfl⟩))
              refine (HRT.out _).mono ?_
              rintro e w1 ⟨rfl, hu1⟩
              obtain ⟨m0, m1, m2, m3⟩ := cells4 (hu1.keepb HBB.out.1 (by simp))
              have HR := Lib.hid (range_of (hu1.keepb HBB.out.2 (by simp)) (o := 0) (l := [.int .i64 k, .int .i64 cap, .int .i64 wd, .int .i64 rt, .int .i64 f, .int .i64 t, .int .u32 i0, .int .u32 i1, .int .u32 i2, .int .u32 i3]) rfl)
              have HU1 := Lib.hid ((((Upd.refl [] w).alloc _).alloc _).trans hu1)
              clear hu1
              go_wp2_with (first | (refine wpList_load_mid rfl 109 _ rfl (w.heap.size + 1) 0 rfl _ _ HR.out Try.underlying109 rfl (by kernel_rfl) ?_) | (go_at_call 92; refine (HOW.out _).mono ?_; rintro e w2 ⟨rfl, hu2⟩))
              go_ret2
              exact ⟨congrArg Ending.returned (by show _ = ansV (some _); rw [HG.out]; rfl), HU1.out.trans hu2⟩)
  · obtain rfl : a = c.os.length := by omega
    rw [List.getElem?_eq_none (by simp)]
    clear h ha hlt
    generalize c.ts.length = tn at *
    generalize c.ls.length = ln at *
    generalize c.os.length = on at *
    generalize c.tk = tk at *
    unfold cfA
    go_enter Try.func80, Try.ntmps80
    go_wp2
    go_ret2
    exact ⟨rfl, by repeat (first | exact Upd.refl _ _ | apply Upd.alloc)⟩
end
end Go.Proofs.Ytdbgnnkbcebpcaa
