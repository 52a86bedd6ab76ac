/- Package conf: what is wrong with a task, a level, an object. -/
import Derived.Test.YtdbgnnkbcebpcaaCF6
set_option linter.unusedVariables false
set_option linter.unusedSimpArgs false
namespace Go.Proofs.Ytdbgnnkbcebpcaa
open Go.RowKit

theorem els_at {w : World} {a : Option Addr} {sz : Nat} {α : Type} {f : α → List Value} {xs : List α} (h : Els w a sz (xs.map f)) {i : Nat} (hi : i < xs.length) : ∃ b off, a = some ⟨b, off, none⟩ ∧ b < w.heap.size ∧ ∀ j v, (f xs[i])[j]? = some v → w.cell? ⟨b, off + i * sz + j, none⟩ = some v := by
  obtain ⟨b, off, e, hb, hc⟩ := h (by simp; omega)
  exact ⟨b, off, e, hb, fun j v hv => hc i (by simpa using hi) j v (by simpa using hv)⟩
section
variable {ta la oa : Option Addr} (tc lc oc : Nat) {c : CF} {w : World}
set_option maxRecDepth 100000 in
set_option maxHeartbeats 4000000 in
theorem tasks_c (h : CFR w ta la oa c) (a : Nat) (ha : a ≤ c.ts.length) : Calls Try.prog 78 #[.agg (cfA ta c.ts.length tc la c.ls.length lc oa c.os.length oc c.tk), .int .i64 a] w fun e w' => e = .returned (ansV ((c.faults 2)[a]?)) ∧ Upd [] w w' := by
  have b1 := h.tn
  have e1 : (c.faults 2)[a]? = (c.ts.map TK.fault)[a]? := rfl
  rw [e1]
  clear e1
  by_cases hlt : a < c.ts.length
  · obtain ⟨b, off, rfl, hb, hc⟩ := els_at h.t hlt
    have hm := h.tcn c.ts[a] (List.getElem_mem hlt)
    rw [List.getElem?_map, List.getElem?_eq_getElem hlt, Option.map_some]
    generalize c.ts[a] = x at hc hm ⊢
    obtain ⟨p, l, ca, cn, cc⟩ := x
    have k0 := hc 0 _ rfl
    have k1 := hc 1 _ rfl
    have k2 := hc 2 _ rfl
    rw [Nat.add_zero] at k0
    have e1 : (a == c.ts.length) = false := by simp; omega
    have e2 : ((a : Int) == (c.ts.length : Int)) = false := by simp; omega
    unfold maxLen at hm
    have HW := Lib.hid fun w => cwithin p 0 31 w
    have HF := Lib.hid (show ∀ b : Bool, (decide (0 ≤ p) && decide (p ≤ 31)) = b → TK.fault ⟨p, l, ca, cn, cc⟩ = if b then (if 64 < cn then 14 else 0) else 2 from fun b h => by rw [← h]; rfl)
    generalize (decide ((0 : Int) ≤ p) && decide (p ≤ 31)) = q at HW HF
    have HG := Lib.hid (HF.out q rfl)
    simp only at hm
    generalize c.ts.length = tn at *
    generalize c.ls.length = ln at *
    generalize c.os.length = on at *
    generalize c.tk = tk at *
    clear HF h hc ha
    unfold cfA
    cases q
    · go_enter Try.func78, Try.ntmps78
      go_wp2_with (go_at_call 90; refine (HW.out _).mono ?_; rintro e w1 ⟨rfl, rfl⟩)
      go_ret2
      exact ⟨congrArg Ending.returned (by show _ = ansV (some _); rw [HG.out]; rfl), by repeat (first | exact Upd.refl _ _ | apply Upd.alloc)⟩
    · by_cases h64 : 64 < cn
      · have e3 : decide ((64 : Int) < cn) = true := by simp; omega
        have HGG := Lib.hid (show TK.fault ⟨p, l, ca, cn, cc⟩ = 14 by rw [HG.out]; simp [h64])
        go_enter Try.func78, Try.ntmps78
        go_wp2_with (go_at_call 90; refine (HW.out _).mono ?_; rintro e w1 ⟨rfl, rfl⟩)
        go_ret2
        exact ⟨congrArg Ending.returned (by show _ = ansV (some _); rw [HGG.out]; rfl), by repeat (first | exact Upd.refl _ _ | apply Upd.alloc)⟩
      · have e3 : decide ((64 : Int) < cn) = false := by simp; omega
        have HGG := Lib.hid (show TK.fault ⟨p, l, ca, cn, cc⟩ = 0 by rw [HG.out]; simp [h64])
        go_enter Try.func78, Try.ntmps78
        go_wp2_with (go_at_call 90; refine (HW.out _).mono ?_; rintro e w1 ⟨rfl, rfl⟩)
        go_ret2
        exact ⟨congrArg Ending.returned (by show _ = ansV (some _); rw [HGG.out]; rfl), by repeat (first | exact Upd.refl _ _ | apply Upd.alloc)⟩
  · obtain rfl : a = c.ts.length := by omega
    rw [List.getElem?_eq_none (by simp)]
    clear h ha hlt
    generalize c.ts.length = tn at *
    generalize c.ls.length = ln at *
    generalize c.os.length = on at *
    generalize c.tk = tk at *
    unfold cfA
    go_enter Try.func78, Try.ntmps78
    go_wp2
    go_ret2
    exact ⟨rfl, by repeat (first | exact Upd.refl _ _ | apply Upd.alloc)⟩
end
end Go.Proofs.Ytdbgnnkbcebpcaa
