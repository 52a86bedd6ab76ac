/- The document's Check: whose an object's ends are. -/
import Derived.Test.YtkjonflmokapcaaCF9
set_option linter.unusedVariables false
set_option linter.unusedSimpArgs false
namespace Go.Proofs.Ytkjonflmokapcaa
open Go.RowKit

section
variable (ta la oa : Option Addr) (tn tc ln lc on oc : Nat) (tk : Int) (w : World)
set_option maxRecDepth 100000 in
set_option maxHeartbeats 8000000 in
theorem owned_r (k cap wd rt f t i0 i1 i2 i3 : Int) (h1 : tn ≤ 1000) (h2 : ln ≤ 1000) (hk1 : 1 ≤ k) (hk4 : k ≤ 4) : Calls Try.prog 69 #[.agg (cfA ta tn tc la ln lc oa on oc tk), .agg (obA k cap wd rt f t i0 i1 i2 i3)] w fun e w' => e = .returned (.bool (ownB tn ln k f t)) ∧ Upd [] w w' := by
  have HB0 := Lib.hid (show ((w.alloc (.cells (cfA ta tn tc la ln lc oa on oc tk) 77)).alloc (.cells (obA k cap wd rt f t i0 i1 i2 i3) 112)).heap[w.heap.size]? = some (.cells (cfA ta tn tc la ln lc oa on oc tk) 77) from heap_alloc' (heap_alloc_new _ _))
  have HB1 := Lib.hid (show ((w.alloc (.cells (cfA ta tn tc la ln lc oa on oc tk) 77)).alloc (.cells (obA k cap wd rt f t i0 i1 i2 i3) 112)).heap[w.heap.size + 1]? = some (.cells (obA k cap wd rt f t i0 i1 i2 i3) 112) from heap_alloc_at _ (by simp))
  have H1 := Lib.hid (fun (w' : World) => has_r ta la oa tn tc ln lc on oc tk w' f h1 h2)
  have H2 := Lib.hid (fun (w' : World) => has_r ta la oa tn tc ln lc on oc tk w' t h1 h2)
  unfold ownB oneB
  generalize hasB tn ln f = q1 at H1 ⊢
  generalize hasB tn ln t = q2 at H2 ⊢
  have hk : k = 1 ∨ k = 2 ∨ k = 3 ∨ k = 4 := by omega
  clear hk1 hk4
  unfold cfA obA at *
  rcases hk with rfl | rfl | rfl | rfl
  · cases q1 <;> cases q2 <;>
    ( go_enter Try.func69, Try.ntmps69
      go_wp2_with fail
      refine (H1.out _).mono ?_
      rintro e w1 ⟨rfl, hu1⟩
      have HC0 := Lib.hid (hu1.keepb HB0.out (by simp))
      have HC1 := Lib.hid (hu1.keepb HB1.out (by simp))
      obtain ⟨m0, m1, m2, m3⟩ := cells4 HC0.out
      obtain ⟨g0, g1, g2, g3, g4, g5⟩ := cells10' HC1.out
      have HU1 := Lib.hid ((((Upd.refl [] w).alloc _).alloc _).trans hu1)
      clear hu1
      go_wp2_with fail
      refine (H2.out _).mono ?_
      rintro e w2 ⟨rfl, hu2⟩
      obtain ⟨n0, n1, n2, n3, n4, n5⟩ := cells10' (hu2.keepb HC1.out (by simp))
      have HU2 := Lib.hid (HU1.out.trans hu2)
      clear hu2
      go_wp2
      go_ret
      exact ⟨rfl, HU2.out⟩)
  · cases q1 <;> cases q2 <;>
    ( go_enter Try.func69, Try.ntmps69
      go_wp2_with fail
      refine (H1.out _).mono ?_
      rintro e w1 ⟨rfl, hu1⟩
      have HC0 := Lib.hid (hu1.keepb HB0.out (by simp))
      have HC1 := Lib.hid (hu1.keepb HB1.out (by simp))
      obtain ⟨m0, m1, m2, m3⟩ := cells4 HC0.out
      obtain ⟨g0, g1, g2, g3, g4, g5⟩ := cells10' HC1.out
      have HU1 := Lib.hid ((((Upd.refl [] w).alloc _).alloc _).trans hu1)
      clear hu1
      go_wp2_with fail
      refine (H2.out _).mono ?_
      rintro e w2 ⟨rfl, hu2⟩
      obtain ⟨n0, n1, n2, n3, n4, n5⟩ := cells10' (hu2.keepb HC1.out (by simp))
      have HU2 := Lib.hid (HU1.out.trans hu2)
      clear hu2
      go_wp2
      go_ret
      exact ⟨rfl, HU2.out⟩)
  · rcases h0 : (t == 0) with _ | _ <;> cases q1 <;>
    ( go_enter Try.func69, Try.ntmps69
      go_wp2_with fail
      refine (H1.out _).mono ?_
      rintro e w1 ⟨rfl, hu1⟩
      have HC0 := Lib.hid (hu1.keepb HB0.out (by simp))
      have HC1 := Lib.hid (hu1.keepb HB1.out (by simp))
      obtain ⟨m0, m1, m2, m3⟩ := cells4 HC0.out
      obtain ⟨g0, g1, g2, g3, g4, g5⟩ := cells10' HC1.out
      have HU1 := Lib.hid ((((Upd.refl [] w).alloc _).alloc _).trans hu1)
      clear hu1
      go_wp2
      go_ret
      exact ⟨rfl, HU1.out⟩)
  · rcases h0 : (t == 0) with _ | _ <;> rcases h1 : (f == 0) with _ | _ <;>
    ( go_enter Try.func69, Try.ntmps69
      go_wp2
      go_ret
      exact ⟨rfl, ((Upd.refl [] w).alloc _).alloc _⟩)
end
end Go.Proofs.Ytkjonflmokapcaa
