/- Package conf: whose an object's ends are. -/
import Derived.Test.YtdbgnnkbcebpcaaCF4
set_option linter.unusedVariables false
set_option linter.unusedSimpArgs false
namespace Go.Proofs.Ytdbgnnkbcebpcaa
open Go.RowKit


def oneB (tn ln : Nat) (ctx : Int) (is : Bool) : Bool := if is then hasB tn ln ctx else ctx == 0
def ownB (tn ln : Nat) (k f t : Int) : Bool := oneB tn ln f (k != 4) && oneB tn ln t (k == 1 || k == 2)
theorem cells4 {w : World} {k : Nat} {a b c d : Value} {t : TypeId} {fr : Nat × Nat} (hh : w.heap[k]? = some (.cells #[a, b, c, d] t fr)) :
    w.cell? ⟨k, 0, none⟩ = some a ∧ w.cell? ⟨k, 1, none⟩ = some b ∧ w.cell? ⟨k, 2, none⟩ = some c ∧ w.cell? ⟨k, 3, none⟩ = some d :=
  ⟨by rw [cell_of_heap hh]; rfl, by rw [cell_of_heap hh]; rfl, by rw [cell_of_heap hh]; rfl, by rw [cell_of_heap hh]; rfl⟩
theorem cells10' {w : World} {k : Nat} {a b c d e f g h i j : Value} {t : TypeId} {fr : Nat × Nat} (hh : w.heap[k]? = some (.cells #[a, b, c, d, e, f, g, h, i, j] t fr)) :
    w.cell? ⟨k, 0, none⟩ = some a ∧ w.cell? ⟨k, 1, none⟩ = some b ∧ w.cell? ⟨k, 2, none⟩ = some c ∧ w.cell? ⟨k, 3, none⟩ = some d ∧ w.cell? ⟨k, 4, none⟩ = some e ∧ w.cell? ⟨k, 5, none⟩ = some f :=
  ⟨by rw [cell_of_heap hh]; rfl, by rw [cell_of_heap hh]; rfl, by rw [cell_of_heap hh]; rfl, by rw [cell_of_heap hh]; rfl, by rw [cell_of_heap hh]; rfl, by rw [cell_of_heap hh]; rfl⟩
section
variable (ta la oa : Option Addr) (tn tc ln lc on oc : Nat) (tk : Int) (w : World)
set_option maxRecDepth 100000 in
set_option maxHeartbeats 1000000 in
theorem one_c (ctx : Int) (is : Bool) (lb : Nat) {ty : TypeId} (h1 : tn ≤ 1000) (h2 : ln ≤ 1000) (hb : w.heap[lb]? = some (.cells (cfA ta tn tc la ln lc oa on oc tk) ty)) : Calls Try.prog 95 #[.int .i64 ctx, .bool is, .pointer (some ⟨lb, 0, none⟩)] w fun e w' => e = .returned (.bool (oneB tn ln ctx is)) ∧ Upd [] w w' := by
  obtain ⟨c0, c1, c2, c3⟩ := cells4 hb
  have HH := Lib.hid fun w => has_c ta la oa tn tc ln lc on oc tk w ctx h1 h2
  clear hb
  unfold cfA at HH
  unfold oneB
  generalize hasB tn ln ctx = b at HH ⊢
  cases is
  · rcases h0 : (ctx == 0) with _ | _ <;>
    ( go_enter Try.func95, Try.ntmps95
      go_wp2_with (go_at_call 96; refine (HH.out _).mono ?_; rintro e w1 ⟨rfl, hu1⟩)
      go_ret
      exact ⟨by simp, by first | exact Upd.refl _ _ | assumption⟩)
  · cases b <;>
    ( go_enter Try.func95, Try.ntmps95
      go_wp2_with (go_at_call 96; refine (HH.out _).mono ?_; rintro e w1 ⟨rfl, hu1⟩)
      go_ret
      exact ⟨by simp, by first | exact Upd.refl _ _ | assumption⟩)
set_option maxRecDepth 100000 in
set_option maxHeartbeats 4000000 in
theorem owned_c (k cap wd rt f t i0 i1 i2 i3 : Int) (h1 : tn ≤ 1000) (h2 : ln ≤ 1000) : Calls Try.prog 92 #[.agg (cfA ta tn tc la ln lc oa on oc tk), .agg (obA k cap wd rt f t i0 i1 i2 i3)] w fun e w' => e = .returned (.bool (ownB tn ln k f t)) ∧ Upd [] w w' := by
  have hb0 : ((w.alloc (.cells (cfA ta tn tc la ln lc oa on oc tk) 161)).alloc (.cells (obA k cap wd rt f t i0 i1 i2 i3) 109)).heap[w.heap.size]? = some (.cells (cfA ta tn tc la ln lc oa on oc tk) 161) := heap_alloc' (heap_alloc_new _ _)
  have HB0 := Lib.hid hb0
  have hb1 : ((w.alloc (.cells (cfA ta tn tc la ln lc oa on oc tk) 161)).alloc (.cells (obA k cap wd rt f t i0 i1 i2 i3) 109)).heap[w.heap.size + 1]? = some (.cells (obA k cap wd rt f t i0 i1 i2 i3) 109) := heap_alloc_at _ (by simp)
  have HB1 := Lib.hid hb1
  have H1 := Lib.hid (fun (w' : World) (is : Bool) (h : w'.heap[w.heap.size]? = some (.cells (cfA ta tn tc la ln lc oa on oc tk) 161)) => one_c ta la oa tn tc ln lc on oc tk w' f is w.heap.size h1 h2 h)
  have H2 := Lib.hid (fun (w' : World) (is : Bool) (h : w'.heap[w.heap.size]? = some (.cells (cfA ta tn tc la ln lc oa on oc tk) 161)) => one_c ta la oa tn tc ln lc on oc tk w' t is w.heap.size h1 h2 h)
  clear hb0 hb1
  unfold ownB
  unfold cfA obA at *
  rcases q4 : (k != 4) with _ | _ <;> rcases q1 : (k == 1) with _ | _ <;> rcases q2 : (k == 2) with _ | _ <;> rcases r1 : oneB tn ln f (k != 4) with _ | _ <;> simp only [q4] at r1 <;> simp only [r1, Bool.or_true, Bool.true_or, Bool.or_false, Bool.false_or, Bool.false_and, Bool.true_and] <;>
  ( have R1 := Lib.hid r1
    clear r1
    go_enter Try.func92, Try.ntmps92
    go_wp2_with fail
    refine (H1.out _ _ HB0.out).mono ?_
    rintro e w1 ⟨he1, hu1⟩
    rw [R1.out] at he1
    subst he1
    have hc1 := cells10' (hu1.keepb HB1.out (by simp))
    obtain ⟨g0, g1, g2, g3, g4, g5⟩ := hc1
    have HC0 := Lib.hid (hu1.keepb HB0.out (by simp))
    have HU1 := Lib.hid ((((Upd.refl [] w).alloc _).alloc _).trans hu1)
    clear hu1
    go_wp2_with (go_at_call 95; refine (H2.out _ _ HC0.out).mono ?_; rintro e w2 ⟨rfl, hu2⟩)
    go_ret
    exact ⟨by simp, by first | exact HU1.out | exact HU1.out.trans hu2⟩)
end
end Go.Proofs.Ytdbgnnkbcebpcaa
