/- Package cert: a call of a history, what is before what, the closure late (printed by genct.py out of CT1.base). -/
import Derived.Test.YtdbgnnkbcebpcaaSP14
set_option linter.unusedVariables false
set_option linter.unusedSimpArgs false
namespace Go.Proofs.Ytdbgnnkbcebpcaa
open Go.RowKit

/-- A call in a history. -/
structure OP where
  (who idx ck co : Int) (cv : V4) (cn rf : Int) (rv : V4) (done : Bool) (bg fin : Int)
def OP.A (x : OP) : Array Value := #[.int .i64 x.who, .int .i64 x.idx, .int .i64 x.ck, .int .i64 x.co, .int .u32 x.cv.a, .int .u32 x.cv.b, .int .u32 x.cv.c, .int .u32 x.cv.d, .int .u32 x.cn, .int .i64 x.rf, .int .u32 x.rv.a, .int .u32 x.rv.b, .int .u32 x.rv.c, .int .u32 x.rv.d, .bool x.done, .int .i64 x.bg, .int .i64 x.fin]
def OP.cells (x : OP) : List Value := x.A.toList
theorem op_len (x : OP) : x.cells.length = 17 := rfl
def beforeB (a b : OP) : Bool := a.done && decide (a.fin < b.bg)
def numC (n : Int) : List Value := [.int .i64 n]
section
variable (w : World)
set_option maxRecDepth 100000 in
set_option maxHeartbeats 4000000 in
theorem before_c (a b : OP) : Calls Try.prog 35 #[.agg a.A, .agg b.A] w fun e w' => e = .returned (.bool (beforeB a b)) ∧ Upd [] w w' := by
  obtain ⟨a0, a1, a2, a3, ⟨a4, a5, a6, a7⟩, a8, a9, ⟨a10, a11, a12, a13⟩, ad, a15, a16⟩ := a
  obtain ⟨b0, b1, b2, b3, ⟨b4, b5, b6, b7⟩, b8, b9, ⟨b10, b11, b12, b13⟩, bd, b15, b16⟩ := b
  unfold beforeB OP.A
  cases ad
  all_goals
    go_enter Try.func35, Try.ntmps35
    go_wp2
    go_ret
    exact ⟨by simp, ((Upd.refl _ _).alloc _).alloc _⟩
set_option maxRecDepth 100000 in
set_option maxHeartbeats 4000000 in
theorem there_c (la : Option Addr) (ln lc : Nat) (at_ : Int) : Calls Try.prog 57 #[.slice la ln lc, .int .i64 at_] w fun e w' => e = .returned (.bool (decide (0 ≤ at_) && decide (at_ < ln))) ∧ w' = w := by
  cases h : decide (0 ≤ at_)
  all_goals
    go_enter Try.func57, Try.ntmps57
    go_wp2
    go_ret
    exact ⟨by simp, rfl⟩
end
/-- Is a call late behind the first ones of an order? -/
def lateP (l : List OP) (order : List Int) (o : OP) : Bool := order.any fun k => match l[k.toNat]? with | some a => beforeB o a | none => false
theorem lateP_le {l : List OP} {order : List Int} {o : OP} {m j : Nat} (h : m < j) (hl : lateP l (order.take (m + 1)) o = true) : lateP l (order.take j) o = true := by
  unfold lateP at hl ⊢
  rw [List.any_eq_true] at hl ⊢
  obtain ⟨k, hk, hx⟩ := hl
  refine ⟨k, ?_, hx⟩
  have : order.take (m + 1) = (order.take j).take (m + 1) := by rw [List.take_take, Nat.min_eq_left (by omega)]
  rw [this] at hk
  exact List.mem_of_mem_take hk
section
variable {w : World} {la oa : Option Addr} {l : List OP} {order : List Int}
set_option maxRecDepth 100000 in
set_option maxHeartbeats 8000000 in
theorem late_c (lc oc : Nat) (o : OP) (j pl po pa : Nat) {tl tq ta : TypeId} (hl : Els w la 17 (l.map OP.cells)) (ho : Els w oa 1 (order.map numC)) (hin : ∀ k ∈ order, 0 ≤ k ∧ k < l.length) (hj : j ≤ order.length) (hn : l.length ≤ 1000) (hm : order.length ≤ 1000) (hoc : order.length ≤ oc)
    (h1 : w.heap[po]? = some (.cells #[.slice oa order.length oc] tq)) (h2 : w.heap[pa]? = some (.cells #[.int .i64 j] ta)) (h3 : w.heap[pl]? = some (.cells #[.slice la l.length lc] tl)) :
    Calls Try.prog 56 #[.agg o.A, .pointer (some ⟨po, 0, none⟩), .pointer (some ⟨pa, 0, none⟩), .pointer (some ⟨pl, 0, none⟩)] w fun e w' => e = .returned (.bool (lateP l (order.take j) o)) ∧ Upd [] w w' := by
  have HLE := Lib.hid hl
  have HOE := Lib.hid ho
  have HIN := Lib.hid hin
  have c1 : w.cell? ⟨po, 0, none⟩ = some (.slice oa order.length oc) := by rw [cell_of_heap h1]; rfl
  have c2 : w.cell? ⟨pa, 0, none⟩ = some (.int .i64 j) := by rw [cell_of_heap h2]; rfl
  have c3 : w.cell? ⟨pl, 0, none⟩ = some (.slice la l.length lc) := by rw [cell_of_heap h3]; rfl
  have l1 := heap_lt h1
  have l2 := heap_lt h2
  have l3 := heap_lt h3
  have HL := Lib.hid (And.intro hj (And.intro hn (And.intro hm hoc)))
  have HB := Lib.hid fun (a : OP) (w : World) => before_c w o a
  have d1 : decide (j ≤ oc) = true := by simp; omega
  have d2 : (0 : Int) ≤ (j : Int) := by omega
  have d3 : (j : Int) ≤ (oc : Int) := by omega
  clear hl ho hin h1 h2 h3 hj hn hm hoc
  obtain ⟨o0, o1, o2, o3, ⟨o4, o5, o6, o7⟩, o8, o9, ⟨o10, o11, o12, o13⟩, od, o15, o16⟩ := o
  have HB := Lib.hid fun a w => HB.out a w
  unfold OP.A at HB
  unfold OP.A
  simp only at HB ⊢
  go_enter Try.func56, Try.ntmps56
  go_wp2
  have HX := Lib.hid (heap_alloc_new w (.cells #[.int .i64 o0, .int .i64 o1, .int .i64 o2, .int .i64 o3, .int .u32 o4, .int .u32 o5, .int .u32 o6, .int .u32 o7, .int .u32 o8, .int .i64 o9, .int .u32 o10, .int .u32 o11, .int .u32 o12, .int .u32 o13, .bool od, .int .i64 o15, .int .i64 o16] 86))
  have HU0 := Lib.hid ((Upd.refl [] w).alloc (.cells #[.int .i64 o0, .int .i64 o1, .int .i64 o2, .int .i64 o3, .int .u32 o4, .int .u32 o5, .int .u32 o6, .int .u32 o7, .int .u32 o8, .int .i64 o9, .int .u32 o10, .int .u32 o11, .int .u32 o12, .int .u32 o13, .bool od, .int .i64 o15, .int .i64 o16] 86))
  have HC1 := Lib.hid c1
  have HC2 := Lib.hid c2
  have HC3 := Lib.hid c3
  have HLL := Lib.hid (And.intro l1 (And.intro l2 l3))
  clear c1 c2 c3 l1 l2 l3
  generalize w.alloc (.cells #[.int .i64 o0, .int .i64 o1, .int .i64 o2, .int .i64 o3, .int .u32 o4, .int .u32 o5, .int .u32 o6, .int .u32 o7, .int .u32 o8, .int .i64 o9, .int .u32 o10, .int .u32 o11, .int .u32 o12, .int .u32 o13, .bool od, .int .i64 o15, .int .i64 o16] 86) = W0 at HX HU0 ⊢
  go_loopg [7, 12] j (fun n s7 s12 wr => ∃ m : Nat, n + m = j ∧ s12 = .int .i64 m ∧ Upd [] W0 wr ∧ lateP l (order.take m) ⟨o0, o1, o2, o3, ⟨o4, o5, o6, o7⟩, o8, o9, ⟨o10, o11, o12, o13⟩, od, o15, o16⟩ = false)
  case atStart => exact ⟨0, by omega, rfl, Upd.refl _ _, by simp [lateP]⟩
  case round =>
    obtain ⟨m, hm, rfl, hu, hlate⟩ := hrel
    have HM := Lib.hid hm
    have HU := Lib.hid hu
    have HLATE := Lib.hid hlate
    clear hu hlate
    by_cases hlt : m < j
    · have hmo : m < order.length := by have := HL.out.1; omega
      obtain ⟨ob, oo, rfl, hob, hoc⟩ := els_at HOE.out hmo
      have hk := HIN.out order[m] (List.getElem_mem hmo)
      obtain ⟨kn, hkn⟩ : ∃ kn : Nat, order[m] = kn := ⟨order[m].toNat, by omega⟩
      have hkl : kn < l.length := by omega
      obtain ⟨lb, lo, rfl, hlb, hlc⟩ := els_at HLE.out hkl
      have g := hoc 0 _ rfl
      rw [hkn] at g
      have hstep : lateP l (order.take (m + 1)) ⟨o0, o1, o2, o3, ⟨o4, o5, o6, o7⟩, o8, o9, ⟨o10, o11, o12, o13⟩, od, o15, o16⟩ = beforeB ⟨o0, o1, o2, o3, ⟨o4, o5, o6, o7⟩, o8, o9, ⟨o10, o11, o12, o13⟩, od, o15, o16⟩ l[kn] := by
        have h := HLATE.out
        unfold lateP at h ⊢
        rw [List.take_succ_eq_append_getElem hmo, List.any_append, h, hkn]
        simp [hkl]
      generalize hz : l[kn] = z at hlc hstep
      obtain ⟨z0, z1, z2, z3, ⟨z4, z5, z6, z7⟩, z8, z9, ⟨z10, z11, z12, z13⟩, zd, z15, z16⟩ := z
      have HB := Lib.hid fun w => HB.out ⟨z0, z1, z2, z3, ⟨z4, z5, z6, z7⟩, z8, z9, ⟨z10, z11, z12, z13⟩, zd, z15, z16⟩ w
      simp only at HB
      have HBW := Lib.hid (HU0.out.trans HU.out)
      have EG : wr.cell? ⟨ob, oo + m, none⟩ = some (.int .i64 kn) := (HBW.out.cell (p := ⟨ob, oo + m, none⟩) hob (by simp)).trans (by simpa using g)
      have hobr : ob < wr.heap.size := Nat.lt_of_lt_of_le hob HBW.out.size
      have E := fun q v hq => (HBW.out.cell (p := ⟨lb, lo + kn * 17 + q, none⟩) hlb (by simp)).trans (hlc q v hq)
      have E0 := Lib.hid (E 0 _ rfl)
      have E1 := Lib.hid (E 1 _ rfl)
      have E2 := Lib.hid (E 2 _ rfl)
      have E3 := Lib.hid (E 3 _ rfl)
      have E4 := Lib.hid (E 4 _ rfl)
      have E5 := Lib.hid (E 5 _ rfl)
      have E6 := Lib.hid (E 6 _ rfl)
      have E7 := Lib.hid (E 7 _ rfl)
      have E8 := Lib.hid (E 8 _ rfl)
      have E9 := Lib.hid (E 9 _ rfl)
      have E10 := Lib.hid (E 10 _ rfl)
      have E11 := Lib.hid (E 11 _ rfl)
      have E12 := Lib.hid (E 12 _ rfl)
      have E13 := Lib.hid (E 13 _ rfl)
      have E14 := Lib.hid (E 14 _ rfl)
      have E15 := Lib.hid (E 15 _ rfl)
      have E16 := Lib.hid (E 16 _ rfl)
      rw [Nat.add_zero] at E0
      have HXW := HU.out.keepb HX.out (by simp)
      have F := cell_of_list HXW
      have F0 := Lib.hid (F 0 _ rfl)
      have F1 := Lib.hid (F 1 _ rfl)
      have F2 := Lib.hid (F 2 _ rfl)
      have F3 := Lib.hid (F 3 _ rfl)
      have F4 := Lib.hid (F 4 _ rfl)
      have F5 := Lib.hid (F 5 _ rfl)
      have F6 := Lib.hid (F 6 _ rfl)
      have F7 := Lib.hid (F 7 _ rfl)
      have F8 := Lib.hid (F 8 _ rfl)
      have F9 := Lib.hid (F 9 _ rfl)
      have F10 := Lib.hid (F 10 _ rfl)
      have F11 := Lib.hid (F 11 _ rfl)
      have F12 := Lib.hid (F 12 _ rfl)
      have F13 := Lib.hid (F 13 _ rfl)
      have F14 := Lib.hid (F 14 _ rfl)
      have F15 := Lib.hid (F 15 _ rfl)
      have F16 := Lib.hid (F 16 _ rfl)
      have HPL := Lib.hid ((HBW.out.cell (p := ⟨pl, 0, none⟩) HLL.out.2.2 (by simp)).trans HC3.out)
      have b1 : (0 : Int) ≤ (kn : Int) := by omega
      have b2 : (kn : Int) < (l.length : Int) := by omega
      have b3 : (0 : Int) ≤ (m : Int) := by omega
      have b4 : (m : Int) < (j : Int) := by omega
      have HW := Lib.hid (show wrap64 ((m : Int) + 1) = ((m + 1 : Nat) : Int) from wrap_next (by have := HL.out; omega) hmo)
      have HSTEP := Lib.hid hstep
      have HLT := Lib.hid hlt
      clear E F HXW hlc hoc g hstep hk hob hlb
      go_wp2_with fail
      go_region_held3 (fun w' => w'.cell? ⟨lb, lo + kn * 17, none⟩ = some (.int .i64 z0) ∧ w'.cell? ⟨lb, lo + kn * 17 + 1, none⟩ = some (.int .i64 z1) ∧ w'.cell? ⟨lb, lo + kn * 17 + 2, none⟩ = some (.int .i64 z2) ∧ w'.cell? ⟨lb, lo + kn * 17 + 3, none⟩ = some (.int .i64 z3) ∧ w'.cell? ⟨lb, lo + kn * 17 + 4, none⟩ = some (.int .u32 z4) ∧ w'.cell? ⟨lb, lo + kn * 17 + 5, none⟩ = some (.int .u32 z5) ∧ w'.cell? ⟨lb, lo + kn * 17 + 6, none⟩ = some (.int .u32 z6) ∧ w'.cell? ⟨lb, lo + kn * 17 + 7, none⟩ = some (.int .u32 z7) ∧ w'.cell? ⟨lb, lo + kn * 17 + 8, none⟩ = some (.int .u32 z8) ∧ w'.cell? ⟨lb, lo + kn * 17 + 9, none⟩ = some (.int .i64 z9) ∧ w'.cell? ⟨lb, lo + kn * 17 + 10, none⟩ = some (.int .u32 z10) ∧ w'.cell? ⟨lb, lo + kn * 17 + 11, none⟩ = some (.int .u32 z11) ∧ w'.cell? ⟨lb, lo + kn * 17 + 12, none⟩ = some (.int .u32 z12) ∧ w'.cell? ⟨lb, lo + kn * 17 + 13, none⟩ = some (.int .u32 z13) ∧ w'.cell? ⟨lb, lo + kn * 17 + 14, none⟩ = some (.bool zd) ∧ w'.cell? ⟨lb, lo + kn * 17 + 15, none⟩ = some (.int .i64 z15) ∧ w'.cell? ⟨lb, lo + kn * 17 + 16, none⟩ = some (.int .i64 z16) ∧ w'.cell? ⟨w.heap.size, 0, none⟩ = some (.int .i64 o0) ∧ w'.cell? ⟨w.heap.size, 1, none⟩ = some (.int .i64 o1) ∧ w'.cell? ⟨w.heap.size, 2, none⟩ = some (.int .i64 o2) ∧ w'.cell? ⟨w.heap.size, 3, none⟩ = some (.int .i64 o3) ∧ w'.cell? ⟨w.heap.size, 4, none⟩ = some (.int .u32 o4) ∧ w'.cell? ⟨w.heap.size, 5, none⟩ = some (.int .u32 o5) ∧ w'.cell? ⟨w.heap.size, 6, none⟩ = some (.int .u32 o6) ∧ w'.cell? ⟨w.heap.size, 7, none⟩ = some (.int .u32 o7) ∧ w'.cell? ⟨w.heap.size, 8, none⟩ = some (.int .u32 o8) ∧ w'.cell? ⟨w.heap.size, 9, none⟩ = some (.int .i64 o9) ∧ w'.cell? ⟨w.heap.size, 10, none⟩ = some (.int .u32 o10) ∧ w'.cell? ⟨w.heap.size, 11, none⟩ = some (.int .u32 o11) ∧ w'.cell? ⟨w.heap.size, 12, none⟩ = some (.int .u32 o12) ∧ w'.cell? ⟨w.heap.size, 13, none⟩ = some (.int .u32 o13) ∧ w'.cell? ⟨w.heap.size, 14, none⟩ = some (.bool od) ∧ w'.cell? ⟨w.heap.size, 15, none⟩ = some (.int .i64 o15) ∧ w'.cell? ⟨w.heap.size, 16, none⟩ = some (.int .i64 o16) ∧ w'.cell? ⟨pl, 0, none⟩ = some (.slice (some ⟨lb, lo, none⟩) l.length lc))
        (((try dsimp only); (refine ⟨?_, ?_, ?_, ?_, ?_, ?_, ?_, ?_, ?_, ?_, ?_, ?_, ?_, ?_, ?_, ?_, ?_, ?_, ?_, ?_, ?_, ?_, ?_, ?_, ?_, ?_, ?_, ?_, ?_, ?_, ?_, ?_, ?_, ?_, ?_⟩) <;> (repeat (first | (with_reducible exact E0.out) | (with_reducible exact E1.out) | (with_reducible exact E2.out) | (with_reducible exact E3.out) | (with_reducible exact E4.out) | (with_reducible exact E5.out) | (with_reducible exact E6.out) | (with_reducible exact E7.out) | (with_reducible exact E8.out) | (with_reducible exact E9.out) | (with_reducible exact E10.out) | (with_reducible exact E11.out) | (with_reducible exact E12.out) | (with_reducible exact E13.out) | (with_reducible exact E14.out) | (with_reducible exact E15.out) | (with_reducible exact E16.out) | (with_reducible exact F0.out) | (with_reducible exact F1.out) | (with_reducible exact F2.out) | (with_reducible exact F3.out) | (with_reducible exact F4.out) | (with_reducible exact F5.out) | (with_reducible exact F6.out) | (with_reducible exact F7.out) | (with_reducible exact F8.out) | (with_reducible exact F9.out) | (with_reducible exact F10.out) | (with_reducible exact F11.out) | (with_reducible exact F12.out) | (with_reducible exact F13.out) | (with_reducible exact F14.out) | (with_reducible exact F15.out) | (with_reducible exact F16.out) | (with_reducible exact HPL.out) | (with_reducible apply cell_drewE) | (with_reducible apply cell_grE) | (with_reducible apply cell_allocE)))))
        (first | (go_at_call 35; (with_reducible refine (HB.out _).mono ?_); rintro e w3 ⟨rfl, hu3⟩; obtain ⟨p3, rfl⟩ := hu3.grown; clear hu3))
      all_goals
        generalize hbb : beforeB ⟨o0, o1, o2, o3, ⟨o4, o5, o6, o7⟩, o8, o9, ⟨o10, o11, o12, o13⟩, od, o15, o16⟩ ⟨z0, z1, z2, z3, ⟨z4, z5, z6, z7⟩, z8, z9, ⟨z10, z11, z12, z13⟩, zd, z15, z16⟩ = bb at *
        have HBB := Lib.hid hbb
        clear hbb
        cases bb
        · go_wp2
          go_roundg (j - (m + 1))
          case rel => exact ⟨m + 1, by have := HLT.out; omega, by first | (rw [HW.out]; done) | (simp; done), HU.out.trans (by repeat (first | (with_reducible exact Upd.refl _ _) | (with_reducible apply Upd.drew) | (with_reducible refine Upd.grE ?_ _) | (with_reducible refine Upd.alloc ?_ _))), by first | exact HSTEP.out | (rw [HSTEP.out]; exact HBB.out)⟩
          case measure => have := HLT.out; have := HM.out; omega
        · go_wp2
          go_ret
          refine ⟨?_, HU0.out.trans (HU.out.trans (by repeat (first | (with_reducible exact Upd.refl _ _) | (with_reducible apply Upd.drew) | (with_reducible refine Upd.grE ?_ _) | (with_reducible refine Upd.alloc ?_ _))))⟩
          rw [lateP_le HLT.out (by first | exact HSTEP.out | (rw [HSTEP.out]; exact HBB.out))]
          rfl
    · obtain rfl : m = j := by omega
      have d : decide ((m : Int) < (m : Int)) = false := by simp
      go_wp2
      go_ret
      refine ⟨?_, HU0.out.trans HU.out⟩
      rw [HLATE.out]
      rfl
end
end Go.Proofs.Ytdbgnnkbcebpcaa
