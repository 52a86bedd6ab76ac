/- What came in for CertSteps; the chapter's example; the law CertSteps (printed by genct.py out of CT6.base). -/
import Derived.Test.YtdbgnnkbcebpcaaCT4
import Derived.Test.YtdbgnnkbcebpcaaShape
set_option linter.unusedVariables false
set_option linter.unusedSimpArgs false
namespace Go.Proofs.Ytdbgnnkbcebpcaa
open Go.RowKit

/-- A slice that came in, by what its elements are. -/
theorem slice_els {α : Type} {e : Sh} {w : World} {v : Value} (f : α → List Value) (dec : ∀ cs, e.ok w cs → ∃ x, cs = f x) (h : (Sh.slice e).okV w v) : ∃ (a : Option Addr) (cap : Nat) (xs : List α), v = .slice a xs.length cap ∧ xs.length ≤ cap ∧ cap ≤ maxLen ∧ Els w a e.size (xs.map f) := by
  obtain ⟨a, len, cap, hv, hlc, hcm, g, hf, hm, h0⟩ : (Sh.slice e).ok w [v] := h
  obtain rfl : v = .slice a len cap := by simpa using hv
  obtain ⟨xs, hl, hx⟩ := list_of len (fun i x => g i = f x) (fun i hi => by
    obtain ⟨x, hx⟩ := dec _ (hf i hi).1
    exact ⟨x, hx⟩)
  subst hl
  refine ⟨a, cap, xs, rfl, hlc, hcm, fun hp => ?_⟩
  obtain ⟨b, off, e1, hb, hc⟩ := hm (by simpa using hp)
  refine ⟨b, off, e1, hb, fun i hi j u hu => ?_⟩
  have hi' : i < xs.length := by simpa using hi
  exact hc i hi' j u (by rw [hx i hi']; simpa using hu)
theorem dec4 {w : World} {cs : List Value} (h : (Sh.ar 4 (.int .u32)).ok w cs) : ∃ v : V4, cs = v.cells := by
  obtain ⟨x0, y0, rfl, ⟨a, rfl, -⟩, x1, y1, rfl, ⟨b, rfl, -⟩, x2, y2, rfl, ⟨c, rfl, -⟩, x3, y3, rfl, ⟨d, rfl, -⟩, rfl⟩ := h
  exact ⟨⟨a, b, c, d⟩, rfl⟩
theorem dec_num {w : World} {cs : List Value} (h : (Sh.int .i64).ok w cs) : ∃ n : Int, cs = numC n := by
  obtain ⟨n, rfl, -⟩ := h
  exact ⟨n, rfl⟩
theorem dec_obj {w : World} {cs : List Value} (h : (Sh.st (.cons (.int .i64) (.cons (.int .i64) (.cons (.int .i64) (.cons (.int .i64) (.cons (.int .i64) (.cons (.int .i64) (.cons (.ar 4 (.int .u32)) (.nil))))))))).ok w cs) : ∃ o : OBJ, cs = o.cells := by
  obtain ⟨x0, y0, rfl, ⟨a, rfl, -⟩, x1, y1, rfl, ⟨b, rfl, -⟩, x2, y2, rfl, ⟨c, rfl, -⟩, x3, y3, rfl, ⟨d, rfl, -⟩, x4, y4, rfl, ⟨e, rfl, -⟩, x5, y5, rfl, ⟨f, rfl, -⟩, x6, y6, rfl, h6, rfl⟩ := h
  obtain ⟨v, rfl⟩ := dec4 h6
  exact ⟨⟨a, b, c, d, e, f, v.a, v.b, v.c, v.d⟩, rfl⟩
theorem dec_op {w : World} {cs : List Value} (h : (Sh.st (.cons (.int .i64) (.cons (.int .i64) (.cons (.st (.cons (.int .i64) (.cons (.int .i64) (.cons (.ar 4 (.int .u32)) (.cons (.int .u32) (.nil)))))) (.cons (.st (.cons (.int .i64) (.cons (.ar 4 (.int .u32)) (.nil)))) (.cons (.bool) (.cons (.int .i64) (.cons (.int .i64) (.nil))))))))).ok w cs) : ∃ o : OP, cs = o.cells := by
  obtain ⟨x0, y0, rfl, ⟨a, rfl, -⟩, x1, y1, rfl, ⟨b, rfl, -⟩, x2, y2, rfl, hc, x3, y3, rfl, hr, x4, y4, rfl, ⟨d, rfl⟩, x5, y5, rfl, ⟨e, rfl, -⟩, x6, y6, rfl, ⟨f, rfl, -⟩, rfl⟩ := h
  obtain ⟨c0, d0, rfl, ⟨k, rfl, -⟩, c1, d1, rfl, ⟨o, rfl, -⟩, c2, d2, rfl, hv, c3, d3, rfl, ⟨n, rfl, -⟩, rfl⟩ := hc
  obtain ⟨r0, q0, rfl, ⟨g, rfl, -⟩, r1, q1, rfl, hu, rfl⟩ := hr
  obtain ⟨v, rfl⟩ := dec4 hv
  obtain ⟨u, rfl⟩ := dec4 hu
  exact ⟨⟨a, b, k, o, v, n, g, u, d, e, f⟩, rfl⟩
theorem els_lit {α : Type} (f : α → List Value) (sz : Nat) (hl : ∀ x, (f x).length = sz) {w : World} {g : Nat} {t : TypeId} {fr : Nat × Nat} (xs : List α) {cs : List Value} (h : w.heap[g]? = some (.cells cs.toArray t fr)) (e : cs = xs.flatMap f) : Els w (some ⟨g, 0, none⟩) sz (xs.map f) := fun hp => by
  subst e
  refine ⟨g, 0, rfl, heap_lt h, fun i hi j v hv => ?_⟩
  rw [Nat.zero_add]
  exact cell_of_list h _ _ (flat_get f sz hl xs i (by simpa using hi) j v (by simpa using hv))
section
variable (w : World)
set_option maxRecDepth 100000 in
set_option maxHeartbeats 4000000 in
theorem light20 (ba la oa : Option Addr) (bn bc ln lc on oc : Nat) : Calls Try.prog 31 #[.slice ba bn bc, .slice la ln lc, .slice oa on oc] w fun e w' => e = .returned (.bool (decide (bn ≤ 8) && (decide (ln ≤ 30) && decide (on ≤ 60)))) ∧ w' = w := by
  cases h1 : decide ((bn : Int) ≤ 8) <;> cases h2 : decide ((ln : Int) ≤ 30)
  all_goals
    go_enter Try.func31, Try.ntmps31
    go_wp2
    go_ret
    have e1 : decide (bn ≤ 8) = decide ((bn : Int) ≤ 8) := by apply decide_eq_decide.2; omega
    have e2 : decide (ln ≤ 30) = decide ((ln : Int) ≤ 30) := by apply decide_eq_decide.2; omega
    have e3 : decide (on ≤ 60) = decide ((on : Int) ≤ 60) := by apply decide_eq_decide.2; omega
    rw [e1, e2, e3, h1, h2]
    exact ⟨by simp, rfl⟩
def exO : OBJ := ⟨1, 1, 1, 0, 0, 0, 0, 0, 0, 0⟩
def exA : OP := ⟨0, 0, 1, 0, ⟨5, 0, 0, 0⟩, 0, 0, ⟨0, 0, 0, 0⟩, true, 0, 3⟩
def exB : OP := ⟨1, 0, 2, 0, ⟨0, 0, 0, 0⟩, 0, 0, ⟨5, 0, 0, 0⟩, true, 1, 4⟩
theorem ex01 : checkP [exO] [exA, exB] [0, 1] = (0, 0) := by rfl
theorem ex10 : checkP [exO] [exA, exB] [1, 0] = (0, 2) := by rfl
set_option maxRecDepth 100000 in
set_option maxHeartbeats 4000000 in
theorem alive20 : Calls Try.prog 32 #[] w fun e w' => e = .returned (.bool true) ∧ Upd [] w w' := by
  have H0 := Lib.hid fun (w1 : World) (g1 g2 g3 : Nat) (t1 t2 t3 : TypeId) (h1 : w1.heap[g1]? = some (.cells exO.cells.toArray t1)) (h2 : w1.heap[g2]? = some (.cells (exA.cells ++ exB.cells).toArray t2)) (h3 : w1.heap[g3]? = some (.cells [.int .i64 0, .int .i64 1].toArray t3)) => check_c (w := w1) (objs := [exO]) (l := [exA, exB]) (order := [0, 1]) 1 2 2 (els_lit OBJ.cells 10 (fun _ => rfl) [exO] h1 rfl) (els_lit OP.cells 17 op_len [exA, exB] h2 rfl) (els_lit numC 1 (fun _ => rfl) [0, 1] h3 rfl) (by decide) (by decide) (by decide) (by decide)
  have H1 := Lib.hid fun (w1 : World) (g1 g2 g3 : Nat) (t1 t2 t3 : TypeId) (h1 : w1.heap[g1]? = some (.cells exO.cells.toArray t1)) (h2 : w1.heap[g2]? = some (.cells (exA.cells ++ exB.cells).toArray t2)) (h3 : w1.heap[g3]? = some (.cells [.int .i64 1, .int .i64 0].toArray t3)) => check_c (w := w1) (objs := [exO]) (l := [exA, exB]) (order := [1, 0]) 1 2 2 (els_lit OBJ.cells 10 (fun _ => rfl) [exO] h1 rfl) (els_lit OP.cells 17 op_len [exA, exB] h2 rfl) (els_lit numC 1 (fun _ => rfl) [1, 0] h3 rfl) (by decide) (by decide) (by decide) (by decide)
  rw [ex01] at H0
  rw [ex10] at H1
  simp only [List.length_cons, List.length_nil, Nat.zero_add, Nat.reduceAdd] at H0 H1
  unfold exO exA exB OBJ.cells OP.cells OP.A obA at H0 H1
  simp only [List.cons_append, List.nil_append] at H0 H1
  go_enter Try.func32, Try.ntmps32
  go_wp2_with (first
    | (go_at_call 33; (with_reducible refine (H0.out _ _ _ _ 109 86 3 ?_ ?_ ?_).mono ?_); (focus ((repeat (first | ((with_reducible refine heap_alloc_at _ ?_); (first | (simp; done) | (simp; omega))) | (with_reducible apply heap_grE) | (with_reducible apply heap_alloc'))); done)); (focus ((repeat (first | ((with_reducible refine heap_alloc_at _ ?_); (first | (simp; done) | (simp; omega))) | (with_reducible apply heap_grE) | (with_reducible apply heap_alloc'))); done)); (focus ((repeat (first | ((with_reducible refine heap_alloc_at _ ?_); (first | (simp; done) | (simp; omega))) | (with_reducible apply heap_grE) | (with_reducible apply heap_alloc'))); done)); rintro e w3 ⟨rfl, hu3⟩; obtain ⟨p3, rfl⟩ := hu3.grown; clear hu3)
    | (go_at_call 33; (with_reducible refine (H1.out _ _ _ _ 109 86 3 ?_ ?_ ?_).mono ?_); (focus ((repeat (first | ((with_reducible refine heap_alloc_at _ ?_); (first | (simp; done) | (simp; omega))) | (with_reducible apply heap_grE) | (with_reducible apply heap_alloc'))); done)); (focus ((repeat (first | ((with_reducible refine heap_alloc_at _ ?_); (first | (simp; done) | (simp; omega))) | (with_reducible apply heap_grE) | (with_reducible apply heap_alloc'))); done)); (focus ((repeat (first | ((with_reducible refine heap_alloc_at _ ?_); (first | (simp; done) | (simp; omega))) | (with_reducible apply heap_grE) | (with_reducible apply heap_alloc'))); done)); rintro e w4 ⟨rfl, hu4⟩; obtain ⟨p4, rfl⟩ := hu4.grown; clear hu4))
  · go_ret
    exact ⟨rfl, by repeat (first | (with_reducible exact Upd.refl _ _) | (with_reducible refine Upd.grE ?_ _) | (with_reducible refine Upd.alloc ?_ _))⟩
end

theorem checkGo_ne (l : List OP) (order : List Int) : ∀ (n m : Nat) (s : List IT), (checkGo l order n m s).2 ≠ 1
  | 0, _, _ => by simp [checkGo]
  | n + 1, m, s => by
    unfold checkGo
    split
    · simp
    · split
      · simp
      · split
        · simp
        · split
          · split
            · exact checkGo_ne l order n _ _
            · simp
          · exact checkGo_ne l order n _ _
section
variable {W : World} {ba la oa : Option Addr} {objs : List OBJ} {l : List OP} {order : List Int}
set_option maxRecDepth 100000 in
set_option maxHeartbeats 8000000 in
theorem steps_c (bc lc oc : Nat) (hb : Els W ba 10 (objs.map OBJ.cells)) (hl : Els W la 17 (l.map OP.cells)) (ho : Els W oa 1 (order.map numC)) (hoc : order.length ≤ oc) :
    Calls Try.prog 5 #[.slice ba objs.length bc, .slice la l.length lc, .slice oa order.length oc] W fun e w' => e = .returned (.bool true) ∧ Upd [] W w' := by
  have HLI := Lib.hid fun w => light20 w ba la oa objs.length bc l.length lc order.length oc
  have HAL := Lib.hid fun w => alive20 w
  cases hli : (decide (objs.length ≤ 8) && (decide (l.length ≤ 30) && decide (order.length ≤ 60)))
  · rw [hli] at HLI
    clear hli hb hl ho hoc
    have HCK := Lib.hid trivial
    have HWH := Lib.hid trivial
    have HST := Lib.hid trivial
    go_enter Try.func5, Try.ntmps5
    (
        go_wp2_with (first
          | (go_at_call 31; (with_reducible refine (HLI.out _).mono ?_); rintro e w2 ⟨rfl, h2⟩; obtain rfl := h2.symm; clear h2)
          | (go_at_call 32; (with_reducible refine (HAL.out _).mono ?_); rintro e w5 ⟨rfl, hu5⟩; obtain ⟨p5, rfl⟩ := hu5.grown; clear hu5)
          | (go_at_call 33; (with_reducible refine (HCK.out _ (by repeat (first | (with_reducible exact Upd.refl _ _) | (with_reducible exact HU.out) | (with_reducible apply Upd.drew) | (with_reducible refine Upd.grE ?_ _) | (with_reducible refine Upd.alloc ?_ _)))).mono ?_); rintro e w3 ⟨rfl, hu3⟩; obtain ⟨p3, rfl⟩ := hu3.grown; clear hu3)
          | (go_at_call 34; (with_reducible refine (HWH.out _ (by repeat (first | (with_reducible exact Upd.refl _ _) | (with_reducible exact HU.out) | (with_reducible apply Upd.drew) | (with_reducible refine Upd.grE ?_ _) | (with_reducible refine Upd.alloc ?_ _)))).mono ?_); rintro e w4 ⟨rfl, hu4⟩; obtain ⟨p4, rfl⟩ := hu4.grown; clear hu4)
          | (go_at_call 8; (with_reducible refine (HST.out _ (by repeat (first | (with_reducible exact Upd.refl _ _) | (with_reducible exact HU.out) | (with_reducible apply Upd.drew) | (with_reducible refine Upd.grE ?_ _) | (with_reducible refine Upd.alloc ?_ _)))).mono ?_); rintro e w6 ⟨hu6, sa, sc, rfl, hs6⟩; obtain ⟨p6, rfl⟩ := hu6.grown; have HS6 := Lib.hid hs6; clear hu6 hs6)))
    go_ret
    exact ⟨rfl, (by repeat (first | (with_reducible exact Upd.refl _ _) | (with_reducible exact HU.out) | (with_reducible apply Upd.drew) | (with_reducible refine Upd.grE ?_ _) | (with_reducible refine Upd.alloc ?_ _)))⟩
  rw [hli] at HLI
  have hlen : objs.length ≤ 8 ∧ l.length ≤ 30 ∧ order.length ≤ 60 := by simpa using hli
  have HLEN := Lib.hid hlen
  clear hli
  have HCK := Lib.hid fun (w1 : World) (hu : Upd [] W w1) => check_c (w := w1) bc lc oc (hb.upd hu (by simp)) (hl.upd hu (by simp)) (ho.upd hu (by simp)) (by omega) (by omega) (by omega) hoc
  have HWH := Lib.hid fun (w1 : World) (hu : Upd [] W w1) => whole_c (w := w1) lc oc (hl.upd hu (by simp)) (ho.upd hu (by simp)) (by omega) (by omega)
  have HST := Lib.hid fun (w1 : World) (hu : Upd [] W w1) => start_c (w := w1) bc (hb.upd hu (by simp)) (by omega)
  have HBE := Lib.hid fun (a b : OP) (w : World) => before_c w a b
  have HLE := Lib.hid hl
  have HOE := Lib.hid ho
  clear hb hl ho hoc hlen
  unfold checkP at HCK
  cases hwp : wholeP l order
  · rw [hwp] at HWH HCK
    rw [if_neg (by simp)] at HCK
    clear hwp
    simp only at HCK
    go_enter Try.func5, Try.ntmps5
    (
        go_wp2_with (first
          | (go_at_call 31; (with_reducible refine (HLI.out _).mono ?_); rintro e w2 ⟨rfl, h2⟩; obtain rfl := h2.symm; clear h2)
          | (go_at_call 32; (with_reducible refine (HAL.out _).mono ?_); rintro e w5 ⟨rfl, hu5⟩; obtain ⟨p5, rfl⟩ := hu5.grown; clear hu5)
          | (go_at_call 33; (with_reducible refine (HCK.out _ (by repeat (first | (with_reducible exact Upd.refl _ _) | (with_reducible exact HU.out) | (with_reducible apply Upd.drew) | (with_reducible refine Upd.grE ?_ _) | (with_reducible refine Upd.alloc ?_ _)))).mono ?_); rintro e w3 ⟨rfl, hu3⟩; obtain ⟨p3, rfl⟩ := hu3.grown; clear hu3)
          | (go_at_call 34; (with_reducible refine (HWH.out _ (by repeat (first | (with_reducible exact Upd.refl _ _) | (with_reducible exact HU.out) | (with_reducible apply Upd.drew) | (with_reducible refine Upd.grE ?_ _) | (with_reducible refine Upd.alloc ?_ _)))).mono ?_); rintro e w4 ⟨rfl, hu4⟩; obtain ⟨p4, rfl⟩ := hu4.grown; clear hu4)
          | (go_at_call 8; (with_reducible refine (HST.out _ (by repeat (first | (with_reducible exact Upd.refl _ _) | (with_reducible exact HU.out) | (with_reducible apply Upd.drew) | (with_reducible refine Upd.grE ?_ _) | (with_reducible refine Upd.alloc ?_ _)))).mono ?_); rintro e w6 ⟨hu6, sa, sc, rfl, hs6⟩; obtain ⟨p6, rfl⟩ := hu6.grown; have HS6 := Lib.hid hs6; clear hu6 hs6)))
    go_ret
    exact ⟨rfl, (by repeat (first | (with_reducible exact Upd.refl _ _) | (with_reducible exact HU.out) | (with_reducible apply Upd.drew) | (with_reducible refine Upd.grE ?_ _) | (with_reducible refine Upd.alloc ?_ _)))⟩
  rw [hwp] at HWH HCK
  rw [if_pos rfl] at HCK
  have HIN := Lib.hid (wholeP_in hwp)
  clear hwp
  have hne := checkGo_ne l order order.length 0 (objs.map itemP)
  generalize hres : checkGo l order order.length 0 (objs.map itemP) = res at HCK hne
  obtain ⟨rn, rf⟩ := res
  simp only at HCK hne
  have q1 : (rf == 1) = false := by simpa using hne
  have HRES := Lib.hid hres
  clear hres hne
  go_enter Try.func5, Try.ntmps5
  (
      go_wp2_with (first
        | (go_at_call 31; (with_reducible refine (HLI.out _).mono ?_); rintro e w2 ⟨rfl, h2⟩; obtain rfl := h2.symm; clear h2)
        | (go_at_call 32; (with_reducible refine (HAL.out _).mono ?_); rintro e w5 ⟨rfl, hu5⟩; obtain ⟨p5, rfl⟩ := hu5.grown; clear hu5)
        | (go_at_call 33; (with_reducible refine (HCK.out _ (by repeat (first | (with_reducible exact Upd.refl _ _) | (with_reducible exact HU.out) | (with_reducible apply Upd.drew) | (with_reducible refine Upd.grE ?_ _) | (with_reducible refine Upd.alloc ?_ _)))).mono ?_); rintro e w3 ⟨rfl, hu3⟩; obtain ⟨p3, rfl⟩ := hu3.grown; clear hu3)
        | (go_at_call 34; (with_reducible refine (HWH.out _ (by repeat (first | (with_reducible exact Upd.refl _ _) | (with_reducible exact HU.out) | (with_reducible apply Upd.drew) | (with_reducible refine Upd.grE ?_ _) | (with_reducible refine Upd.alloc ?_ _)))).mono ?_); rintro e w4 ⟨rfl, hu4⟩; obtain ⟨p4, rfl⟩ := hu4.grown; clear hu4)
        | (go_at_call 8; (with_reducible refine (HST.out _ (by repeat (first | (with_reducible exact Upd.refl _ _) | (with_reducible exact HU.out) | (with_reducible apply Upd.drew) | (with_reducible refine Upd.grE ?_ _) | (with_reducible refine Upd.alloc ?_ _)))).mono ?_); rintro e w6 ⟨hu6, sa, sc, rfl, hs6⟩; obtain ⟨p6, rfl⟩ := hu6.grown; have HS6 := Lib.hid hs6; clear hu6 hs6)))
  go_loopg [9, 10] order.length (fun n s9 s10 wr => ∃ (i : Nat) (sa : Option Addr) (sn sc : Nat) (rs : List IL) (s : List IT), n + i = order.length ∧ s10 = .int .i64 i ∧ s9 = .slice sa sn sc ∧ SRel wr sa rs ∧ rs.map (·.x) = s ∧ sn = rs.length ∧ s.length = objs.length ∧ (∀ x ∈ s, x.row.length ≤ 64) ∧ checkGo l order n i s = (rn, rf) ∧ Upd [] W wr)
  case atStart =>
    refine ⟨0, _, _, _, _, objs.map itemP, by omega, rfl, rfl, (by have hs := HS6.out; (try simp only [gr_gr] at hs); exact hs), by simp [IL.new, Function.comp_def], by simp, by simp, ?_, HRES.out, (by repeat (first | (with_reducible exact Upd.refl _ _) | (with_reducible exact HU.out) | (with_reducible apply Upd.drew) | (with_reducible refine Upd.grE ?_ _) | (with_reducible refine Upd.alloc ?_ _)))⟩
    intro x hx
    obtain ⟨o, _, rfl⟩ := List.mem_map.1 hx
    simp [itemP]
  case round =>
    obtain ⟨i, sa, sn, sc, rs, s, hni, rfl, rfl, hs, hrs, rfl, hsl, hrow, hgo, hu⟩ := hrel
    have HNI := Lib.hid hni
    have HU := Lib.hid hu
    have HS := Lib.hid hs
    have HSL := Lib.hid hsl
    have HROW := Lib.hid hrow
    have HGO := Lib.hid hgo
    by_cases hlt : i < order.length
    · obtain ⟨n, rfl⟩ : ∃ n', gk = n' + 1 := ⟨gk - 1, by omega⟩
      obtain ⟨ob, oo, rfl, hob, hoc⟩ := els_at HOE.out hlt
      have hk := HIN.out order[i] (List.getElem_mem hlt)
      obtain ⟨kn, hkn⟩ : ∃ kn : Nat, order[i] = kn := ⟨order[i].toNat, by omega⟩
      have hkl : kn < l.length := by omega
      obtain ⟨lb, lo, rfl, hlb, hlc⟩ := els_at HLE.out hkl
      have eg : wr.cell? ⟨ob, oo + i, none⟩ = some (.int .i64 kn) := (hu.cell (p := ⟨ob, oo + i, none⟩) hob (by simp)).trans (by have := hoc 0 _ rfl; rw [hkn] at this; simpa using this)
      have hobr : ob < wr.heap.size := Nat.lt_of_lt_of_le hob hu.size
      have hstep : (rn, rf) = if lateP l (order.take i) l[kn] then ((i : Int), 15)
          else if l[kn].done then (if (allowsR s l[kn].ck l[kn].co l[kn].cv (l[kn].rf, l[kn].rv)).2 then checkGo l order n (i + 1) (allowsR s l[kn].ck l[kn].co l[kn].cv (l[kn].rf, l[kn].rv)).1 else ((i : Int), 2))
          else checkGo l order n (i + 1) (doR s l[kn].ck l[kn].co l[kn].cv).1 := by
        rw [← hgo, checkGo, List.getElem?_eq_getElem hlt]
        simp only [hkn, Int.toNat_natCast]
        rw [List.getElem?_eq_getElem hkl]
      have hrl : rs.length ≤ 1000 := by have := HLEN.out.1; have h2 : s.length = rs.length := by rw [← hrs]; simp
                                        omega
      have hrr : ∀ r ∈ rs, r.x.row.length ≤ 64 := fun r hr => hrow r.x (by rw [← hrs]; exact List.mem_map_of_mem hr)
      have HA := Lib.hid fun (w1 : World) (hu1 : Upd [] wr w1) => allows_c (w := w1) sc l[kn].ck l[kn].co l[kn].cn l[kn].cv (l[kn].rf, l[kn].rv) (hs.upd hu1) hrl hrr
      have HD := Lib.hid fun (w1 : World) (hu1 : Upd [] wr w1) => do_c (w := w1) sc l[kn].ck l[kn].co l[kn].cn l[kn].cv (hs.upd hu1) hrl hrr
      rw [hrs] at HA HD
      have HSR := Lib.hid (show ∀ s', s' = (allowsR s l[kn].ck l[kn].co l[kn].cv (l[kn].rf, l[kn].rv)).1 ∨ s' = (doR s l[kn].ck l[kn].co l[kn].cv).1 → s'.length = objs.length ∧ ∀ x ∈ s', x.row.length ≤ 64 from fun s' h => by
        rcases h with rfl | rfl
        · exact ⟨(allowsR_len _ _ _ _ _).trans HSL.out, allowsR_rows _ _ _ _ _ HROW.out⟩
        · exact ⟨(doR_len _ _ _ _).trans HSL.out, doR_rows _ _ _ _ HROW.out⟩)
      have HR := Lib.hid hstep
      have HLT := Lib.hid hlt
      have E := fun q v hq => (hu.cell (p := ⟨lb, lo + kn * 17 + q, none⟩) hlb (by simp)).trans (hlc q v hq)
      have b0 : decide ((kn : Int) < 0) = false := by simp
      have b1 : (0 : Int) ≤ (kn : Int) := by omega
      have b2 : (kn : Int) < (l.length : Int) := by omega
      have b3 : (0 : Int) ≤ (i : Int) := by omega
      have b4 : (i : Int) < (order.length : Int) := by omega
      have b5 : decide ((i : Int) < (order.length : Int)) = true := by simp; omega
      have b6 : decide ((l.length : Int) ≤ (kn : Int)) = false := by simp; omega
      have HW := Lib.hid (show wrap64 ((i : Int) + 1) = ((i + 1 : Nat) : Int) from wrap_next (by have := HLEN.out; omega) hlt)
      clear hstep hgo hni hs hrs hsl hrow hu hoc hrl hrr
      generalize hz : l[kn] = z at *
      clear hz hk hkn hob
      obtain ⟨z0, z1, z2, z3, ⟨z4, z5, z6, z7⟩, z8, z9, ⟨z10, z11, z12, z13⟩, zd, z15, z16⟩ := z
      have EL := Lib.hid (show wr.rangeAt lb (lo + kn * 17) ([.int .i64 z0, .int .i64 z1, .int .i64 z2, .int .i64 z3, .int .u32 z4, .int .u32 z5, .int .u32 z6, .int .u32 z7, .int .u32 z8, .int .i64 z9, .int .u32 z10, .int .u32 z11, .int .u32 z12, .int .u32 z13, .bool zd, .int .i64 z15, .int .i64 z16] : List Value) from fun j v hj => E j v hj)
      have llb := World.block_lt_of_cell? _ _ (EL.out 0 _ rfl)
      clear E hlc hlb hkl hlt
      unfold caV resV resA at HA
      unfold caV at HD
      simp only at HA HD HR HSR
      generalize hwo : wr = wo at *
      have HNEW := Lib.hid (show ∀ cs, (wo.alloc (.cells cs 86)).heap[wo.heap.size]? = some (.cells cs 86) from fun cs => heap_alloc_new wo _)
      go_wp2_with (first
        | (refine wpList_load_mid rfl 86 _ rfl lb (lo + kn * 17) rfl _ _ EL.out Try.underlying86 rfl (info_op _ _ _ _ _ _ _ _ _ _ _ _ _ _ _ _ _) ?_)
        | (refine wpList_store_row rfl 86 _ _ rfl wo.heap.size #[.int .i64 z0, .int .i64 z1, .int .i64 z2, .int .i64 z3, .int .u32 z4, .int .u32 z5, .int .u32 z6, .int .u32 z7, .int .u32 z8, .int .i64 z9, .int .u32 z10, .int .u32 z11, .int .u32 z12, .int .u32 z13, .bool zd, .int .i64 z15, .int .i64 z16] rfl rfl 86 _ (HNEW.out _) (info_op17 _ _ _ _ _ _ _ _ _ _ _ _ _ _ _ _ _) rfl (op_one _ _ _ _ _ _ _ _ _ _ _ _ _ _ _ _ _) ?_; rw [alloc_setRow]))
      have HX := Lib.hid (heap_alloc_new wo (.cells #[.int .i64 z0, .int .i64 z1, .int .i64 z2, .int .i64 z3, .int .u32 z4, .int .u32 z5, .int .u32 z6, .int .u32 z7, .int .u32 z8, .int .i64 z9, .int .u32 z10, .int .u32 z11, .int .u32 z12, .int .u32 z13, .bool zd, .int .i64 z15, .int .i64 z16] 86))
      have HUX := Lib.hid ((Upd.refl [] wo).alloc (.cells #[.int .i64 z0, .int .i64 z1, .int .i64 z2, .int .i64 z3, .int .u32 z4, .int .u32 z5, .int .u32 z6, .int .u32 z7, .int .u32 z8, .int .i64 z9, .int .u32 z10, .int .u32 z11, .int .u32 z12, .int .u32 z13, .bool zd, .int .i64 z15, .int .i64 z16] 86))
      generalize wo.alloc (.cells #[.int .i64 z0, .int .i64 z1, .int .i64 z2, .int .i64 z3, .int .u32 z4, .int .u32 z5, .int .u32 z6, .int .u32 z7, .int .u32 z8, .int .i64 z9, .int .u32 z10, .int .u32 z11, .int .u32 z12, .int .u32 z13, .bool zd, .int .i64 z15, .int .i64 z16] 86) = X at HX HUX ⊢
      clear HNEW hwo eg
      go_loopg [12, 13] i (fun n s12 s13 wr => ∃ k : Nat, n + k = i ∧ s13 = .int .i64 k ∧ s12 = .bool (lateP l (order.take k) ⟨z0, z1, z2, z3, ⟨z4, z5, z6, z7⟩, z8, z9, ⟨z10, z11, z12, z13⟩, zd, z15, z16⟩) ∧ Upd [] X wr)
      case atStart => exact ⟨0, by omega, rfl, by simp [lateP], Upd.refl _ _⟩
      case round =>
        obtain ⟨k, hki, rfl, rfl, huk⟩ := hrel
        have HKI := Lib.hid hki
        have HUK := Lib.hid huk
        have HUI := Lib.hid (HUX.out.trans huk)
        have HU := Lib.hid (HU.out.trans (HUX.out.trans huk))
        have hxin := huk.keepb HX.out (by simp)
        have HXI := Lib.hid hxin
        have lx := heap_lt hxin
        by_cases hlt2 : k < i
        · have hk2 : k < order.length := by have := HLT.out; omega
          obtain ⟨ob', oo', e1, hob, hoc⟩ := els_at HOE.out hk2
          obtain ⟨rfl, rfl⟩ : ob = ob' ∧ oo = oo' := by simpa using e1
          have hk := HIN.out order[k] (List.getElem_mem hk2)
          obtain ⟨jn, hjn⟩ : ∃ jn : Nat, order[k] = jn := ⟨order[k].toNat, by omega⟩
          have hjl : jn < l.length := by omega
          obtain ⟨lb', lo', e2, hlb, hlc⟩ := els_at HLE.out hjl
          obtain ⟨rfl, rfl⟩ : lb = lb' ∧ lo = lo' := by simpa using e2
          have eg : wr.cell? ⟨ob, oo + k, none⟩ = some (.int .i64 jn) := (HU.out.cell (p := ⟨ob, oo + k, none⟩) hob (by simp)).trans (by have := hoc 0 _ rfl; rw [hjn] at this; simpa using this)
          have hst2 : lateP l (order.take (k + 1)) ⟨z0, z1, z2, z3, ⟨z4, z5, z6, z7⟩, z8, z9, ⟨z10, z11, z12, z13⟩, zd, z15, z16⟩ = (lateP l (order.take k) ⟨z0, z1, z2, z3, ⟨z4, z5, z6, z7⟩, z8, z9, ⟨z10, z11, z12, z13⟩, zd, z15, z16⟩ || beforeB ⟨z0, z1, z2, z3, ⟨z4, z5, z6, z7⟩, z8, z9, ⟨z10, z11, z12, z13⟩, zd, z15, z16⟩ l[jn]) := by
            unfold lateP
            rw [List.take_succ_eq_append_getElem hk2, List.any_append, hjn]
            simp [hjl]
          have E := fun q v hq => (HU.out.cell (p := ⟨lb, lo + jn * 17 + q, none⟩) hlb (by simp)).trans (hlc q v hq)
          have c0 : (0 : Int) ≤ (jn : Int) := by omega
          have c1 : (jn : Int) < (l.length : Int) := by omega
          have c2 : (0 : Int) ≤ (k : Int) := by omega
          have c3 : (k : Int) < (order.length : Int) := by omega
          have c4 : decide ((k : Int) < (i : Int)) = true := by simp; omega
          have HW2 := Lib.hid (show wrap64 ((k : Int) + 1) = ((k + 1 : Nat) : Int) from wrap_next (by have := HLEN.out; omega) hk2)
          have HLT2 := Lib.hid hlt2
          generalize hy : l[jn] = y at *
          clear hy hk hjn hoc
          obtain ⟨y0, y1, y2, y3, ⟨y4, y5, y6, y7⟩, y8, y9, ⟨y10, y11, y12, y13⟩, yd, y15, y16⟩ := y
          have EY := Lib.hid (show wr.rangeAt lb (lo + jn * 17) ([.int .i64 y0, .int .i64 y1, .int .i64 y2, .int .i64 y3, .int .u32 y4, .int .u32 y5, .int .u32 y6, .int .u32 y7, .int .u32 y8, .int .i64 y9, .int .u32 y10, .int .u32 y11, .int .u32 y12, .int .u32 y13, .bool yd, .int .i64 y15, .int .i64 y16] : List Value) from fun j v hj => E j v hj)
          have lly := World.block_lt_of_cell? _ _ (EY.out 0 _ rfl)
          have hobr2 := World.block_lt_of_cell? _ _ eg
          have HB := Lib.hid fun w => HBE.out ⟨z0, z1, z2, z3, ⟨z4, z5, z6, z7⟩, z8, z9, ⟨z10, z11, z12, z13⟩, zd, z15, z16⟩ ⟨y0, y1, y2, y3, ⟨y4, y5, y6, y7⟩, y8, y9, ⟨y10, y11, y12, y13⟩, yd, y15, y16⟩ w
          unfold OP.A at HB
          simp only at HB
          have HST2 := Lib.hid hst2
          have R3 : ∀ w1 : World, Upd [] wr w1 → w1.cell? ⟨ob, oo + k, none⟩ = some (.int .i64 jn) := fun w1 h => (h.cell (p := ⟨ob, oo + k, none⟩) hobr2 (by simp)).trans eg
          clear hst2 E hlc hlb hjl hob hki huk hxin hlt2 eg
          generalize lateP l (order.take k) ⟨z0, z1, z2, z3, ⟨z4, z5, z6, z7⟩, z8, z9, ⟨z10, z11, z12, z13⟩, zd, z15, z16⟩ = lk at *
          cases lk
          · generalize beforeB ⟨z0, z1, z2, z3, ⟨z4, z5, z6, z7⟩, z8, z9, ⟨z10, z11, z12, z13⟩, zd, z15, z16⟩ ⟨y0, y1, y2, y3, ⟨y4, y5, y6, y7⟩, y8, y9, ⟨y10, y11, y12, y13⟩, yd, y15, y16⟩ = bb at *
            clear b0 b1 b2 b4 b5 b6
            go_wp2_with fail
            refine wp_region_held_drew (S := fun w1 => Upd [] wr w1) (by kernel_rfl) ?_ (fun hHeld => ?_)
            · exact (Upd.refl [] wr).drew
            refine wpAnyH_take (i := 0) (oi := { dst := some 76, op := Op.move (Operand.tmp 12), type := 4, pos := "law.go:76", after := #[], guard := none }) (v := .bool false) rfl (by kernel_rfl) (by kernel_rfl) (by kernel_rfl) (fun _ _ _ h => h) (Or.inl ⟨by rfl, ?_⟩) hHeld ?_
            · intro w1 hSw
              (try dsimp only at hSw)
              go_simp
            (try simp only [Act.put, List.setIfInBounds_toArray, List.set_cons_zero, List.set_cons_succ])
            refine wpAnyH_take (i := 1) (oi := { dst := some 77, op := Op.move (Operand.tmp 76), type := 4, pos := "law.go:76", after := #[{ on := 0, ground := Ground.data }], guard := none }) (v := .bool false) rfl (by kernel_rfl) (by kernel_rfl) (by kernel_rfl) (fun _ _ _ h => h) (Or.inl ⟨by rfl, ?_⟩) hHeld ?_
            · intro w1 hSw
              (try dsimp only at hSw)
              go_simp
            (try simp only [Act.put, List.setIfInBounds_toArray, List.set_cons_zero, List.set_cons_succ])
            refine wpAnyH_take (i := 2) (oi := { dst := some 78, op := Op.load 86 (Operand.tmp 11), type := 86, pos := "law.go:76", after := #[{ on := 1, ground := Ground.guard }], guard := some (1, false) }) (v := .agg ([.int .i64 z0, .int .i64 z1, .int .i64 z2, .int .i64 z3, .int .u32 z4, .int .u32 z5, .int .u32 z6, .int .u32 z7, .int .u32 z8, .int .i64 z9, .int .u32 z10, .int .u32 z11, .int .u32 z12, .int .u32 z13, .bool zd, .int .i64 z15, .int .i64 z16] : List Value).toArray) rfl (by kernel_rfl) (by kernel_rfl) (by kernel_rfl) (fun _ _ _ h => h) (yieldsIf_load_mid (by rfl) 86 _ rfl wo.heap.size (0) rfl [.int .i64 z0, .int .i64 z1, .int .i64 z2, .int .i64 z3, .int .u32 z4, .int .u32 z5, .int .u32 z6, .int .u32 z7, .int .u32 z8, .int .i64 z9, .int .u32 z10, .int .u32 z11, .int .u32 z12, .int .u32 z13, .bool zd, .int .i64 z15, .int .i64 z16] _ (fun w1 h j v hj => by rw [Nat.zero_add]; exact cell_of_list (h.keepb HXI.out (by simp)) j v hj) Try.underlying86 rfl (info_op _ _ _ _ _ _ _ _ _ _ _ _ _ _ _ _ _)) hHeld ?_
            (try simp only [Act.put, List.setIfInBounds_toArray, List.set_cons_zero, List.set_cons_succ])
            refine wpAnyH_take (i := 3) (oi := { dst := some 79, op := Op.move (Operand.tmp 1), type := 79, pos := "law.go:76", after := #[{ on := 1, ground := Ground.guard }], guard := some (1, false) }) (v := .slice (some ⟨lb, lo, none⟩) l.length lc) rfl (by kernel_rfl) (by kernel_rfl) (by kernel_rfl) (fun _ _ _ h => h) (Or.inl ⟨by rfl, ?_⟩) hHeld ?_
            · intro w1 hSw
              (try dsimp only at hSw)
              go_simp
            (try simp only [Act.put, List.setIfInBounds_toArray, List.set_cons_zero, List.set_cons_succ])
            refine wpAnyH_take (i := 4) (oi := { dst := some 80, op := Op.move (Operand.tmp 2), type := 80, pos := "law.go:76", after := #[{ on := 1, ground := Ground.guard }], guard := some (1, false) }) (v := .slice (some ⟨ob, oo, none⟩) order.length oc) rfl (by kernel_rfl) (by kernel_rfl) (by kernel_rfl) (fun _ _ _ h => h) (Or.inl ⟨by rfl, ?_⟩) hHeld ?_
            · intro w1 hSw
              (try dsimp only at hSw)
              go_simp
            (try simp only [Act.put, List.setIfInBounds_toArray, List.set_cons_zero, List.set_cons_succ])
            refine wpAnyH_take (i := 5) (oi := { dst := some 81, op := Op.move (Operand.tmp 13), type := 3, pos := "law.go:76", after := #[{ on := 1, ground := Ground.guard }], guard := some (1, false) }) (v := .int .i64 k) rfl (by kernel_rfl) (by kernel_rfl) (by kernel_rfl) (fun _ _ _ h => h) (Or.inl ⟨by rfl, ?_⟩) hHeld ?_
            · intro w1 hSw
              (try dsimp only at hSw)
              go_simp
            (try simp only [Act.put, List.setIfInBounds_toArray, List.set_cons_zero, List.set_cons_succ])
            refine wpAnyH_take (i := 6) (oi := { dst := some 82, op := Op.indexAddr 80 (Operand.tmp 80) (Operand.tmp 81), type := 0, pos := "law.go:76", after := #[{ on := 4, ground := Ground.data }, { on := 5, ground := Ground.data }, { on := 1, ground := Ground.guard }], guard := some (1, false) }) (v := .pointer (some ⟨ob, oo + k, none⟩)) rfl (by kernel_rfl) (by kernel_rfl) (by kernel_rfl) (fun _ _ _ h => h) (Or.inl ⟨by rfl, ?_⟩) hHeld ?_
            · intro w1 hSw
              (try dsimp only at hSw)
              go_simp
            (try simp only [Act.put, List.setIfInBounds_toArray, List.set_cons_zero, List.set_cons_succ])
            refine wpAnyH_take (i := 7) (oi := { dst := some 83, op := Op.load 3 (Operand.tmp 82), type := 3, pos := "law.go:76", after := #[{ on := 6, ground := Ground.data }, { on := 1, ground := Ground.guard }], guard := some (1, false) }) (v := .int .i64 jn) rfl (by kernel_rfl) (by kernel_rfl) (by kernel_rfl) (fun _ _ _ h => h) (Or.inl ⟨by rfl, ?_⟩) hHeld ?_
            · intro w1 hSw
              (try dsimp only at hSw)
              go_simp
            (try simp only [Act.put, List.setIfInBounds_toArray, List.set_cons_zero, List.set_cons_succ])
            refine wpAnyH_take (i := 8) (oi := { dst := some 84, op := Op.indexAddr 79 (Operand.tmp 79) (Operand.tmp 83), type := 0, pos := "law.go:76", after := #[{ on := 3, ground := Ground.data }, { on := 7, ground := Ground.data }, { on := 1, ground := Ground.guard }], guard := some (1, false) }) (v := .pointer (some ⟨lb, lo + jn * 17, none⟩)) rfl (by kernel_rfl) (by kernel_rfl) (by kernel_rfl) (fun _ _ _ h => h) (Or.inl ⟨by rfl, ?_⟩) hHeld ?_
            · intro w1 hSw
              (try dsimp only at hSw)
              go_simp
            (try simp only [Act.put, List.setIfInBounds_toArray, List.set_cons_zero, List.set_cons_succ])
            refine wpAnyH_take (i := 9) (oi := { dst := some 85, op := Op.load 86 (Operand.tmp 84), type := 86, pos := "law.go:76", after := #[{ on := 8, ground := Ground.data }, { on := 1, ground := Ground.guard }], guard := some (1, false) }) (v := .agg ([.int .i64 y0, .int .i64 y1, .int .i64 y2, .int .i64 y3, .int .u32 y4, .int .u32 y5, .int .u32 y6, .int .u32 y7, .int .u32 y8, .int .i64 y9, .int .u32 y10, .int .u32 y11, .int .u32 y12, .int .u32 y13, .bool yd, .int .i64 y15, .int .i64 y16] : List Value).toArray) rfl (by kernel_rfl) (by kernel_rfl) (by kernel_rfl) (fun _ _ _ h => h) (yieldsIf_load_mid (by rfl) 86 _ rfl lb (lo + jn * 17) rfl [.int .i64 y0, .int .i64 y1, .int .i64 y2, .int .i64 y3, .int .u32 y4, .int .u32 y5, .int .u32 y6, .int .u32 y7, .int .u32 y8, .int .i64 y9, .int .u32 y10, .int .u32 y11, .int .u32 y12, .int .u32 y13, .bool yd, .int .i64 y15, .int .i64 y16] _ (fun w1 h j v hj => (h.cell (p := ⟨lb, lo + jn * 17 + j, none⟩) lly (by simp)).trans (EY.out j v hj)) Try.underlying86 rfl (info_op _ _ _ _ _ _ _ _ _ _ _ _ _ _ _ _ _)) hHeld ?_
            (try simp only [Act.put, List.setIfInBounds_toArray, List.set_cons_zero, List.set_cons_succ])
            refine wpAnyH_ready (rs := [10]) (by kernel_rfl) (by simp) ?_
            refine AllReadyH.cons (o := { dst := some 86, op := Op.call { callee := Callee.value (Operand.func 35), args := #[Operand.tmp 78, Operand.tmp 85], argTypes := #[86, 86] }, type := 4, pos := "law.go:76", after := #[{ on := 2, ground := Ground.data }, { on := 9, ground := Ground.data }, { on := 1, ground := Ground.chain }, { on := 1, ground := Ground.guard }], guard := some (1, false) }) rfl (fun K hK => ?_) AllReadyH.nil
            go_simp
            refine (HB.out _).mono ?_
            rintro e w3 ⟨rfl, hu3⟩
            refine hK.out _ _ (hHeld.trans hu3) (fun hHeld => ?_)
            clear hK K
            (try simp only [Act.put, List.setIfInBounds_toArray, List.set_cons_zero, List.set_cons_succ])
            refine wpAnyH_take (i := 11) (oi := { dst := some 87, op := Op.pick (Operand.tmp 77) (Operand.const (Value.bool true)) (Operand.tmp 86), type := 4, pos := "law.go:76", after := #[{ on := 1, ground := Ground.data }, { on := 10, ground := Ground.data }], guard := none }) (v := .bool bb) rfl (by kernel_rfl) (by kernel_rfl) (by kernel_rfl) (fun _ _ _ h => h) (Or.inl ⟨by rfl, ?_⟩) hHeld ?_
            · intro w1 hSw
              (try dsimp only at hSw)
              go_simp
            (try simp only [Act.put, List.setIfInBounds_toArray, List.set_cons_zero, List.set_cons_succ])
            refine wpAnyH_take (i := 12) (oi := { dst := some 12, op := Op.assign (Operand.tmp 87), type := 4, pos := "law.go:76", after := #[{ on := 11, ground := Ground.data }, { on := 10, ground := Ground.chain }, { on := 0, ground := Ground.phase }, { on := 1, ground := Ground.phase }, { on := 2, ground := Ground.phase }, { on := 3, ground := Ground.phase }, { on := 4, ground := Ground.phase }, { on := 5, ground := Ground.phase }, { on := 6, ground := Ground.phase }, { on := 7, ground := Ground.phase }, { on := 8, ground := Ground.phase }, { on := 9, ground := Ground.phase }, { on := 10, ground := Ground.phase }, { on := 11, ground := Ground.phase }], guard := none }) (v := .bool bb) rfl (by kernel_rfl) (by kernel_rfl) (by kernel_rfl) (fun _ _ _ h => h) (Or.inl ⟨by rfl, ?_⟩) hHeld ?_
            · intro w1 hSw
              (try dsimp only at hSw)
              go_simp
            (try simp only [Act.put, List.setIfInBounds_toArray, List.set_cons_zero, List.set_cons_succ])
            refine wpAnyH_done (by kernel_rfl) ?_ _
            have HHE := Lib.hid hHeld
            clear hHeld
            go_wp2
            go_roundg (i - (k + 1))
            case rel => exact ⟨k + 1, by have := HLT2.out; omega, by first | (rw [HW2.out]; done) | (simp; done), by rw [HST2.out]; simp, HUK.out.trans HHE.out⟩
            case measure => have := HLT2.out; have := HKI.out; omega
          · go_wp2_with fail
            go_region
            all_goals
              go_wp2
              go_roundg (i - (k + 1))
              case rel => exact ⟨k + 1, by have := HLT2.out; omega, by first | (rw [HW2.out]; done) | (simp; done), by rw [HST2.out]; simp, HUK.out.trans (by repeat (first | (with_reducible exact Upd.refl _ _) | (with_reducible apply Upd.drew)))⟩
              case measure => have := HLT2.out; have := HKI.out; omega
        · obtain rfl : k = i := by omega
          have hd2 : decide ((k : Int) < (k : Int)) = false := by simp
          have F := cell_of_list hxin
          have f2 := F 2 _ rfl
          have f3 := F 3 _ rfl
          have f4 := F 4 _ rfl
          have f5 := F 5 _ rfl
          have f6 := F 6 _ rfl
          have f7 := F 7 _ rfl
          have f8 := F 8 _ rfl
          have f9 := F 9 _ rfl
          have f10 := F 10 _ rfl
          have f11 := F 11 _ rfl
          have f12 := F 12 _ rfl
          have f13 := F 13 _ rfl
          have f14 := F 14 _ rfl
          clear F hxin huk hki hlt2
          generalize lateP l (order.take k) ⟨z0, z1, z2, z3, ⟨z4, z5, z6, z7⟩, z8, z9, ⟨z10, z11, z12, z13⟩, zd, z15, z16⟩ = lt at *
          generalize allowsR s z2 z3 ⟨z4, z5, z6, z7⟩ (z9, ⟨z10, z11, z12, z13⟩) = ad at *
          generalize doR s z2 z3 ⟨z4, z5, z6, z7⟩ = dd at *
          obtain ⟨s1, ok⟩ := ad
          obtain ⟨s2, r2⟩ := dd
          simp only at HA HD HR HSR
          have HSR1 := HSR.out s1 (.inl rfl)
          have HSR2 := HSR.out s2 (.inr rfl)
          have HSR := Lib.hid (And.intro HSR1 HSR2)
          clear HSR1 HSR2
          cases lt
          · cases zd
            · have HGO' := Lib.hid (show checkGo l order n (k + 1) s2 = (rn, rf) from HR.out.symm)
              (
                  go_wp2_with (first
                    | (go_at_call 32; (with_reducible refine (HAL.out _).mono ?_); rintro e w5 ⟨rfl, hu5⟩; obtain ⟨p5, rfl⟩ := hu5.grown; clear hu5)
                    | (go_at_call 12; (with_reducible refine (HA.out _ (HUI.out.trans (by repeat (first | (with_reducible exact Upd.refl _ _) | (with_reducible apply Upd.drew) | (with_reducible refine Upd.grE ?_ _) | (with_reducible refine Upd.alloc ?_ _))))).mono ?_); rintro e w3 ⟨hu3, sa3, sc3, rs3, rfl, hs3, hm3⟩; obtain ⟨p3, rfl⟩ := hu3.grown; have HS3 := Lib.hid hs3; have HM3 := Lib.hid hm3; clear hu3 hs3 hm3)
                    | (go_at_call 10; (with_reducible refine (HD.out _ (HUI.out.trans (by repeat (first | (with_reducible exact Upd.refl _ _) | (with_reducible apply Upd.drew) | (with_reducible refine Upd.grE ?_ _) | (with_reducible refine Upd.alloc ?_ _))))).mono ?_); rintro e w4 ⟨hu4, sa4, sc4, rs4, rfl, hs4, hm4⟩; obtain ⟨p4, rfl⟩ := hu4.grown; have HS4 := Lib.hid hs4; have HM4 := Lib.hid hm4; clear hu4 hs4 hm4)))
              (
                  go_roundg n
                  case rel =>
                    refine ⟨k + 1, _, _, _, _, s2, by have := HNI.out; omega, by first | (rw [HW.out]; done) | (simp; done), rfl, (by have hs := HS4.out; (try simp only [gr_gr] at hs); exact hs), HM4.out, by rw [← HM4.out]; simp, ?_, ?_, HGO'.out, (by repeat (first | (with_reducible exact Upd.refl _ _) | (with_reducible exact HU.out) | (with_reducible apply Upd.drew) | (with_reducible refine Upd.grE ?_ _) | (with_reducible refine Upd.alloc ?_ _)))⟩
                    · first | exact HSR.out.1.1 | exact HSR.out.2.1
                    · first | exact HSR.out.1.2 | exact HSR.out.2.2
                  case measure => have := HNI.out; omega)
            · cases ok
              · have h0 : (rn, rf) = ((k : Int), 2) := HR.out
                simp only [Prod.mk.injEq] at h0
                have q2 : (rn == (k : Int)) = true := by simpa using h0.1
                have q3 : (rf == 2) = true := by simpa using h0.2
                clear h0
                (
                    go_wp2_with (first
                      | (go_at_call 32; (with_reducible refine (HAL.out _).mono ?_); rintro e w5 ⟨rfl, hu5⟩; obtain ⟨p5, rfl⟩ := hu5.grown; clear hu5)
                      | (go_at_call 12; (with_reducible refine (HA.out _ (HUI.out.trans (by repeat (first | (with_reducible exact Upd.refl _ _) | (with_reducible apply Upd.drew) | (with_reducible refine Upd.grE ?_ _) | (with_reducible refine Upd.alloc ?_ _))))).mono ?_); rintro e w3 ⟨hu3, sa3, sc3, rs3, rfl, hs3, hm3⟩; obtain ⟨p3, rfl⟩ := hu3.grown; have HS3 := Lib.hid hs3; have HM3 := Lib.hid hm3; clear hu3 hs3 hm3)
                      | (go_at_call 10; (with_reducible refine (HD.out _ (HUI.out.trans (by repeat (first | (with_reducible exact Upd.refl _ _) | (with_reducible apply Upd.drew) | (with_reducible refine Upd.grE ?_ _) | (with_reducible refine Upd.alloc ?_ _))))).mono ?_); rintro e w4 ⟨hu4, sa4, sc4, rs4, rfl, hs4, hm4⟩; obtain ⟨p4, rfl⟩ := hu4.grown; have HS4 := Lib.hid hs4; have HM4 := Lib.hid hm4; clear hu4 hs4 hm4)))
                go_ret
                exact ⟨rfl, (by repeat (first | (with_reducible exact Upd.refl _ _) | (with_reducible exact HU.out) | (with_reducible apply Upd.drew) | (with_reducible refine Upd.grE ?_ _) | (with_reducible refine Upd.alloc ?_ _)))⟩
              · have HGO' := Lib.hid (show checkGo l order n (k + 1) s1 = (rn, rf) from HR.out.symm)
                (
                    go_wp2_with (first
                      | (go_at_call 32; (with_reducible refine (HAL.out _).mono ?_); rintro e w5 ⟨rfl, hu5⟩; obtain ⟨p5, rfl⟩ := hu5.grown; clear hu5)
                      | (go_at_call 12; (with_reducible refine (HA.out _ (HUI.out.trans (by repeat (first | (with_reducible exact Upd.refl _ _) | (with_reducible apply Upd.drew) | (with_reducible refine Upd.grE ?_ _) | (with_reducible refine Upd.alloc ?_ _))))).mono ?_); rintro e w3 ⟨hu3, sa3, sc3, rs3, rfl, hs3, hm3⟩; obtain ⟨p3, rfl⟩ := hu3.grown; have HS3 := Lib.hid hs3; have HM3 := Lib.hid hm3; clear hu3 hs3 hm3)
                      | (go_at_call 10; (with_reducible refine (HD.out _ (HUI.out.trans (by repeat (first | (with_reducible exact Upd.refl _ _) | (with_reducible apply Upd.drew) | (with_reducible refine Upd.grE ?_ _) | (with_reducible refine Upd.alloc ?_ _))))).mono ?_); rintro e w4 ⟨hu4, sa4, sc4, rs4, rfl, hs4, hm4⟩; obtain ⟨p4, rfl⟩ := hu4.grown; have HS4 := Lib.hid hs4; have HM4 := Lib.hid hm4; clear hu4 hs4 hm4)))
                (
                    go_roundg n
                    case rel =>
                      refine ⟨k + 1, _, _, _, _, s1, by have := HNI.out; omega, by first | (rw [HW.out]; done) | (simp; done), rfl, (by have hs := HS3.out; (try simp only [gr_gr] at hs); exact hs), HM3.out, by rw [← HM3.out]; simp, ?_, ?_, HGO'.out, (by repeat (first | (with_reducible exact Upd.refl _ _) | (with_reducible exact HU.out) | (with_reducible apply Upd.drew) | (with_reducible refine Upd.grE ?_ _) | (with_reducible refine Upd.alloc ?_ _)))⟩
                      · first | exact HSR.out.1.1 | exact HSR.out.2.1
                      · first | exact HSR.out.1.2 | exact HSR.out.2.2
                    case measure => have := HNI.out; omega)
          · have h0 : (rn, rf) = ((k : Int), 15) := HR.out
            simp only [Prod.mk.injEq] at h0
            have q2 : (rn == (k : Int)) = true := by simpa using h0.1
            have q3 : (rf == 15) = true := by simpa using h0.2
            clear h0
            (
                go_wp2_with (first
                  | (go_at_call 32; (with_reducible refine (HAL.out _).mono ?_); rintro e w5 ⟨rfl, hu5⟩; obtain ⟨p5, rfl⟩ := hu5.grown; clear hu5)
                  | (go_at_call 12; (with_reducible refine (HA.out _ (HUI.out.trans (by repeat (first | (with_reducible exact Upd.refl _ _) | (with_reducible apply Upd.drew) | (with_reducible refine Upd.grE ?_ _) | (with_reducible refine Upd.alloc ?_ _))))).mono ?_); rintro e w3 ⟨hu3, sa3, sc3, rs3, rfl, hs3, hm3⟩; obtain ⟨p3, rfl⟩ := hu3.grown; have HS3 := Lib.hid hs3; have HM3 := Lib.hid hm3; clear hu3 hs3 hm3)
                  | (go_at_call 10; (with_reducible refine (HD.out _ (HUI.out.trans (by repeat (first | (with_reducible exact Upd.refl _ _) | (with_reducible apply Upd.drew) | (with_reducible refine Upd.grE ?_ _) | (with_reducible refine Upd.alloc ?_ _))))).mono ?_); rintro e w4 ⟨hu4, sa4, sc4, rs4, rfl, hs4, hm4⟩; obtain ⟨p4, rfl⟩ := hu4.grown; have HS4 := Lib.hid hs4; have HM4 := Lib.hid hm4; clear hu4 hs4 hm4)))
            go_ret
            exact ⟨rfl, (by repeat (first | (with_reducible exact Upd.refl _ _) | (with_reducible exact HU.out) | (with_reducible apply Upd.drew) | (with_reducible refine Upd.grE ?_ _) | (with_reducible refine Upd.alloc ?_ _)))⟩
    · obtain rfl : i = order.length := by omega
      obtain rfl : gk = 0 := by omega
      have hd : decide ((order.length : Int) < (order.length : Int)) = false := by simp
      have h0 : ((0 : Int), (0 : Int)) = (rn, rf) := hgo
      simp only [Prod.mk.injEq] at h0
      obtain ⟨rfl, rfl⟩ := h0
      clear hni hs hrs hsl hrow hgo hu
      (
          go_wp2_with (first
            | (go_at_call 31; (with_reducible refine (HLI.out _).mono ?_); rintro e w2 ⟨rfl, h2⟩; obtain rfl := h2.symm; clear h2)
            | (go_at_call 32; (with_reducible refine (HAL.out _).mono ?_); rintro e w5 ⟨rfl, hu5⟩; obtain ⟨p5, rfl⟩ := hu5.grown; clear hu5)
            | (go_at_call 33; (with_reducible refine (HCK.out _ (by repeat (first | (with_reducible exact Upd.refl _ _) | (with_reducible exact HU.out) | (with_reducible apply Upd.drew) | (with_reducible refine Upd.grE ?_ _) | (with_reducible refine Upd.alloc ?_ _)))).mono ?_); rintro e w3 ⟨rfl, hu3⟩; obtain ⟨p3, rfl⟩ := hu3.grown; clear hu3)
            | (go_at_call 34; (with_reducible refine (HWH.out _ (by repeat (first | (with_reducible exact Upd.refl _ _) | (with_reducible exact HU.out) | (with_reducible apply Upd.drew) | (with_reducible refine Upd.grE ?_ _) | (with_reducible refine Upd.alloc ?_ _)))).mono ?_); rintro e w4 ⟨rfl, hu4⟩; obtain ⟨p4, rfl⟩ := hu4.grown; clear hu4)
            | (go_at_call 8; (with_reducible refine (HST.out _ (by repeat (first | (with_reducible exact Upd.refl _ _) | (with_reducible exact HU.out) | (with_reducible apply Upd.drew) | (with_reducible refine Upd.grE ?_ _) | (with_reducible refine Upd.alloc ?_ _)))).mono ?_); rintro e w6 ⟨hu6, sa, sc, rfl, hs6⟩; obtain ⟨p6, rfl⟩ := hu6.grown; have HS6 := Lib.hid hs6; clear hu6 hs6)))
      go_ret
      exact ⟨rfl, (by repeat (first | (with_reducible exact Upd.refl _ _) | (with_reducible exact HU.out) | (with_reducible apply Upd.drew) | (with_reducible refine Upd.grE ?_ _) | (with_reducible refine Upd.alloc ?_ _)))⟩
end
set_option maxRecDepth 100000 in
theorem certSteps_walk (W : World) (v0 v1 v2 : Value) (h0 : Sh.okV W (.slice (.st (.cons (.int .i64) (.cons (.int .i64) (.cons (.int .i64) (.cons (.int .i64) (.cons (.int .i64) (.cons (.int .i64) (.cons (.ar 4 (.int .u32)) (.nil)))))))))) v0) (h1 : Sh.okV W (.slice (.st (.cons (.int .i64) (.cons (.int .i64) (.cons (.st (.cons (.int .i64) (.cons (.int .i64) (.cons (.ar 4 (.int .u32)) (.cons (.int .u32) (.nil)))))) (.cons (.st (.cons (.int .i64) (.cons (.ar 4 (.int .u32)) (.nil)))) (.cons (.bool) (.cons (.int .i64) (.cons (.int .i64) (.nil)))))))))) v1) (h2 : Sh.okV W (.slice (.int .i64)) v2) :
    Calls Try.prog 5 #[v0, v1, v2] W fun e w' => e = .returned (.bool true) ∧ Upd [] W w' := by
  obtain ⟨ba, bc, objs, rfl, -, -, hb⟩ := slice_els OBJ.cells (fun cs h => dec_obj h) h0
  obtain ⟨la, lc, l, rfl, -, -, hl⟩ := slice_els OP.cells (fun cs h => dec_op h) h1
  obtain ⟨oa, oc, order, rfl, hoc, -, ho⟩ := slice_els numC (fun cs h => dec_num h) h2
  exact steps_c bc lc oc hb hl ho hoc
end Go.Proofs.Ytdbgnnkbcebpcaa
