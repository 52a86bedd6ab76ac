/- The law ConfFirst. -/
import Derived.Test.YtkjonflmokapcaaCF14
import Derived.Deep.AppendLies
set_option linter.unusedVariables false
set_option linter.unusedSimpArgs false
namespace Go.Proofs.Ytkjonflmokapcaa
open Go.RowKit

theorem flat_at {α : Type} (f : α → List Value) (sz : Nat) (hl : ∀ x, (f x).length = sz) : ∀ (xs : List α) (i : Nat) (hi : i < xs.length) (j : Nat) (v : Value), (f xs[i])[j]? = some v → (xs.flatMap f)[i * sz + j]? = some v
  | [], i, hi, _, _, _ => by simp at hi
  | x :: xs, 0, hi, j, v, h => by
    simp only [List.getElem_cons_zero] at h
    rw [List.flatMap_cons, Nat.zero_mul, Nat.zero_add, List.getElem?_append_left (List.getElem?_eq_some_iff.1 h).1]
    exact h
  | x :: xs, i + 1, hi, j, v, h => by
    have e : (i + 1) * sz = i * sz + sz := by rw [Nat.add_mul, Nat.one_mul]
    rw [List.flatMap_cons, List.getElem?_append_right (by rw [hl, e]; omega), hl, show (i + 1) * sz + j - sz = i * sz + j by omega]
    exact flat_at f sz hl xs i (by simpa using hi) j v (by simpa using h)
theorem els_own {α : Type} (f : α → List Value) {sz : Nat} (hl : ∀ x, (f x).length = sz) {w : World} {base n : Nat} {e : TypeId} {v : Value} {xs : List α} (h : w.ownsRow base e sz v n (xs.flatMap f)) (hn : n = xs.length) : ∃ a cap, v = .slice a xs.length cap ∧ (a = none → cap = 0) ∧ Els w a sz (xs.map f) := by
  subst hn
  obtain ⟨a, cap, e1, h0, h1⟩ := own_shape h
  refine ⟨a, cap, e1, h0, fun hp => ?_⟩
  obtain ⟨b, off, e2, hb, hc⟩ := h1 (by simpa using hp)
  refine ⟨b, off, e2, hb, fun i hi j u hu => ?_⟩
  have := hc _ _ (flat_at f sz hl xs i (by simpa using hi) j u (by simpa using hu))
  rw [← Nat.add_assoc] at this
  exact this
theorem tk_len (x : TK) : x.cells.length = 3 := rfl
theorem info_task : (Try.prog.info? 81).map (fun i => (i.zero, i.size, i.bytes)) = some (some (.agg #[.int .i64 0, .bool false, .slice none 0 0]), 3, 40) := by kernel_rfl
theorem els_take {α : Type} (f : α → List Value) {sz : Nat} {w : World} {a : Option Addr} {xs : List α} (h : Els w a sz (xs.map f)) (m : Nat) : Els w a sz ((xs.take m).map f) := fun hp => by
  obtain ⟨b, off, e, hb, hc⟩ := h (by simp at hp ⊢; omega)
  refine ⟨b, off, e, hb, fun i hi j v hv => hc i (by simp at hi ⊢; omega) j v ?_⟩
  simpa using hv
/-- The first of own tasks with another priority. -/
theorem els_set {w : World} {base cap : Nat} {a : Option Addr} {xs : List TK} {x : TK} (h : w.ownsRow base 81 3 (.slice a (x :: xs).length cap) (x :: xs).length ((x :: xs).flatMap TK.cells)) (p : Int) : ∃ g, a = some ⟨g, 0, none⟩ ∧ base ≤ g ∧ w.cell? ⟨g, 0, none⟩ = some (.int .i64 x.p) ∧ w.frozen? ⟨g, 0, none⟩ = false ∧ g < w.heap.size ∧ Els (w.setCell ⟨g, 0, none⟩ (.int .i64 p)) (some ⟨g, 0, none⟩) 3 (((⟨p, x.l, x.ca, x.cn, x.cc⟩ : TK) :: xs).map TK.cells) := by
  rcases h.2 with ⟨h0, _⟩ | ⟨g, cap', cur, e, hb, hh, h1, h2, h3, h4⟩
  · simp at h0
  · simp only [Value.slice.injEq] at e
    obtain ⟨rfl, -, rfl⟩ := e
    have hcur : ∀ j u, ((x :: xs).flatMap TK.cells)[j]? = some u → cur[j]? = some u := fun j u hu => by
      rw [← h4, List.getElem?_take] at hu
      split at hu
      · simpa using hu
      · cases hu
    refine ⟨g, rfl, hb, ?_, frozen_of_heap hh 0, heap_lt hh, fun _ => ⟨g, 0, rfl, by rw [size_setCell]; exact heap_lt hh, fun i hi j v hv => ?_⟩⟩
    · rw [cell_of_heap hh]
      exact hcur 0 _ (by simp [TK.cells])
    · rw [cell_of_heap (heap_set hh 0 _), Nat.zero_add, Array.getElem?_setIfInBounds]
      by_cases h0 : 0 = i * 3 + j
      · obtain rfl : i = 0 := by omega
        obtain rfl : j = 0 := by omega
        have hlt : 0 < cur.size := by
          have := hcur 0 (.int .i64 x.p) (by simp [TK.cells])
          exact (Array.getElem?_eq_some_iff.1 this).1
        rw [if_pos rfl, if_pos hlt]
        simpa [TK.cells] using hv
      · rw [if_neg h0]
        refine hcur _ _ (flat_at TK.cells 3 tk_len (x :: xs) i (by simpa using hi) j v ?_)
        cases i with
        | zero =>
          simp [TK.cells] at hv ⊢
          cases j with
          | zero => omega
          | succ j => simpa using hv
        | succ i => simpa using hv
theorem new_cell {w : World} {g j : Nat} {l : List Value} {u : Value} {t : TypeId} (h : w.heap[g]? = some (.cells l.toArray t)) (hj : l[j]? = some u) : w.cell? ⟨g, 0 + j, none⟩ = some u := by
  rw [Nat.zero_add, cell_of_heap h]
  simpa using hj
section
variable {ta la oa : Option Addr} (tc lc oc : Nat) {c : CF} {w : World} (prio : Int)
set_option maxRecDepth 100000 in
set_option maxHeartbeats 1000000 in
theorem conf_not (tn ln on : Nat) (tk : Int) (hL : ∀ w', Upd [] w w' → Calls Try.prog 33 #[.agg (cfA ta tn tc la ln lc oa on oc tk)] w' fun e w'' => e = .returned (.bool false) ∧ Upd [] w' w'') : Calls Try.prog 5 #[.agg (cfA ta tn tc la ln lc oa on oc tk), .int .i64 prio] w fun e w' => e = .returned (.bool true) ∧ Upd [] w w' := by
  have HLT := Lib.hid (hL _ ((Upd.refl [] w).alloc (.cells (cfA ta tn tc la ln lc oa on oc tk) 77)))
  clear hL
  unfold cfA at *
  go_enter Try.func5, Try.ntmps5
  go_wp2_with fail
  refine HLT.out.mono ?_
  rintro e w1 ⟨rfl, hu1⟩
  have HU1 := Lib.hid (((Upd.refl [] w).alloc _).trans hu1)
  clear hu1
  go_wp2_with fail
  refine (alive29 _).mono ?_
  rintro e w2 ⟨rfl, hu2⟩
  go_wp2
  go_ret
  exact ⟨rfl, HU1.out.trans hu2⟩

/-- What the law has in memory: a copy whose tasks are without code. -/
structure DS (w1 W : World) (la oa : Option Addr) (lc oc : Nat) (c : CF) (os : List OBJ) (v : Value) (n : Nat) : Prop where
  hd : W.heap[w1.heap.size]? = some (.cells #[v, .slice la c.ls.length lc, .slice oa os.length oc, .int .i64 c.tk] 77)
  row : W.ownsRow (w1.heap.size + 1) 81 3 v n (((c.ts.take n).map TK.bare).flatMap TK.cells)
  u : Upd [] w1 W
theorem DS.upd {w1 a b : World} {la oa : Option Addr} {lc oc n : Nat} {c : CF} {os : List OBJ} {v : Value} (h : DS w1 a la oa lc oc c os v n) (hu : Upd [] a b) : DS w1 b la oa lc oc c os v n :=
  ⟨hu.keepb h.hd (by simp), own_upd h.row hu (fun k hk => by simp), h.u.trans hu⟩
theorem ds_cfr {w1 W : World} {ta va la oa : Option Addr} {lc oc vc : Nat} {c : CF} {os : List OBJ} (h : DS w1 W la oa lc oc c os (.slice va c.ts.length vc) c.ts.length) (hc : CFR w1 ta la oa c) (ho : Els W oa 10 (os.map OBJ.cells)) (hon : os.length ≤ 1000) : CFR W va la oa ⟨c.ts.map TK.bare, c.ls, os, c.tk⟩ := by
  have hrow := h.row
  rw [List.take_length] at hrow
  obtain ⟨a, cap, e, _, hels⟩ := els_own TK.cells tk_len hrow (by simp)
  simp only [Value.slice.injEq, List.length_map, true_and] at e
  obtain ⟨rfl, rfl⟩ := e
  exact ⟨hels, (hc.upd h.u).l, ho, by have := hc.tn; simpa using this, hc.ln, hon, fun y hy => (by obtain ⟨z, _, rfl⟩ := List.mem_map.1 hy; simp [TK.bare]), hc.lcn⟩
theorem ds_cut {w1 W : World} {la oa : Option Addr} {lc oc n : Nat} {c : CF} {v : Value} (h : DS w1 W la oa lc oc c c.os v n) : DS w1 (W.setCell ⟨w1.heap.size, 2, none⟩ (.slice oa (c.os.length - 1) oc)) la oa lc oc c (c.os.take (c.os.length - 1)) v n := by
  refine ⟨by rw [heap_set h.hd]; simp, own_upd h.row ((Upd.refl [w1.heap.size] W).setCell (by simp) _) (fun k hk => by have := own_base h.row k hk; simp; omega), Upd.then (S := []) h.u ((Upd.refl [w1.heap.size] W).setCell (by simp) _) (fun i hi => .inr (by simp at hi; omega))⟩
theorem ds_next {w1 w2 : World} {la oa : Option Addr} {lc oc a c2 : Nat} {c : CF} {os : List OBJ} {v : Value} {p2 : Option Addr} {x : TK} (hown : w2.ownsRow (w1.heap.size + 1) 81 3 (.slice p2 (a + 1) c2) (a + 1) (((c.ts.take a).map TK.bare).flatMap TK.cells ++ [.int .i64 x.p, .bool false, .slice none 0 0])) (hd : w2.heap[w1.heap.size]? = some (.cells #[v, .slice la c.ls.length lc, .slice oa os.length oc, .int .i64 c.tk] 77)) (hu : Upd [] w1 w2) (hlt : a < c.ts.length) (hx : x = c.ts[a]) :
    DS w1 (w2.setCell ⟨w1.heap.size, 0, none⟩ (.slice p2 (a + 1) c2)) la oa lc oc c os (.slice p2 (a + 1) c2) (a + 1) := by
  refine ⟨by rw [heap_set hd]; rfl, ?_, Upd.then (S := []) hu ((Upd.refl [w1.heap.size] w2).setCell (by simp) _) (fun i hi => .inr (by simp at hi; omega))⟩
  have he : ((c.ts.take (a + 1)).map TK.bare).flatMap TK.cells = ((c.ts.take a).map TK.bare).flatMap TK.cells ++ [.int .i64 x.p, .bool false, .slice none 0 0] := by
    rw [List.take_succ_eq_append_getElem hlt, List.map_append, List.flatMap_append, ← hx]
    simp [TK.bare, TK.cells]
  rw [he]
  exact own_upd hown ((Upd.refl [w1.heap.size] w2).setCell (by simp) _) (fun k hk => by have := own_base hown k hk; simp; omega)
set_option maxRecDepth 100000 in
set_option maxHeartbeats 16000000 in
theorem conf_light (h : CFR w ta la oa c) (hl : c.light) (hoc : c.os.length ≤ oc) (hocm : oc ≤ maxLen) : Calls Try.prog 5 #[.agg (cfA ta c.ts.length tc la c.ls.length lc oa c.os.length oc c.tk), .int .i64 prio] w fun e w' => e = .returned (.bool true) ∧ Upd [] w w' := by
  have HLT := Lib.hid (light_few tc lc oc (h.upd ((Upd.refl [] w).alloc (.cells (cfA ta c.ts.length tc la c.ls.length lc oa c.os.length oc c.tk) 77))) hl.1)
  have HLI := Lib.hid hl
  have HC := Lib.hid h
  have HOC := Lib.hid (And.intro hoc hocm)
  have b1 := hl.1.1
  have b2 := hl.1.2.1
  have b3 := hl.1.2.2
  have HB0 := Lib.hid (heap_alloc_new w (.cells (cfA ta c.ts.length tc la c.ls.length lc oa c.os.length oc c.tk) 77))
  obtain ⟨ip, hip, hz0, hz1, hz2⟩ := info_parts info_task
  unfold maxLen at hocm
  clear h hl
  unfold cfA at *
  go_enter Try.func5, Try.ntmps5
  go_wp2_with fail
  refine HLT.out.mono ?_
  rintro e w1 ⟨b, rfl, hbl, hu1⟩
  obtain rfl : b = true := hbl.2 HLI.out
  have HB1 := Lib.hid (hu1.keepb HB0.out (by simp))
  have HU1 := Lib.hid (((Upd.refl [] w).alloc _).trans hu1)
  have HC1 := Lib.hid (HC.out.upd HU1.out)
  obtain ⟨c0, c1, c2, c3⟩ := cells4 HB1.out
  have l0 := heap_lt HB1.out
  have HD0 := Lib.hid (show DS w1 (w1.alloc (.cells #[.slice none 0 0, .slice la c.ls.length lc, .slice oa c.os.length oc, .int .i64 c.tk] 77)) la oa lc oc c c.os (.slice none 0 0) 0 from ⟨heap_alloc_new _ _, by simpa using World.ownsRow_nil _ _ _ _, (Upd.refl _ _).alloc _⟩)
  clear hu1 hbl
  go_wp2_with fail
  go_loopg [6] c.ts.length (fun m i wr => ∃ (a : Nat) (v : Value), m + a = c.ts.length ∧ i = .int .i64 a ∧ DS w1 wr la oa lc oc c c.os v a)
  case atStart => exact ⟨0, _, by omega, rfl, HD0.out⟩
  case round =>
    obtain ⟨a, v, ha, rfl, hds⟩ := hrel
    have HA := Lib.hid ha
    have HDS := Lib.hid hds
    have HBR := Lib.hid (hds.u.keepb HB1.out (by simp))
    have HCR := Lib.hid (HC1.out.upd hds.u)
    obtain ⟨c0', c1', c2', c3'⟩ := cells4 HBR.out
    obtain ⟨d0, d1, d2, d3⟩ := cells4 hds.hd
    have zf := fun i => frozen_of_heap hds.hd i
    have l1 := heap_lt HBR.out
    have l2 := heap_lt hds.hd
    clear c0 c1 c2 c3 hds
    by_cases hlt : a < c.ts.length
    · obtain ⟨tb, to, rfl, htb, hc⟩ := els_at HCR.out.t hlt
      obtain ⟨x, hx⟩ : ∃ x, x = c.ts[a] := ⟨_, rfl⟩
      rw [← hx] at hc
      have HX := Lib.hid hx
      obtain ⟨p, l, ca, cn, cc⟩ := x
      have k0 := hc 0 _ rfl
      rw [Nat.add_zero] at k0
      obtain ⟨va, vc, rfl, _, _⟩ := own_shape HDS.out.row
      have HSZ := Lib.hid HDS.out.u.size
      have HLEN := Lib.hid (show a ≤ 20 by omega)
      clear hc hx ha
      go_wp2
      have HROW := Lib.hid (show ((wr.alloc (.cells #[.int .i64 p, .bool false, .slice none 0 0] 81)).drew).ownsRow (w1.heap.size + 1) 81 3 (.slice va a vc) a (((c.ts.take a).map TK.bare).flatMap TK.cells) from own_upd HDS.out.row (((Upd.refl [] wr).alloc _).drew) (fun k hk => by simp))
      go_region_law (refine step_append_reads rfl (.tmp 28) (.tmp 36) 73 rfl (w1.heap.size + 1) 81 ip _ 3 40 Try.underlying73 hip hz0 hz1 hz2 rfl (by decide) _ a (((c.ts.take a).map TK.bare).flatMap TK.cells) rfl HROW.out (some ⟨wr.heap.size, 0, none⟩) 1 1 [.int .i64 p, .bool false, .slice none 0 0] rfl rfl (fun _ => ⟨wr.heap.size, 0, rfl, fun j u hj => new_cell (heap_alloc_at (w := wr) _ rfl) hj⟩) (fun h => by cases h) (fun u hu => by simp at hu; rcases hu with rfl | rfl | rfl <;> rfl) (by have := HLEN.out; simp only [maxLen]; omega) (by have := HLEN.out; omega) (by have := HSZ.out; have := l2; simp; omega) ?_; intro p2 c2 w2 hp2 hown2 hgrow2; have HOWN2 := Lib.hid hown2; have hd2 := grown_keep HROW.out hgrow2 (k := w1.heap.size) (heap_alloc' HDS.out.hd) (by omega); have HD2 := Lib.hid hd2; have HU2 := Lib.hid (own_start ((HDS.out.u.alloc (.cells #[.int .i64 p, .bool false, .slice none 0 0] 81)).drew) HROW.out hgrow2 (by omega)); obtain ⟨e0, e1, e2, e3⟩ := cells4 hd2; have zf2 := fun i => frozen_of_heap hd2 i; have l3 := heap_lt hd2; clear hown2 hgrow2 hd2)
      all_goals
        go_wp2
        have hds2 := Lib.hid (ds_next HOWN2.out HD2.out HU2.out hlt HX.out)
        have ha := HA.out
        go_roundg (c.ts.length - (a + 1))
        case measure => omega
        case rel => exact ⟨a + 1, _, by omega, by go_num, by first | exact hds2.out | exact hds2.out.upd ((Upd.refl _ _).drew)⟩
    · obtain rfl : a = c.ts.length := by omega
      obtain ⟨wA, rfl⟩ : ∃ wX : World, wX = wr := ⟨_, rfl⟩
      obtain ⟨va, vc, rfl, _, _⟩ := own_shape HDS.out.row
      have HDA := HDS
      have hge : ¬ ((c.ts.length : Int) < c.ts.length) := by omega
      have HCK := Lib.hid (check_c tc lc oc HCR.out)
      have HEL := Lib.hid (show ∀ W', Upd [] w1 W' → Els W' oa 10 (c.os.map OBJ.cells) ∧ c.os.length ≤ 1000 from fun W' hu => ⟨(HC1.out.upd hu).o, by omega⟩)
      have HEM := Lib.hid (show ∀ W', Upd [] w1 W' → Els W' oa 10 ((c.os.take (c.os.length - 1)).map OBJ.cells) ∧ (c.os.take (c.os.length - 1)).length ≤ 1000 from fun W' hu => ⟨els_take OBJ.cells (HC1.out.upd hu).o _, by simp; omega⟩)
      have qe := eq_bad
      have qn := neq_bad
      unfold cfA badV at HCK
      clear ha HDS HA
      by_cases hb : c.bad.1 = 0
      · have hz := bad_fst hb
        rw [hz] at HCK
        simp only at HCK
        have HZB := Lib.hid hb
        clear hb hz
        go_wp2_with fail
        refine HCK.out.mono ?_
        rintro e w3 ⟨rfl, hu3⟩
        have HD3 := Lib.hid (HDA.out.upd hu3)
        obtain ⟨m0, m1, m2, m3⟩ := cells4 HD3.out.hd
        clear hu3
        have hcfr3 : CFR w3 va la oa ⟨c.ts.map TK.bare, c.ls, c.os, c.tk⟩ := ds_cfr HD3.out HC1.out (HEL.out _ HD3.out.u).1 (HEL.out _ HD3.out.u).2
        have HCK3 := Lib.hid (check_c vc lc oc hcfr3)
        have hz3 : CF.bad ⟨c.ts.map TK.bare, c.ls, c.os, c.tk⟩ = (0, 0, 0) := bare_bad HZB.out
        rw [hz3] at HCK3
        simp only [List.length_map] at HCK3
        unfold cfA badV at HCK3
        simp only at HCK3
        clear hcfr3 hz3
        go_wp2_with fail
        refine HCK3.out.mono ?_
        rintro e w4 ⟨rfl, hu4⟩
        have HD4 := Lib.hid (HD3.out.upd hu4)
        obtain ⟨n0, n1, n2, n3⟩ := cells4 HD4.out.hd
        have nf := fun i => frozen_of_heap HD4.out.hd i
        have ln := heap_lt HD4.out.hd
        clear hu4 m0 m1 m2 m3
        by_cases ho : 0 < c.os.length
        · have po : decide ((0 : Int) < c.os.length) = true := decide_eq_true (by omega)
          have hocl := HOC.out.1
          have HD5 := Lib.hid (ds_cut HD4.out)
          obtain ⟨os', hos⟩ : ∃ os', os' = c.os.take (c.os.length - 1) := ⟨_, rfl⟩
          rw [← hos] at HD5 HEM
          have HOS := Lib.hid hos
          have hw5 : wrap64 ((c.os.length : Int) - 1) = ((c.os.length - 1 : Nat) : Int) := by unfold wrap64; omega
          have hw6 : (c.os.length : Int) - 1 = ((c.os.length - 1 : Nat) : Int) := by omega
          have HTK := Lib.hid (show os'.length = c.os.length - 1 by rw [hos]; simp)
          clear hos
          generalize hW5 : w4.setCell ⟨w1.heap.size, 2, none⟩ (.slice oa (c.os.length - 1) oc) = w5 at HD5
          have HW5 := Lib.hid hW5
          clear hW5
          have hcfr5 : CFR w5 va la oa ⟨c.ts.map TK.bare, c.ls, os', c.tk⟩ := ds_cfr HD5.out HC1.out (HEM.out _ HD5.out.u).1 (HEM.out _ HD5.out.u).2
          have HCK5 := Lib.hid (check_c vc lc oc hcfr5)
          have hz5 : CF.bad ⟨c.ts.map TK.bare, c.ls, os', c.tk⟩ = (0, 0, 0) := (by rw [HOS.out]; exact fewer_bad (ts := c.ts.map TK.bare) (ls := c.ls) (os := c.os) (tk := c.tk) _ (by rw [bare_bad HZB.out]))
          rw [hz5] at HCK5
          simp only [List.length_map, HTK.out] at HCK5
          unfold cfA badV at HCK5
          simp only at HCK5
          clear hcfr5 hz5
          go_wp2_with fail
          rw [HW5.out]
          refine HCK5.out.mono ?_
          rintro e w6 ⟨rfl, hu6⟩
          have HD6 := Lib.hid (HD5.out.upd hu6)
          clear hu6 HCK5
          obtain ⟨g0, g1, g2, g3⟩ := cells4 (show _ from HD6.out.hd)
          have lg := heap_lt HD6.out.hd
          by_cases hn0 : 0 < c.ts.length
          · have p0 : decide ((0 : Int) < c.ts.length) = true := decide_eq_true (by omega)
            by_cases hpr : prio < 0 ∨ 31 < prio
            · obtain ⟨x, xs, hxs⟩ : ∃ x xs, c.ts.map TK.bare = x :: xs := by
                cases hts : c.ts with
                | nil => rw [hts] at hn0; simp at hn0
                | cons y ys => exact ⟨_, _, rfl⟩
              have hrow := HD6.out.row
              rw [List.take_length, hxs] at hrow
              have hlen : (x :: xs).length = c.ts.length := by rw [← hxs, List.length_map]
              rw [← hlen] at hrow
              obtain ⟨q, rfl, hq, cq, fq, lq, hels⟩ := els_set hrow prio
              have hu5 : Upd [] w1 (w6.setCell ⟨q, 0, none⟩ (.int .i64 prio)) := Upd.then (S := []) HD6.out.u ((Upd.refl [q] w6).setCell (by simp) _) (fun i hi => .inr (by simp at hi; omega))
              have hcfr : CFR (w6.setCell ⟨q, 0, none⟩ (.int .i64 prio)) (some ⟨q, 0, none⟩) la oa ⟨⟨prio, x.l, x.ca, x.cn, x.cc⟩ :: xs, c.ls, os', c.tk⟩ :=
                ⟨hels, (HC1.out.upd hu5).l, (HEM.out _ hu5).1, (show xs.length + 1 ≤ 1000 by have := hlen; simp only [List.length_cons] at this; omega), (show c.ls.length ≤ 1000 by omega), (HEM.out _ hu5).2, (by
                  have hbare : ∀ y ∈ x :: xs, y.cn = 0 := by rw [← hxs]; intro y hy; obtain ⟨z, _, rfl⟩ := List.mem_map.1 hy; rfl
                  intro y hy
                  rcases List.mem_cons.1 hy with rfl | hy
                  · rw [show (⟨prio, x.l, x.ca, x.cn, x.cc⟩ : TK).cn = x.cn from rfl, hbare x (by simp)]; simp
                  · rw [hbare y (by simp [hy])]; simp), HC1.out.lcn⟩
              have HCK5 := Lib.hid (check_c vc lc oc hcfr)
              have HWB := Lib.hid (wrong_bad (x := ⟨prio, x.l, x.ca, x.cn, x.cc⟩) (ts := xs) (ls := c.ls) (os := os') (tk := c.tk) hpr)
              have hlen2 : (⟨prio, x.l, x.ca, x.cn, x.cc⟩ :: xs : List TK).length = c.ts.length := hlen
              simp only at HCK5
              rw [hlen2] at HCK5
              have HU5 := Lib.hid hu5
              have HB5 := Lib.hid (show (w6.setCell ⟨q, 0, none⟩ (.int .i64 prio)).heap[w1.heap.size]? = _ from (heap_set_other _ _ _ (by omega)).trans HD6.out.hd)
              have nq : q ≠ w1.heap.size := by omega
              have nq' : w1.heap.size ≠ q := by omega
              clear hels hcfr hu5 hrow hlen hlen2 hxs
              unfold cfA badV at HCK5
              generalize CF.bad _ = bb at HCK5 HWB
              obtain ⟨bf, bp, bt⟩ := bb
              simp only at HCK5 HWB
              rcases hpr with hpr | hpr
              · have p1 : decide (prio < 0) = true := by simpa using hpr
                clear hpr
                go_wp2_with fail
                (with_reducible refine HCK5.out.mono ?_)
                rintro e w7 ⟨rfl, hu7⟩
                have HU7 := Lib.hid (HU1.out.trans (HU5.out.trans hu7))
                clear hu7
                rcases HWB.out with hbb | hbb
                · simp only [Prod.mk.injEq] at hbb
                  obtain ⟨rfl, rfl, rfl⟩ := hbb
                  go_wp2_with fail
                  refine (alive29 _).mono ?_
                  rintro e w8 ⟨rfl, hu8⟩
                  go_wp2
                  go_ret
                  exact ⟨rfl, HU7.out.trans (((Upd.refl _ _).alloc _).trans hu8)⟩
                · subst hbb
                  go_wp2_with fail
                  refine (alive29 _).mono ?_
                  rintro e w8 ⟨rfl, hu8⟩
                  go_wp2
                  go_ret
                  exact ⟨rfl, HU7.out.trans (((Upd.refl _ _).alloc _).trans hu8)⟩
              · have p1 : decide (prio < 0) = false := by simp; omega
                have p2 : decide (31 < prio) = true := by simpa using hpr
                clear hpr
                go_wp2_with fail
                (with_reducible refine HCK5.out.mono ?_)
                rintro e w7 ⟨rfl, hu7⟩
                have HU7 := Lib.hid (HU1.out.trans (HU5.out.trans hu7))
                clear hu7
                rcases HWB.out with hbb | hbb
                · simp only [Prod.mk.injEq] at hbb
                  obtain ⟨rfl, rfl, rfl⟩ := hbb
                  go_wp2_with fail
                  refine (alive29 _).mono ?_
                  rintro e w8 ⟨rfl, hu8⟩
                  go_wp2
                  go_ret
                  exact ⟨rfl, HU7.out.trans (((Upd.refl _ _).alloc _).trans hu8)⟩
                · subst hbb
                  go_wp2_with fail
                  refine (alive29 _).mono ?_
                  rintro e w8 ⟨rfl, hu8⟩
                  go_wp2
                  go_ret
                  exact ⟨rfl, HU7.out.trans (((Upd.refl _ _).alloc _).trans hu8)⟩
            · have p1 : decide (prio < 0) = false := by simp; omega
              have p2 : decide (31 < prio) = false := by simp; omega
              clear hpr
              go_wp2_with fail
              refine (alive29 _).mono ?_
              rintro e w6 ⟨rfl, hu6⟩
              go_wp2
              go_ret
              exact ⟨rfl, HU1.out.trans (HD6.out.u.trans hu6)⟩
          · have p0 : decide ((0 : Int) < c.ts.length) = false := decide_eq_false (by omega)
            go_wp2_with fail
            refine (alive29 _).mono ?_
            rintro e w6 ⟨rfl, hu6⟩
            go_wp2
            go_ret
            exact ⟨rfl, HU1.out.trans (HD6.out.u.trans hu6)⟩
        · have po : decide ((0 : Int) < c.os.length) = false := decide_eq_false (by omega)
          have hcfr4 : CFR w4 va la oa ⟨c.ts.map TK.bare, c.ls, c.os, c.tk⟩ := ds_cfr HD4.out HC1.out (HEL.out _ HD4.out.u).1 (HEL.out _ HD4.out.u).2
          have HCK4 := Lib.hid (check_c vc lc oc hcfr4)
          have hz4 : CF.bad ⟨c.ts.map TK.bare, c.ls, c.os, c.tk⟩ = (0, 0, 0) := bare_bad HZB.out
          rw [hz4] at HCK4
          simp only [List.length_map] at HCK4
          unfold cfA badV at HCK4
          simp only at HCK4
          clear hcfr4 hz4
          go_wp2_with fail
          refine HCK4.out.mono ?_
          rintro e w5 ⟨rfl, hu5⟩
          have HD5 := Lib.hid (HD4.out.upd hu5)
          clear hu5
          obtain ⟨g0, g1, g2, g3⟩ := cells4 HD5.out.hd
          have lg := heap_lt HD5.out.hd
          by_cases hn0 : 0 < c.ts.length
          · have p0 : decide ((0 : Int) < c.ts.length) = true := decide_eq_true (by omega)
            by_cases hpr : prio < 0 ∨ 31 < prio
            · obtain ⟨x, xs, hxs⟩ : ∃ x xs, c.ts.map TK.bare = x :: xs := by
                cases hts : c.ts with
                | nil => rw [hts] at hn0; simp at hn0
                | cons y ys => exact ⟨_, _, rfl⟩
              have hrow := HD5.out.row
              rw [List.take_length, hxs] at hrow
              have hlen : (x :: xs).length = c.ts.length := by rw [← hxs, List.length_map]
              rw [← hlen] at hrow
              obtain ⟨q, rfl, hq, cq, fq, lq, hels⟩ := els_set hrow prio
              have hu5 : Upd [] w1 (w5.setCell ⟨q, 0, none⟩ (.int .i64 prio)) := Upd.then (S := []) HD5.out.u ((Upd.refl [q] w5).setCell (by simp) _) (fun i hi => .inr (by simp at hi; omega))
              have hcfr : CFR (w5.setCell ⟨q, 0, none⟩ (.int .i64 prio)) (some ⟨q, 0, none⟩) la oa ⟨⟨prio, x.l, x.ca, x.cn, x.cc⟩ :: xs, c.ls, c.os, c.tk⟩ :=
                ⟨hels, (HC1.out.upd hu5).l, (HEL.out _ hu5).1, (show xs.length + 1 ≤ 1000 by have := hlen; simp only [List.length_cons] at this; omega), (show c.ls.length ≤ 1000 by omega), (HEL.out _ hu5).2, (by
                  have hbare : ∀ y ∈ x :: xs, y.cn = 0 := by rw [← hxs]; intro y hy; obtain ⟨z, _, rfl⟩ := List.mem_map.1 hy; rfl
                  intro y hy
                  rcases List.mem_cons.1 hy with rfl | hy
                  · rw [show (⟨prio, x.l, x.ca, x.cn, x.cc⟩ : TK).cn = x.cn from rfl, hbare x (by simp)]; simp
                  · rw [hbare y (by simp [hy])]; simp), HC1.out.lcn⟩
              have HCK5 := Lib.hid (check_c vc lc oc hcfr)
              have HWB := Lib.hid (wrong_bad (x := ⟨prio, x.l, x.ca, x.cn, x.cc⟩) (ts := xs) (ls := c.ls) (os := c.os) (tk := c.tk) hpr)
              have hlen2 : (⟨prio, x.l, x.ca, x.cn, x.cc⟩ :: xs : List TK).length = c.ts.length := hlen
              simp only at HCK5
              rw [hlen2] at HCK5
              have HU5 := Lib.hid hu5
              have HB5 := Lib.hid (show (w5.setCell ⟨q, 0, none⟩ (.int .i64 prio)).heap[w1.heap.size]? = _ from (heap_set_other _ _ _ (by omega)).trans HD5.out.hd)
              have nq : q ≠ w1.heap.size := by omega
              have nq' : w1.heap.size ≠ q := by omega
              clear hels hcfr hu5 hrow hlen hlen2 hxs
              unfold cfA badV at HCK5
              generalize CF.bad _ = bb at HCK5 HWB
              obtain ⟨bf, bp, bt⟩ := bb
              simp only at HCK5 HWB
              rcases hpr with hpr | hpr
              · have p1 : decide (prio < 0) = true := by simpa using hpr
                clear hpr
                go_wp2_with fail
                (with_reducible refine HCK5.out.mono ?_)
                rintro e w7 ⟨rfl, hu7⟩
                have HU7 := Lib.hid (HU1.out.trans (HU5.out.trans hu7))
                clear hu7
                rcases HWB.out with hbb | hbb
                · simp only [Prod.mk.injEq] at hbb
                  obtain ⟨rfl, rfl, rfl⟩ := hbb
                  go_wp2_with fail
                  refine (alive29 _).mono ?_
                  rintro e w8 ⟨rfl, hu8⟩
                  go_wp2
                  go_ret
                  exact ⟨rfl, HU7.out.trans (((Upd.refl _ _).alloc _).trans hu8)⟩
                · subst hbb
                  go_wp2_with fail
                  refine (alive29 _).mono ?_
                  rintro e w8 ⟨rfl, hu8⟩
                  go_wp2
                  go_ret
                  exact ⟨rfl, HU7.out.trans (((Upd.refl _ _).alloc _).trans hu8)⟩
              · have p1 : decide (prio < 0) = false := by simp; omega
                have p2 : decide (31 < prio) = true := by simpa using hpr
                clear hpr
                go_wp2_with fail
                (with_reducible refine HCK5.out.mono ?_)
                rintro e w7 ⟨rfl, hu7⟩
                have HU7 := Lib.hid (HU1.out.trans (HU5.out.trans hu7))
                clear hu7
                rcases HWB.out with hbb | hbb
                · simp only [Prod.mk.injEq] at hbb
                  obtain ⟨rfl, rfl, rfl⟩ := hbb
                  go_wp2_with fail
                  refine (alive29 _).mono ?_
                  rintro e w8 ⟨rfl, hu8⟩
                  go_wp2
                  go_ret
                  exact ⟨rfl, HU7.out.trans (((Upd.refl _ _).alloc _).trans hu8)⟩
                · subst hbb
                  go_wp2_with fail
                  refine (alive29 _).mono ?_
                  rintro e w8 ⟨rfl, hu8⟩
                  go_wp2
                  go_ret
                  exact ⟨rfl, HU7.out.trans (((Upd.refl _ _).alloc _).trans hu8)⟩
            · have p1 : decide (prio < 0) = false := by simp; omega
              have p2 : decide (31 < prio) = false := by simp; omega
              clear hpr
              go_wp2_with fail
              refine (alive29 _).mono ?_
              rintro e w6 ⟨rfl, hu6⟩
              go_wp2
              go_ret
              exact ⟨rfl, HU1.out.trans (HD5.out.u.trans hu6)⟩
          · have p0 : decide ((0 : Int) < c.ts.length) = false := decide_eq_false (by omega)
            go_wp2_with fail
            refine (alive29 _).mono ?_
            rintro e w6 ⟨rfl, hu6⟩
            go_wp2
            go_ret
            exact ⟨rfl, HU1.out.trans (HD5.out.u.trans hu6)⟩
      · have q : (c.bad.1 == 0) = false := by simpa using hb
        generalize hx : c.bad.1 = x at HCK q
        clear hb hx
        go_wp2_with fail
        refine HCK.out.mono ?_
        rintro e w3 ⟨rfl, hu3⟩
        have HD3 := Lib.hid (HDA.out.upd hu3)
        clear hu3
        obtain ⟨g0, g1, g2, g3⟩ := cells4 HD3.out.hd
        have lg := heap_lt HD3.out.hd
        by_cases hn0 : 0 < c.ts.length
        · have p0 : decide ((0 : Int) < c.ts.length) = true := decide_eq_true (by omega)
          by_cases hpr : prio < 0 ∨ 31 < prio
          · obtain ⟨x, xs, hxs⟩ : ∃ x xs, c.ts.map TK.bare = x :: xs := by
              cases hts : c.ts with
              | nil => rw [hts] at hn0; simp at hn0
              | cons y ys => exact ⟨_, _, rfl⟩
            have hrow := HD3.out.row
            rw [List.take_length, hxs] at hrow
            have hlen : (x :: xs).length = c.ts.length := by rw [← hxs, List.length_map]
            rw [← hlen] at hrow
            obtain ⟨q, rfl, hq, cq, fq, lq, hels⟩ := els_set hrow prio
            have hu5 : Upd [] w1 (w3.setCell ⟨q, 0, none⟩ (.int .i64 prio)) := Upd.then (S := []) HD3.out.u ((Upd.refl [q] w3).setCell (by simp) _) (fun i hi => .inr (by simp at hi; omega))
            have hcfr : CFR (w3.setCell ⟨q, 0, none⟩ (.int .i64 prio)) (some ⟨q, 0, none⟩) la oa ⟨⟨prio, x.l, x.ca, x.cn, x.cc⟩ :: xs, c.ls, c.os, c.tk⟩ :=
              ⟨hels, (HC1.out.upd hu5).l, (HEL.out _ hu5).1, (show xs.length + 1 ≤ 1000 by have := hlen; simp only [List.length_cons] at this; omega), (show c.ls.length ≤ 1000 by omega), (HEL.out _ hu5).2, (by
                have hbare : ∀ y ∈ x :: xs, y.cn = 0 := by rw [← hxs]; intro y hy; obtain ⟨z, _, rfl⟩ := List.mem_map.1 hy; rfl
                intro y hy
                rcases List.mem_cons.1 hy with rfl | hy
                · rw [show (⟨prio, x.l, x.ca, x.cn, x.cc⟩ : TK).cn = x.cn from rfl, hbare x (by simp)]; simp
                · rw [hbare y (by simp [hy])]; simp), HC1.out.lcn⟩
            have HCK5 := Lib.hid (check_c vc lc oc hcfr)
            have HWB := Lib.hid (wrong_bad (x := ⟨prio, x.l, x.ca, x.cn, x.cc⟩) (ts := xs) (ls := c.ls) (os := c.os) (tk := c.tk) hpr)
            have hlen2 : (⟨prio, x.l, x.ca, x.cn, x.cc⟩ :: xs : List TK).length = c.ts.length := hlen
            simp only at HCK5
            rw [hlen2] at HCK5
            have HU5 := Lib.hid hu5
            have HB5 := Lib.hid (show (w3.setCell ⟨q, 0, none⟩ (.int .i64 prio)).heap[w1.heap.size]? = _ from (heap_set_other _ _ _ (by omega)).trans HD3.out.hd)
            have nq : q ≠ w1.heap.size := by omega
            have nq' : w1.heap.size ≠ q := by omega
            clear hels hcfr hu5 hrow hlen hlen2 hxs
            unfold cfA badV at HCK5
            generalize CF.bad _ = bb at HCK5 HWB
            obtain ⟨bf, bp, bt⟩ := bb
            simp only at HCK5 HWB
            rcases hpr with hpr | hpr
            · have p1 : decide (prio < 0) = true := by simpa using hpr
              clear hpr
              go_wp2_with fail
              (with_reducible refine HCK5.out.mono ?_)
              rintro e w7 ⟨rfl, hu7⟩
              have HU7 := Lib.hid (HU1.out.trans (HU5.out.trans hu7))
              clear hu7
              rcases HWB.out with hbb | hbb
              · simp only [Prod.mk.injEq] at hbb
                obtain ⟨rfl, rfl, rfl⟩ := hbb
                go_wp2_with fail
                refine (alive29 _).mono ?_
                rintro e w8 ⟨rfl, hu8⟩
                go_wp2
                go_ret
                exact ⟨rfl, HU7.out.trans (((Upd.refl _ _).alloc _).trans hu8)⟩
              · subst hbb
                go_wp2_with fail
                refine (alive29 _).mono ?_
                rintro e w8 ⟨rfl, hu8⟩
                go_wp2
                go_ret
                exact ⟨rfl, HU7.out.trans (((Upd.refl _ _).alloc _).trans hu8)⟩
            · have p1 : decide (prio < 0) = false := by simp; omega
              have p2 : decide (31 < prio) = true := by simpa using hpr
              clear hpr
              go_wp2_with fail
              (with_reducible refine HCK5.out.mono ?_)
              rintro e w7 ⟨rfl, hu7⟩
              have HU7 := Lib.hid (HU1.out.trans (HU5.out.trans hu7))
              clear hu7
              rcases HWB.out with hbb | hbb
              · simp only [Prod.mk.injEq] at hbb
                obtain ⟨rfl, rfl, rfl⟩ := hbb
                go_wp2_with fail
                refine (alive29 _).mono ?_
                rintro e w8 ⟨rfl, hu8⟩
                go_wp2
                go_ret
                exact ⟨rfl, HU7.out.trans (((Upd.refl _ _).alloc _).trans hu8)⟩
              · subst hbb
                go_wp2_with fail
                refine (alive29 _).mono ?_
                rintro e w8 ⟨rfl, hu8⟩
                go_wp2
                go_ret
                exact ⟨rfl, HU7.out.trans (((Upd.refl _ _).alloc _).trans hu8)⟩
          · have p1 : decide (prio < 0) = false := by simp; omega
            have p2 : decide (31 < prio) = false := by simp; omega
            clear hpr
            go_wp2_with fail
            refine (alive29 _).mono ?_
            rintro e w6 ⟨rfl, hu6⟩
            go_wp2
            go_ret
            exact ⟨rfl, HU1.out.trans (HD3.out.u.trans hu6)⟩
        · have p0 : decide ((0 : Int) < c.ts.length) = false := decide_eq_false (by omega)
          go_wp2_with fail
          refine (alive29 _).mono ?_
          rintro e w6 ⟨rfl, hu6⟩
          go_wp2
          go_ret
          exact ⟨rfl, HU1.out.trans (HD3.out.u.trans hu6)⟩
end
end Go.Proofs.Ytkjonflmokapcaa
