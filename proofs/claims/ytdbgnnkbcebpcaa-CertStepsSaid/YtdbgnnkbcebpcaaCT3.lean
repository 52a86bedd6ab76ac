/- Package cert: Check, one pass from the closure's call on (printed by genct.py out of CT3.base). -/
import Derived.Test.YtdbgnnkbcebpcaaCT2
set_option linter.unusedVariables false
set_option linter.unusedSimpArgs false
namespace Go.Proofs.Ytdbgnnkbcebpcaa
open Go.RowKit

/-- A part of a function's code, by its path: so that a walk can be parted into several theorems. -/
def nav : Code → List Nat → Code
  | c, [] => c
  | .seq a b, i :: p => if i = 0 then nav a p else nav b p
  | .cond _ a b, i :: p => if i = 0 then nav a p else nav b p
  | .scope c, _ :: p => nav c p
  | .block _ c, _ :: p => nav c p
  | .loop c, _ :: p => nav c p
  | c, _ => c

def checkGo (l : List OP) (order : List Int) : Nat → Nat → List IT → Int × Int
  | 0, _, _ => (0, 0)
  | n + 1, m, s => match order[m]? with
    | none => (0, 0)
    | some k => match l[k.toNat]? with
      | none => (0, 0)
      | some o => if lateP l (order.take m) o then ((m : Int), 15)
        else if o.done then (if (allowsR s o.ck o.co o.cv (o.rf, o.rv)).2 then checkGo l order n (m + 1) (allowsR s o.ck o.co o.cv (o.rf, o.rv)).1 else ((m : Int), 2))
        else checkGo l order n (m + 1) (doR s o.ck o.co o.cv).1
def checkP (objs : List OBJ) (l : List OP) (order : List Int) : Int × Int := if wholeP l order then checkGo l order order.length 0 (objs.map itemP) else (0, 1)
theorem allowsR_len (s : List IT) (k o : Int) (c : V4) (r : Int × V4) : (allowsR s k o c r).1.length = s.length := by
  unfold allowsR
  split
  · exact doR_len _ _ _ _
  split
  · rfl
  split <;> rfl
theorem allowsR_rows (s : List IT) (k o : Int) (c : V4) (r : Int × V4) (h : ∀ x ∈ s, x.row.length ≤ 64) : ∀ x ∈ (allowsR s k o c r).1, x.row.length ≤ 64 := by
  unfold allowsR
  split
  · exact doR_rows _ _ _ _ h
  split
  · exact h
  split <;> exact h
/-- A state lies apart from a block of one cell. -/
theorem srel_int {w w' : World} {sa : Option Addr} {rs : List IL} {ga : Nat} {x : Value} {t : TypeId} {f : Nat × Nat} (h : SRel w sa rs) (hg : w.heap[ga]? = some (.cells #[x] t f)) (hu : Upd [ga] w w') : SRel w' sa rs := by
  have one : ∀ b off (cs : List Value), 2 ≤ cs.length → (∀ j v, cs[j]? = some v → w.cell? ⟨b, off + j, none⟩ = some v) → b ≠ ga := fun b off cs hl hc he => by
    subst he
    have := hc 1 cs[1] (List.getElem?_eq_getElem (by omega))
    rw [cell_of_heap hg, Array.getElem?_eq_none (by simp)] at this
    cases this
  refine ⟨fun h0 => ?_, fun r hr => ?_⟩
  · obtain ⟨b, off, e, hb, hc⟩ := h.els h0
    refine ⟨b, off, e, Nat.lt_of_lt_of_le hb hu.size, fun i hi j v hv => ?_⟩
    have hi' : i < rs.length := by simpa using hi
    have hne := one b (off + i * 15) ((rs.map IL.cells)[i]) (by simp [il_len]) (fun j v hv => hc i hi j v hv)
    rw [hu.cell (p := ⟨b, _, none⟩) hb (by simpa using hne)]
    exact hc i hi j v hv
  · have hi := h.items r hr
    refine ⟨fun h0 => ?_, hi.lc, hi.cm, hi.none, fun b hb => Nat.lt_of_lt_of_le (hi.blk b hb) hu.size⟩
    obtain ⟨b, off, e, hb, hc⟩ := hi.els h0
    refine ⟨b, off, e, Nat.lt_of_lt_of_le hb hu.size, fun i hii j v hv => ?_⟩
    have hne := one b (off + i * 4) ((r.x.row.map V4.cells)[i]) (by simp [v4_len]) (fun j v hv => hc i hii j v hv)
    rw [hu.cell (p := ⟨b, _, none⟩) hb (by simpa using hne)]
    exact hc i hii j v hv
structure CK (W : World) (ga : Nat) (objs : List OBJ) (l : List OP) (order : List Int) (vl vo : Value) (sa : Option Addr) (sn sc : Nat) (n m : Nat) (wr : World) : Prop where
  nm : n + m = order.length
  hl : wr.heap[W.heap.size]? = some (.cells #[vl] 79)
  ho : wr.heap[W.heap.size + 1]? = some (.cells #[vo] 80)
  hg : wr.heap[ga]? = some (.cells #[.int .i64 m] 3)
  lt : W.heap.size + 1 < ga
  upd : Upd [] W wr
  st : ∃ rs s, SRel wr sa rs ∧ rs.map (·.x) = s ∧ sn = rs.length ∧ s.length = objs.length ∧ (∀ x ∈ s, x.row.length ≤ 64) ∧ checkGo l order n m s = checkGo l order order.length 0 (objs.map itemP)
theorem info_op17 (a b c d e f g h i j k l m n o p q : Value) : (Try.prog.info? 86).map (·.size) = some (#[a, b, c, d, e, f, g, h, i, j, k, l, m, n, o, p, q] : Array Value).size := by kernel_rfl
theorem upd_setc {w w' : World} {ga i : Nat} {v : Value} (h : w' = w.setCell ⟨ga, i, none⟩ v) : Upd [ga] w w' := by
  subst h
  exact (Upd.refl [ga] w).setB (by simp)
theorem heap_setO {w : World} {g k i : Nat} {v : Value} {o : Obj} (h : k ≠ g) (hk : w.heap[k]? = some o) : (w.setCell ⟨g, i, none⟩ v).heap[k]? = some o := (heap_set_other w i v h).trans hk
theorem heap_setI {w : World} {g : Nat} {x v u : Value} {t : TypeId} {f : Nat × Nat} (h : w.heap[g]? = some (.cells #[x] t f)) (e : v = u) : (w.setCell ⟨g, 0, none⟩ v).heap[g]? = some (.cells #[u] t f) := by
  subst e
  rw [heap_set h]
  simp
theorem info_op (a b c d e f g h i j k l m n o p q : Value) : (Try.prog.info? 86).map (·.size) = some [a, b, c, d, e, f, g, h, i, j, k, l, m, n, o, p, q].length := by kernel_rfl
/-- What holds at each pass. -/
def CJ (w : World) (ba la oa : Option Addr) (bc lc oc : Nat) (objs : List OBJ) (l : List OP) (order : List Int) (n : Nat) (a' : Act) (w' : World) : Prop :=
  ∃ (ga m sn sc : Nat) (sa : Option Addr) (u3 u6 u7 u11 u12 u13 u14 u15 u16 u17 u18 u19 u20 u21 u22 u23 u24 u25 u26 u27 u28 u29 u30 u31 u32 u33 u34 u35 u36 u37 u38 u39 u40 u41 u42 u43 u44 u45 u46 u47 u48 u49 u50 u51 u52 u53 u54 u55 u56 u57 u58 u59 u60 u61 u62 : Value), a' = { tmps := #[.slice ba objs.length bc, .slice la l.length lc, .slice oa order.length oc, u3, .pointer (some ⟨w.heap.size, 0, none⟩), .pointer (some ⟨w.heap.size + 1, 0, none⟩), u6, u7, .slice sa sn sc, .pointer (some ⟨ga, 0, none⟩), .func (.func 56) #[] #[.pointer (some ⟨w.heap.size + 1, 0, none⟩), .pointer (some ⟨ga, 0, none⟩), .pointer (some ⟨w.heap.size, 0, none⟩)], u11, u12, u13, u14, u15, u16, u17, u18, u19, u20, u21, u22, u23, u24, u25, u26, u27, u28, u29, u30, u31, u32, u33, u34, u35, u36, u37, u38, u39, u40, u41, u42, u43, u44, u45, u46, u47, u48, u49, u50, u51, u52, u53, u54, u55, u56, u57, u58, u59, u60, u61, u62], defers := [] } ∧ CK w ga objs l order (.slice la l.length lc) (.slice oa order.length oc) sa sn sc n m w'
section
variable {w w' : World} {ba la oa : Option Addr} {objs : List OBJ} {l : List OP} {order : List Int}
set_option maxRecDepth 100000 in
set_option maxHeartbeats 8000000 in
theorem check_rest (bc lc oc ga m n sc : Nat) (sa : Option Addr) (s : List IT) (rs : List IL) (res : Int × Int) (z0 z1 z2 z3 z4 z5 z6 z7 z8 z9 z10 z11 z12 z13 z15 z16 : Int) (zd : Bool) (u3 u6 u7 u12 u13 u14 u15 u16 u17 u18 u19 u20 u21 u22 u23 u24 u25 u26 u27 u28 u29 u30 u31 u32 u33 u34 u35 u36 u37 u38 u39 u40 u41 u42 u43 u44 u45 u46 u47 u48 u49 u50 u51 u52 u53 u54 u55 u56 u57 u58 u59 u60 u61 u62 : Value) (Q : Exit → Act → World → Prop)
    (hnm : n + 1 + m = order.length) (hbl : w'.heap[w.heap.size]? = some (.cells #[.slice la l.length lc] 79)) (hbo : w'.heap[w.heap.size + 1]? = some (.cells #[.slice oa order.length oc] 80)) (hga : w'.heap[ga]? = some (.cells #[.int .i64 m] 3)) (hlg : w.heap.size + 1 < ga) (hu : Upd [] w w')
    (hm : order.length ≤ 1000) (hres : res = checkGo l order order.length 0 (objs.map itemP))
    (hlate : ∀ w1, Upd [] w' w1 → Calls Try.prog 56 #[.agg #[.int .i64 z0, .int .i64 z1, .int .i64 z2, .int .i64 z3, .int .u32 z4, .int .u32 z5, .int .u32 z6, .int .u32 z7, .int .u32 z8, .int .i64 z9, .int .u32 z10, .int .u32 z11, .int .u32 z12, .int .u32 z13, .bool zd, .int .i64 z15, .int .i64 z16], .pointer (some ⟨w.heap.size + 1, 0, none⟩), .pointer (some ⟨ga, 0, none⟩), .pointer (some ⟨w.heap.size, 0, none⟩)] w1 fun e w2 => e = .returned (.bool (lateP l (order.take m) ⟨z0, z1, z2, z3, ⟨z4, z5, z6, z7⟩, z8, z9, ⟨z10, z11, z12, z13⟩, zd, z15, z16⟩)) ∧ Upd [] w1 w2)
    (ha : ∀ w1, Upd [] w' w1 → Calls Try.prog 12 #[.slice sa rs.length sc, .agg #[.int .i64 z2, .int .i64 z3, .int .u32 z4, .int .u32 z5, .int .u32 z6, .int .u32 z7, .int .u32 z8], .agg #[.int .i64 z9, .int .u32 z10, .int .u32 z11, .int .u32 z12, .int .u32 z13]] w1 fun e w2 => Upd [] w1 w2 ∧ AOut (allowsR s z2 z3 ⟨z4, z5, z6, z7⟩ (z9, ⟨z10, z11, z12, z13⟩)).1 (allowsR s z2 z3 ⟨z4, z5, z6, z7⟩ (z9, ⟨z10, z11, z12, z13⟩)).2 e w2)
    (hd : ∀ w1, Upd [] w' w1 → Calls Try.prog 10 #[.slice sa rs.length sc, .agg #[.int .i64 z2, .int .i64 z3, .int .u32 z4, .int .u32 z5, .int .u32 z6, .int .u32 z7, .int .u32 z8]] w1 fun e w2 => Upd [] w1 w2 ∧ SOut (doR s z2 z3 ⟨z4, z5, z6, z7⟩).1 (doR s z2 z3 ⟨z4, z5, z6, z7⟩).2 e w2)
    (hr : res = if lateP l (order.take m) ⟨z0, z1, z2, z3, ⟨z4, z5, z6, z7⟩, z8, z9, ⟨z10, z11, z12, z13⟩, zd, z15, z16⟩ then ((m : Int), 15) else if zd then (if (allowsR s z2 z3 ⟨z4, z5, z6, z7⟩ (z9, ⟨z10, z11, z12, z13⟩)).2 then checkGo l order n (m + 1) (allowsR s z2 z3 ⟨z4, z5, z6, z7⟩ (z9, ⟨z10, z11, z12, z13⟩)).1 else ((m : Int), 2)) else checkGo l order n (m + 1) (doR s z2 z3 ⟨z4, z5, z6, z7⟩).1)
    (hsr : ∀ s', s' = (allowsR s z2 z3 ⟨z4, z5, z6, z7⟩ (z9, ⟨z10, z11, z12, z13⟩)).1 ∨ s' = (doR s z2 z3 ⟨z4, z5, z6, z7⟩).1 → s'.length = objs.length ∧ ∀ x ∈ s', x.row.length ≤ 64)
    (hret : ∀ a w1, a.defers = [] → a.tmps.getD 6 undef = .int .i64 res.1 → a.tmps.getD 7 undef = .int .i64 res.2 → Upd [] w w1 → Q .ret a w1)
    (hgoto : ∀ a w1, CJ w ba la oa bc lc oc objs l order n a w1 → Q (.goto 0) a w1) :
    (nav (Try.f33.body.getD .skip) [1, 0, 1, 1, 1, 1, 0, 1, 0, 1]).wp Try.prog Q { tmps := #[.slice ba objs.length bc, .slice la l.length lc, .slice oa order.length oc, u3, .pointer (some ⟨w.heap.size, 0, none⟩), .pointer (some ⟨w.heap.size + 1, 0, none⟩), u6, u7, .slice sa rs.length sc, .pointer (some ⟨ga, 0, none⟩), .func (.func 56) #[] #[.pointer (some ⟨w.heap.size + 1, 0, none⟩), .pointer (some ⟨ga, 0, none⟩), .pointer (some ⟨w.heap.size, 0, none⟩)], .pointer (some ⟨w'.heap.size, 0, none⟩), u12, u13, u14, u15, u16, u17, u18, u19, u20, u21, u22, u23, u24, u25, u26, u27, u28, u29, u30, u31, u32, u33, u34, u35, u36, u37, u38, u39, u40, u41, u42, u43, u44, u45, u46, u47, u48, u49, u50, u51, u52, u53, u54, u55, u56, u57, u58, u59, u60, u61, u62], defers := [] } (w'.alloc (.cells #[.int .i64 z0, .int .i64 z1, .int .i64 z2, .int .i64 z3, .int .u32 z4, .int .u32 z5, .int .u32 z6, .int .u32 z7, .int .u32 z8, .int .i64 z9, .int .u32 z10, .int .u32 z11, .int .u32 z12, .int .u32 z13, .bool zd, .int .i64 z15, .int .i64 z16] 86)) := by
  have HNM := Lib.hid hnm
  have HBL := Lib.hid hbl
  have HBO := Lib.hid hbo
  have HGA := Lib.hid hga
  have HU := Lib.hid hu
  have HLG := Lib.hid hlg
  have HRES := Lib.hid hres
  have HLATE := Lib.hid hlate
  have HA := Lib.hid ha
  have HD := Lib.hid hd
  have HR := Lib.hid hr
  have HSR := Lib.hid hsr
  have HRET := Lib.hid hret
  have HGO := Lib.hid hgoto
  have HOP := Lib.hid (heap_alloc_new w' (.cells #[.int .i64 z0, .int .i64 z1, .int .i64 z2, .int .i64 z3, .int .u32 z4, .int .u32 z5, .int .u32 z6, .int .u32 z7, .int .u32 z8, .int .i64 z9, .int .u32 z10, .int .u32 z11, .int .u32 z12, .int .u32 z13, .bool zd, .int .i64 z15, .int .i64 z16] 86))
  have c2 : w'.cell? ⟨ga, 0, none⟩ = some (.int .i64 m) := by rw [cell_of_heap hga]; rfl
  have zf := frozen_of_heap hga 0
  have l2 := heap_lt hga
  have ng : ga ≠ w'.heap.size := by omega
  have HW := Lib.hid (show wrap64 ((m : Int) + 1) = ((m + 1 : Nat) : Int) from wrap_next (j := m) (l := order.length) (by omega) (by omega))
  have hl0 : (m : Int) < 1000 := by omega
  clear hnm hbl hbo hga hlg hu hm hres hlate ha hd hr hsr hret hgoto
  simp only [nav, Try.f33, Option.getD_some, if_true, if_false, Nat.one_ne_zero, reduceIte]
  have HPU := Lib.hid (show ∀ b : World, Upd [ga] w' b → Upd [] w b from fun b h => HU.out.then h (fun k hk => .inr (by have := HLG.out; simp at hk; omega)))
  generalize lateP l (order.take m) ⟨z0, z1, z2, z3, ⟨z4, z5, z6, z7⟩, z8, z9, ⟨z10, z11, z12, z13⟩, zd, z15, z16⟩ = lt at *
  generalize allowsR s z2 z3 ⟨z4, z5, z6, z7⟩ (z9, ⟨z10, z11, z12, z13⟩) = ad at *
  generalize doR s z2 z3 ⟨z4, z5, z6, z7⟩ = dd at *
  obtain ⟨s1, ok⟩ := ad
  obtain ⟨s2, r2⟩ := dd
  simp only at HA HD HR HSR
  have HSR1 := HSR.out s1 (.inl rfl)
  have HSR2 := HSR.out s2 (.inr rfl)
  have HSR := Lib.hid (And.intro HSR1 HSR2)
  clear HSR1 HSR2
  cases lt
  · cases zd
    · (
          go_wp2_with (first
            | (refine wpList_load_row rfl 86 _ rfl w'.heap.size rfl _ _ (0, 0) _ HOP.out Try.underlying86 rfl (info_op17 _ _ _ _ _ _ _ _ _ _ _ _ _ _ _ _ _) ?_)
            | (go_at_call 56; (with_reducible refine (HLATE.out _ (by repeat (first | (with_reducible exact Upd.refl _ _) | (with_reducible apply Upd.drew) | (with_reducible refine Upd.grE ?_ _) | (with_reducible refine Upd.alloc ?_ _)))).mono ?_); rintro e w2 ⟨rfl, hu2⟩; obtain ⟨p2, rfl⟩ := hu2.grown; clear hu2)
            | (go_at_call 12; (with_reducible refine (HA.out _ (by repeat (first | (with_reducible exact Upd.refl _ _) | (with_reducible apply Upd.drew) | (with_reducible refine Upd.grE ?_ _) | (with_reducible refine Upd.alloc ?_ _)))).mono ?_); rintro e w3 ⟨hu3, sa3, sc3, rs3, rfl, hs3, hm3⟩; obtain ⟨p3, rfl⟩ := hu3.grown; have HS3 := Lib.hid hs3; have HM3 := Lib.hid hm3; clear hu3 hs3 hm3)
            | (go_at_call 10; (with_reducible refine (HD.out _ (by repeat (first | (with_reducible exact Upd.refl _ _) | (with_reducible apply Upd.drew) | (with_reducible refine Upd.grE ?_ _) | (with_reducible refine Upd.alloc ?_ _)))).mono ?_); rintro e w4 ⟨hu4, sa4, sc4, rs4, rfl, hs4, hm4⟩; obtain ⟨p4, rfl⟩ := hu4.grown; have HS4 := Lib.hid hs4; have HM4 := Lib.hid hm4; clear hu4 hs4 hm4)))
      go_step3
      (
          have hus := HS4.out
          refine HGO.out _ _ ⟨ga, m + 1, _, _, _, _, _, _, _, _, _, _, _, _, _, _, _, _, _, _, _, _, _, _, _, _, _, _, _, _, _, _, _, _, _, _, _, _, _, _, _, _, _, _, _, _, _, _, _, _, _, _, _, _, _, _, _, _, _, _, rfl, ⟨by have := HNM.out; omega, ?_, ?_, ?_, HLG.out, ?_, ⟨_, s2, srel_int (ga := ga) (x := .int .i64 m) (t := 3) (f := (0, 0)) hus ?_ (upd_setc (i := 0) (v := .int .i64 ((m : Int) + 1)) ?_), HM4.out, by rw [← HM4.out]; simp, ?_, ?_, ?_⟩⟩⟩
          · repeat (first | (with_reducible exact HBL.out) | (with_reducible apply heap_drewE) | (with_reducible apply heap_grE) | (with_reducible apply heap_alloc') | (with_reducible refine heap_setO (by have := HLG.out; omega) ?_))
          · repeat (first | (with_reducible exact HBO.out) | (with_reducible apply heap_drewE) | (with_reducible apply heap_grE) | (with_reducible apply heap_alloc') | (with_reducible refine heap_setO (by have := HLG.out; omega) ?_))
          · repeat (first | (with_reducible apply heap_drewE) | (with_reducible apply heap_grE) | (with_reducible apply heap_alloc') | (refine heap_setI HGA.out ?_))
            first | rfl | simp
          · exact HPU.out _ (by repeat (first | (with_reducible exact Upd.refl _ _) | (with_reducible apply Upd.drew) | (with_reducible refine Upd.grE ?_ _) | (with_reducible refine Upd.alloc ?_ _) | (with_reducible refine Upd.setB ?_ (by simp))))
          · repeat (first | (with_reducible exact HGA.out) | (with_reducible apply heap_drewE) | (with_reducible apply heap_grE) | (with_reducible apply heap_alloc'))
          · go_simp
          · first | exact HSR.out.1.1 | exact HSR.out.2.1
          · first | exact HSR.out.1.2 | exact HSR.out.2.2
          · rw [← HRES.out]; exact HR.out.symm)
    · cases ok
      · (
            go_wp2_with (first
              | (refine wpList_load_row rfl 86 _ rfl w'.heap.size rfl _ _ (0, 0) _ HOP.out Try.underlying86 rfl (info_op17 _ _ _ _ _ _ _ _ _ _ _ _ _ _ _ _ _) ?_)
              | (go_at_call 56; (with_reducible refine (HLATE.out _ (by repeat (first | (with_reducible exact Upd.refl _ _) | (with_reducible apply Upd.drew) | (with_reducible refine Upd.grE ?_ _) | (with_reducible refine Upd.alloc ?_ _)))).mono ?_); rintro e w2 ⟨rfl, hu2⟩; obtain ⟨p2, rfl⟩ := hu2.grown; clear hu2)
              | (go_at_call 12; (with_reducible refine (HA.out _ (by repeat (first | (with_reducible exact Upd.refl _ _) | (with_reducible apply Upd.drew) | (with_reducible refine Upd.grE ?_ _) | (with_reducible refine Upd.alloc ?_ _)))).mono ?_); rintro e w3 ⟨hu3, sa3, sc3, rs3, rfl, hs3, hm3⟩; obtain ⟨p3, rfl⟩ := hu3.grown; have HS3 := Lib.hid hs3; have HM3 := Lib.hid hm3; clear hu3 hs3 hm3)
              | (go_at_call 10; (with_reducible refine (HD.out _ (by repeat (first | (with_reducible exact Upd.refl _ _) | (with_reducible apply Upd.drew) | (with_reducible refine Upd.grE ?_ _) | (with_reducible refine Upd.alloc ?_ _)))).mono ?_); rintro e w4 ⟨hu4, sa4, sc4, rs4, rfl, hs4, hm4⟩; obtain ⟨p4, rfl⟩ := hu4.grown; have HS4 := Lib.hid hs4; have HM4 := Lib.hid hm4; clear hu4 hs4 hm4)))
        (
            refine HRET.out _ _ rfl ?_ ?_ (HU.out.trans (by repeat (first | (with_reducible exact Upd.refl _ _) | (with_reducible apply Upd.drew) | (with_reducible refine Upd.grE ?_ _) | (with_reducible refine Upd.alloc ?_ _))))
            · rw [HR.out]; rfl
            · rw [HR.out]; rfl)
      · (
            go_wp2_with (first
              | (refine wpList_load_row rfl 86 _ rfl w'.heap.size rfl _ _ (0, 0) _ HOP.out Try.underlying86 rfl (info_op17 _ _ _ _ _ _ _ _ _ _ _ _ _ _ _ _ _) ?_)
              | (go_at_call 56; (with_reducible refine (HLATE.out _ (by repeat (first | (with_reducible exact Upd.refl _ _) | (with_reducible apply Upd.drew) | (with_reducible refine Upd.grE ?_ _) | (with_reducible refine Upd.alloc ?_ _)))).mono ?_); rintro e w2 ⟨rfl, hu2⟩; obtain ⟨p2, rfl⟩ := hu2.grown; clear hu2)
              | (go_at_call 12; (with_reducible refine (HA.out _ (by repeat (first | (with_reducible exact Upd.refl _ _) | (with_reducible apply Upd.drew) | (with_reducible refine Upd.grE ?_ _) | (with_reducible refine Upd.alloc ?_ _)))).mono ?_); rintro e w3 ⟨hu3, sa3, sc3, rs3, rfl, hs3, hm3⟩; obtain ⟨p3, rfl⟩ := hu3.grown; have HS3 := Lib.hid hs3; have HM3 := Lib.hid hm3; clear hu3 hs3 hm3)
              | (go_at_call 10; (with_reducible refine (HD.out _ (by repeat (first | (with_reducible exact Upd.refl _ _) | (with_reducible apply Upd.drew) | (with_reducible refine Upd.grE ?_ _) | (with_reducible refine Upd.alloc ?_ _)))).mono ?_); rintro e w4 ⟨hu4, sa4, sc4, rs4, rfl, hs4, hm4⟩; obtain ⟨p4, rfl⟩ := hu4.grown; have HS4 := Lib.hid hs4; have HM4 := Lib.hid hm4; clear hu4 hs4 hm4)))
        go_step3
        (
            have hus := HS3.out
            refine HGO.out _ _ ⟨ga, m + 1, _, _, _, _, _, _, _, _, _, _, _, _, _, _, _, _, _, _, _, _, _, _, _, _, _, _, _, _, _, _, _, _, _, _, _, _, _, _, _, _, _, _, _, _, _, _, _, _, _, _, _, _, _, _, _, _, _, _, rfl, ⟨by have := HNM.out; omega, ?_, ?_, ?_, HLG.out, ?_, ⟨_, s1, srel_int (ga := ga) (x := .int .i64 m) (t := 3) (f := (0, 0)) hus ?_ (upd_setc (i := 0) (v := .int .i64 ((m : Int) + 1)) ?_), HM3.out, by rw [← HM3.out]; simp, ?_, ?_, ?_⟩⟩⟩
            · repeat (first | (with_reducible exact HBL.out) | (with_reducible apply heap_drewE) | (with_reducible apply heap_grE) | (with_reducible apply heap_alloc') | (with_reducible refine heap_setO (by have := HLG.out; omega) ?_))
            · repeat (first | (with_reducible exact HBO.out) | (with_reducible apply heap_drewE) | (with_reducible apply heap_grE) | (with_reducible apply heap_alloc') | (with_reducible refine heap_setO (by have := HLG.out; omega) ?_))
            · repeat (first | (with_reducible apply heap_drewE) | (with_reducible apply heap_grE) | (with_reducible apply heap_alloc') | (refine heap_setI HGA.out ?_))
              first | rfl | simp
            · exact HPU.out _ (by repeat (first | (with_reducible exact Upd.refl _ _) | (with_reducible apply Upd.drew) | (with_reducible refine Upd.grE ?_ _) | (with_reducible refine Upd.alloc ?_ _) | (with_reducible refine Upd.setB ?_ (by simp))))
            · repeat (first | (with_reducible exact HGA.out) | (with_reducible apply heap_drewE) | (with_reducible apply heap_grE) | (with_reducible apply heap_alloc'))
            · go_simp
            · first | exact HSR.out.1.1 | exact HSR.out.2.1
            · first | exact HSR.out.1.2 | exact HSR.out.2.2
            · rw [← HRES.out]; exact HR.out.symm)
  · (
        go_wp2_with (first
          | (refine wpList_load_row rfl 86 _ rfl w'.heap.size rfl _ _ (0, 0) _ HOP.out Try.underlying86 rfl (info_op17 _ _ _ _ _ _ _ _ _ _ _ _ _ _ _ _ _) ?_)
          | (go_at_call 56; (with_reducible refine (HLATE.out _ (by repeat (first | (with_reducible exact Upd.refl _ _) | (with_reducible apply Upd.drew) | (with_reducible refine Upd.grE ?_ _) | (with_reducible refine Upd.alloc ?_ _)))).mono ?_); rintro e w2 ⟨rfl, hu2⟩; obtain ⟨p2, rfl⟩ := hu2.grown; clear hu2)
          | (go_at_call 12; (with_reducible refine (HA.out _ (by repeat (first | (with_reducible exact Upd.refl _ _) | (with_reducible apply Upd.drew) | (with_reducible refine Upd.grE ?_ _) | (with_reducible refine Upd.alloc ?_ _)))).mono ?_); rintro e w3 ⟨hu3, sa3, sc3, rs3, rfl, hs3, hm3⟩; obtain ⟨p3, rfl⟩ := hu3.grown; have HS3 := Lib.hid hs3; have HM3 := Lib.hid hm3; clear hu3 hs3 hm3)
          | (go_at_call 10; (with_reducible refine (HD.out _ (by repeat (first | (with_reducible exact Upd.refl _ _) | (with_reducible apply Upd.drew) | (with_reducible refine Upd.grE ?_ _) | (with_reducible refine Upd.alloc ?_ _)))).mono ?_); rintro e w4 ⟨hu4, sa4, sc4, rs4, rfl, hs4, hm4⟩; obtain ⟨p4, rfl⟩ := hu4.grown; have HS4 := Lib.hid hs4; have HM4 := Lib.hid hm4; clear hu4 hs4 hm4)))
    (
        refine HRET.out _ _ rfl ?_ ?_ (HU.out.trans (by repeat (first | (with_reducible exact Upd.refl _ _) | (with_reducible apply Upd.drew) | (with_reducible refine Upd.grE ?_ _) | (with_reducible refine Upd.alloc ?_ _))))
        · rw [HR.out]; rfl
        · rw [HR.out]; rfl)
end
end Go.Proofs.Ytdbgnnkbcebpcaa
