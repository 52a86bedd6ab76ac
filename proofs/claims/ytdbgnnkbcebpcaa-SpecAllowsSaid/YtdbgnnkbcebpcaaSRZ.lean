/- Merged: SR13 SR14 SR15 (merge.py). -/
import Derived.Test.YtdbgnnkbcebpcaaSRS
set_option linter.unusedVariables false
set_option linter.unusedSimpArgs false
namespace Go.Proofs.Ytdbgnnkbcebpcaa
open Go.RowKit
def exO : OBJ := ⟨1, 1, 1, 0, 0, 0, 0, 0, 0, 0⟩
def exA : List IT := [⟨exO, [], v0⟩]
def exB : List IT := [⟨exO, [⟨5, 0, 0, 0⟩], v0⟩]
def ExS (w : World) (sa : Option Addr) (s : List IT) : Prop := ∃ rs, SRel w sa rs ∧ rs.map (·.x) = s
theorem ExS.upd {w w' : World} {sa : Option Addr} {s : List IT} (h : ExS w sa s) (hu : Upd [] w w') : ExS w' sa s := by
  obtain ⟨rs, h1, h2⟩ := h
  exact ⟨rs, h1.upd hu, h2⟩
theorem ex_row {w : World} {sa : Option Addr} (h : ExS w sa exB) : ∃ sb so ra rc, sa = some ⟨sb, so, none⟩ ∧ sb < w.heap.size ∧ w.cell? ⟨sb, so + 10, none⟩ = some (.slice ra 1 rc) := by
  obtain ⟨rs, h1, h2⟩ := h
  have hl : rs.length = 1 := by have := congrArg List.length h2; simpa [exB] using this
  obtain ⟨sb, so, e, hb, hc⟩ := els_at h1.els (show 0 < rs.length by omega)
  have hx : rs[0].x = ⟨exO, [⟨5, 0, 0, 0⟩], v0⟩ := by
    have h3 : (rs.map (·.x))[0]? = exB[0]? := by rw [h2]
    rw [List.getElem?_map, List.getElem?_eq_getElem (by omega)] at h3
    simpa [exB] using h3
  refine ⟨sb, so, rs[0].ra, rs[0].rc, e, hb, ?_⟩
  have h4 := hc 10 (.slice rs[0].ra rs[0].x.row.length rs[0].rc) rfl
  rw [hx] at h4
  simpa using h4
theorem ex_start {w : World} {g : Nat} (h : w.heap[g]? = some (.cells #[.int .i64 1, .int .i64 1, .int .i64 1, .int .i64 0, .int .i64 0, .int .i64 0, .int .u32 0, .int .u32 0, .int .u32 0, .int .u32 0] 109)) :
    Calls Try.prog 8 #[.slice (some ⟨g, 0, none⟩) 1 1] w fun e w' => Upd [] w w' ∧ ∃ sa sc, e = .returned (.slice sa 1 sc) ∧ ExS w' sa exA := by
  have hels : Els w (some ⟨g, 0, none⟩) 10 ([exO].map OBJ.cells) := fun _ => ⟨g, 0, rfl, heap_lt h, fun i hi j v hj => by
    obtain rfl : i = 0 := by simpa using hi
    simp only [Nat.zero_mul, Nat.zero_add]
    exact cell_of_list h j v hj⟩
  refine (start_c (l := [exO]) 1 hels (by simp)).mono fun e w' he => ?_
  obtain ⟨hu, sa, sc, rfl, hs⟩ := he
  exact ⟨hu, sa, sc, rfl, _, hs, rfl⟩
theorem ex_do {w : World} {sa : Option Addr} {s : List IT} (sc : Nat) (k : Int) (c : V4) (s' : List IT) (r : Int × V4) (h : ExS w sa s) (hl : s.length = 1) (hl' : s'.length = 1) (hr : ∀ x ∈ s, x.row.length ≤ 64) (hd : doR s k 0 c = (s', r)) :
    Calls Try.prog 10 #[.slice sa 1 sc, .agg #[.int .i64 k, .int .i64 0, .int .u32 c.a, .int .u32 c.b, .int .u32 c.c, .int .u32 c.d, .int .u32 0]] w fun e w' => Upd [] w w' ∧ ∃ sa' sc', e = .returned (.tuple #[.slice sa' 1 sc', .agg #[.int .i64 r.1, .int .u32 r.2.a, .int .u32 r.2.b, .int .u32 r.2.c, .int .u32 r.2.d]]) ∧ ExS w' sa' s' := by
  obtain ⟨rs, h1, rfl⟩ := h
  have hl1 : rs.length = 1 := by simpa using hl
  have := do_c (w := w) (sa := sa) (rs := rs) sc k 0 0 c h1 (by omega) (fun r hr' => hr _ (List.mem_map_of_mem hr'))
  rw [hl1, hd] at this
  refine this.mono fun e w' he => ?_
  obtain ⟨hu, sa', sc', rs', e1, h2, h3⟩ := he
  exact ⟨hu, sa', sc', by rw [e1, hl']; rfl, rs', h2, h3⟩
theorem ex_allows {w : World} {sa : Option Addr} {s : List IT} (sc : Nat) (k : Int) (c : V4) (r : Int × V4) (s' : List IT) (b : Bool) (h : ExS w sa s) (hl : s.length = 1) (hl' : s'.length = 1) (hr : ∀ x ∈ s, x.row.length ≤ 64) (hd : allowsR s k 0 c r = (s', b)) :
    Calls Try.prog 12 #[.slice sa 1 sc, .agg #[.int .i64 k, .int .i64 0, .int .u32 c.a, .int .u32 c.b, .int .u32 c.c, .int .u32 c.d, .int .u32 0], .agg #[.int .i64 r.1, .int .u32 r.2.a, .int .u32 r.2.b, .int .u32 r.2.c, .int .u32 r.2.d]] w fun e w' => Upd [] w w' ∧ ∃ sa' sc', e = .returned (.tuple #[.slice sa' 1 sc', .bool b]) := by
  obtain ⟨rs, h1, rfl⟩ := h
  have hl1 : rs.length = 1 := by simpa using hl
  have := allows_c (w := w) (sa := sa) (rs := rs) sc k 0 0 c r h1 (by omega) (fun r hr' => hr _ (List.mem_map_of_mem hr'))
  rw [hl1, hd] at this
  refine this.mono fun e w' he => ?_
  obtain ⟨hu, sa', sc', rs', e1, h2, h3⟩ := he
  exact ⟨hu, sa', sc', by rw [e1, hl']⟩
theorem ex_d1 : doR exA 1 0 ⟨5, 0, 0, 0⟩ = (exB, (0, v0)) := by rfl
theorem ex_d2 : doR exB 1 0 ⟨6, 0, 0, 0⟩ = (exB, (6, v0)) := by rfl
theorem ex_a : allowsR exB 14 0 ⟨6, 0, 0, 0⟩ (9, v0) = (exB, true) := by
  have h : doR exB 14 0 ⟨6, 0, 0, 0⟩ = (exB, (6, v0)) := by rfl
  simp [allowsR, h]
set_option maxRecDepth 100000 in
set_option maxHeartbeats 4000000 in
theorem alive19 (w : World) : Calls Try.prog 7 #[] w fun e w' => e = .returned (.bool true) ∧ Upd [] w w' := by
  have HS := Lib.hid (fun (w : World) (g : Nat) h => ex_start (w := w) (g := g) h)
  have HD1 := Lib.hid (fun (w : World) sa sc h => show Calls Try.prog 10 #[.slice sa 1 sc, .agg #[.int .i64 1, .int .i64 0, .int .u32 5, .int .u32 0, .int .u32 0, .int .u32 0, .int .u32 0]] w fun e w' => Upd [] w w' ∧ ∃ sa' sc', e = .returned (.tuple #[.slice sa' 1 sc', .agg #[.int .i64 0, .int .u32 0, .int .u32 0, .int .u32 0, .int .u32 0]]) ∧ ExS w' sa' exB from ex_do (w := w) (sa := sa) sc 1 ⟨5, 0, 0, 0⟩ exB (0, v0) h rfl rfl (by simp [exA]) ex_d1)
  have HD2 := Lib.hid (fun (w : World) sa sc h => show Calls Try.prog 10 #[.slice sa 1 sc, .agg #[.int .i64 1, .int .i64 0, .int .u32 6, .int .u32 0, .int .u32 0, .int .u32 0, .int .u32 0]] w fun e w' => Upd [] w w' ∧ ∃ sa' sc', e = .returned (.tuple #[.slice sa' 1 sc', .agg #[.int .i64 6, .int .u32 0, .int .u32 0, .int .u32 0, .int .u32 0]]) ∧ ExS w' sa' exB from ex_do (w := w) (sa := sa) sc 1 ⟨6, 0, 0, 0⟩ exB (6, v0) h rfl rfl (by simp [exB]) ex_d2)
  have HA := Lib.hid (fun (w : World) sa sc h => show Calls Try.prog 12 #[.slice sa 1 sc, .agg #[.int .i64 14, .int .i64 0, .int .u32 6, .int .u32 0, .int .u32 0, .int .u32 0, .int .u32 0], .agg #[.int .i64 9, .int .u32 0, .int .u32 0, .int .u32 0, .int .u32 0]] w fun e w' => Upd [] w w' ∧ ∃ sa' sc', e = .returned (.tuple #[.slice sa' 1 sc', .bool true]) from ex_allows (w := w) (sa := sa) sc 14 ⟨6, 0, 0, 0⟩ (9, v0) exB true h rfl rfl (by simp [exB]) ex_a)
  go_enter Try.func7, Try.ntmps7
  go_wp2_with (first
    | (go_at_call 8; (with_reducible refine (HS.out _ _ (heap_alloc_new _ _)).mono ?_); rintro e w1 ⟨hu1, sa, sc, rfl, hs1⟩; have HU1 := Lib.hid (show Upd [] w w1 from ((Upd.refl [] w).alloc _).trans hu1); have HS1 := Lib.hid hs1; clear hu1 hs1)
    | (go_at_call 10; (with_reducible refine (HD1.out _ _ _ HS1.out).mono ?_); clear HD1; rintro e w2 ⟨hu2, ta, tc, rfl, hs2⟩; have HU2 := Lib.hid (HU1.out.trans hu2); have HS2 := Lib.hid hs2; obtain ⟨sb, so, ra, rc, rfl, tlt, tcell⟩ := ex_row hs2; clear hu2 hs2)
    | (go_at_call 10; (with_reducible refine (HD2.out _ _ _ (HS2.out.upd (by repeat (first | (with_reducible exact Upd.refl _ _) | (with_reducible apply Upd.drew) | (with_reducible refine Upd.grE ?_ _) | (with_reducible refine Upd.alloc ?_ _))))).mono ?_); clear HD2; rintro e w3 ⟨hu3, ua, uc, rfl, hs3⟩; obtain ⟨p3, rfl⟩ := hu3.grown; clear hu3 hs3)
    | (go_at_call 12; (with_reducible refine (HA.out _ _ _ (HS2.out.upd (by repeat (first | (with_reducible exact Upd.refl _ _) | (with_reducible apply Upd.drew) | (with_reducible refine Upd.grE ?_ _) | (with_reducible refine Upd.alloc ?_ _))))).mono ?_); clear HA; rintro e w4 ⟨hu4, va, vc, rfl⟩; obtain ⟨p4, rfl⟩ := hu4.grown; clear hu4))
  go_ret
  exact ⟨rfl, HU2.out.trans (by repeat (first | (with_reducible exact Upd.refl _ _) | (with_reducible apply Upd.drew) | (with_reducible refine Upd.grE ?_ _) | (with_reducible refine Upd.alloc ?_ _)))⟩
end Go.Proofs.Ytdbgnnkbcebpcaa
namespace Go.Proofs.Ytdbgnnkbcebpcaa
open Go.RowKit
theorem slice_els {α : Type} {e : Sh} {w : World} {v : Value} (f : α → List Value) (dec : ∀ cs, e.ok w cs → ∃ x, cs = f x) (h : (Sh.slice e).okV w v) : ∃ (a : Option Addr) (cap : Nat) (xs : List α), v = .slice a xs.length cap ∧ xs.length ≤ cap ∧ cap ≤ maxLen ∧ Els w a e.size (xs.map f) := by
  obtain ⟨a, len, cap, hv, hlc, hcm, g, hf, hm, h0⟩ : (Sh.slice e).ok w [v] := h
  obtain rfl : v = .slice a len cap := by simpa using hv
  obtain ⟨xs, hl, hx⟩ := list_of len (fun i x => g i = f x) (fun i hi => by
    obtain ⟨x, hx⟩ := dec _ (hf i hi).1
    exact ⟨x, hx⟩)
  subst hl
  refine ⟨a, cap, xs, rfl, hlc, hcm, fun hp => ?_⟩
  obtain ⟨b, off, e1, hb, hc⟩ := hm (by simpa using hp)
  refine ⟨b, off, e1, hb, fun i hi j u hu => ?_⟩
  have hi' : i < xs.length := by simpa using hi
  exact hc i hi' j u (by rw [hx i hi']; simpa using hu)
structure CL where
  k : Int
  o : Int
  v : V4
  n : Int
def CL.A (c : CL) : Array Value := caV c.k c.o c.v.a c.v.b c.v.c c.v.d c.n
def CL.cells (c : CL) : List Value := c.A.toList
def WordA (v : V4) : Prop := 0 ≤ v.a ∧ v.a ≤ 4294967295
theorem dec4W {w : World} {cs : List Value} (h : (Sh.ar 4 (.int .u32)).ok w cs) : ∃ v : V4, cs = v.cells ∧ WordA v := by
  obtain ⟨x0, y0, rfl, ⟨a, rfl, ha⟩, x1, y1, rfl, ⟨b, rfl, -⟩, x2, y2, rfl, ⟨c, rfl, -⟩, x3, y3, rfl, ⟨d, rfl, -⟩, rfl⟩ := h
  refine ⟨⟨a, b, c, d⟩, rfl, (?_ : 0 ≤ a ∧ a ≤ 4294967295)⟩
  simpa [Lit.wf, IntKind.min, IntKind.max, IntKind.bits, IntKind.signed] using ha
theorem dec_objW {w : World} {cs : List Value} (h : (Sh.st (.cons (.int .i64) (.cons (.int .i64) (.cons (.int .i64) (.cons (.int .i64) (.cons (.int .i64) (.cons (.int .i64) (.cons (.ar 4 (.int .u32)) (.nil))))))))).ok w cs) : ∃ o : {o : OBJ // 0 ≤ o.i0 ∧ o.i0 ≤ 4294967295}, cs = o.1.cells := by
  obtain ⟨x0, y0, rfl, ⟨a, rfl, -⟩, x1, y1, rfl, ⟨b, rfl, -⟩, x2, y2, rfl, ⟨c, rfl, -⟩, x3, y3, rfl, ⟨d, rfl, -⟩, x4, y4, rfl, ⟨e, rfl, -⟩, x5, y5, rfl, ⟨f, rfl, -⟩, x6, y6, rfl, h6, rfl⟩ := h
  obtain ⟨v, rfl, hv⟩ := dec4W h6
  exact ⟨⟨⟨a, b, c, d, e, f, v.a, v.b, v.c, v.d⟩, hv⟩, rfl⟩
theorem dec_callW {w : World} {cs : List Value} (h : (Sh.st (.cons (.int .i64) (.cons (.int .i64) (.cons (.ar 4 (.int .u32)) (.cons (.int .u32) (.nil)))))).ok w cs) : ∃ c : {c : CL // WordA c.v}, cs = c.1.cells := by
  obtain ⟨c0, d0, rfl, ⟨k, rfl, -⟩, c1, d1, rfl, ⟨o, rfl, -⟩, c2, d2, rfl, hv, c3, d3, rfl, ⟨n, rfl, -⟩, rfl⟩ := h
  obtain ⟨v, rfl, hw⟩ := dec4W hv
  exact ⟨⟨⟨k, o, v, n⟩, hw⟩, rfl⟩
def stp (s : List IT) (c : CL) : List IT := (doR s c.k c.o c.v).1
def sts (s : List IT) (cs : List CL) : List IT := cs.foldl stp s
theorem sts_take (s : List IT) (cs : List CL) {j : Nat} (hj : j < cs.length) : sts s (cs.take (j + 1)) = (doR (sts s (cs.take j)) cs[j].k cs[j].o cs[j].v).1 := by
  unfold sts
  rw [List.take_succ_eq_append_getElem hj, List.foldl_append]
  rfl
theorem sts_inv : ∀ (cs : List CL) (s : List IT), (∀ x ∈ s, x.row.length ≤ 64) → (∀ x ∈ s, IOk x) → (∀ c ∈ cs, WordA c.v) → (sts s cs).length = s.length ∧ (∀ x ∈ sts s cs, x.row.length ≤ 64) ∧ ∀ x ∈ sts s cs, IOk x
  | [], s, h1, h2, _ => ⟨rfl, h1, h2⟩
  | c :: cs, s, h1, h2, h3 => by
    obtain ⟨a, b, d⟩ := sts_inv cs (stp s c) (doR_rows s c.k c.o c.v h1) (doR_ok s c.k c.o c.v h2 (h3 c (by simp))) (fun x hx => h3 x (by simp [hx]))
    exact ⟨a.trans (doR_len _ _ _ _), b, d⟩
theorem allowsR_rows (s : List IT) (k o : Int) (c : V4) (r : Int × V4) (h : ∀ x ∈ s, x.row.length ≤ 64) : ∀ x ∈ (allowsR s k o c r).1, x.row.length ≤ 64 := by
  unfold allowsR
  split
  · exact doR_rows s k o c h
  · split
    · exact h
    · split <;> exact h
theorem allowsR_len (s : List IT) (k o : Int) (c : V4) (r : Int × V4) : (allowsR s k o c r).1.length = s.length := by
  unfold allowsR
  split
  · exact doR_len s k o c
  · split
    · rfl
    · split <;> rfl
theorem allowsR_own (s : List IT) (k o : Int) (c : V4) : allowsR s k o c (doR s k o c).2 = ((doR s k o c).1, true) := by
  unfold allowsR
  rw [if_pos rfl]
/-- A state in memory. -/
def SIn (w : World) (v : Value) (s : List IT) : Prop := ∃ sa sc rs, v = .slice sa s.length sc ∧ SRel w sa rs ∧ rs.map (·.x) = s
theorem SIn.upd {w w' : World} {v : Value} {s : List IT} (h : SIn w v s) (hu : Upd [] w w') : SIn w' v s := by
  obtain ⟨sa, sc, rs, e, h1, h2⟩ := h
  exact ⟨sa, sc, rs, e, h1.upd hu, h2⟩
section
variable {w : World} {v : Value} {s : List IT} (h : SIn w v s) (hn : s.length ≤ 8) (hr : ∀ x ∈ s, x.row.length ≤ 64) (hok : ∀ x ∈ s, IOk x) (k o n : Int) (c : V4) (hc : WordA c) (r : Int × V4)
include h hn hr
theorem p_do : Calls Try.prog 10 #[v, .agg (caV k o c.a c.b c.c c.d n)] w fun e w' => Upd [] w w' ∧ ∃ v', e = .returned (.tuple #[v', .agg (resV (doR s k o c).2)]) ∧ SIn w' v' (doR s k o c).1 := by
  obtain ⟨sa, sc, rs, rfl, h1, rfl⟩ := h
  have hl : (rs.map (·.x)).length = rs.length := by simp
  rw [hl]
  refine (do_c sc k o n c h1 (by simp at hn; omega) (fun r hr' => hr _ (List.mem_map_of_mem hr'))).mono fun e w' he => ?_
  obtain ⟨hu, sa', sc', rs', e1, h2, h3⟩ := he
  exact ⟨hu, _, e1, sa', sc', rs', rfl, h2, h3⟩
theorem p_allows : Calls Try.prog 12 #[v, .agg (caV k o c.a c.b c.c c.d n), .agg (resV r)] w fun e w' => Upd [] w w' ∧ ∃ v', e = .returned (.tuple #[v', .bool (allowsR s k o c r).2]) ∧ SIn w' v' (allowsR s k o c r).1 := by
  obtain ⟨sa, sc, rs, rfl, h1, rfl⟩ := h
  have hl : (rs.map (·.x)).length = rs.length := by simp
  rw [hl]
  refine (allows_c sc k o n c r h1 (by simp at hn; omega) (fun r hr' => hr _ (List.mem_map_of_mem hr'))).mono fun e w' he => ?_
  obtain ⟨hu, sa', sc', rs', e1, h2, h3⟩ := he
  exact ⟨hu, _, e1, sa', sc', rs', rfl, h2, h3⟩
include hok hc
theorem r_do : Calls Try.prog 11 #[v, .agg (caV k o c.a c.b c.c c.d n)] w fun e w' => Upd [] w w' ∧ ∃ v', e = .returned (.tuple #[v', .agg (resV (doR s k o c).2)]) ∧ SIn w' v' (doR s k o c).1 := by
  obtain ⟨sa, sc, rs, rfl, h1, rfl⟩ := h
  have hl : (rs.map (·.x)).length = rs.length := by simp
  rw [hl]
  refine (rdo_c sc k o n c h1 (by simp at hn; omega) (fun r hr' => hr _ (List.mem_map_of_mem hr')) (fun r hr' => hok _ (List.mem_map_of_mem hr')) hc).mono fun e w' he => ?_
  obtain ⟨hu, sa', sc', rs', e1, h2, h3⟩ := he
  exact ⟨hu, _, e1, sa', sc', rs', rfl, h2, h3⟩
theorem r_allows : Calls Try.prog 13 #[v, .agg (caV k o c.a c.b c.c c.d n), .agg (resV r)] w fun e w' => Upd [] w w' ∧ ∃ v', e = .returned (.tuple #[v', .bool (allowsR s k o c r).2]) ∧ SIn w' v' (allowsR s k o c r).1 := by
  obtain ⟨sa, sc, rs, rfl, h1, rfl⟩ := h
  have hl : (rs.map (·.x)).length = rs.length := by simp
  rw [hl]
  refine (rallows_c sc k o n c r h1 (fun w1 hu => rdo_c sc k o n c (h1.upd hu) (by simp at hn; omega) (fun r hr' => hr _ (List.mem_map_of_mem hr')) (fun r hr' => hok _ (List.mem_map_of_mem hr')) hc)).mono fun e w' he => ?_
  obtain ⟨hu, sa', sc', rs', e1, h2, h3⟩ := he
  exact ⟨hu, _, e1, sa', sc', rs', rfl, h2, h3⟩
end
theorem r_back {w : World} {v : Value} {s : List IT} (h : SIn w v s) (hn : s.length ≤ 8) : Calls Try.prog 15 #[v] w fun e w' => Upd [] w w' ∧ ∃ v', e = .returned v' ∧ SIn w' v' s := by
  obtain ⟨sa, sc, rs, rfl, h1, rfl⟩ := h
  have hl : (rs.map (·.x)).length = rs.length := by simp
  rw [hl]
  refine (rback_c sc h1 (by simp at hn; omega)).mono fun e w' he => ?_
  obtain ⟨hu, va, vc, e1, h2⟩ := he
  exact ⟨hu, _, e1, va, vc, rs, by rw [hl], h2, rfl⟩
theorem r_same {w : World} {v u : Value} {s : List IT} (h : SIn w v s) (g : SIn w u s) (hn : s.length ≤ 8) (hr : ∀ x ∈ s, x.row.length ≤ 64) : Calls Try.prog 14 #[v, u] w fun e w' => Upd [] w w' ∧ e = .returned (.bool true) := by
  obtain ⟨sa, sc, rs, rfl, h1, rfl⟩ := h
  obtain ⟨ta, tc, rt, rfl, g1, g2⟩ := g
  have hl : (rs.map (·.x)).length = rs.length := by simp
  have hl2 : rs.length = rt.length := by have := congrArg List.length g2; simpa using this.symm
  have := rsame_c sc tc h1 g1 g2.symm (by simp at hn; omega) (fun r hr' => hr _ (List.mem_map_of_mem hr'))
  rw [hl]
  rw [← hl2] at this
  exact this
section
variable {w : World} {oa ca : Option Addr} {l : List OBJ} {cs : List CL}
theorem p_start (oc : Nat) (h : Els w oa 10 (l.map OBJ.cells)) (hn : l.length ≤ 8) : Calls Try.prog 8 #[.slice oa l.length oc] w fun e w' => Upd [] w w' ∧ ∃ v', e = .returned v' ∧ SIn w' v' (l.map itemP) := by
  refine (start_c oc h (by omega)).mono fun e w' he => ?_
  obtain ⟨hu, sa, sc, e1, h2⟩ := he
  exact ⟨hu, _, e1, sa, sc, _, by simp, h2, by simp [IL.new]⟩
theorem r_start (oc : Nat) (h : Els w oa 10 (l.map OBJ.cells)) (hn : l.length ≤ 8) : Calls Try.prog 9 #[.slice oa l.length oc] w fun e w' => Upd [] w w' ∧ ∃ v', e = .returned v' ∧ SIn w' v' (l.map itemP) := by
  refine (rstart_c oc h (by omega)).mono fun e w' he => ?_
  obtain ⟨hu, sa, sc, e1, h2⟩ := he
  exact ⟨hu, _, e1, sa, sc, _, by simp, h2, by simp [IL.new]⟩
end
end Go.Proofs.Ytdbgnnkbcebpcaa
namespace Go.Proofs.Ytdbgnnkbcebpcaa
open Go.RowKit
section
variable {W : World} {oa ca : Option Addr} {l : List OBJ} {cs : List CL}
set_option maxRecDepth 100000 in
set_option maxHeartbeats 4000000 in
theorem sa_heavy (on oc cn cc : Nat) (ck co c0 c1 c2 c3 cq f a b c d : Int) (h : 8 < on ∨ 60 < cn) :
    Calls Try.prog 3 #[.slice oa on oc, .slice ca cn cc, .agg #[.int .i64 ck, .int .i64 co, .int .u32 c0, .int .u32 c1, .int .u32 c2, .int .u32 c3, .int .u32 cq], .agg #[.int .i64 f, .int .u32 a, .int .u32 b, .int .u32 c, .int .u32 d]] W fun e w' => e = .returned (.bool true) ∧ Upd [] W w' := by
  have HA := Lib.hid (fun w => alive19 w)
  by_cases h1 : 8 < on
  · have q1 : decide ((8 : Int) < (on : Int)) = true := by simp; omega
    clear h h1
    go_enter Try.func3, Try.ntmps3
    go_wp2_with (go_at_call 7; (with_reducible refine (HA.out _).mono ?_); rintro e w1 ⟨rfl, hu⟩; obtain ⟨p1, rfl⟩ := hu.grown; clear hu)
    go_ret
    exact ⟨rfl, ((Upd.refl [] W).alloc _ |>.alloc _).grE _⟩
  · have q1 : decide ((8 : Int) < (on : Int)) = false := by simp; omega
    have q2 : decide ((60 : Int) < (cn : Int)) = true := by simp; omega
    clear h h1
    go_enter Try.func3, Try.ntmps3
    go_wp2_with (go_at_call 7; (with_reducible refine (HA.out _).mono ?_); rintro e w1 ⟨rfl, hu⟩; obtain ⟨p1, rfl⟩ := hu.grown; clear hu)
    go_ret
    exact ⟨rfl, ((Upd.refl [] W).alloc _ |>.alloc _).grE _⟩
set_option maxRecDepth 100000 in
set_option maxHeartbeats 8000000 in
theorem sa_c (oc cc : Nat) (ho : Els W oa 10 (l.map OBJ.cells)) (hc : Els W ca 7 (cs.map CL.cells)) (hl : l.length ≤ 8) (hn : cs.length ≤ 60) (hlw : ∀ o ∈ l, 0 ≤ o.i0 ∧ o.i0 ≤ 4294967295) (hcw : ∀ c ∈ cs, WordA c.v)
    (ck co c0 c1 c2 c3 cq f a b c d : Int) (hw : 0 ≤ c0 ∧ c0 ≤ 4294967295) :
    Calls Try.prog 3 #[.slice oa l.length oc, .slice ca cs.length cc, .agg #[.int .i64 ck, .int .i64 co, .int .u32 c0, .int .u32 c1, .int .u32 c2, .int .u32 c3, .int .u32 cq], .agg #[.int .i64 f, .int .u32 a, .int .u32 b, .int .u32 c, .int .u32 d]] W fun e w' => e = .returned (.bool true) ∧ Upd [] W w' := by
  have HOE := Lib.hid (fun (w1 : World) (hu : Upd [] W w1) => p_start oc (ho.upd hu (by simp)) hl)
  have HRE := Lib.hid (fun (w1 : World) (hu : Upd [] W w1) => r_start oc (ho.upd hu (by simp)) hl)
  have HCE := Lib.hid hc
  have HCW := Lib.hid hcw
  have HL := Lib.hid hl
  have HN := Lib.hid hn
  have HB0 := Lib.hid (show ((W.alloc (.cells #[.int .i64 ck, .int .i64 co, .int .u32 c0, .int .u32 c1, .int .u32 c2, .int .u32 c3, .int .u32 cq] 28)).alloc (.cells #[.int .i64 f, .int .u32 a, .int .u32 b, .int .u32 c, .int .u32 d] 31)).heap[W.heap.size]? = some (.cells #[.int .i64 ck, .int .i64 co, .int .u32 c0, .int .u32 c1, .int .u32 c2, .int .u32 c3, .int .u32 cq] 28) from heap_alloc' (heap_alloc_new W _))
  have HB1 := Lib.hid (show ((W.alloc (.cells #[.int .i64 ck, .int .i64 co, .int .u32 c0, .int .u32 c1, .int .u32 c2, .int .u32 c3, .int .u32 cq] 28)).alloc (.cells #[.int .i64 f, .int .u32 a, .int .u32 b, .int .u32 c, .int .u32 d] 31)).heap[W.heap.size + 1]? = some (.cells #[.int .i64 f, .int .u32 a, .int .u32 b, .int .u32 c, .int .u32 d] 31) from heap_alloc_at _ (by simp))
  have hi0 : ∀ x ∈ l.map itemP, x.row.length ≤ 64 := fun x hx => by
    obtain ⟨o, -, rfl⟩ := List.mem_map.1 hx
    simp [itemP]
  have hi1 : ∀ x ∈ l.map itemP, IOk x := fun x hx => by
    obtain ⟨o, ho, rfl⟩ := List.mem_map.1 hx
    exact itemP_ok o (hlw o ho)
  have HI := Lib.hid (fun (j : Nat) => sts_inv (cs.take j) (l.map itemP) hi0 hi1 (fun c hc => hcw c (List.mem_of_mem_take hc)))
  have hls : ∀ j, (sts (l.map itemP) (cs.take j)).length ≤ 8 := fun j => by rw [(HI.out j).1]; simpa using hl
  have HLS := Lib.hid hls
  have HW := Lib.hid hw
  have q1 : decide ((8 : Int) < (l.length : Int)) = false := by simp; omega
  have q2 : decide ((60 : Int) < (cs.length : Int)) = false := by simp; omega
  have HA := Lib.hid (fun w => alive19 w)
  clear ho hc hl hn hlw hcw hi0 hi1 hls hw
  go_enter Try.func3, Try.ntmps3
  go_wp2_with fail
  refine (HOE.out _ (((Upd.refl [] W).alloc _).alloc _)).mono ?_
  rintro e w1 ⟨hu1, s1, rfl, hs1⟩
  have HU1 := Lib.hid hu1
  have HS1 := Lib.hid hs1
  clear hu1 hs1
  go_wp2_with fail
  refine (HRE.out _ ((((Upd.refl [] W).alloc _).alloc _).trans HU1.out)).mono ?_
  rintro e w2 ⟨hu2, x1, rfl, hx1⟩
  have HU2 := Lib.hid (HU1.out.trans hu2)
  have HS2 := Lib.hid (HS1.out.upd hu2)
  have HX2 := Lib.hid hx1
  clear hu2 hx1
  go_wp2_with fail
  go_loopg [9, 10, 11] cs.length (fun n s9 s10 s11 wr => ∃ (j : Nat), n + j = cs.length ∧ s11 = .int .i64 j ∧ SIn wr s9 (sts (l.map itemP) (cs.take j)) ∧ SIn wr s10 (sts (l.map itemP) (cs.take j)) ∧ Upd [] ((W.alloc (.cells #[.int .i64 ck, .int .i64 co, .int .u32 c0, .int .u32 c1, .int .u32 c2, .int .u32 c3, .int .u32 cq] 28)).alloc (.cells #[.int .i64 f, .int .u32 a, .int .u32 b, .int .u32 c, .int .u32 d] 31)) wr)
  case atStart => exact ⟨0, by omega, rfl, HS2.out, HX2.out, HU2.out⟩
  case round =>
    obtain ⟨j, hj, rfl, hs, hx, hu⟩ := hrel
    have HJ := Lib.hid hj
    have HS := Lib.hid hs
    have HX := Lib.hid hx
    have HU := Lib.hid hu
    clear hs hx hu
    by_cases hlt : j < cs.length
    · obtain ⟨cb, co', rfl, hb, hcc⟩ := els_at HCE.out hlt
      have HLT := Lib.hid hlt
      have htk := sts_take (l.map itemP) cs hlt
      have hcw := HCW.out cs[j] (List.getElem_mem hlt)
      have hn0 := HN.out
      have b1 : (0 : Int) ≤ (j : Int) := by omega
      have b2 : (j : Int) < (cs.length : Int) := by omega
      have HWJ := Lib.hid (show wrap64 ((j : Int) + 1) = ((j + 1 : Nat) : Int) from wrap_next (by omega) hlt)
      have hbr : cb < wr.heap.size := Nat.lt_of_lt_of_le hb (((Upd.refl [] W).alloc _ |>.alloc _).trans HU.out).size
      have hcell := fun m v hm => ((((Upd.refl [] W).alloc _ |>.alloc _).trans HU.out).cell (p := ⟨cb, co' + j * 7 + m, none⟩) hb (by simp)).trans (hcc m v hm)
      generalize hz : cs[j] = z at *
      obtain ⟨k, o, ⟨z0, z1, z2, z3⟩, n⟩ := z
      have g0 := hcell 0 _ rfl
      have g1 := hcell 1 _ rfl
      have g2 := hcell 2 _ rfl
      have g3 := hcell 3 _ rfl
      have g4 := hcell 4 _ rfl
      have g5 := hcell 5 _ rfl
      have g6 := hcell 6 _ rfl
      rw [Nat.add_zero] at g0
      have HTK := Lib.hid htk
      have HP := Lib.hid (fun (w : World) v (h : SIn w v (sts (l.map itemP) (cs.take j))) => p_do h (HLS.out j) (HI.out j).2.1 k o n ⟨z0, z1, z2, z3⟩)
      have HR := Lib.hid (fun (w : World) v (h : SIn w v (sts (l.map itemP) (cs.take j))) => r_do h (HLS.out j) (HI.out j).2.1 (HI.out j).2.2 k o n ⟨z0, z1, z2, z3⟩ hcw)
      unfold caV at HP HR
      clear hz hcell hcc hlt hj htk hcw hn0 hb
      go_wp2_with fail
      refine (HP.out _ _ HS.out).mono ?_
      rintro e w3 ⟨hu3, s3, rfl, hs3⟩
      obtain ⟨p3, rfl⟩ := hu3.grown
      have HS3 := Lib.hid hs3
      have HX3 := Lib.hid (HX.out.upd hu3)
      have HU3 := Lib.hid (HU.out.trans hu3)
      clear hs3 hu3
      go_wp2_with fail
      refine (HR.out _ _ HX3.out).mono ?_
      rintro e w4 ⟨hu4, x4, rfl, hx4⟩
      have HS4 := Lib.hid (HS3.out.upd hu4)
      have HX4 := Lib.hid hx4
      have HU4 := Lib.hid (HU3.out.trans hu4)
      clear hx4 hu4
      go_wp2
      go_roundg (cs.length - (j + 1))
      case rel => exact ⟨j + 1, by have := HLT.out; omega, by first | (rw [HWJ.out]; done) | (simp; done), by rw [HTK.out]; exact HS4.out, by rw [HTK.out]; exact HX4.out, HU4.out⟩
      case measure => have := HLT.out; have := HJ.out; omega
    · obtain rfl : j = cs.length := by omega
      clear hj hlt
      have hb0 := HU.out.keepb HB0.out (by simp)
      have hb1 := HU.out.keepb HB1.out (by simp)
      have e1 := cells7s hb0
      have e2 := cells5 hb1
      obtain ⟨k0, k1, k2, k3, k4, k5, k6⟩ := e1
      obtain ⟨r0, r1, r2, r3, r4⟩ := e2
      have hlb0 := heap_lt hb0
      have hlb1 := heap_lt hb1
      have hI := HI.out cs.length
      have hLS := HLS.out cs.length
      generalize sts (l.map itemP) (cs.take cs.length) = s at *
      have HPD := Lib.hid (fun (w : World) v (h : SIn w v s) => p_do h hLS hI.2.1 ck co cq ⟨c0, c1, c2, c3⟩)
      have HPA := Lib.hid (fun (w : World) v (h : SIn w v s) => p_allows h hLS hI.2.1 ck co cq ⟨c0, c1, c2, c3⟩ (f, ⟨a, b, c, d⟩))
      have HRA := Lib.hid (fun (w : World) v (h : SIn w v s) => r_allows h hLS hI.2.1 hI.2.2 ck co cq ⟨c0, c1, c2, c3⟩ HW.out (f, ⟨a, b, c, d⟩))
      have HPO := Lib.hid (fun (w : World) v (h : SIn w v s) => p_allows h hLS hI.2.1 ck co cq ⟨c0, c1, c2, c3⟩ (doR s ck co ⟨c0, c1, c2, c3⟩).2)
      have hown := allowsR_own s ck co ⟨c0, c1, c2, c3⟩
      rw [hown] at HPO
      have HAR := Lib.hid (allowsR_rows s ck co ⟨c0, c1, c2, c3⟩ (f, ⟨a, b, c, d⟩) hI.2.1)
      have HAL := Lib.hid (show (allowsR s ck co ⟨c0, c1, c2, c3⟩ (f, ⟨a, b, c, d⟩)).1.length ≤ 8 by rw [allowsR_len]; exact hLS)
      unfold caV resV resA at HPD HPA HRA HPO
      clear hI hLS hown
      generalize doR s ck co ⟨c0, c1, c2, c3⟩ = dd at HPD HPO
      obtain ⟨s', ⟨df, ⟨d0, d1, d2, d3⟩⟩⟩ := dd
      generalize allowsR s ck co ⟨c0, c1, c2, c3⟩ (f, ⟨a, b, c, d⟩) = ar at HPA HRA HAR HAL
      obtain ⟨sr, bb⟩ := ar
      simp only at HPD HPA HRA HPO HAR HAL
      have HRB := Lib.hid (fun (w : World) v (h : SIn w v sr) => r_back h HAL.out)
      have HSM := Lib.hid (fun (w : World) v u (h : SIn w v sr) (g : SIn w u sr) => r_same h g HAL.out HAR.out)
      have qb : ∀ w, (binOp .eql 4 (.bool bb) (.bool bb)).run Try.prog w = .ok (.bool true) w := fun w => by cases bb <;> kernel_rfl
      go_wp2_with fail
      refine (HPA.out _ _ HS.out).mono ?_
      rintro e w5 ⟨hu5, t, rfl, ht⟩
      have HT5 := Lib.hid ht
      have HS5 := Lib.hid (HS.out.upd hu5)
      have HX5 := Lib.hid (HX.out.upd hu5)
      have HU5 := Lib.hid (HU.out.trans hu5)
      clear k0 k1 k2 k3 k4 k5 k6 r0 r1 r2 r3 r4 hlb0 hlb1
      have hb0 := hu5.keepb hb0 (by simp)
      have hb1 := hu5.keepb hb1 (by simp)
      have e1 := cells7s hb0
      have e2 := cells5 hb1
      obtain ⟨k0, k1, k2, k3, k4, k5, k6⟩ := e1
      obtain ⟨r0, r1, r2, r3, r4⟩ := e2
      have hlb0 := heap_lt hb0
      have hlb1 := heap_lt hb1
      clear ht hu5
      go_wp2_with fail
      refine (HRA.out _ _ HX5.out).mono ?_
      rintro e w6 ⟨hu6, y, rfl, hy⟩
      have HT6 := Lib.hid (HT5.out.upd hu6)
      have HY6 := Lib.hid hy
      have HS6 := Lib.hid (HS5.out.upd hu6)
      have HU6 := Lib.hid (HU5.out.trans hu6)
      clear k0 k1 k2 k3 k4 k5 k6 r0 r1 r2 r3 r4 hlb0 hlb1
      have hb0 := hu6.keepb hb0 (by simp)
      have hb1 := hu6.keepb hb1 (by simp)
      have e1 := cells7s hb0
      have e2 := cells5 hb1
      obtain ⟨k0, k1, k2, k3, k4, k5, k6⟩ := e1
      obtain ⟨r0, r1, r2, r3, r4⟩ := e2
      have hlb0 := heap_lt hb0
      have hlb1 := heap_lt hb1
      clear hy hu6
      go_wp2_with fail
      refine (HPD.out _ _ HS6.out).mono ?_
      rintro e w7 ⟨hu7, v7, rfl, -⟩
      obtain ⟨p7, rfl⟩ := hu7.grown
      clear hu7
      go_wp2_with fail
      refine (HPO.out _ _ (HS6.out.upd (by repeat (first | (with_reducible exact Upd.refl _ _) | (with_reducible apply Upd.drew) | (with_reducible refine Upd.grE ?_ _) | (with_reducible refine Upd.alloc ?_ _) | (with_reducible refine Upd.setB ?_ (.inr (by first | (simp; done) | (simp; omega)))))))).mono ?_
      rintro e w8 ⟨hu8, v8, rfl, -⟩
      obtain ⟨p8, rfl⟩ := hu8.grown
      clear hu8
      go_wp2_with fail
      refine (HRB.out _ _ (HT6.out.upd (by repeat (first | (with_reducible exact Upd.refl _ _) | (with_reducible apply Upd.drew) | (with_reducible refine Upd.grE ?_ _) | (with_reducible refine Upd.alloc ?_ _) | (with_reducible refine Upd.setB ?_ (.inr (by first | (simp; done) | (simp; omega)))))))).mono ?_
      rintro e w9 ⟨hu9, v9, rfl, hv9⟩
      have HU9 := Lib.hid (show Upd [] w6 w9 from Upd.trans (by repeat (first | (with_reducible exact Upd.refl _ _) | (with_reducible apply Upd.drew) | (with_reducible refine Upd.grE ?_ _) | (with_reducible refine Upd.alloc ?_ _) | (with_reducible refine Upd.setB ?_ (.inr (by first | (simp; done) | (simp; omega)))))) hu9)
      have HV9 := Lib.hid hv9
      have HY9 := Lib.hid (HY6.out.upd HU9.out)
      clear hu9 hv9
      go_wp2_with fail
      refine (HSM.out _ _ _ HV9.out HY9.out).mono ?_
      rintro e w10 ⟨hu10, rfl⟩
      have HU10 := Lib.hid (HU9.out.trans hu10)
      clear hu10
      go_wp2_with fail
      refine (HA.out _).mono ?_
      rintro e w11 ⟨rfl, hu11⟩
      have HU11 := Lib.hid (HU10.out.trans hu11)
      clear hu11
      go_wp2
      go_ret
      exact ⟨rfl, (((Upd.refl [] W).alloc _ |>.alloc _).trans HU6.out).trans HU11.out⟩
end
set_option maxRecDepth 100000 in
theorem specAllows_walk (W : World) (v0 v1 v2 v3 : Value) (h0 : Sh.okV W (.slice (.st (.cons (.int .i64) (.cons (.int .i64) (.cons (.int .i64) (.cons (.int .i64) (.cons (.int .i64) (.cons (.int .i64) (.cons (.ar 4 (.int .u32)) (.nil)))))))))) v0) (h1 : Sh.okV W (.slice (.st (.cons (.int .i64) (.cons (.int .i64) (.cons (.ar 4 (.int .u32)) (.cons (.int .u32) (.nil))))))) v1) (h2 : Sh.okV W (.st (.cons (.int .i64) (.cons (.int .i64) (.cons (.ar 4 (.int .u32)) (.cons (.int .u32) (.nil)))))) v2) (h3 : Sh.okV W (.st (.cons (.int .i64) (.cons (.ar 4 (.int .u32)) (.nil)))) v3) :
    Calls Try.prog 3 #[v0, v1, v2, v3] W fun e w' => e = .returned (.bool true) ∧ Upd [] W w' := by
  obtain ⟨oa, oc, l, rfl, -, -, ho⟩ := slice_els (fun o : {o : OBJ // 0 ≤ o.i0 ∧ o.i0 ≤ 4294967295} => o.1.cells) (fun cs h => dec_objW h) h0
  obtain ⟨ca, cc, cs, rfl, -, -, hc⟩ := slice_els (fun c : {c : CL // WordA c.v} => c.1.cells) (fun cs h => dec_callW h) h1
  obtain ⟨m2, rfl, h2⟩ := h2
  obtain ⟨⟨⟨ck, co, ⟨c0, c1, c2, c3⟩, cq⟩, hw⟩, hm⟩ := dec_callW h2
  obtain rfl : m2 = #[.int .i64 ck, .int .i64 co, .int .u32 c0, .int .u32 c1, .int .u32 c2, .int .u32 c3, .int .u32 cq] := Array.ext' hm
  obtain ⟨m3, rfl, h3⟩ := h3
  obtain ⟨x0, y0, hm3, ⟨f, rfl, -⟩, x1, y1, rfl, hv, rfl⟩ := h3
  obtain ⟨⟨a, b, c, d⟩, rfl, -⟩ := dec4W hv
  obtain rfl : m3 = #[.int .i64 f, .int .u32 a, .int .u32 b, .int .u32 c, .int .u32 d] := Array.ext' (by rw [hm3]; rfl)
  by_cases h : 8 < l.length ∨ 60 < cs.length
  · exact sa_heavy _ _ _ _ _ _ _ _ _ _ _ _ _ _ _ _ h
  · have e1 : (l.map (·.1)).length = l.length := by simp
    have e2 : (cs.map (·.1)).length = cs.length := by simp
    have := sa_c (W := W) (oa := oa) (ca := ca) (l := l.map (·.1)) (cs := cs.map (·.1)) oc cc (by rw [List.map_map]; exact ho) (by rw [List.map_map]; exact hc) (by omega) (by omega) (fun o ho => by
      obtain ⟨z, -, rfl⟩ := List.mem_map.1 ho
      exact z.2) (fun c hc => by
      obtain ⟨z, -, rfl⟩ := List.mem_map.1 hc
      exact z.2) ck co c0 c1 c2 c3 cq f a b c d hw
    rw [e1, e2] at this
    exact this
end Go.Proofs.Ytdbgnnkbcebpcaa
