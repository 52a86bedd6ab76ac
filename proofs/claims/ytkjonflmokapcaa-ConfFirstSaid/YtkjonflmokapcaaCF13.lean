/- The law ConfChecks. -/
import Derived.Test.YtkjonflmokapcaaCF12
import Derived.Lib.QuietBelow
set_option linter.unusedVariables false
set_option linter.unusedSimpArgs false
namespace Go.Proofs.Ytkjonflmokapcaa
open Go.RowKit

section
variable {ta la oa : Option Addr} (tc lc oc : Nat) {c : CF} {w : World}
set_option maxRecDepth 100000 in
set_option maxHeartbeats 4000000 in
theorem checks_light (h : CFR w ta la oa c) (hl : c.light) (ctx : Int) : Calls Try.prog 6 #[.agg (cfA ta c.ts.length tc la c.ls.length lc oa c.os.length oc c.tk), .int .i64 ctx] w fun e w' => e = .returned (.bool true) ∧ Upd [] w w' := by
  have HLT := Lib.hid (light_few tc lc oc (h.upd ((Upd.refl [] w).alloc (.cells (cfA ta c.ts.length tc la c.ls.length lc oa c.os.length oc c.tk) 77))) hl.1)
  have HLI := Lib.hid hl
  have HC := Lib.hid h
  have b1 := h.tn
  have b2 := h.ln
  have hb0 := heap_alloc_new w (.cells (cfA ta c.ts.length tc la c.ls.length lc oa c.os.length oc c.tk) 77)
  have HB0 := Lib.hid hb0
  clear h hl hb0
  unfold cfA at *
  go_enter Try.func6, Try.ntmps6
  go_wp2_with fail
  refine HLT.out.mono ?_
  rintro e w1 ⟨b, rfl, hbl, hu1⟩
  obtain rfl : b = true := hbl.2 HLI.out
  have hb1 := hu1.keepb HB0.out (by simp)
  have HU1 := Lib.hid (((Upd.refl [] w).alloc _).trans hu1)
  obtain ⟨k0, k1, k2, k3⟩ := cells4 hb1
  have r0 := cell_regrown k0
  have r1 := cell_regrown k1
  have r2 := cell_regrown k2
  have r3 := cell_regrown k3
  have HC1 := Lib.hid (fun d os => reads_call (w := w1) (d := d) (os := os) (fun w2 hu2 => check_c tc lc oc (HC.out.upd (HU1.out.trans hu2))))
  have HC2 := Lib.hid (fun d os => reads_call (w := w1) (d := d) (os := os) (fun w2 hu2 => check_r tc lc oc (HC.out.upd (HU1.out.trans hu2))))
  have HC3 := Lib.hid (fun d os => reads_call (w := w1) (d := d) (os := os) (fun w2 hu2 => has_c ta la oa c.ts.length tc c.ls.length lc c.os.length oc c.tk w2 ctx b1 b2))
  have HC4 := Lib.hid (fun d os => reads_call (w := w1) (d := d) (os := os) (fun w2 hu2 => has_r ta la oa c.ts.length tc c.ls.length lc c.os.length oc c.tk w2 ctx b1 b2))
  have HC5 := Lib.hid (fun d os => reads_call (w := w1) (d := d) (os := os) (fun w2 hu2 => size_c ta la oa c.ts.length tc c.ls.length lc c.os.length oc c.tk w2 b1 b2))
  have HC6 := Lib.hid (fun d os => reads_call (w := w1) (d := d) (os := os) (fun w2 _ => alive29 w2))
  obtain ⟨x, y, z, hxyz⟩ : ∃ x y z : Int, badV c.bad = .agg #[.int .i64 x, .int .i64 y, .int .i64 z] := ⟨_, _, _, rfl⟩
  rw [hxyz] at HC1 HC2
  have qe : ∀ w, (binOp .eql 84 (.agg #[.int .i64 x, .int .i64 y, .int .i64 z]) (.agg #[.int .i64 x, .int .i64 y, .int .i64 z])).run Try.prog w = .ok (.bool true) w := fun w => by rw [eq_bad]; simp
  clear hxyz
  have hwr : IntKind.i64.wrap ((c.ts.length : Int) + c.ls.length) = (c.ts.length : Int) + c.ls.length := by rw [IntKind.wrap_i64]; omega
  have qb : ∀ w, (binOp .eql 4 (.bool (hasB c.ts.length c.ls.length ctx)) (.bool (hasB c.ts.length c.ls.length ctx))).run Try.prog w = .ok (.bool true) w := fun w => by cases hasB c.ts.length c.ls.length ctx <;> kernel_rfl
  clear hb1 hu1 k0 k1 k2 k3 hbl
  unfold cfA at *
  go_wp2_with fail
  refine wp_region_reads (by kernel_rfl) (by kernel_rfl) ?_
  repeat (quiet_step (first | (with_reducible exact HC1.out _ _) | (with_reducible exact HC2.out _ _) | (with_reducible exact HC3.out _ _) | (with_reducible exact HC4.out _ _) | (with_reducible exact HC5.out _ _) | (with_reducible exact HC6.out _ _)))
  refine wpQuiet_nil ?_
  intro w6 hu6
  go_wp2
  go_ret
  exact ⟨rfl, HU1.out.trans hu6⟩
set_option maxRecDepth 100000 in
set_option maxHeartbeats 1000000 in
theorem checks_not (tn ln on : Nat) (tk : Int) (hL : Calls Try.prog 33 #[.agg (cfA ta tn tc la ln lc oa on oc tk)] (w.alloc (.cells (cfA ta tn tc la ln lc oa on oc tk) 77)) fun e w' => e = .returned (.bool false) ∧ Upd [] (w.alloc (.cells (cfA ta tn tc la ln lc oa on oc tk) 77)) w') (ctx : Int) : Calls Try.prog 6 #[.agg (cfA ta tn tc la ln lc oa on oc tk), .int .i64 ctx] w fun e w' => e = .returned (.bool true) ∧ Upd [] w w' := by
  have HLT := Lib.hid hL
  clear hL
  unfold cfA at *
  go_enter Try.func6, Try.ntmps6
  go_wp2_with fail
  refine HLT.out.mono ?_
  rintro e w1 ⟨rfl, hu1⟩
  have HU1 := Lib.hid (((Upd.refl [] w).alloc _).trans hu1)
  clear hu1
  go_wp2_with fail
  refine (alive29 _).mono ?_
  rintro e w2 ⟨rfl, hu2⟩
  go_wp2
  go_ret
  exact ⟨rfl, HU1.out.trans hu2⟩
theorem checks_any (h : CFR0 w ta la oa c) (ctx : Int) : Calls Try.prog 6 #[.agg (cfA ta c.ts.length tc la c.ls.length lc oa c.os.length oc c.tk), .int .i64 ctx] w fun e w' => e = .returned (.bool true) ∧ Upd [] w w' := by
  by_cases hf : c.few
  · have hr := h.of (by have := hf.1; omega) (by have := hf.2.1; omega) (by have := hf.2.2; omega)
    by_cases hl : c.light
    · exact checks_light tc lc oc hr hl ctx
    · refine checks_not tc lc oc _ _ _ _ ((light_few tc lc oc (hr.upd ((Upd.refl [] w).alloc _)) hf).mono ?_) ctx
      rintro e w' ⟨b, rfl, hb, hu⟩
      refine ⟨?_, hu⟩
      cases b with
      | false => rfl
      | true => exact absurd (hb.1 rfl) hl
  · have h1 := h.tn
    have h2 := h.ln
    have h3 := h.on
    unfold maxLen at h1 h2 h3
    exact checks_not tc lc oc _ _ _ _ (light_many tc lc oc _ _ _ _ (by omega) (by omega) (by omega) hf) ctx
end
theorem arr4 {w : World} {cs : List Value} (h : (Sh.ar 4 (.int .u32)).ok w cs) : ∃ a b c d : Int, cs = [.int .u32 a, .int .u32 b, .int .u32 c, .int .u32 d] := by
  obtain ⟨_, _, rfl, ⟨a, rfl, _⟩, _, _, rfl, ⟨b, rfl, _⟩, _, _, rfl, ⟨c, rfl, _⟩, _, _, rfl, ⟨d, rfl, _⟩, rfl⟩ := h
  exact ⟨a, b, c, d, rfl⟩
/-- A slice whose elements are read by f. -/
theorem els_of {w : World} {e : Sh} {v : Value} {α : Type} (f : α → List Value) (P : α → Prop) (hp : ∀ cs, e.ok w cs → ∃ x, cs = f x ∧ P x) (h : (Sh.slice e).ok w [v]) : ∃ (a : Option Addr) (cap : Nat) (xs : List α), v = .slice a xs.length cap ∧ xs.length ≤ maxLen ∧ Els w a e.size (xs.map f) ∧ (∀ x ∈ xs, P x) ∧ xs.length ≤ cap ∧ cap ≤ maxLen ∧ (a = none → cap = 0) := by
  obtain ⟨a, len, cap, hv, hlc, hcm, g, hg, hm, h0⟩ := h
  obtain rfl : v = .slice a len cap := by simpa using hv
  obtain ⟨xs, hl, hx⟩ := list_of len (fun i x => g i = f x ∧ P x) (fun i hi => hp _ (hg i hi).1)
  subst hl
  refine ⟨a, cap, xs, rfl, by omega, fun hpos => ?_, fun x hx' => ?_, hlc, hcm, h0⟩
  · obtain ⟨b, off, e1, hb, hc⟩ := hm (by simpa using hpos)
    refine ⟨b, off, e1, hb, fun i hi j v hj => ?_⟩
    have hi' : i < xs.length := by simpa using hi
    refine hc i hi' j v ?_
    rw [(hx i hi').1]
    simpa using hj
  · obtain ⟨i, hi, rfl⟩ := List.getElem_of_mem hx'
    exact (hx i hi).2
def Sh.call : Sh := .st (.cons (.int .i64) (.cons (.int .i64) (.cons (.ar 4 (.int .u32)) (.cons (.int .u32) (.nil)))))
def Sh.conf : Sh := .st (.cons (.slice (.st (.cons (.int .i64) (.cons (.bool) (.cons (.slice Sh.call) (.nil)))))) (.cons (.slice (.st (.cons (.int .i64) (.cons (.slice Sh.call) (.nil))))) (.cons (.slice (.st (.cons (.int .i64) (.cons (.int .i64) (.cons (.int .i64) (.cons (.int .i64) (.cons (.int .i64) (.cons (.int .i64) (.cons (.ar 4 (.int .u32)) (.nil)))))))))) (.cons (.int .i64) (.nil)))))
theorem slice_len {w : World} {e : Sh} {cs : List Value} (h : (Sh.slice e).ok w cs) : ∃ a n c, cs = [.slice a n c] ∧ n ≤ maxLen := by
  obtain ⟨a, len, cap, hv, hlc, hcm, _⟩ := h
  exact ⟨a, len, cap, hv, by omega⟩
theorem cfg_okV {W : World} {v : Value} (h : Sh.okV W Sh.conf v) : ∃ (ta la oa : Option Addr) (tc lc oc : Nat) (c : CF), v = .agg (cfA ta c.ts.length tc la c.ls.length lc oa c.os.length oc c.tk) ∧ CFR0 W ta la oa c ∧ c.os.length ≤ oc ∧ oc ≤ maxLen := by
  obtain ⟨cs, rfl, h⟩ := h
  obtain ⟨x1, _, e1, h1, x2, _, rfl, h2, x3, _, rfl, h3, x4, _, rfl, ⟨tk, rfl, _⟩, rfl⟩ := h
  obtain ⟨a1, n1, c1, rfl, _⟩ := slice_len h1
  obtain ⟨a2, n2, c2, rfl, _⟩ := slice_len h2
  obtain ⟨a3, n3, c3, rfl, _⟩ := slice_len h3
  obtain ⟨ta, tc, ts, ht, htm, hte, htc, _⟩ := els_of TK.cells (fun x => x.cn ≤ maxLen) (fun cs h => by
    obtain ⟨_, _, rfl, ⟨p, rfl, _⟩, _, _, rfl, ⟨l, rfl⟩, _, _, rfl, h4, rfl⟩ := h
    obtain ⟨a, n, c, rfl, hn⟩ := slice_len h4
    exact ⟨⟨p, l, a, n, c⟩, rfl, hn⟩) h1
  obtain ⟨la, lc, ls, hl, hlm, hle, hlc, _⟩ := els_of LV.cells (fun x => x.cn ≤ maxLen) (fun cs h => by
    obtain ⟨_, _, rfl, ⟨p, rfl, _⟩, _, _, rfl, h4, rfl⟩ := h
    obtain ⟨a, n, c, rfl, hn⟩ := slice_len h4
    exact ⟨⟨p, a, n, c⟩, rfl, hn⟩) h2
  obtain ⟨oa, oc, os, ho, hom, hoe, _, hoc, hocm, _⟩ := els_of OBJ.cells (fun _ => True) (fun cs h => by
    obtain ⟨_, _, rfl, ⟨k, rfl, _⟩, _, _, rfl, ⟨cap, rfl, _⟩, _, _, rfl, ⟨wd, rfl, _⟩, _, _, rfl, ⟨rt, rfl, _⟩, _, _, rfl, ⟨f, rfl, _⟩, _, _, rfl, ⟨t, rfl, _⟩, _, _, rfl, h4, rfl⟩ := h
    obtain ⟨i0, i1, i2, i3, rfl⟩ := arr4 h4
    exact ⟨⟨k, cap, wd, rt, f, t, i0, i1, i2, i3⟩, rfl, trivial⟩) h3
  refine ⟨ta, la, oa, tc, lc, oc, ⟨ts, ls, os, tk⟩, ?_, ⟨hte, hle, hoe, htm, hlm, hom, htc, hlc⟩, hoc, hocm⟩
  rw [← Array.toArray_toList (xs := cs), e1]
  unfold cfA
  simp only [List.cons_append, List.nil_append]
  rw [ht, hl, ho]
theorem int_okV1 {W : World} {k : IntKind} {v : Value} (h : Sh.okV W (.int k) v) : ∃ n, v = .int k n ∧ (Lit.int k n).wf = true := by
  obtain ⟨n, hn, hw⟩ := h
  exact ⟨n, by simpa using hn, hw⟩
theorem confChecks_walk (W : World) (v0 v1 : Value) (h0 : Sh.okV W (.st (.cons (.slice (.st (.cons (.int .i64) (.cons (.bool) (.cons (.slice (.st (.cons (.int .i64) (.cons (.int .i64) (.cons (.ar 4 (.int .u32)) (.cons (.int .u32) (.nil))))))) (.nil)))))) (.cons (.slice (.st (.cons (.int .i64) (.cons (.slice (.st (.cons (.int .i64) (.cons (.int .i64) (.cons (.ar 4 (.int .u32)) (.cons (.int .u32) (.nil))))))) (.nil))))) (.cons (.slice (.st (.cons (.int .i64) (.cons (.int .i64) (.cons (.int .i64) (.cons (.int .i64) (.cons (.int .i64) (.cons (.int .i64) (.cons (.ar 4 (.int .u32)) (.nil)))))))))) (.cons (.int .i64) (.nil)))))) v0) (h1 : Sh.okV W (.int .i64) v1) :
    Calls Try.prog 6 #[v0, v1] W fun e w' => e = .returned (.bool true) ∧ Upd [] W w' := by
  obtain ⟨ta, la, oa, tc, lc, oc, c, rfl, hc, _⟩ := cfg_okV h0
  obtain ⟨ctx, rfl, _⟩ := int_okV1 h1
  exact checks_any tc lc oc hc ctx
end Go.Proofs.Ytkjonflmokapcaa
