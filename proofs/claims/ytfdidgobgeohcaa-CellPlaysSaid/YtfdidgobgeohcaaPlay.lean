/- The document's memory: Of, Do. -/
import Derived.Test.YtfdidgobgeohcaaOwn
import Derived.Test.YtfdidgobgeohcaaInts
import Derived.Test.YtfdidgobgeohcaaCell6
import Derived.Test.YtfdidgobgeohcaaBits2
set_option linter.unusedVariables false
set_option linter.unusedSimpArgs false
namespace Go.Proofs.Ytfdidgobgeohcaa
open Go.RowKit

theorem Reads.src {w : World} {a : Option Addr} {n : Nat} {vs : List Value} (h : Reads w a n vs) : 0 < n → ∃ b off, a = some ⟨b, off, none⟩ ∧ ∀ j u, vs[j]? = some u → w.cell? ⟨b, off + j, none⟩ = some u := fun h0 => by
  obtain ⟨b, off, e, _, hc⟩ := h.2 h0
  exact ⟨b, off, e, hc⟩

def OfPost (W : World) (xs : List Int) (e : Ending) (w' : World) : Prop :=
  ∃ v, e = .returned (.agg #[v, .int .i64 0, .int .i64 0]) ∧ w'.ownsRow W.heap.size 23 1 v xs.length (u32s xs) ∧ Upd [] W w'

set_option maxRecDepth 100000 in
set_option maxHeartbeats 1000000 in
theorem ref_of (a : Option Addr) (cap : Nat) (xs : List Int) (W : World) (hr : Reads W a xs.length (u32s xs)) (hc : a = none → cap = 0) (hn : xs.length ≤ 1000000) :
    Calls Try.prog 35 #[.slice a xs.length cap] W (OfPost W xs) := by
  obtain ⟨i0, hi, hz0, hz1, hz2⟩ := info_parts info_u32
  have HR := Lib.hid hr
  have HC := Lib.hid hc
  clear hr hc
  go_enter Try.func35, Try.ntmps35
  have hu0 : Upd [] W ((W.alloc (.cells #[.slice none 0 0, .int .i64 0, .int .i64 0] 63)).alloc (.cells #[] 23)) := ((Upd.refl _ _).alloc _).alloc _
  have hk0 : ((W.alloc (.cells #[.slice none 0 0, .int .i64 0, .int .i64 0] 63)).alloc (.cells #[] 23)).heap[W.heap.size]? = some (.cells #[.slice none 0 0, .int .i64 0, .int .i64 0] 63 (0, 0)) := by
    rw [heap_alloc_other _ _ (by simp)]; exact heap_alloc_new _ _
  have HK0 := Lib.hid hk0
  have hown : ((W.alloc (.cells #[.slice none 0 0, .int .i64 0, .int .i64 0] 63)).alloc (.cells #[] 23)).ownsRow (W.heap.size + 1) 23 1 (.slice (some ⟨W.heap.size + 1, 0, none⟩) 0 0) 0 [] := own_empty' (by simp) (by simp)
  have HOWN := Lib.hid hown
  have HU0 := Lib.hid hu0
  clear hk0 hown hu0
  go_wp2_with (at_builtin; refine Go.RowKit.Hid.out ?_)
  refine Lib.hid ?_
  refine wpList_append_reads rfl _ _ 22 rfl (W.heap.size + 1) 23 i0 (.int .u32 0) 1 4 Try.underlying22 hi hz0 hz1 hz2 rfl (by decide) _ 0 [] rfl HOWN.out a xs.length cap (u32s xs) rfl (by simp [u32s]) (HR.out.upd HU0.out (by simp)).src HC.out (u32s_one _) (by simp [maxLen]; omega) (by omega) (by simp) ?_
  intro v' w1 hown' hgrow; simp only [Nat.zero_add, List.nil_append] at hown'; have hu1 := own_start HU0.out HOWN.out hgrow (by omega); have HK1 := Lib.hid (grown_keep HOWN.out hgrow HK0.out (by omega)); obtain ⟨k0, k1, k2⟩ := cells3 HK1.out; have kf := fun i => frozen_of_heap HK1.out i; have HOWN1 := Lib.hid hown'; have HU1 := Lib.hid hu1; obtain ⟨va, vc, rfl, hvn, hvs⟩ := own_shape hown'; clear hown' hgrow hu1 hvn hvs
  go_wp2
  have hS : Upd [W.heap.size] w1 (((w1.setCell ⟨W.heap.size, 0, none⟩ (.slice va xs.length vc)).setCell ⟨W.heap.size, 1, none⟩ (.int .i64 0)).setCell ⟨W.heap.size, 2, none⟩ (.int .i64 0)) := (((Upd.refl _ _).setCell (by simp) _).setCell (by simp) _).setCell (by simp) _
  refine bodyPost_ret (v := .agg #[.slice va xs.length vc, .int .i64 0, .int .i64 0]) (by simp [results, Try.results35, go_sem, k0, k1, k2]) rfl ?_
  exact ⟨_, rfl, (own_upd HOWN1.out hS (fun k hk => by have := own_base HOWN1.out k hk; simp; omega)).mono (by omega), HU1.out.then hS (by simp)⟩

theorem with_fact {p q : Prop} (f : p → q) (h : p) : q := f h
def DoRPost (B : Nat) (W : World) (r : MS × Int × Bool) (e : Ending) (w' : World) : Prop :=
  ∃ v', e = .returned (.tuple #[.agg #[v', .int .i64 r.1.lo, .int .i64 r.1.st], .int .u32 r.2.1, .bool r.2.2]) ∧ w'.ownsRow B 23 1 v' r.1.xs.length (u32s r.1.xs) ∧ Upd [] W w'

/-- The world once the callee has its own copies of what it was handed. -/
def doW (W : World) (v : Value) (lo st op ai x : Int) : World :=
  (((W.alloc (.cells #[v, .int .i64 lo, .int .i64 st] 63)).alloc (.cells #[.int .i64 op, .int .i64 ai, .int .u32 x] 25)).alloc (.cells #[.slice none 0 0, .int .i64 0, .int .i64 0] 63))
theorem doW_upd (W : World) (v : Value) (lo st op ai x : Int) : Upd [] W (doW W v lo st op ai x) := (((Upd.refl _ _).alloc _).alloc _).alloc _
theorem doW_size (W : World) (v : Value) (lo st op ai x : Int) : (doW W v lo st op ai x).heap.size = W.heap.size + 3 := by simp [doW]
theorem doW_0 (W : World) (v : Value) (lo st op ai x : Int) : (doW W v lo st op ai x).heap[W.heap.size]? = some (.cells #[v, .int .i64 lo, .int .i64 st] 63 (0, 0)) := by
  unfold doW
  rw [heap_alloc_other _ _ (by simp; omega), heap_alloc_other _ _ (by simp)]
  exact heap_alloc_new _ _
theorem doW_1 (W : World) (v : Value) (lo st op ai x : Int) : (doW W v lo st op ai x).heap[W.heap.size + 1]? = some (.cells #[.int .i64 op, .int .i64 ai, .int .u32 x] 25 (0, 0)) := by
  unfold doW
  rw [heap_alloc_other _ _ (by simp)]
  have := heap_alloc_new (W.alloc (.cells #[v, .int .i64 lo, .int .i64 st] 63)) (.cells #[.int .i64 op, .int .i64 ai, .int .u32 x] 25)
  have e : (W.alloc (.cells #[v, .int .i64 lo, .int .i64 st] 63)).heap.size = W.heap.size + 1 := by simp
  rwa [e] at this
theorem doW_2 (W : World) (v : Value) (lo st op ai x : Int) : (doW W v lo st op ai x).heap[W.heap.size + 2]? = some (.cells #[.slice none 0 0, .int .i64 0, .int .i64 0] 63 (0, 0)) := by
  have := heap_alloc_new ((W.alloc (.cells #[v, .int .i64 lo, .int .i64 st] 63)).alloc (.cells #[.int .i64 op, .int .i64 ai, .int .u32 x] 25)) (.cells #[.slice none 0 0, .int .i64 0, .int .i64 0] 63)
  have e : ((W.alloc (.cells #[v, .int .i64 lo, .int .i64 st] 63)).alloc (.cells #[.int .i64 op, .int .i64 ai, .int .u32 x] 25)).heap.size = W.heap.size + 2 := by simp
  rwa [e] at this

set_option maxRecDepth 100000 in
set_option maxHeartbeats 1000000 in
theorem ref_do_none (op ai x : Int) (B : Nat) {W : World} {v : Value} {m : MS} (hown : W.ownsRow B 23 1 v m.xs.length (u32s m.xs)) (hB : B ≤ W.heap.size)
    (hx : ai < 0 ∨ (m.xs.length : Int) ≤ ai ∨ op < 1 ∨ 5 < op) :
    Calls Try.prog 36 #[.agg #[v, .int .i64 m.lo, .int .i64 m.st], .agg #[.int .i64 op, .int .i64 ai, .int .u32 x]] W (DoRPost B W (m, 0, false)) := by
  obtain ⟨va, vc, rfl, -, -⟩ := own_shape hown
  have HOWN := Lib.hid hown
  clear hown
  obtain ⟨lo, st, xs⟩ := m
  simp only at HOWN hx ⊢
  by_cases h1 : ai < 0
  · go_enter Try.func36, Try.ntmps36
    go_wp2
    refine bodyPost_ret (v := .tuple #[.agg #[.slice va xs.length vc, .int .i64 lo, .int .i64 st], .int .u32 0, .bool false]) (by simp [results, Try.results36, go_sem]) rfl ?_
    refine with_fact (p := Upd [] W _) (fun hu => ⟨_, rfl, own_upd HOWN.out hu (by simp), hu⟩) ?_
    exact (((Upd.refl [] W).alloc _).alloc _).alloc _
  by_cases h1 : (xs.length : Int) ≤ ai
  · go_enter Try.func36, Try.ntmps36
    go_wp2
    refine bodyPost_ret (v := .tuple #[.agg #[.slice va xs.length vc, .int .i64 lo, .int .i64 st], .int .u32 0, .bool false]) (by simp [results, Try.results36, go_sem]) rfl ?_
    refine with_fact (p := Upd [] W _) (fun hu => ⟨_, rfl, own_upd HOWN.out hu (by simp), hu⟩) ?_
    exact (((Upd.refl [] W).alloc _).alloc _).alloc _
  by_cases h1 : op < 1
  · go_enter Try.func36, Try.ntmps36
    go_wp2
    refine bodyPost_ret (v := .tuple #[.agg #[.slice va xs.length vc, .int .i64 lo, .int .i64 st], .int .u32 0, .bool false]) (by simp [results, Try.results36, go_sem]) rfl ?_
    refine with_fact (p := Upd [] W _) (fun hu => ⟨_, rfl, own_upd HOWN.out hu (by simp), hu⟩) ?_
    exact (((Upd.refl [] W).alloc _).alloc _).alloc _
  · have h4 : 5 < op := by omega
    go_enter Try.func36, Try.ntmps36
    go_wp2
    refine bodyPost_ret (v := .tuple #[.agg #[.slice va xs.length vc, .int .i64 lo, .int .i64 st], .int .u32 0, .bool false]) (by simp [results, Try.results36, go_sem]) rfl ?_
    refine with_fact (p := Upd [] W _) (fun hu => ⟨_, rfl, own_upd HOWN.out hu (by simp), hu⟩) ?_
    exact (((Upd.refl [] W).alloc _).alloc _).alloc _

end Go.Proofs.Ytfdidgobgeohcaa
