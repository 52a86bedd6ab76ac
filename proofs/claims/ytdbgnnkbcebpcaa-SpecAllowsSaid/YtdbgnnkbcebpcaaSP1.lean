/- Package spec: a value clipped, an item's kind, its word, plain kinds. -/
import Derived.Test.YtdbgnnkbcebpcaaCF7
import Derived.Test.YtdbgnnkbcebpcaaOwn2
import Derived.Test.YtdbgnnkbcebpcaaRet
import Derived.Laws.IdiomCopy
import Derived.Deep.AppendLies
set_option linter.unusedVariables false
set_option linter.unusedSimpArgs false
namespace Go.Proofs.Ytdbgnnkbcebpcaa
open Go.RowKit

/-- copy at a step of a region that draws its order. -/
theorem step_copy {P : Program} {w : World} {ops : Array Oper} {o : Oper} {a : Act} {K : Act → World → Prop} {Q : Exit → Act → World → Prop} {E : Prop} (hgd : o.guard = none) (d s : Operand) (dT sT : TypeId)
    (ho : o.op = .call { callee := .builtin .copy, args := #[d, s], argTypes := #[dT, sT] }) (elem : TypeId) (hu : P.underlying dT = some (.slice elem)) (hsz : (P.info? elem).map (·.size) = some 1)
    (b off dLen dCap : Nat) (ad : Addr) (sLen sCap : Nat) (hd : a.eval d = .slice (some ⟨b, off, none⟩) dLen dCap) (hs : a.eval s = .slice (some ad) sLen sCap)
    (cs : List Value) (hn : cs.length = Nat.min sLen dLen) (hsrc : ∀ j v, cs[j]? = some v → w.cell? (ad.add j) = some v)
    (hc : ∀ j, j < cs.length → (w.cell? ⟨b, off + j, none⟩).isSome = true) (hf : ∀ j, j < cs.length → w.frozen? ⟨b, off + j, none⟩ = false) (h1 : ∀ v ∈ cs, v.oneCell' = true)
    (h : K (a.put o.dst (goInt cs.length)) (w.setCells b off cs)) :
    if Region.wanted o (yielded ops a.tmps) = true then Oper.wp P o a w K Q else E := by
  have hw : Region.wanted o (yielded ops a.tmps) = true := by simp [Region.wanted, hgd]
  rw [if_pos hw]
  have hrun := run_copy_cells (P := P) w dT sT o.type elem b off dLen dCap ad sLen sCap cs hu hsz hn hsrc hc hf h1
  unfold Oper.wp
  simp [execOp, ho, resolve, invoke, builtin, hd, hs, hrun, Result.andThen]
  exact h

def clip1 (b : Bool) (i : Int) : Int := if b then i else 0
def v4A (a b c d : Int) : Array Value := #[.int .u32 a, .int .u32 b, .int .u32 c, .int .u32 d]
def clipA (wd i0 i1 i2 i3 : Int) : Array Value := v4A (clip1 (decide (0 < wd)) i0) (clip1 (decide (1 < wd)) i1) (clip1 (decide (2 < wd)) i2) (clip1 (decide (3 < wd)) i3)

theorem info_v4 (a b c d : Value) : (Try.prog.info? 26).map (·.size) = some (#[a, b, c, d] : Array Value).size := by kernel_rfl
theorem heap_setA {w : World} {g i : Nat} {v : Value} {cs ds : Array Value} {t : TypeId} {f : Nat × Nat} (h : w.heap[g]? = some (.cells cs t f)) (e : cs.setIfInBounds i v = ds) : (w.setCell ⟨g, i, none⟩ v).heap[g]? = some (.cells ds t f) := by
  rw [heap_set h, e]
section
variable (i0 i1 i2 i3 : Int) (w : World)
set_option maxRecDepth 100000 in
set_option maxHeartbeats 4000000 in
theorem clip_1 : Calls Try.prog 44 #[.agg (v4A i0 i1 i2 i3), .int .i64 1] w fun e w' => e = .returned (.agg (v4A i0 0 0 0)) ∧ w' = ((w.alloc (.cells (v4A i0 i1 i2 i3) 26)).alloc (.cells (v4A i0 0 0 0) 26)).drew := by
  unfold v4A
  have h1 := heap_alloc_other (w.alloc (.cells #[.int .u32 i0, .int .u32 i1, .int .u32 i2, .int .u32 i3] 26)) (.cells #[.int .u32 0, .int .u32 0, .int .u32 0, .int .u32 0] 26) (k := w.heap.size) (by simp)
  rw [heap_alloc_new] at h1
  have h2 := heap_alloc_new (w.alloc (.cells #[.int .u32 i0, .int .u32 i1, .int .u32 i2, .int .u32 i3] 26)) (.cells #[.int .u32 0, .int .u32 0, .int .u32 0, .int .u32 0] 26)
  rw [World.size_alloc] at h2
  have hrun := run_copy_cells (P := Try.prog) ((w.alloc (.cells #[.int .u32 i0, .int .u32 i1, .int .u32 i2, .int .u32 i3] 26)).alloc (.cells #[.int .u32 0, .int .u32 0, .int .u32 0, .int .u32 0] 26)).drew 101 101 3 24 (w.heap.size + 1) 0 4 4 ⟨w.heap.size, 0, none⟩ 1 1 [.int .u32 i0] Try.underlying101 (by kernel_rfl) rfl
    (fun j v hj => by
      rw [show (⟨w.heap.size, 0, none⟩ : Addr).add j = ⟨w.heap.size, j, none⟩ by unfold Addr.add; split <;> simp_all]
      refine (cell_of_heap h1 j).trans ?_
      rcases j with _ | _ | _ | _ | j <;> simp at hj <;> simp [hj])
    (fun j hj => by
      rw [show ∀ a, World.cell? (World.drew ((w.alloc (.cells #[.int .u32 i0, .int .u32 i1, .int .u32 i2, .int .u32 i3] 26)).alloc (.cells #[.int .u32 0, .int .u32 0, .int .u32 0, .int .u32 0] 26))) a = World.cell? ((w.alloc (.cells #[.int .u32 i0, .int .u32 i1, .int .u32 i2, .int .u32 i3] 26)).alloc (.cells #[.int .u32 0, .int .u32 0, .int .u32 0, .int .u32 0] 26)) a from fun _ => rfl, cell_of_heap h2]
      rcases j with _ | _ | _ | _ | j <;> simp at hj ⊢ <;> omega)
    (fun j hj => frozen_of_heap h2 _)
    (fun v hv => by simp at hv; rcases hv with rfl <;> rfl)
  simp only [World.setCells, List.length_cons, List.length_nil, Nat.zero_add, Nat.reduceAdd] at hrun
  go_enter Try.func44, Try.ntmps44
  go_wp2_with fail
  have H2 := Lib.hid h2
  clear h1 h2
  go_region
  all_goals
    go_wp2
    refine bodyPost_ret (results_cell_row rfl _ _ (w.heap.size + 1) 26 #[.int .u32 i0, .int .u32 0, .int .u32 0, .int .u32 0] (0, 0) _ rfl ?_ Try.underlying26 rfl (info_v4 _ _ _ _)) rfl ⟨rfl, ?_⟩
    · repeat (first | (with_reducible exact H2.out) | (with_reducible refine heap_alloc_at _ (by simp; done)) | (with_reducible apply heap_setA) | (with_reducible apply heap_drew'))
      all_goals rfl
    · rfl
set_option maxRecDepth 100000 in
set_option maxHeartbeats 4000000 in
theorem clip_2 : Calls Try.prog 44 #[.agg (v4A i0 i1 i2 i3), .int .i64 2] w fun e w' => e = .returned (.agg (v4A i0 i1 0 0)) ∧ w' = ((w.alloc (.cells (v4A i0 i1 i2 i3) 26)).alloc (.cells (v4A i0 i1 0 0) 26)).drew := by
  unfold v4A
  have h1 := heap_alloc_other (w.alloc (.cells #[.int .u32 i0, .int .u32 i1, .int .u32 i2, .int .u32 i3] 26)) (.cells #[.int .u32 0, .int .u32 0, .int .u32 0, .int .u32 0] 26) (k := w.heap.size) (by simp)
  rw [heap_alloc_new] at h1
  have h2 := heap_alloc_new (w.alloc (.cells #[.int .u32 i0, .int .u32 i1, .int .u32 i2, .int .u32 i3] 26)) (.cells #[.int .u32 0, .int .u32 0, .int .u32 0, .int .u32 0] 26)
  rw [World.size_alloc] at h2
  have hrun := run_copy_cells (P := Try.prog) ((w.alloc (.cells #[.int .u32 i0, .int .u32 i1, .int .u32 i2, .int .u32 i3] 26)).alloc (.cells #[.int .u32 0, .int .u32 0, .int .u32 0, .int .u32 0] 26)).drew 101 101 3 24 (w.heap.size + 1) 0 4 4 ⟨w.heap.size, 0, none⟩ 2 2 [.int .u32 i0, .int .u32 i1] Try.underlying101 (by kernel_rfl) rfl
    (fun j v hj => by
      rw [show (⟨w.heap.size, 0, none⟩ : Addr).add j = ⟨w.heap.size, j, none⟩ by unfold Addr.add; split <;> simp_all]
      refine (cell_of_heap h1 j).trans ?_
      rcases j with _ | _ | _ | _ | j <;> simp at hj <;> simp [hj])
    (fun j hj => by
      rw [show ∀ a, World.cell? (World.drew ((w.alloc (.cells #[.int .u32 i0, .int .u32 i1, .int .u32 i2, .int .u32 i3] 26)).alloc (.cells #[.int .u32 0, .int .u32 0, .int .u32 0, .int .u32 0] 26))) a = World.cell? ((w.alloc (.cells #[.int .u32 i0, .int .u32 i1, .int .u32 i2, .int .u32 i3] 26)).alloc (.cells #[.int .u32 0, .int .u32 0, .int .u32 0, .int .u32 0] 26)) a from fun _ => rfl, cell_of_heap h2]
      rcases j with _ | _ | _ | _ | j <;> simp at hj ⊢ <;> omega)
    (fun j hj => frozen_of_heap h2 _)
    (fun v hv => by simp at hv; rcases hv with rfl | rfl <;> rfl)
  simp only [World.setCells, List.length_cons, List.length_nil, Nat.zero_add, Nat.reduceAdd] at hrun
  go_enter Try.func44, Try.ntmps44
  go_wp2_with fail
  have H2 := Lib.hid h2
  clear h1 h2
  go_region
  all_goals
    go_wp2
    refine bodyPost_ret (results_cell_row rfl _ _ (w.heap.size + 1) 26 #[.int .u32 i0, .int .u32 i1, .int .u32 0, .int .u32 0] (0, 0) _ rfl ?_ Try.underlying26 rfl (info_v4 _ _ _ _)) rfl ⟨rfl, ?_⟩
    · repeat (first | (with_reducible exact H2.out) | (with_reducible refine heap_alloc_at _ (by simp; done)) | (with_reducible apply heap_setA) | (with_reducible apply heap_drew'))
      all_goals rfl
    · rfl
set_option maxRecDepth 100000 in
set_option maxHeartbeats 4000000 in
theorem clip_3 : Calls Try.prog 44 #[.agg (v4A i0 i1 i2 i3), .int .i64 3] w fun e w' => e = .returned (.agg (v4A i0 i1 i2 0)) ∧ w' = ((w.alloc (.cells (v4A i0 i1 i2 i3) 26)).alloc (.cells (v4A i0 i1 i2 0) 26)).drew := by
  unfold v4A
  have h1 := heap_alloc_other (w.alloc (.cells #[.int .u32 i0, .int .u32 i1, .int .u32 i2, .int .u32 i3] 26)) (.cells #[.int .u32 0, .int .u32 0, .int .u32 0, .int .u32 0] 26) (k := w.heap.size) (by simp)
  rw [heap_alloc_new] at h1
  have h2 := heap_alloc_new (w.alloc (.cells #[.int .u32 i0, .int .u32 i1, .int .u32 i2, .int .u32 i3] 26)) (.cells #[.int .u32 0, .int .u32 0, .int .u32 0, .int .u32 0] 26)
  rw [World.size_alloc] at h2
  have hrun := run_copy_cells (P := Try.prog) ((w.alloc (.cells #[.int .u32 i0, .int .u32 i1, .int .u32 i2, .int .u32 i3] 26)).alloc (.cells #[.int .u32 0, .int .u32 0, .int .u32 0, .int .u32 0] 26)).drew 101 101 3 24 (w.heap.size + 1) 0 4 4 ⟨w.heap.size, 0, none⟩ 3 3 [.int .u32 i0, .int .u32 i1, .int .u32 i2] Try.underlying101 (by kernel_rfl) rfl
    (fun j v hj => by
      rw [show (⟨w.heap.size, 0, none⟩ : Addr).add j = ⟨w.heap.size, j, none⟩ by unfold Addr.add; split <;> simp_all]
      refine (cell_of_heap h1 j).trans ?_
      rcases j with _ | _ | _ | _ | j <;> simp at hj <;> simp [hj])
    (fun j hj => by
      rw [show ∀ a, World.cell? (World.drew ((w.alloc (.cells #[.int .u32 i0, .int .u32 i1, .int .u32 i2, .int .u32 i3] 26)).alloc (.cells #[.int .u32 0, .int .u32 0, .int .u32 0, .int .u32 0] 26))) a = World.cell? ((w.alloc (.cells #[.int .u32 i0, .int .u32 i1, .int .u32 i2, .int .u32 i3] 26)).alloc (.cells #[.int .u32 0, .int .u32 0, .int .u32 0, .int .u32 0] 26)) a from fun _ => rfl, cell_of_heap h2]
      rcases j with _ | _ | _ | _ | j <;> simp at hj ⊢ <;> omega)
    (fun j hj => frozen_of_heap h2 _)
    (fun v hv => by simp at hv; rcases hv with rfl | rfl | rfl <;> rfl)
  simp only [World.setCells, List.length_cons, List.length_nil, Nat.zero_add, Nat.reduceAdd] at hrun
  go_enter Try.func44, Try.ntmps44
  go_wp2_with fail
  have H2 := Lib.hid h2
  clear h1 h2
  go_region
  all_goals
    go_wp2
    refine bodyPost_ret (results_cell_row rfl _ _ (w.heap.size + 1) 26 #[.int .u32 i0, .int .u32 i1, .int .u32 i2, .int .u32 0] (0, 0) _ rfl ?_ Try.underlying26 rfl (info_v4 _ _ _ _)) rfl ⟨rfl, ?_⟩
    · repeat (first | (with_reducible exact H2.out) | (with_reducible refine heap_alloc_at _ (by simp; done)) | (with_reducible apply heap_setA) | (with_reducible apply heap_drew'))
      all_goals rfl
    · rfl
set_option maxRecDepth 100000 in
set_option maxHeartbeats 4000000 in
theorem clip_4 : Calls Try.prog 44 #[.agg (v4A i0 i1 i2 i3), .int .i64 4] w fun e w' => e = .returned (.agg (v4A i0 i1 i2 i3)) ∧ w' = ((w.alloc (.cells (v4A i0 i1 i2 i3) 26)).alloc (.cells (v4A i0 i1 i2 i3) 26)).drew := by
  unfold v4A
  have h1 := heap_alloc_other (w.alloc (.cells #[.int .u32 i0, .int .u32 i1, .int .u32 i2, .int .u32 i3] 26)) (.cells #[.int .u32 0, .int .u32 0, .int .u32 0, .int .u32 0] 26) (k := w.heap.size) (by simp)
  rw [heap_alloc_new] at h1
  have h2 := heap_alloc_new (w.alloc (.cells #[.int .u32 i0, .int .u32 i1, .int .u32 i2, .int .u32 i3] 26)) (.cells #[.int .u32 0, .int .u32 0, .int .u32 0, .int .u32 0] 26)
  rw [World.size_alloc] at h2
  have hrun := run_copy_cells (P := Try.prog) ((w.alloc (.cells #[.int .u32 i0, .int .u32 i1, .int .u32 i2, .int .u32 i3] 26)).alloc (.cells #[.int .u32 0, .int .u32 0, .int .u32 0, .int .u32 0] 26)).drew 101 101 3 24 (w.heap.size + 1) 0 4 4 ⟨w.heap.size, 0, none⟩ 4 4 [.int .u32 i0, .int .u32 i1, .int .u32 i2, .int .u32 i3] Try.underlying101 (by kernel_rfl) rfl
    (fun j v hj => by
      rw [show (⟨w.heap.size, 0, none⟩ : Addr).add j = ⟨w.heap.size, j, none⟩ by unfold Addr.add; split <;> simp_all]
      refine (cell_of_heap h1 j).trans ?_
      rcases j with _ | _ | _ | _ | j <;> simp at hj <;> simp [hj])
    (fun j hj => by
      rw [show ∀ a, World.cell? (World.drew ((w.alloc (.cells #[.int .u32 i0, .int .u32 i1, .int .u32 i2, .int .u32 i3] 26)).alloc (.cells #[.int .u32 0, .int .u32 0, .int .u32 0, .int .u32 0] 26))) a = World.cell? ((w.alloc (.cells #[.int .u32 i0, .int .u32 i1, .int .u32 i2, .int .u32 i3] 26)).alloc (.cells #[.int .u32 0, .int .u32 0, .int .u32 0, .int .u32 0] 26)) a from fun _ => rfl, cell_of_heap h2]
      rcases j with _ | _ | _ | _ | j <;> simp at hj ⊢ <;> omega)
    (fun j hj => frozen_of_heap h2 _)
    (fun v hv => by simp at hv; rcases hv with rfl | rfl | rfl | rfl <;> rfl)
  simp only [World.setCells, List.length_cons, List.length_nil, Nat.zero_add, Nat.reduceAdd] at hrun
  go_enter Try.func44, Try.ntmps44
  go_wp2_with fail
  have H2 := Lib.hid h2
  clear h1 h2
  go_region
  all_goals
    go_wp2
    refine bodyPost_ret (results_cell_row rfl _ _ (w.heap.size + 1) 26 #[.int .u32 i0, .int .u32 i1, .int .u32 i2, .int .u32 i3] (0, 0) _ rfl ?_ Try.underlying26 rfl (info_v4 _ _ _ _)) rfl ⟨rfl, ?_⟩
    · repeat (first | (with_reducible exact H2.out) | (with_reducible refine heap_alloc_at _ (by simp; done)) | (with_reducible apply heap_setA) | (with_reducible apply heap_drew'))
      all_goals rfl
    · rfl
theorem clip_c (wd : Int) (h1 : 1 ≤ wd) (h4 : wd ≤ 4) : Calls Try.prog 44 #[.agg (v4A i0 i1 i2 i3), .int .i64 wd] w fun e w' => e = .returned (.agg (clipA wd i0 i1 i2 i3)) ∧ w' = ((w.alloc (.cells (v4A i0 i1 i2 i3) 26)).alloc (.cells (clipA wd i0 i1 i2 i3) 26)).drew := by
  have hc : wd = 1 ∨ wd = 2 ∨ wd = 3 ∨ wd = 4 := by omega
  rcases hc with rfl | rfl | rfl | rfl
  · exact clip_1 i0 i1 i2 i3 w
  · exact clip_2 i0 i1 i2 i3 w
  · exact clip_3 i0 i1 i2 i3 w
  · exact clip_4 i0 i1 i2 i3 w
end
end Go.Proofs.Ytdbgnnkbcebpcaa
