/- The document's words, bit by bit. -/
import Derived.Test.YtdbgnnkbcebpcaaProg
import Derived.Test.YtdbgnnkbcebpcaaLaws
import Derived.Deep.WholeRow
set_option linter.unusedVariables false
set_option linter.unusedSimpArgs false
namespace Go.Proofs.Ytdbgnnkbcebpcaa
open Go.RowKit

def rbit (x : Int) (k : Nat) : Bool := decide ((x / 2 ^ k) % 2 = 1)
def arr32 (g : Nat → Bool) : Array Value := ((List.range 32).map fun k => Value.bool (g k)).toArray
theorem arr32_size (g : Nat → Bool) : (arr32 g).size = 32 := by simp [arr32]
theorem arr32_get (g : Nat → Bool) {k : Nat} (hk : k < 32) : (arr32 g)[k]? = some (.bool (g k)) := by simp [arr32, hk]
theorem arr32_set (g : Nat → Bool) {k : Nat} (b : Bool) : (arr32 g).setIfInBounds k (.bool b) = arr32 (fun j => if j = k then b else g j) := by
  apply Array.ext_getElem?
  intro j
  rw [Array.getElem?_setIfInBounds]
  by_cases hj : j < 32
  · rw [arr32_get _ hj, arr32_get _ hj]
    by_cases e : k = j
    · subst e; simp [arr32_size, hj]
    · have e' : ¬ j = k := fun h => e h.symm
      simp [e, e']
  · rw [Array.getElem?_eq_none (by rw [arr32_size]; omega), Array.getElem?_eq_none (by rw [arr32_size]; omega)]
    by_cases e : k = j
    · subst e; simp [arr32_size, hj]
    · simp [e]
theorem arr32_congr {f g : Nat → Bool} (h : ∀ k, k < 32 → f k = g k) : arr32 f = arr32 g := by
  apply Array.ext_getElem?
  intro j
  by_cases hj : j < 32
  · rw [arr32_get _ hj, arr32_get _ hj, h j hj]
  · rw [Array.getElem?_eq_none (by rw [arr32_size]; omega), Array.getElem?_eq_none (by rw [arr32_size]; omega)]
theorem arr32_one (g : Nat → Bool) : (arr32 g).all (·.oneCell') = true := by
  rw [Array.all_eq_true_iff_forall_mem]
  intro v hv
  simp [arr32] at hv
  obtain ⟨k, _, rfl⟩ := hv
  rfl

theorem pow_le {a b : Nat} (h : a ≤ b) : (2 : Int) ^ a ≤ 2 ^ b := by
  have := Nat.pow_le_pow_right (n := 2) (by omega) h
  exact_mod_cast this
theorem half_pow (x : Int) (k : Nat) : x / 2 ^ k / 2 = x / 2 ^ (k + 1) := by
  rw [Int.pow_succ, Int.ediv_ediv_of_nonneg (Int.pow_nonneg (by omega))]
theorem info32 : (Try.prog.info? 173).map (·.size) = some 32 := by kernel_rfl

theorem info32z : (Try.prog.info? 173).map (fun i => (i.zero, i.size)) = some (some (.agg (arr32 fun _ => false)), 32) := by kernel_rfl

theorem load32 {w : World} {b : Nat} {g : Nat → Bool} (h : w.heap[b]? = some (.cells (arr32 g) 173 (0, 0))) :
    (loadCellsFrom ⟨b, 0, none⟩ 0 32 #[]).run Try.prog w = .ok (arr32 g) w := by
  have := run_loadCells_list (P := Try.prog) w ⟨b, 0, none⟩ (arr32 g).toList (fun j v hv => by
    have hadd : (⟨b, 0, none⟩ : Addr).add j = ⟨b, j, none⟩ := by unfold Addr.add; split <;> simp_all
    rw [hadd, cell_of_heap h]
    simpa using hv)
  simpa [loadCells, arr32_size] using this
theorem store32 {w : World} {b : Nat} {g g' : Nat → Bool} (h : w.heap[b]? = some (.cells (arr32 g) 173 (0, 0))) :
    (storeCells ⟨b, 0, none⟩ (arr32 g').toList 0).run Try.prog w = .ok () (w.setRow b (arr32 g')) := by
  have := run_storeCells_at Try.prog b 0 173 (arr32 g').toList 0 (arr32 g) w h (by simp [arr32_size]) (fun v hv => (Array.all_eq_true_iff_forall_mem.1 (arr32_one g')) v (by simpa using hv))
  rw [this]
  simp [arr32_size, List.drop_eq_nil_of_le]
set_option maxRecDepth 100000 in
set_option maxHeartbeats 1000000 in
theorem ref_bits (x : Int) (h0 : 0 ≤ x) (hx : x ≤ 4294967295) (W : World) :
    Calls Try.prog 93 #[.int .u32 x] W fun e w' => e = .returned (.agg (arr32 (rbit x))) ∧ Upd [] W w' := by
  go_enter Try.func93, Try.ntmps93
  go_wp2
  go_loopw [0, 4] (fun v i wr => ∃ k : Nat, k ≤ 32 ∧ v = .int .u32 (x / 2 ^ k) ∧ i = .int .i64 k ∧ wr.heap[W.heap.size + 1]? = some (.cells (arr32 fun j => if j < k then rbit x j else false) 173 (0, 0)) ∧ wr.heap[W.heap.size]? = some (.cells (arr32 fun _ => false) 173 (0, 0)) ∧ Upd [] W wr) (fun _ i _ => 32 - (intOf i).toNat)
  case atStart =>
    refine ⟨0, by omega, by simp, rfl, ?_, ?_, ((Upd.refl _ _).alloc _).alloc _⟩
    · have := heap_alloc_new (W.alloc (.cells (arr32 fun _ => false) 173)) (.cells (arr32 fun _ => false) 173)
      have e : (fun j => if j < 0 then rbit x j else false) = (fun _ => false) := by funext j; simp
      rw [e]
      have e2 : (W.alloc (.cells (arr32 fun _ => false) 173)).heap.size = W.heap.size + 1 := by simp
      rw [e2] at this
      exact this
    · rw [heap_alloc_other _ _ (by simp)]
      exact heap_alloc_new _ _
  case round =>
    obtain ⟨k, hk, rfl, rfl, h1, h2, hu⟩ := hrel
    rename_i wr
    obtain ⟨y, hy⟩ : ∃ y, y = x / 2 ^ k := ⟨_, rfl⟩
    rw [← hy]
    have hy0 : 0 ≤ y := by rw [hy]; exact Int.ediv_nonneg h0 (by exact Int.pow_nonneg (by omega))
    have hy1 : y ≤ 4294967295 := by rw [hy]; exact Int.le_trans (Int.ediv_le_self _ h0) hx
    have HY := Lib.hid hy
    have H1 := Lib.hid h1
    have H2 := Lib.hid h2
    clear hy h1 h2
    by_cases hlt : k < 32
    · have c1 : wr.cell? ⟨W.heap.size + 1, k, none⟩ = some (.bool false) := by rw [cell_of_heap H1.out, arr32_get _ hlt]; simp
      have f1 := frozen_of_heap H1.out k
      go_wp2
      go_roundw
      case rel =>
        refine ⟨k + 1, by omega, ?_, by go_num, ?_, ?_, (hu.setCell (by simp) _)⟩
        · rw [HY.out, half_pow]
        · rw [heap_set H1.out, arr32_set]
          congr 3
          funext j
          rcases Nat.lt_trichotomy j k with hj | hj | hj
          · rw [if_neg (by omega), if_pos (by omega), if_pos (by omega)]
          · subst hj
            rw [if_pos rfl, if_pos (by omega)]
            have e : (y % 2 == 1) = rbit x j := by rw [HY.out]; rfl
            simpa using e
          · rw [if_neg (by omega), if_neg (by omega), if_neg (by omega)]
        · rw [heap_set_other _ _ _ (by omega)]; exact H2.out
      case measure => simp [intOf]; omega
    · go_wp2_with (first
        | (refine wpList_load_row rfl 173 _ rfl _ rfl _ _ (0, 0) _ H1.out Try.underlying173 rfl (by rw [arr32_size]; exact info32) ?_)
        | (refine wpList_store_row rfl 173 _ _ rfl (W.heap.size) (arr32 _) rfl rfl _ _ H2.out (by rw [arr32_size]; exact info32) (by rw [arr32_size, arr32_size]) (arr32_one _) ?_))
      refine bodyPost_ret (v := .agg _) (results_cell_row rfl _ _ W.heap.size _ _ (0, 0) _ rfl (setRow_heap wr _ _ _ _ _ H2.out) Try.underlying173 rfl (by rw [arr32_size]; exact info32)) rfl ⟨?_, hu.then (upd_setRow _ _ _) (by simp)⟩
      rw [arr32_congr (f := fun j => if j < k then rbit x j else false) (g := rbit x) (fun j hj => if_pos (by omega))]

/-- A word of bits: from the i-th on, the lowest first. -/
def wordUp (g : Nat → Bool) : Nat → Nat → Int
  | _, 0 => 0
  | i, n + 1 => 2 * wordUp g (i + 1) n + (if g i then 1 else 0)

theorem wordUp_bounds (g : Nat → Bool) : ∀ n i, 0 ≤ wordUp g i n ∧ wordUp g i n < 2 ^ n
  | 0, _ => by simp [wordUp]
  | n + 1, i => by
    have := wordUp_bounds g n (i + 1)
    simp only [wordUp]
    have e : (2 : Int) ^ (n + 1) = 2 * 2 ^ n := by rw [Int.pow_succ]; omega
    rw [e]
    split <;> omega

set_option maxRecDepth 100000 in
set_option maxHeartbeats 1000000 in
theorem ref_word (g : Nat → Bool) (W : World) :
    Calls Try.prog 94 #[.agg (arr32 g)] W fun e w' => e = .returned (.int .u32 (wordUp g 0 32)) ∧ Upd [] W w' := by
  go_enter Try.func94, Try.ntmps94
  go_wp2
  go_loopw [3, 4] (fun v i wr => ∃ k : Nat, k ≤ 32 ∧ v = .int .u32 (wordUp g k (32 - k)) ∧ i = .int .i64 ((k : Int) - 1) ∧ wr.heap[W.heap.size]? = some (.cells (arr32 g) 173 (0, 0)) ∧ Upd [] W wr) (fun _ i _ => (intOf i + 1).toNat)
  case atStart => exact ⟨32, by omega, rfl, rfl, heap_alloc_new _ _, (Upd.refl _ _).alloc _⟩
  case round =>
    obtain ⟨k, hk, rfl, rfl, h1, hu⟩ := hrel
    rename_i wr
    have H1 := Lib.hid h1
    clear h1
    rcases k with _ | m
    · obtain ⟨y, hy⟩ : ∃ y, y = wordUp g 0 (32 - 0) := ⟨_, rfl⟩
      rw [← hy]
      have HY := Lib.hid hy
      clear hy
      go_wp2
      go_ret
      exact ⟨by rw [HY.out]; rfl, hu⟩
    · have hb := wordUp_bounds g (32 - (m + 1)) (m + 1)
      have hp : (2 : Int) ^ (32 - (m + 1)) ≤ 2 ^ 31 := pow_le (by omega)
      have hs : wordUp g m (32 - m) = 2 * wordUp g (m + 1) (32 - (m + 1)) + (if g m then 1 else 0) := by
        rw [show 32 - m = (32 - (m + 1)) + 1 by omega]; rfl
      obtain ⟨y, hy⟩ : ∃ y, y = wordUp g (m + 1) (32 - (m + 1)) := ⟨_, rfl⟩
      rw [← hy] at hb hs ⊢
      have hy0 : 0 ≤ y := hb.1
      have hy1 : y ≤ 2147483647 := by have := hb.2; omega
      have HS := Lib.hid hs
      have HY := Lib.hid hy
      clear hy hb hs hp
      rw [show ((m + 1 : Nat) : Int) - 1 = (m : Int) by omega]
      have c1 : wr.cell? ⟨W.heap.size, m, none⟩ = some (.bool (g m)) := by rw [cell_of_heap H1.out, arr32_get _ (by omega)]
      cases hg : g m
      · rw [hg] at c1
        have HG := Lib.hid hg
        clear hg
        go_wp2
        go_roundw
        case rel => exact ⟨m, by omega, by rw [HS.out, HG.out]; simp [Int.mul_comm], by go_num, H1.out, hu⟩
        case measure => simp [intOf]
      · rw [hg] at c1
        have HG := Lib.hid hg
        clear hg
        go_wp2
        go_roundw
        case rel => exact ⟨m, by omega, by rw [HS.out, HG.out]; simp [Int.mul_comm], by go_num, H1.out, hu⟩
        case measure => simp [intOf]

theorem arr32_at (g : Nat → Bool) {i : Nat} (hi : i < 32) : (arr32 g).getD i undef = .bool (g i) := by simp [Array.getD, arr32, hi]

theorem idx32 (g : Nat → Bool) {i : Nat} (hi : i < 32) (w : World) : (Instr.index 173 (.agg (arr32 g)) (.int .i64 i)).run Try.prog w = .ok (.bool (g i)) w := by
  have h0 : ¬ ((i : Int) < 0 ∨ (32 : Int) ≤ i) := by omega
  have h1 : (i : Int).toNat = i := by omega
  simp [Instr.index, run_underlying Try.underlying173, arr32_get g hi, go_sem]
  intro h
  omega

set_option maxRecDepth 100000 in
set_option maxHeartbeats 1000000 in
theorem ref_has (x : Int) (i : Nat) (h0 : 0 ≤ x) (hx : x ≤ 4294967295) (hi : i < 32) (W : World) :
    Calls Try.prog 88 #[.int .u32 x, .int .i64 i] W fun e w' => e = .returned (.bool (rbit x i)) ∧ Upd [] W w' := by
  have HB := Lib.hid (ref_bits x h0 hx W)
  have HI := fun w => idx32 (rbit x) hi w
  go_enter Try.func88, Try.ntmps88
  go_wp2_with (go_at_call 93; refine (HB.out).mono ?_; rintro e w1 ⟨rfl, hu1⟩)
  go_ret
  exact ⟨rfl, hu1⟩

set_option maxRecDepth 100000 in
set_option maxHeartbeats 1000000 in
theorem ref_put (x : Int) (i : Nat) (b : Bool) (h0 : 0 ≤ x) (hx : x ≤ 4294967295) (hi : i < 32) (W : World) :
    Calls Try.prog 89 #[.int .u32 x, .int .i64 i, .bool b] W fun e w' => e = .returned (.int .u32 (wordUp (fun j => if j = i then b else rbit x j) 0 32)) ∧ Upd [] W w' := by
  have HB := Lib.hid (ref_bits x h0 hx W)
  go_enter Try.func89, Try.ntmps89
  go_wp2_with (first
    | (go_at_call 93; refine (HB.out).mono ?_; rintro e w1 ⟨rfl, hu1⟩)
    | (refine wpList_store_row rfl 173 _ _ rfl (w1.heap.size) (arr32 _) rfl rfl _ _ (heap_alloc_new _ _) (by rw [arr32_size]; exact info32) (by rw [arr32_size]; rfl) (arr32_one _) ?_; rw [World.setRow_alloc_new]; have hx1 := Lib.hid (heap_alloc_new w1 (.cells (arr32 (rbit x)) 173)); have c1 : (w1.alloc (.cells (arr32 (rbit x)) 173)).cell? ⟨w1.heap.size, i, none⟩ = some (.bool (rbit x i)) := by rw [cell_of_heap hx1.out]; exact arr32_get _ hi)
    | (refine wpList_load_row rfl 173 _ rfl _ rfl _ _ (0, 0) _ (heap_alloc_new _ _) Try.underlying173 rfl (by rw [Array.size_setIfInBounds, arr32_size]; exact info32) ?_; rw [arr32_set])
    | (go_at_call 94; refine (ref_word _ _).mono ?_; rintro e w2 ⟨rfl, hu2⟩))
  go_ret
  exact ⟨rfl, (hu1.trans ((Upd.refl _ _).alloc _)).trans hu2⟩
end Go.Proofs.Ytdbgnnkbcebpcaa
