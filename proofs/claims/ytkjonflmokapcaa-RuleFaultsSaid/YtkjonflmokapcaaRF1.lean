/- Package rule: what each kind of call needs, whose it is, and the six tests. -/
import Derived.Test.YtkjonflmokapcaaCF14
set_option linter.unusedVariables false
set_option linter.unusedSimpArgs false
namespace Go.Proofs.Ytkjonflmokapcaa
open Go.RowKit

def caA (k ob v0 v1 v2 v3 n : Int) : Array Value := #[.int .i64 k, .int .i64 ob, .int .u32 v0, .int .u32 v1, .int .u32 v2, .int .u32 v3, .int .u32 n]
theorem cells7 {w : World} {k : Nat} {a b c d e f g : Value} {t : TypeId} {fr : Nat × Nat} (hh : w.heap[k]? = some (.cells #[a, b, c, d, e, f, g] t fr)) :
    w.cell? ⟨k, 0, none⟩ = some a ∧ w.cell? ⟨k, 1, none⟩ = some b ∧ w.cell? ⟨k, 2, none⟩ = some c ∧ w.cell? ⟨k, 3, none⟩ = some d ∧ w.cell? ⟨k, 4, none⟩ = some e ∧ w.cell? ⟨k, 5, none⟩ = some f ∧ w.cell? ⟨k, 6, none⟩ = some g :=
  ⟨by rw [cell_of_heap hh]; rfl, by rw [cell_of_heap hh]; rfl, by rw [cell_of_heap hh]; rfl, by rw [cell_of_heap hh]; rfl, by rw [cell_of_heap hh]; rfl, by rw [cell_of_heap hh]; rfl, by rw [cell_of_heap hh]; rfl⟩
def blocksB (k : Int) : Bool := decide (12 ≤ k) && decide (k ≤ 19)
set_option maxRecDepth 100000 in
theorem blocks_c (k : Int) (w : World) : Calls Try.prog 51 #[.int .i64 k] w fun e w' => e = .returned (.bool (blocksB k)) ∧ w = w' := by
  unfold blocksB
  by_cases h : 12 ≤ k
  · have h1 : decide (12 ≤ k) = true := by simpa using h
    go_enter Try.func51, Try.ntmps51
    go_wp2
    go_ret
    exact ⟨by simp [h], rfl⟩
  · have h1 : decide (12 ≤ k) = false := by simpa using h
    go_enter Try.func51, Try.ntmps51
    go_wp2
    go_ret
    exact ⟨by simp [h], rfl⟩
set_option maxRecDepth 100000 in
theorem handler_c (k : Int) (w : World) : Calls Try.prog 84 #[.int .i64 k] w fun e w' => e = .returned (.bool (decide (k < 0))) ∧ w = w' := by
  go_enter Try.func84, Try.ntmps84
  go_wp2
  go_ret
  exact ⟨rfl, rfl⟩
def needsL (k : Int) : List Int :=
  if k = 1 ∨ k = 2 ∨ k = 14 ∨ k = 15 then [1] else if k = 3 then [2, 3] else if k = 4 then [2] else if k = 5 ∨ k = 6 then [3] else if k = 7 ∨ k = 8 ∨ k = 9 ∨ k = 16 ∨ k = 17 then [4] else []
/-- The row of what a kind needs. -/
def NeedAt (w : World) (v : Value) (l : List Int) : Prop := (l = [] ∧ v = .slice none 0 0) ∨ ∃ b, v = .slice (some ⟨b, 0, none⟩) l.length l.length ∧ w.heap[b]? = some (.cells (l.map (Value.int .i64)).toArray 3)
theorem NeedAt.upd {w w' : World} {v : Value} {l : List Int} (h : NeedAt w v l) (hu : Upd [] w w') : NeedAt w' v l := by
  rcases h with h | ⟨b, e, hb⟩
  · exact .inl h
  · exact .inr ⟨b, e, hu.keepb hb (by simp)⟩
set_option maxRecDepth 100000 in
theorem list_c (v : Value) (w : World) : Calls Try.prog 102 #[v] w fun e w' => e = .returned v ∧ w = w' := by
  go_enter Try.func102, Try.ntmps102
  go_wp2
  go_ret
  exact ⟨rfl, rfl⟩
def NeedPost (k : Int) (w : World) (e : Ending) (w' : World) : Prop := ∃ v, e = .returned v ∧ NeedAt w' v (needsL k) ∧ Upd [] w w'
theorem need_post {k : Int} {l : List Int} {w : World} (h : needsL k = l) : NeedPost k w (.returned (.slice (some ⟨w.heap.size, 0, none⟩) l.length l.length)) (w.alloc (.cells (l.map (Value.int .i64)).toArray 3)) :=
  ⟨_, rfl, .inr ⟨_, by rw [h], by rw [h]; exact heap_alloc_new _ _⟩, (Upd.refl _ _).alloc _⟩
set_option maxRecDepth 100000 in
set_option maxHeartbeats 4000000 in
theorem needs_c (k : Int) (w : World) : Calls Try.prog 81 #[.int .i64 k] w (NeedPost k w) := by
  by_cases hk : k = 1 ∨ k = 2 ∨ k = 14 ∨ k = 15 ∨ k = 3 ∨ k = 4 ∨ k = 5 ∨ k = 6 ∨ k = 7 ∨ k = 8 ∨ k = 9 ∨ k = 16 ∨ k = 17
  · rcases hk with rfl | rfl | rfl | rfl | rfl | rfl | rfl | rfl | rfl | rfl | rfl | rfl | rfl
    · have HP := Lib.hid (need_post (k := 1) (l := [1]) (w := w) (by decide))
      go_enter Try.func81, Try.ntmps81
      go_wp2_with (go_at_call 102; refine (list_c _ _).mono ?_; rintro e w1 ⟨rfl, rfl⟩)
      go_ret
      exact HP.out
    · have HP := Lib.hid (need_post (k := 2) (l := [1]) (w := w) (by decide))
      go_enter Try.func81, Try.ntmps81
      go_wp2_with (go_at_call 102; refine (list_c _ _).mono ?_; rintro e w1 ⟨rfl, rfl⟩)
      go_ret
      exact HP.out
    · have HP := Lib.hid (need_post (k := 14) (l := [1]) (w := w) (by decide))
      go_enter Try.func81, Try.ntmps81
      go_wp2_with (go_at_call 102; refine (list_c _ _).mono ?_; rintro e w1 ⟨rfl, rfl⟩)
      go_ret
      exact HP.out
    · have HP := Lib.hid (need_post (k := 15) (l := [1]) (w := w) (by decide))
      go_enter Try.func81, Try.ntmps81
      go_wp2_with (go_at_call 102; refine (list_c _ _).mono ?_; rintro e w1 ⟨rfl, rfl⟩)
      go_ret
      exact HP.out
    · have HP := Lib.hid (need_post (k := 3) (l := [2, 3]) (w := w) (by decide))
      go_enter Try.func81, Try.ntmps81
      go_wp2_with (go_at_call 102; refine (list_c _ _).mono ?_; rintro e w1 ⟨rfl, rfl⟩)
      go_ret
      exact HP.out
    · have HP := Lib.hid (need_post (k := 4) (l := [2]) (w := w) (by decide))
      go_enter Try.func81, Try.ntmps81
      go_wp2_with (go_at_call 102; refine (list_c _ _).mono ?_; rintro e w1 ⟨rfl, rfl⟩)
      go_ret
      exact HP.out
    · have HP := Lib.hid (need_post (k := 5) (l := [3]) (w := w) (by decide))
      go_enter Try.func81, Try.ntmps81
      go_wp2_with (go_at_call 102; refine (list_c _ _).mono ?_; rintro e w1 ⟨rfl, rfl⟩)
      go_ret
      exact HP.out
    · have HP := Lib.hid (need_post (k := 6) (l := [3]) (w := w) (by decide))
      go_enter Try.func81, Try.ntmps81
      go_wp2_with (go_at_call 102; refine (list_c _ _).mono ?_; rintro e w1 ⟨rfl, rfl⟩)
      go_ret
      exact HP.out
    · have HP := Lib.hid (need_post (k := 7) (l := [4]) (w := w) (by decide))
      go_enter Try.func81, Try.ntmps81
      go_wp2_with (go_at_call 102; refine (list_c _ _).mono ?_; rintro e w1 ⟨rfl, rfl⟩)
      go_ret
      exact HP.out
    · have HP := Lib.hid (need_post (k := 8) (l := [4]) (w := w) (by decide))
      go_enter Try.func81, Try.ntmps81
      go_wp2_with (go_at_call 102; refine (list_c _ _).mono ?_; rintro e w1 ⟨rfl, rfl⟩)
      go_ret
      exact HP.out
    · have HP := Lib.hid (need_post (k := 9) (l := [4]) (w := w) (by decide))
      go_enter Try.func81, Try.ntmps81
      go_wp2_with (go_at_call 102; refine (list_c _ _).mono ?_; rintro e w1 ⟨rfl, rfl⟩)
      go_ret
      exact HP.out
    · have HP := Lib.hid (need_post (k := 16) (l := [4]) (w := w) (by decide))
      go_enter Try.func81, Try.ntmps81
      go_wp2_with (go_at_call 102; refine (list_c _ _).mono ?_; rintro e w1 ⟨rfl, rfl⟩)
      go_ret
      exact HP.out
    · have HP := Lib.hid (need_post (k := 17) (l := [4]) (w := w) (by decide))
      go_enter Try.func81, Try.ntmps81
      go_wp2_with (go_at_call 102; refine (list_c _ _).mono ?_; rintro e w1 ⟨rfl, rfl⟩)
      go_ret
      exact HP.out
  · have hn : needsL k = [] := by
      unfold needsL
      rw [if_neg (by omega), if_neg (by omega), if_neg (by omega), if_neg (by omega), if_neg (by omega)]
    have HP := Lib.hid (show NeedPost k w (.returned (.slice none 0 0)) w from ⟨_, rfl, .inl ⟨hn, rfl⟩, Upd.refl _ _⟩)
    have q1 : (k == 1) = false := by simp; omega
    have q2 : (k == 2) = false := by simp; omega
    have q14 : (k == 14) = false := by simp; omega
    have q15 : (k == 15) = false := by simp; omega
    have q3 : (k == 3) = false := by simp; omega
    have q4 : (k == 4) = false := by simp; omega
    have q5 : (k == 5) = false := by simp; omega
    have q6 : (k == 6) = false := by simp; omega
    have q7 : (k == 7) = false := by simp; omega
    have q8 : (k == 8) = false := by simp; omega
    have q9 : (k == 9) = false := by simp; omega
    have q16 : (k == 16) = false := by simp; omega
    have q17 : (k == 17) = false := by simp; omega
    clear hk hn
    go_enter Try.func81, Try.ntmps81
    go_wp2
    go_ret
    exact HP.out
set_option maxRecDepth 100000 in
set_option maxHeartbeats 1000000 in
theorem index_c (x : Int) (l : List Int) (b : Nat) (w : World) (hb : w.heap[b]? = some (.cells (l.map (Value.int .i64)).toArray 3)) (hl : l.length ≤ 4) : Calls Try.prog 112 #[.slice (some ⟨b, 0, none⟩) l.length l.length, .int .i64 x] w fun e w' => e = .returned (.int .i64 (match l.findIdx? (· == x) with | some i => (i : Int) | none => -1)) ∧ w = w' := by
  have HB := Lib.hid hb
  have HR := Lib.hid (show ∀ r : Int, (match l.findIdx? (· == x) with | some i => (i : Int) | none => -1) = r → True from fun _ _ => trivial)
  obtain ⟨R, hR⟩ : ∃ R : Int, (match l.findIdx? (· == x) with | some i => (i : Int) | none => -1) = R := ⟨_, rfl⟩
  rw [hR]
  have HRR := Lib.hid hR
  clear hb hR HR
  go_enter Try.func112, Try.ntmps112
  go_wp2
  go_loopg [8] l.length (fun m i wr => ∃ a : Nat, m + a = l.length ∧ i = .int .i64 a ∧ (∀ j (hj : j < l.length), j < a → l[j] ≠ x) ∧ wr = w)
  case atStart => exact ⟨0, by omega, rfl, (fun j _ h => by omega), rfl⟩
  case round =>
    obtain ⟨a, ha, rfl, hz, rfl⟩ := hrel
    have HA := Lib.hid ha
    have HZ := Lib.hid hz
    by_cases hlt : a < l.length
    · have k0 : wr.cell? ⟨b, a, none⟩ = some (.int .i64 l[a]) := by rw [cell_of_heap HB.out]; simp [List.getElem?_eq_getElem hlt]
      obtain ⟨y, hy⟩ : ∃ y, l[a] = y := ⟨_, rfl⟩
      rw [hy] at k0
      have HY := Lib.hid hy
      clear hy ha hz
      by_cases h : x = y
      · have q : (x == y) = true := by simpa using h
        have HF := Lib.hid (show R = (a : Int) from by
          rw [← HRR.out]
          have : l.findIdx? (· == x) = some a := by
            rw [List.findIdx?_eq_some_iff_getElem]
            refine ⟨hlt, by simp [HY.out, h], fun j hj => ?_⟩
            simpa using HZ.out j (by omega) hj
          rw [this])
        clear h
        go_wp2
        go_ret
        exact ⟨by rw [HF.out]; rfl, rfl⟩
      · have q : (x == y) = false := by simpa using h
        have HN := Lib.hid h
        clear h
        go_wp2
        have ha := HA.out
        go_roundg (l.length - (a + 1))
        case measure => omega
        case rel =>
          refine ⟨a + 1, by omega, by go_num, fun j hj h => ?_, rfl⟩
          by_cases e : j = a
          · subst e; rw [HY.out]; exact fun e => HN.out e.symm
          · exact HZ.out j hj (by omega)
    · have HF := Lib.hid (show R = -1 from by
        rw [← HRR.out]
        have : l.findIdx? (· == x) = none := by
          rw [List.findIdx?_eq_none_iff]
          intro y hy
          obtain ⟨j, hj, rfl⟩ := List.getElem_of_mem hy
          simpa using hz j hj (by omega)
        rw [this])
      have hge : ¬ ((a : Int) < l.length) := by omega
      clear ha hz HA HZ
      go_wp2
      go_ret
      exact ⟨by rw [HF.out]; rfl, rfl⟩
set_option maxRecDepth 100000 in
theorem contains_c (x : Int) (l : List Int) (b : Nat) (w : World) (hb : w.heap[b]? = some (.cells (l.map (Value.int .i64)).toArray 3)) (hl : l.length ≤ 4) : Calls Try.prog 103 #[.slice (some ⟨b, 0, none⟩) l.length l.length, .int .i64 x] w fun e w' => e = .returned (.bool (decide (x ∈ l))) ∧ w = w' := by
  have HI := Lib.hid (index_c x l b w hb hl)
  have he : ∀ i : Int, (match l.findIdx? (· == x) with | some i => (i : Int) | none => -1) = i → decide (0 ≤ i) = decide (x ∈ l) := by
    intro i hi
    rw [← hi]
    cases h : l.findIdx? (· == x) with
    | none =>
      rw [List.findIdx?_eq_none_iff] at h
      simp only
      rw [decide_eq_false (by omega), decide_eq_false]
      intro hx
      simpa using h x hx
    | some j =>
      rw [List.findIdx?_eq_some_iff_getElem] at h
      obtain ⟨hj, h1, _⟩ := h
      simp only
      rw [decide_eq_true (by omega), decide_eq_true]
      simp at h1
      rw [← h1]
      exact List.getElem_mem hj
  generalize (match l.findIdx? (· == x) with | some i => (i : Int) | none => -1) = i at HI he
  have HE := Lib.hid (he i rfl)
  clear he hb
  go_enter Try.func103, Try.ntmps103
  go_wp2_with (go_at_call 112; refine HI.out.mono ?_; rintro e w1 ⟨rfl, rfl⟩)
  go_ret
  exact ⟨by rw [← HE.out]; rfl, rfl⟩
end Go.Proofs.Ytkjonflmokapcaa
