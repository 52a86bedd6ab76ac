/- Comparisons of words: the document's, and the memory's own. One step of the document, whatever the op. -/
import Derived.Test.YtfdidgobgeohcaaPlay3
set_option linter.unusedVariables false
set_option linter.unusedSimpArgs false
namespace Go.Proofs.Ytfdidgobgeohcaa
open Go.RowKit

set_option maxRecDepth 100000 in
set_option maxHeartbeats 1000000 in
theorem words_any (a b : Option Addr) (ca cb : Nat) (xs ys : List Int) (w : World) (hx : Reads w a xs.length (u32s xs)) (hy : Reads w b ys.length (u32s ys)) (hlx : xs.length ≤ 9223372036854775807) (hly : ys.length ≤ 9223372036854775807) :
    Calls Try.prog 38 #[.slice a xs.length ca, .slice b ys.length cb] w fun e w' => e = .returned (.bool (decide (xs = ys))) ∧ Upd [] w w' := by
  by_cases hl : xs.length = ys.length
  · have HX := Lib.hid hx
    have HY := Lib.hid hy
    have HL := Lib.hid hl
    have hl2 : ((xs.length : Int) != (ys.length : Int)) = false := by simp; omega
    have hl3 : (xs.length != ys.length) = false := by simpa using hl
    have hl4 : (xs.length == ys.length) = true := by simpa using hl
    have hl5 : ((xs.length : Int) == (ys.length : Int)) = true := by simp; omega
    clear hx hy hl
    go_enter Try.func38, Try.ntmps38
    go_wp2
    go_loopw [5] (fun i wr => ∃ k : Nat, k ≤ xs.length ∧ i = .int .i64 k ∧ Upd [] w wr ∧ ∀ j, j < k → xs[j]? = ys[j]?) (fun i _ => xs.length - (intOf i).toNat)
    case atStart => exact ⟨0, by omega, rfl, Upd.refl _ _, fun j hj => by omega⟩
    case round =>
      obtain ⟨k, hk, rfl, hu, hall⟩ := hrel
      rename_i wr
      have HALL := Lib.hid hall
      clear hall
      by_cases hlt : k < xs.length
      · have hlt2 : k < ys.length := by have := HL.out; omega
        obtain ⟨ab, ao, rfl, hab, hac⟩ := HX.out.2 (by omega)
        obtain ⟨bb, bo, rfl, hbb, hbc⟩ := HY.out.2 (by omega)
        have r1 : wr.cell? ⟨ab, ao + k, none⟩ = some (.int .u32 xs[k]) := by
          rw [hu.cell (p := ⟨ab, ao + k, none⟩) hab (by simp)]
          exact hac k _ (by simp [u32s, List.getElem?_eq_getElem hlt])
        have r2 : wr.cell? ⟨bb, bo + k, none⟩ = some (.int .u32 ys[k]) := by
          rw [hu.cell (p := ⟨bb, bo + k, none⟩) hbb (by simp)]
          exact hbc k _ (by simp [u32s, List.getElem?_eq_getElem hlt2])
        clear hac hbc
        by_cases he : xs[k] = ys[k]
        · have e1 : (xs[k] == ys[k]) = true := by simpa using he
          have e2 : (xs[k] != ys[k]) = false := by simpa using he
          have HE := Lib.hid he
          clear he
          go_wp2
          go_quiet (fail)
          go_wp2
          go_roundw
          case rel =>
            refine ⟨k + 1, by omega, by go_num, hu.drewN _, fun j hj => ?_⟩
            by_cases hjk : j < k
            · exact HALL.out j hjk
            · obtain rfl : j = k := by omega
              rw [List.getElem?_eq_getElem hlt, List.getElem?_eq_getElem hlt2, HE.out]
          case measure => simp [intOf]; omega
        · have e1 : (xs[k] == ys[k]) = false := by simpa using he
          have e2 : (xs[k] != ys[k]) = true := by simpa using he
          have hne : xs ≠ ys := fun e => he (by subst e; rfl)
          clear he
          go_wp2
          go_quiet (fail)
          go_wp2
          go_ret
          exact ⟨by simp [hne], hu.drewN _⟩
      · have heq : xs = ys := by
          apply List.ext_getElem? 
          intro j
          by_cases hj : j < k
          · exact HALL.out j hj
          · have := HL.out
            rw [List.getElem?_eq_none (by omega), List.getElem?_eq_none (by omega)]
        have HEQ := Lib.hid heq
        clear heq
        go_wp2
        go_ret
        exact ⟨by simp [HEQ.out], hu⟩
  · have hne : xs ≠ ys := fun e => hl (by rw [e])
    have hl2 : ((xs.length : Int) != (ys.length : Int)) = true := by simp; omega
    have hl3 : (xs.length != ys.length) = true := by simpa using hl
    have hl4 : (xs.length == ys.length) = false := by simpa using hl
    have hl5 : ((xs.length : Int) == (ys.length : Int)) = false := by simp; omega
    clear hx hy
    go_enter Try.func38, Try.ntmps38
    go_wp2
    go_ret
    exact ⟨by simp [hne], Upd.refl _ _⟩

set_option maxRecDepth 100000 in
set_option maxHeartbeats 1000000 in
theorem msame_any {w : World} {b g b2 g2 : Nat} {lo st lo2 st2 : Int} {xs : List Int} (h : Mem w b g lo st xs) (h2 : Mem w b2 g2 lo2 st2 xs) :
    Calls Try.prog 40 #[.pointer (some ⟨b, 0, none⟩), .pointer (some ⟨b2, 0, none⟩)] w fun e w' => e = .returned (.bool true) ∧ Upd [] w w' := by
  have H := Lib.hid h
  have H2 := Lib.hid h2
  have hl := h.len
  clear h h2
  go_enter Try.func40, Try.ntmps40
  go_wp2
  go_step3
  go_wp2_with (first
    | (go_at_call 18; refine (all_any H.out).mono ?_; rintro e w1 ⟨g3, rfl, hg3, hc3, hu1⟩; have HC3 := Lib.hid hc3; have HU1 := Lib.hid hu1; clear H hc3 hu1)
    | (go_at_call 18; refine (all_any (H2.out.keep HU1.out (by simp) (by simp))).mono ?_; rintro e w2 ⟨g4, rfl, hg4, hc4, hu2⟩; have HC4 := Lib.hid hc4; have HU2 := Lib.hid hu2; clear hc4 hu2))
  go_step3
  go_wp2
  have HC3' := Lib.hid (HU2.out.keepb HC3.out (by simp))
  go_loopg [7, 20] xs.length (fun n v i wr => ∃ k : Nat, n = xs.length - k ∧ k ≤ xs.length ∧ v = .bool true ∧ i = .int .i64 k ∧ Upd [] w2 wr)
  case atStart => exact ⟨0, by omega, by omega, by simp, rfl, Upd.refl _ _⟩
  case round =>
    obtain ⟨k, rfl, hk, rfl, rfl, hu⟩ := hrel
    by_cases hlt : k < xs.length
    · have r1 : wr.cell? ⟨g3, k, none⟩ = some (.int .u32 xs[k]) := u32_cell (hu.keepb HC3'.out (by simp)) hlt
      have r2 : wr.cell? ⟨g4, k, none⟩ = some (.int .u32 xs[k]) := u32_cell (hu.keepb HC4.out (by simp)) hlt
      go_wp2
      go_quiet (fail)
      go_wp2
      go_roundg (xs.length - (k + 1))
      case rel => exact ⟨k + 1, rfl, by omega, by simp, by go_num, hu.drewN _⟩
      case measure => omega
    · go_wp2
      rw [Exit.noGoto_ret]
      go_ret
      exact ⟨rfl, (HU1.out.trans HU2.out).trans hu⟩

/-- Words that a kind of 32 bits holds. -/
def U32s (xs : List Int) : Prop := ∀ x ∈ xs, 0 ≤ x ∧ x ≤ 4294967295
theorem U32s.set {xs : List Int} (h : U32s xs) (i : Nat) {v : Int} (h0 : 0 ≤ v) (h1 : v ≤ 4294967295) : U32s (xs.set i v) := fun x hx => by
  rcases List.mem_or_eq_of_mem_set hx with h' | rfl
  · exact h x h'
  · exact ⟨h0, h1⟩
theorem wordop_bounds (o : Bool) (a b : Int) : 0 ≤ wordop o a b ∧ wordop o a b ≤ 4294967295 := by
  have := wordUp_bounds (fun j => bitop o (rbit a j) (rbit b j)) 32 0
  rw [← wordop_eq] at this
  refine ⟨this.1, ?_⟩
  have := this.2
  simp at this
  omega
theorem stepMS_u32 (op ai x : Int) {m : MS} (h : U32s m.xs) (x0 : 0 ≤ x) (x1 : x ≤ 4294967295) : U32s (stepMS op ai x m).1.xs := by
  unfold stepMS
  split
  · rename_i hR
    have hr : 0 ≤ ai ∧ ai < m.xs.length := by simpa [inR] using hR
    have hb : 0 ≤ m.xs.getD ai.toNat 0 ∧ m.xs.getD ai.toNat 0 ≤ 4294967295 := by
      rw [getD_at _ _ (by omega)]
      exact h _ (List.getElem_mem _)
    split
    · exact h
    split
    · exact h.set _ x0 x1
    split
    · exact h.set _ x0 x1
    split
    · rw [or_word hb.1 hb.2 x0 x1]; exact h.set _ (wordop_bounds _ _ _).1 (wordop_bounds _ _ _).2
    split
    · rw [and_word hb.1 hb.2 x0 x1]; exact h.set _ (wordop_bounds _ _ _).1 (wordop_bounds _ _ _).2
    exact h
  · exact h
theorem stepMS_len (op ai x : Int) (m : MS) : (stepMS op ai x m).1.xs.length = m.xs.length := by
  unfold stepMS
  repeat' split
  all_goals simp
theorem stepMS_lo (op ai x : Int) (m : MS) : m.lo ≤ (stepMS op ai x m).1.lo ∧ (stepMS op ai x m).1.lo ≤ m.lo + 1 := by
  unfold stepMS
  repeat' split
  all_goals (dsimp only; omega)
theorem stepMS_st (op ai x : Int) (m : MS) : m.st ≤ (stepMS op ai x m).1.st ∧ (stepMS op ai x m).1.st ≤ m.st + 1 := by
  unfold stepMS
  repeat' split
  all_goals (dsimp only; omega)

theorem ref_do_any (op ai x : Int) (B : Nat) {W : World} {v : Value} {m : MS} (hown : W.ownsRow B 23 1 v m.xs.length (u32s m.xs)) (hB : B ≤ W.heap.size) (hn : m.xs.length ≤ 1000000)
    (hst0 : 0 ≤ m.st) (hst : m.st < 1000000) (hlo0 : 0 ≤ m.lo) (hlo : m.lo < 1000000) (x0 : 0 ≤ x) (x1 : x ≤ 4294967295) (hu : U32s m.xs) :
    Calls Try.prog 36 #[.agg #[v, .int .i64 m.lo, .int .i64 m.st], .agg #[.int .i64 op, .int .i64 ai, .int .u32 x]] W (DoRPost B W (stepMS op ai x m)) := by
  by_cases hi : 0 ≤ ai ∧ ai < m.xs.length
  · obtain ⟨n, rfl⟩ := Int.eq_ofNat_of_zero_le hi.1
    have hlt : n < m.xs.length := by omega
    have hR : inR (n : Int) m.xs.length = true := by simp [inR]; omega
    have hb := hu m.xs[n] (List.getElem_mem _)
    by_cases e1 : op = 1
    · subst e1
      rw [show stepMS 1 n x m = (⟨m.lo + 1, m.st, m.xs⟩, m.xs[n], true) by simp [stepMS, hR, List.getElem?_eq_getElem hlt]]
      exact ref_do1 n x B hown hB hlt hn hst0 hst hlo0 hlo
    by_cases e2 : op = 2
    · subst e2
      rw [show stepMS 2 n x m = (⟨m.lo, m.st + 1, m.xs.set n x⟩, 0, true) by simp [stepMS, hR, List.getElem?_eq_getElem hlt]]
      exact ref_do2 n x B hown hB hlt hn hst0 hst hlo0 hlo
    by_cases e3 : op = 3
    · subst e3
      rw [show stepMS 3 n x m = (⟨m.lo + 1, m.st + 1, m.xs.set n x⟩, m.xs[n], true) by simp [stepMS, hR, List.getElem?_eq_getElem hlt]]
      exact ref_do3 n x B hown hB hlt hn hst0 hst hlo0 hlo
    by_cases e4 : op = 4
    · subst e4
      rw [show stepMS 4 n x m = (⟨m.lo + 1, m.st + 1, m.xs.set n (wordop true m.xs[n] x)⟩, m.xs[n], true) by rw [← or_word hb.1 hb.2 x0 x1]; simp [stepMS, hR, List.getElem?_eq_getElem hlt]]
      exact ref_do4 n x B hown hB hlt hn hst0 hst hlo0 hlo x0 x1 hb.1 hb.2
    by_cases e5 : op = 5
    · subst e5
      rw [show stepMS 5 n x m = (⟨m.lo + 1, m.st + 1, m.xs.set n (wordop false m.xs[n] x)⟩, m.xs[n], true) by rw [← and_word hb.1 hb.2 x0 x1]; simp [stepMS, hR, List.getElem?_eq_getElem hlt]]
      exact ref_do5 n x B hown hB hlt hn hst0 hst hlo0 hlo x0 x1 hb.1 hb.2
    rw [show stepMS op n x m = (m, 0, false) by simp [stepMS, e1, e2, e3, e4, e5]]
    exact ref_do_none op n x B hown hB (by omega)
  · have hR : inR ai m.xs.length = false := by simpa [inR] using hi
    rw [show stepMS op ai x m = (m, 0, false) by simp [stepMS, hR]]
    exact ref_do_none op ai x B hown hB (by omega)
end Go.Proofs.Ytfdidgobgeohcaa
