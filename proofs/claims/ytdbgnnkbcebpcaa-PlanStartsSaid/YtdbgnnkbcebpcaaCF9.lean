/- Package conf: Check. -/
import Derived.Test.YtdbgnnkbcebpcaaCF8
import Derived.Deep.LoopGhost
import Derived.Outline
set_option linter.unusedVariables false
set_option linter.unusedSimpArgs false
namespace Go.Proofs.Ytdbgnnkbcebpcaa
open Go.RowKit

/-- The first of faults that is one. -/
def scan : List Int → Nat → Option (Int × Nat)
  | [], _ => none
  | f :: l, i => if f = 0 then scan l (i + 1) else some (f, i)
theorem scan_none {l : List Int} (h : ∀ j, j < l.length → l[j]? = some 0) : ∀ n, scan l n = none := by
  induction l with
  | nil => intro n; rfl
  | cons f l ih =>
    intro n
    have h0 := h 0 (by simp)
    simp at h0
    rw [scan, if_pos h0]
    exact ih (fun j hj => by have := h (j + 1) (by simpa using hj); simpa using this) _
theorem scan_at {l : List Int} {i : Nat} {f : Int} (h : ∀ j, j < i → l[j]? = some 0) (hi : l[i]? = some f) (hf : f ≠ 0) : ∀ n, scan l n = some (f, n + i) := by
  induction l generalizing i with
  | nil => simp at hi
  | cons g l ih =>
    intro n
    cases i with
    | zero => simp at hi; subst hi; rw [scan, if_neg hf]; rfl
    | succ i =>
      have h0 := h 0 (by omega)
      simp at h0
      rw [scan, if_pos h0, ih (i := i) (fun j hj => by have := h (j + 1) (by omega); simpa using this) (by simpa using hi) (n + 1)]
      congr 2
      omega
def CF.bad (c : CF) : Int × Int × Int :=
  match scan (c.faults 1) 0 with
  | some (f, i) => (f, 1, i)
  | none => match scan (c.faults 2) 0 with
    | some (f, i) => (f, 2, i)
    | none => match scan (c.faults 3) 0 with
      | some (f, i) => (f, 3, i)
      | none => match scan (c.faults 4) 0 with
        | some (f, i) => (f, 4, i)
        | none => (0, 0, 0)
def badV (b : Int × Int × Int) : Value := .agg #[.int .i64 b.1, .int .i64 b.2.1, .int .i64 b.2.2]
theorem bad_none {c : CF} (h : ∀ p, 1 ≤ p → p < 5 → scan (c.faults p) 0 = none) : c.bad = (0, 0, 0) := by
  unfold CF.bad
  rw [h 1 (by omega) (by omega), h 2 (by omega) (by omega), h 3 (by omega) (by omega), h 4 (by omega) (by omega)]
theorem bad_at {c : CF} {p : Nat} {i : Nat} {f : Int} (hp : 1 ≤ p) (hp4 : p < 5) (h : ∀ q, 1 ≤ q → q < p → scan (c.faults q) 0 = none) (hs : scan (c.faults p) 0 = some (f, i)) : c.bad = (f, (p : Int), (i : Int)) := by
  have : p = 1 ∨ p = 2 ∨ p = 3 ∨ p = 4 := by omega
  unfold CF.bad
  rcases this with rfl | rfl | rfl | rfl
  · rw [hs]; rfl
  · rw [h 1 (by omega) (by omega), hs]; rfl
  · rw [h 1 (by omega) (by omega), h 2 (by omega) (by omega), hs]; rfl
  · rw [h 1 (by omega) (by omega), h 2 (by omega) (by omega), h 3 (by omega) (by omega), hs]; rfl

theorem run_index5 (a b c d e : Value) (w : World) (r : Nat) (h : r < 5) : (Instr.index 163 (.agg #[a, b, c, d, e]) (.int .i64 r)).run Try.prog w = .ok (#[a, b, c, d, e].getD r undef) w := by
  have hu := Try.underlying163
  have hs : (Try.prog.info? 162).map (·.size) = some 1 := by kernel_rfl
  obtain ⟨i, hi, hsz⟩ : ∃ i, Try.prog.info? 162 = some i ∧ i.size = 1 := by
    cases hx : Try.prog.info? 162 with
    | none => rw [hx] at hs; cases hs
    | some i => rw [hx] at hs; exact ⟨i, rfl, by simpa using hs⟩
  have hg : ∀ x : Value, (isAgg 162).run Try.prog w = .ok false w := fun _ => by kernel_rfl
  have hc : r = 0 ∨ r = 1 ∨ r = 2 ∨ r = 3 ∨ r = 4 := by omega
  rcases hc with rfl | rfl | rfl | rfl | rfl <;> simp [Instr.index, asIntOf, run_underlying hu, sizeOf, typeInfo, hi, hsz, part, hg undef]
theorem heap_set2c {w : World} {g i : Nat} {v : Value} {cs ds : Array Value} {t : TypeId} {f : Nat × Nat} (h : w.heap[g]? = some (.cells cs t f)) (e : cs.setIfInBounds i v = ds) : (w.setCell ⟨g, i, none⟩ v).heap[g]? = some (.cells ds t f) := by
  rw [heap_set h, e]
theorem info_bad (a b c : Value) : (Try.prog.info? 138).map (·.size) = some (#[a, b, c] : Array Value).size := by kernel_rfl

section
variable {ta la oa : Option Addr} (tc lc oc : Nat) {c : CF} {w : World}
set_option maxRecDepth 100000 in
set_option maxHeartbeats 8000000 in
theorem check_c (h : CFR w ta la oa c) : Calls Try.prog 59 #[.agg (cfA ta c.ts.length tc la c.ls.length lc oa c.os.length oc c.tk)] w fun e w' => e = .returned (badV c.bad) ∧ Upd [] w w' := by
  have HC := Lib.hid h
  have hmf : ∀ (fn : Fn) (first cap : Array Value) (w : World), (Instr.makeFunc fn first cap).run Try.prog w = .ok (.func fn first cap) w := fun _ _ _ _ => rfl
  have hx0 : ∀ (a b c d e : Value) (w : World), (Instr.index 163 (.agg #[a, b, c, d, e]) (.int .i64 0)).run Try.prog w = .ok a w := fun a b c d e w => run_index5 a b c d e w 0 (by omega)
  have hx1 : ∀ (a b c d e : Value) (w : World), (Instr.index 163 (.agg #[a, b, c, d, e]) (.int .i64 1)).run Try.prog w = .ok b w := fun a b c d e w => run_index5 a b c d e w 1 (by omega)
  have hx2 : ∀ (a b c d e : Value) (w : World), (Instr.index 163 (.agg #[a, b, c, d, e]) (.int .i64 2)).run Try.prog w = .ok c w := fun a b c d e w => run_index5 a b c d e w 2 (by omega)
  have hx3 : ∀ (a b c d e : Value) (w : World), (Instr.index 163 (.agg #[a, b, c, d, e]) (.int .i64 3)).run Try.prog w = .ok d w := fun a b c d e w => run_index5 a b c d e w 3 (by omega)
  have hx4 : ∀ (a b c d e : Value) (w : World), (Instr.index 163 (.agg #[a, b, c, d, e]) (.int .i64 4)).run Try.prog w = .ok e w := fun a b c d e w => run_index5 a b c d e w 4 (by omega)
  have heq : ∀ (fn : Fn) (first cap : Array Value) (w : World), (binOp .eql 162 (.func fn first cap) .nilFunc).run Try.prog w = .ok (.bool false) w := fun _ _ _ _ => by kernel_rfl
  have heq0 : ∀ (w : World), (binOp .eql 162 .nilFunc .nilFunc).run Try.prog w = .ok (.bool true) w := fun _ => by kernel_rfl
  have HL := Lib.hid (show (c.faults 1).length = 4 ∧ (c.faults 2).length = c.ts.length ∧ (c.faults 3).length = c.ls.length ∧ (c.faults 4).length = c.os.length from ⟨rfl, by simp [CF.faults], by simp [CF.faults], by simp [CF.faults]⟩)
  have HT := Lib.hid (And.intro h.tn (And.intro h.ln h.on))
  have HP1 := Lib.hid (fun (w' : World) (hu : Upd [] w w') (a : Nat) (ha : a ≤ 4) => counts_c tc lc oc (h.upd hu) a ha)
  have HP2 := Lib.hid (fun (w' : World) (hu : Upd [] w w') (a : Nat) (ha : a ≤ c.ts.length) => tasks_c tc lc oc (h.upd hu) a ha)
  have HP3 := Lib.hid (fun (w' : World) (hu : Upd [] w w') (a : Nat) (ha : a ≤ c.ls.length) => levels_c tc lc oc (h.upd hu) a ha)
  have HP4 := Lib.hid (fun (w' : World) (hu : Upd [] w w') (a : Nat) (ha : a ≤ c.os.length) => objects_c tc lc oc (h.upd hu) a ha)
  clear h
  unfold cfA at *
  go_enter Try.func59, Try.ntmps59
  go_wp2
  go_step3
  go_wp2
  go_step3
  go_wp2
  go_loopg [20] 5 (fun m i wr => ∃ k : Nat, m + k = 5 ∧ i = .int .i64 k ∧ (∀ p, 1 ≤ p → p < k → scan (c.faults p) 0 = none) ∧ wr.heap[w.heap.size + 1]? = some (.cells [.int .i64 0, .int .i64 0, .int .i64 0].toArray 138) ∧ Upd [] w wr)
  case atStart => exact ⟨0, rfl, rfl, fun p h1 h2 => by omega, heap_alloc' (heap_alloc_at _ (by simp)), (((Upd.refl _ _).alloc _).alloc _).alloc _⟩
  case round =>
    obtain ⟨k, hk, rfl, hno, hb, hu⟩ := hrel
    have HNO := Lib.hid hno
    have HB := Lib.hid hb
    have HU := Lib.hid hu
    have HK := Lib.hid hk
    have hk5 : k = 0 ∨ k = 1 ∨ k = 2 ∨ k = 3 ∨ k = 4 ∨ k = 5 := by omega
    clear hno hb hu hk
    rcases hk5 with rfl | rfl | rfl | rfl | rfl | rfl
    · go_wp2
      have hk := HK.out
      go_roundg (gk - 1)
      case measure => omega
      case rel => exact ⟨1, by omega, by go_num, fun p h1 h2 => by omega, HB.out, HU.out⟩
    · go_wp2
      go_loopg [6] 4 (fun m i w3 => ∃ a : Nat, m + a = 4 ∧ i = .int .i64 a ∧ (∀ j, j < a → (c.faults 1)[j]? = some 0) ∧ w3.heap[w.heap.size + 1]? = some (.cells [.int .i64 0, .int .i64 0, .int .i64 0].toArray 138) ∧ Upd [] w w3)
      case atStart => exact ⟨0, by omega, rfl, fun j h => by omega, HB.out, HU.out⟩
      case round =>
        obtain ⟨a, ha, rfl, hz, hb, hu⟩ := hrel
        have HA := Lib.hid ha
        have HZ := Lib.hid hz
        have HU3 := Lib.hid hu
        have HB3 := Lib.hid hb
        have hale : a ≤ 4 := by omega
        have hab : (a : Int) ≤ 1000 := by have := HT.out; omega
        have HCALL := Lib.hid (HP1.out _ hu a hale)
        clear ha hz hb hu
        go_wp2_with fail
        refine HCALL.out.mono ?_
        rintro e w4 ⟨he, hu4⟩
        have HB4 := Lib.hid (hu4.keepb HB3.out (by simp))
        have HU4 := Lib.hid (HU3.out.trans hu4)
        by_cases hlt : a < 4
        · obtain ⟨f, hf⟩ : ∃ f, (c.faults 1)[a]? = some f := ⟨_, List.getElem?_eq_getElem (by rw [HL.out.1]; exact hlt)⟩
          rw [hf] at he
          subst he
          unfold ansV
          have HF := Lib.hid hf
          clear hf hu4 hlt
          by_cases h0 : f = 0
          · subst h0
            go_wp2
            have ha := HA.out
            have hlt : a < 4 := by
              have := (List.getElem?_eq_some_iff.1 HF.out).1
              rw [HL.out.1] at this
              exact this
            go_roundg (4 - (a + 1))
            case measure => omega
            case rel =>
              refine ⟨a + 1, by omega, by go_num, fun j hj => ?_, HB4.out, HU4.out⟩
              by_cases e : j = a
              · subst e; exact HF.out
              · exact HZ.out j (by omega)
          · have q : (f != 0) = true := by simpa using h0
            have HBAD := Lib.hid (bad_at (c := c) (p := 1) (by omega) (by omega) HNO.out (scan_at HZ.out HF.out h0 0))
            obtain ⟨m0, m1, m2⟩ := cells3 HB4.out
            have zf := fun i => frozen_of_heap HB4.out i
            have zl := heap_lt HB4.out
            clear h0
            go_wp2
            have HS := Lib.hid (show ((((w4.setCell ⟨w.heap.size + 1, 0, none⟩ (.int .i64 f)).setCell ⟨w.heap.size + 1, 1, none⟩ (.int .i64 1)).setCell ⟨w.heap.size + 1, 2, none⟩ (.int .i64 a))).heap[w.heap.size + 1]? = some (.cells #[.int .i64 f, .int .i64 1, .int .i64 a] 138) from by rw [heap_set (heap_set (heap_set HB4.out _ _) _ _)]; rfl)
            rw [Exit.noGoto_ret]
            refine bodyPost_ret (v := .agg #[.int .i64 f, .int .i64 1, .int .i64 a]) (results_cell_row rfl _ _ (w.heap.size + 1) 138 #[.int .i64 f, .int .i64 1, .int .i64 a] (0, 0) _ rfl ?hg1 Try.underlying138 rfl (info_bad _ _ _)) rfl ?_
            case hg1 =>
              repeat (first | (with_reducible exact HB4.out) | (with_reducible apply heap_set2c))
              all_goals rfl
            · rw [HBAD.out]
              refine ⟨by simp [badV], ?_⟩
              refine Upd.then (S := []) (S' := [w.heap.size + 1]) HU4.out ?_ (fun i hi => .inr (by simp at hi; omega))
              repeat (first | (with_reducible exact Upd.refl _ _) | (with_reducible refine Upd.setCell ?_ (by simp) _))
        · have hf : (c.faults 1)[a]? = none := List.getElem?_eq_none (by rw [HL.out.1]; omega)
          rw [hf] at he
          subst he
          unfold ansV
          have HE := Lib.hid (show a = 4 by omega)
          clear hf hu4 hlt
          go_wp2
          have hk := HK.out
          go_roundg (5 - 2)
          case measure => omega
          case rel =>
            refine ⟨2, by omega, by go_num, fun p h1 h2 => ?_, HB4.out, HU4.out⟩
            by_cases e : p = 1
            · subst e
              exact scan_none (fun j hj => HZ.out j (by have := HE.out; rw [HL.out.1] at hj; omega)) 0
            · exact HNO.out p h1 (by omega)
    · go_wp2
      go_loopg [6] c.ts.length (fun m i w3 => ∃ a : Nat, m + a = c.ts.length ∧ i = .int .i64 a ∧ (∀ j, j < a → (c.faults 2)[j]? = some 0) ∧ w3.heap[w.heap.size + 1]? = some (.cells [.int .i64 0, .int .i64 0, .int .i64 0].toArray 138) ∧ Upd [] w w3)
      case atStart => exact ⟨0, by omega, rfl, fun j h => by omega, HB.out, HU.out⟩
      case round =>
        obtain ⟨a, ha, rfl, hz, hb, hu⟩ := hrel
        have HA := Lib.hid ha
        have HZ := Lib.hid hz
        have HU3 := Lib.hid hu
        have HB3 := Lib.hid hb
        have hale : a ≤ c.ts.length := by omega
        have hab : (a : Int) ≤ 1000 := by have := HT.out; omega
        have HCALL := Lib.hid (HP2.out _ hu a hale)
        clear ha hz hb hu
        go_wp2_with fail
        refine HCALL.out.mono ?_
        rintro e w4 ⟨he, hu4⟩
        have HB4 := Lib.hid (hu4.keepb HB3.out (by simp))
        have HU4 := Lib.hid (HU3.out.trans hu4)
        by_cases hlt : a < c.ts.length
        · obtain ⟨f, hf⟩ : ∃ f, (c.faults 2)[a]? = some f := ⟨_, List.getElem?_eq_getElem (by rw [HL.out.2.1]; exact hlt)⟩
          rw [hf] at he
          subst he
          unfold ansV
          have HF := Lib.hid hf
          clear hf hu4 hlt
          by_cases h0 : f = 0
          · subst h0
            go_wp2
            have ha := HA.out
            have hlt : a < c.ts.length := by
              have := (List.getElem?_eq_some_iff.1 HF.out).1
              rw [HL.out.2.1] at this
              exact this
            go_roundg (c.ts.length - (a + 1))
            case measure => omega
            case rel =>
              refine ⟨a + 1, by omega, by go_num, fun j hj => ?_, HB4.out, HU4.out⟩
              by_cases e : j = a
              · subst e; exact HF.out
              · exact HZ.out j (by omega)
          · have q : (f != 0) = true := by simpa using h0
            have HBAD := Lib.hid (bad_at (c := c) (p := 2) (by omega) (by omega) HNO.out (scan_at HZ.out HF.out h0 0))
            obtain ⟨m0, m1, m2⟩ := cells3 HB4.out
            have zf := fun i => frozen_of_heap HB4.out i
            have zl := heap_lt HB4.out
            clear h0
            go_wp2
            have HS := Lib.hid (show ((((w4.setCell ⟨w.heap.size + 1, 0, none⟩ (.int .i64 f)).setCell ⟨w.heap.size + 1, 1, none⟩ (.int .i64 2)).setCell ⟨w.heap.size + 1, 2, none⟩ (.int .i64 a))).heap[w.heap.size + 1]? = some (.cells #[.int .i64 f, .int .i64 2, .int .i64 a] 138) from by rw [heap_set (heap_set (heap_set HB4.out _ _) _ _)]; rfl)
            rw [Exit.noGoto_ret]
            refine bodyPost_ret (v := .agg #[.int .i64 f, .int .i64 2, .int .i64 a]) (results_cell_row rfl _ _ (w.heap.size + 1) 138 #[.int .i64 f, .int .i64 2, .int .i64 a] (0, 0) _ rfl ?hg2 Try.underlying138 rfl (info_bad _ _ _)) rfl ?_
            case hg2 =>
              repeat (first | (with_reducible exact HB4.out) | (with_reducible apply heap_set2c))
              all_goals rfl
            · rw [HBAD.out]
              refine ⟨by simp [badV], ?_⟩
              refine Upd.then (S := []) (S' := [w.heap.size + 1]) HU4.out ?_ (fun i hi => .inr (by simp at hi; omega))
              repeat (first | (with_reducible exact Upd.refl _ _) | (with_reducible refine Upd.setCell ?_ (by simp) _))
        · have hf : (c.faults 2)[a]? = none := List.getElem?_eq_none (by rw [HL.out.2.1]; omega)
          rw [hf] at he
          subst he
          unfold ansV
          have HE := Lib.hid (show a = c.ts.length by omega)
          clear hf hu4 hlt
          go_wp2
          have hk := HK.out
          go_roundg (5 - 3)
          case measure => omega
          case rel =>
            refine ⟨3, by omega, by go_num, fun p h1 h2 => ?_, HB4.out, HU4.out⟩
            by_cases e : p = 2
            · subst e
              exact scan_none (fun j hj => HZ.out j (by have := HE.out; rw [HL.out.2.1] at hj; omega)) 0
            · exact HNO.out p h1 (by omega)
    · go_wp2
      go_loopg [6] c.ls.length (fun m i w3 => ∃ a : Nat, m + a = c.ls.length ∧ i = .int .i64 a ∧ (∀ j, j < a → (c.faults 3)[j]? = some 0) ∧ w3.heap[w.heap.size + 1]? = some (.cells [.int .i64 0, .int .i64 0, .int .i64 0].toArray 138) ∧ Upd [] w w3)
      case atStart => exact ⟨0, by omega, rfl, fun j h => by omega, HB.out, HU.out⟩
      case round =>
        obtain ⟨a, ha, rfl, hz, hb, hu⟩ := hrel
        have HA := Lib.hid ha
        have HZ := Lib.hid hz
        have HU3 := Lib.hid hu
        have HB3 := Lib.hid hb
        have hale : a ≤ c.ls.length := by omega
        have hab : (a : Int) ≤ 1000 := by have := HT.out; omega
        have HCALL := Lib.hid (HP3.out _ hu a hale)
        clear ha hz hb hu
        go_wp2_with fail
        refine HCALL.out.mono ?_
        rintro e w4 ⟨he, hu4⟩
        have HB4 := Lib.hid (hu4.keepb HB3.out (by simp))
        have HU4 := Lib.hid (HU3.out.trans hu4)
        by_cases hlt : a < c.ls.length
        · obtain ⟨f, hf⟩ : ∃ f, (c.faults 3)[a]? = some f := ⟨_, List.getElem?_eq_getElem (by rw [HL.out.2.2.1]; exact hlt)⟩
          rw [hf] at he
          subst he
          unfold ansV
          have HF := Lib.hid hf
          clear hf hu4 hlt
          by_cases h0 : f = 0
          · subst h0
            go_wp2
            have ha := HA.out
            have hlt : a < c.ls.length := by
              have := (List.getElem?_eq_some_iff.1 HF.out).1
              rw [HL.out.2.2.1] at this
              exact this
            go_roundg (c.ls.length - (a + 1))
            case measure => omega
            case rel =>
              refine ⟨a + 1, by omega, by go_num, fun j hj => ?_, HB4.out, HU4.out⟩
              by_cases e : j = a
              · subst e; exact HF.out
              · exact HZ.out j (by omega)
          · have q : (f != 0) = true := by simpa using h0
            have HBAD := Lib.hid (bad_at (c := c) (p := 3) (by omega) (by omega) HNO.out (scan_at HZ.out HF.out h0 0))
            obtain ⟨m0, m1, m2⟩ := cells3 HB4.out
            have zf := fun i => frozen_of_heap HB4.out i
            have zl := heap_lt HB4.out
            clear h0
            go_wp2
            have HS := Lib.hid (show ((((w4.setCell ⟨w.heap.size + 1, 0, none⟩ (.int .i64 f)).setCell ⟨w.heap.size + 1, 1, none⟩ (.int .i64 3)).setCell ⟨w.heap.size + 1, 2, none⟩ (.int .i64 a))).heap[w.heap.size + 1]? = some (.cells #[.int .i64 f, .int .i64 3, .int .i64 a] 138) from by rw [heap_set (heap_set (heap_set HB4.out _ _) _ _)]; rfl)
            rw [Exit.noGoto_ret]
            refine bodyPost_ret (v := .agg #[.int .i64 f, .int .i64 3, .int .i64 a]) (results_cell_row rfl _ _ (w.heap.size + 1) 138 #[.int .i64 f, .int .i64 3, .int .i64 a] (0, 0) _ rfl ?hg3 Try.underlying138 rfl (info_bad _ _ _)) rfl ?_
            case hg3 =>
              repeat (first | (with_reducible exact HB4.out) | (with_reducible apply heap_set2c))
              all_goals rfl
            · rw [HBAD.out]
              refine ⟨by simp [badV], ?_⟩
              refine Upd.then (S := []) (S' := [w.heap.size + 1]) HU4.out ?_ (fun i hi => .inr (by simp at hi; omega))
              repeat (first | (with_reducible exact Upd.refl _ _) | (with_reducible refine Upd.setCell ?_ (by simp) _))
        · have hf : (c.faults 3)[a]? = none := List.getElem?_eq_none (by rw [HL.out.2.2.1]; omega)
          rw [hf] at he
          subst he
          unfold ansV
          have HE := Lib.hid (show a = c.ls.length by omega)
          clear hf hu4 hlt
          go_wp2
          have hk := HK.out
          go_roundg (5 - 4)
          case measure => omega
          case rel =>
            refine ⟨4, by omega, by go_num, fun p h1 h2 => ?_, HB4.out, HU4.out⟩
            by_cases e : p = 3
            · subst e
              exact scan_none (fun j hj => HZ.out j (by have := HE.out; rw [HL.out.2.2.1] at hj; omega)) 0
            · exact HNO.out p h1 (by omega)
    · go_wp2
      go_loopg [6] c.os.length (fun m i w3 => ∃ a : Nat, m + a = c.os.length ∧ i = .int .i64 a ∧ (∀ j, j < a → (c.faults 4)[j]? = some 0) ∧ w3.heap[w.heap.size + 1]? = some (.cells [.int .i64 0, .int .i64 0, .int .i64 0].toArray 138) ∧ Upd [] w w3)
      case atStart => exact ⟨0, by omega, rfl, fun j h => by omega, HB.out, HU.out⟩
      case round =>
        obtain ⟨a, ha, rfl, hz, hb, hu⟩ := hrel
        have HA := Lib.hid ha
        have HZ := Lib.hid hz
        have HU3 := Lib.hid hu
        have HB3 := Lib.hid hb
        have hale : a ≤ c.os.length := by omega
        have hab : (a : Int) ≤ 1000 := by have := HT.out; omega
        have HCALL := Lib.hid (HP4.out _ hu a hale)
        clear ha hz hb hu
        go_wp2_with fail
        refine HCALL.out.mono ?_
        rintro e w4 ⟨he, hu4⟩
        have HB4 := Lib.hid (hu4.keepb HB3.out (by simp))
        have HU4 := Lib.hid (HU3.out.trans hu4)
        by_cases hlt : a < c.os.length
        · obtain ⟨f, hf⟩ : ∃ f, (c.faults 4)[a]? = some f := ⟨_, List.getElem?_eq_getElem (by rw [HL.out.2.2.2]; exact hlt)⟩
          rw [hf] at he
          subst he
          unfold ansV
          have HF := Lib.hid hf
          clear hf hu4 hlt
          by_cases h0 : f = 0
          · subst h0
            go_wp2
            have ha := HA.out
            have hlt : a < c.os.length := by
              have := (List.getElem?_eq_some_iff.1 HF.out).1
              rw [HL.out.2.2.2] at this
              exact this
            go_roundg (c.os.length - (a + 1))
            case measure => omega
            case rel =>
              refine ⟨a + 1, by omega, by go_num, fun j hj => ?_, HB4.out, HU4.out⟩
              by_cases e : j = a
              · subst e; exact HF.out
              · exact HZ.out j (by omega)
          · have q : (f != 0) = true := by simpa using h0
            have HBAD := Lib.hid (bad_at (c := c) (p := 4) (by omega) (by omega) HNO.out (scan_at HZ.out HF.out h0 0))
            obtain ⟨m0, m1, m2⟩ := cells3 HB4.out
            have zf := fun i => frozen_of_heap HB4.out i
            have zl := heap_lt HB4.out
            clear h0
            go_wp2
            have HS := Lib.hid (show ((((w4.setCell ⟨w.heap.size + 1, 0, none⟩ (.int .i64 f)).setCell ⟨w.heap.size + 1, 1, none⟩ (.int .i64 4)).setCell ⟨w.heap.size + 1, 2, none⟩ (.int .i64 a))).heap[w.heap.size + 1]? = some (.cells #[.int .i64 f, .int .i64 4, .int .i64 a] 138) from by rw [heap_set (heap_set (heap_set HB4.out _ _) _ _)]; rfl)
            rw [Exit.noGoto_ret]
            refine bodyPost_ret (v := .agg #[.int .i64 f, .int .i64 4, .int .i64 a]) (results_cell_row rfl _ _ (w.heap.size + 1) 138 #[.int .i64 f, .int .i64 4, .int .i64 a] (0, 0) _ rfl ?hg4 Try.underlying138 rfl (info_bad _ _ _)) rfl ?_
            case hg4 =>
              repeat (first | (with_reducible exact HB4.out) | (with_reducible apply heap_set2c))
              all_goals rfl
            · rw [HBAD.out]
              refine ⟨by simp [badV], ?_⟩
              refine Upd.then (S := []) (S' := [w.heap.size + 1]) HU4.out ?_ (fun i hi => .inr (by simp at hi; omega))
              repeat (first | (with_reducible exact Upd.refl _ _) | (with_reducible refine Upd.setCell ?_ (by simp) _))
        · have hf : (c.faults 4)[a]? = none := List.getElem?_eq_none (by rw [HL.out.2.2.2]; omega)
          rw [hf] at he
          subst he
          unfold ansV
          have HE := Lib.hid (show a = c.os.length by omega)
          clear hf hu4 hlt
          go_wp2
          have hk := HK.out
          go_roundg (5 - 5)
          case measure => omega
          case rel =>
            refine ⟨5, by omega, by go_num, fun p h1 h2 => ?_, HB4.out, HU4.out⟩
            by_cases e : p = 4
            · subst e
              exact scan_none (fun j hj => HZ.out j (by have := HE.out; rw [HL.out.2.2.2] at hj; omega)) 0
            · exact HNO.out p h1 (by omega)
    · obtain ⟨m0, m1, m2⟩ := cells3 HB.out
      have zf := fun i => frozen_of_heap HB.out i
      have zl := heap_lt HB.out
      go_wp2
      rw [Exit.noGoto_ret]
      refine bodyPost_ret (v := .agg #[.int .i64 0, .int .i64 0, .int .i64 0]) (results_cell_row rfl _ _ (w.heap.size + 1) 138 #[.int .i64 0, .int .i64 0, .int .i64 0] (0, 0) _ rfl ?hg Try.underlying138 rfl (info_bad _ _ _)) rfl ?_
      case hg =>
        rw [heap_set (heap_set (heap_set HB.out _ _) _ _)]
        rfl
      · rw [bad_none HNO.out]
        exact ⟨rfl, Upd.then (S := []) HU.out ((((Upd.refl [w.heap.size + 1] _).setCell (by simp) _).setCell (by simp) _).setCell (by simp) _) (fun i hi => .inr (by simp at hi; omega))⟩
end
end Go.Proofs.Ytdbgnnkbcebpcaa
