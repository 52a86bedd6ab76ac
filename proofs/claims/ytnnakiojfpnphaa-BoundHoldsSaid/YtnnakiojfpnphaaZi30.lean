/- The walk, part 30: BD6 BD7. -/
import Derived.Test.YtnnakiojfpnphaaZi29
import Derived.Deep.MidRow
import Derived.Deep.RegionHeld3
import Derived.Deep.CutRange
set_option linter.unusedVariables false
set_option linter.unusedSimpArgs false

namespace Go.Proofs.Ytnnakiojfpnphaa
open Go.RowKit
def plA (k cap wd rt : Int) : Array Value := #[.int .i64 k, .int .i64 0, .int .i64 cap, .int .i64 wd, .int .i64 rt]
def callA (kind obj x0 x1 x2 x3 cn : Int) : Array Value := #[.int .i64 kind, .int .i64 obj, .int .u32 x0, .int .u32 x1, .int .u32 x2, .int .u32 x3, .int .u32 cn]
def kinds (kind : Int) : Bool := decide (1 ≤ kind ∧ kind ≤ 9 ∨ kind = 16 ∨ kind = 17)
theorem pw7_cap5 {cap : Int} (h : pw7 cap = true) : Cap5 cap := by
  have : cap = 1 ∨ cap = 2 ∨ cap = 4 ∨ cap = 8 ∨ cap = 16 ∨ cap = 32 ∨ cap = 64 := by simpa [pw7] using h
  exact this
theorem right_ring7 {cap wd rt : Int} (h : rightB 1 cap wd rt = true) : pw7 cap = true := by
  unfold rightB at h
  simp at h
  exact h.2.1
/-- What comes for a call on a right place: a routine that keeps to its bound, or none. -/
theorem dof_any {k cap wd rt : Int} (kind obj x0 x1 x2 x3 cn : Int) (hr : rightB k cap wd rt = true) (hk : kinds kind = true) (W : World) :
    Calls Try.prog 51 #[.agg (plA k cap wd rt), .agg (callA kind obj x0 x1 x2 x3 cn)] W fun e w' => Upd [] W w' ∧ ((∃ T v, e = .returned (.tuple #[.iface T v, .bool true]) ∧ BR kind wd (actsP kind k wd rt) W.heap.size T v w') ∨ (actsP kind k wd rt = 0 ∧ e = .returned (.tuple #[.nilIface, .bool false]))) := by
  have hkc : kind = 1 ∨ kind = 2 ∨ kind = 3 ∨ kind = 4 ∨ kind = 5 ∨ kind = 6 ∨ kind = 7 ∨ kind = 8 ∨ kind = 9 ∨ kind = 16 ∨ kind = 17 := by
    unfold kinds at hk
    simp at hk
    omega
  have hcs := right_kind hr
  rcases hcs with ⟨rfl, hw1, hw4, hc1, hc2, rfl⟩ | ⟨rfl, hw1, hw4, rfl, rfl⟩ | ⟨rfl, hw1, hw4, rfl, hrt0, hrt8⟩ | ⟨rfl, rfl, rfl, rfl⟩
  · have h5 := pw7_cap5 (right_ring7 hr)
    by_cases h1 : kind = 1
    · subst h1
      exact (dof_push cap wd obj x0 x1 x2 x3 cn h5 ⟨hw1, hw4⟩ W).mono fun e w' ⟨b, he, hb, hst, hu⟩ => ⟨hu, .inl ⟨_, _, he, (br_push h5 ⟨hw1, hw4⟩ hst rfl rfl).mono hb⟩⟩
    by_cases h2 : kind = 2
    · subst h2
      exact (dof_pop cap wd obj x0 x1 x2 x3 cn h5 ⟨hw1, hw4⟩ W).mono fun e w' ⟨b, he, hb, hst, hu⟩ => ⟨hu, .inl ⟨_, _, he, (br_pop h5 ⟨hw1, hw4⟩ hst rfl rfl).mono hb⟩⟩
    exact (dof_none1 0 cap wd 0 obj x0 x1 x2 x3 cn kind (by omega) W).mono fun e w' ⟨he, hu⟩ => ⟨hu, .inr ⟨by unfold actsP; rw [if_pos rfl, if_neg (by omega)], he⟩⟩
  · obtain ⟨w, rfl⟩ : ∃ w : Nat, wd = (w : Int) := ⟨wd.toNat, by omega⟩
    by_cases h1 : kind = 3
    · subst h1
      exact (dof_fw 0 w obj x0 x1 x2 x3 cn ⟨hw1, hw4⟩ W).mono fun e w' ⟨b, he, hb, hst, hu⟩ => ⟨hu, .inl ⟨_, _, he, (br_fw (by omega) hst).mono hb⟩⟩
    by_cases h2 : kind = 4
    · subst h2
      exact (dof_fr 0 w obj x0 x1 x2 x3 cn ⟨hw1, hw4⟩ W).mono fun e w' ⟨b, he, hb, hst, hu⟩ => ⟨hu, .inl ⟨_, _, he, (br_fr (by omega) hst).mono hb⟩⟩
    exact (dof_none2 0 0 w 0 obj x0 x1 x2 x3 cn kind (by omega) W).mono fun e w' ⟨he, hu⟩ => ⟨hu, .inr ⟨by unfold actsP; rw [if_neg (by omega), if_pos rfl, if_neg (by omega), if_neg (by omega)], he⟩⟩
  · by_cases h1 : kind = 3
    · subst h1
      exact (dof_lw 0 wd rt obj x0 x1 x2 x3 cn ⟨hw1, hw4⟩ ⟨hrt0, hrt8⟩ W).mono fun e w' ⟨b, he, hb, hst, hu⟩ => ⟨hu, .inl ⟨_, _, he, (br_lw (by omega) ⟨hw1, hw4⟩ ⟨hrt0, hrt8⟩ hst).mono hb⟩⟩
    by_cases h2 : kind = 5
    · subst h2
      refine (dof_lt 0 wd rt obj x0 x1 x2 x3 cn ⟨hw1, hw4⟩ ⟨hrt0, hrt8⟩ W).mono fun e w' ⟨b, he, hb, hst, hu⟩ => ⟨hu, .inl ⟨_, _, he, ?_⟩⟩
      have := (br_lr (A := 0) (kind := 5) (by omega) ⟨hw1, hw4⟩ ⟨hrt0, hrt8⟩ (by omega) (.inl ⟨rfl, rfl⟩) hst).mono hb
      have e1 : actsP 5 3 wd rt = (0 + 1) * (wd + 2) := by unfold actsP; simp
      rw [e1]; exact this
    by_cases h3 : kind = 6
    · subst h3
      exact (dof_la 0 wd rt obj x0 x1 x2 x3 cn ⟨hw1, hw4⟩ ⟨hrt0, hrt8⟩ W).mono fun e w' ⟨b, he, hb, hst, hu⟩ => ⟨hu, .inl ⟨_, _, he, (br_lr (by omega) ⟨hw1, hw4⟩ ⟨hrt0, hrt8⟩ ⟨hrt0, hrt8⟩ (.inr rfl) hst).mono hb⟩⟩
    exact (dof_none3 0 0 wd rt obj x0 x1 x2 x3 cn kind (by omega) W).mono fun e w' ⟨he, hu⟩ => ⟨hu, .inr ⟨by unfold actsP; rw [if_neg (by omega), if_neg (by omega), if_pos rfl, if_neg (by omega), if_neg (by omega), if_neg (by omega)], he⟩⟩
  · by_cases h1 : kind = 7
    · subst h1
      exact (dof_fl7 0 obj x0 x1 x2 x3 cn W).mono fun e w' ⟨b, he, hb, hst, hu⟩ => ⟨hu, .inl ⟨_, _, he, (br_fl (by omega) (by omega) hst).mono hb⟩⟩
    by_cases h2 : kind = 8
    · subst h2
      exact (dof_fl8 0 obj x0 x1 x2 x3 cn W).mono fun e w' ⟨b, he, hb, hst, hu⟩ => ⟨hu, .inl ⟨_, _, he, (br_fl (by omega) (by omega) hst).mono hb⟩⟩
    by_cases h3 : kind = 9
    · subst h3
      exact (dof_fl9 0 obj x0 x1 x2 x3 cn W).mono fun e w' ⟨b, he, hb, hst, hu⟩ => ⟨hu, .inl ⟨_, _, he, (br_fl (by omega) (by omega) hst).mono hb⟩⟩
    by_cases h4 : kind = 16
    · subst h4
      exact (dof_fl16 0 obj x0 x1 x2 x3 cn W).mono fun e w' ⟨b, he, hb, hst, hu⟩ => ⟨hu, .inl ⟨_, _, he, (br_fl (by omega) (by omega) hst).mono hb⟩⟩
    by_cases h5 : kind = 17
    · subst h5
      exact (dof_fl17 0 obj x0 x1 x2 x3 cn W).mono fun e w' ⟨b, he, hb, hst, hu⟩ => ⟨hu, .inl ⟨_, _, he, (br_fl (by omega) (by omega) hst).mono hb⟩⟩
    exact (dof_none4 0 0 0 0 obj x0 x1 x2 x3 cn kind (by omega) W).mono fun e w' ⟨he, hu⟩ => ⟨hu, .inr ⟨by unfold actsP; rw [if_neg (by omega), if_neg (by omega), if_neg (by omega), if_neg (by omega)], he⟩⟩
theorem acts_none {kind k wd rt : Int} (h : kinds kind = false) : actsP kind k wd rt = 0 := by
  unfold kinds at h
  simp at h
  unfold actsP
  split
  · rw [if_neg (by omega)]
  · split
    · rw [if_neg (by omega), if_neg (by omega)]
    · split
      · rw [if_neg (by omega), if_neg (by omega), if_neg (by omega)]
      · rw [if_neg (by omega)]
set_option maxRecDepth 100000 in
set_option maxHeartbeats 4000000 in
/-- A call whose kind is none of a routine's. -/
theorem routine_bad (kind x0 x1 x2 x3 cn : Int) (hk : kinds kind = false) (pa : Option Addr) (pc : Nat) (W : World) :
    Calls Try.prog 23 #[.slice pa 1 pc, .agg (callA kind 0 x0 x1 x2 x3 cn)] W fun e w' => Upd [] W w' ∧ e = .returned (.iface 101 (.agg #[.int .i64 1])) := by
  unfold callA
  have HF := Lib.hid (show ∀ w : World, ¬ kind < 1 → Calls Try.prog 50 #[.int .i64 kind] w fun e w' => e = .returned (.int .i64 0) ∧ w = w' from fun w hk1 => by
    have e : flagP kind = 0 := by
      unfold kinds at hk
      simp at hk
      unfold flagP
      rw [if_neg (by omega), if_neg (by omega), if_neg (by omega), if_neg (by omega), if_neg (by omega)]
    have := dflag_c kind w
    rw [e] at this
    exact this)
  by_cases h1 : kind < 1
  · have q1 : decide (kind < 1) = true := by simpa using h1
    clear h1 hk HF
    go_enter Try.func23, Try.ntmps23
    go_wp2
    go_ret
    exact ⟨by repeat (first | (with_reducible exact Upd.refl _ _) | (with_reducible refine Upd.alloc ?_ _)), rfl⟩
  · have HN := Lib.hid h1
    have q1 : decide (kind < 1) = false := by simpa using h1
    have h6 : 6 < kind := by unfold kinds at hk; simp at hk; omega
    have q2 : decide (6 < kind) = true := by simpa using h6
    have q3 : decide (kind > 6) = true := by simpa using h6
    clear h1 hk h6
    go_enter Try.func23, Try.ntmps23
    go_wp2_with (go_at_call 50; (with_reducible refine (HF.out _ HN.out).mono ?_); rintro e w2 ⟨rfl, rfl⟩)
    go_ret
    exact ⟨by repeat (first | (with_reducible exact Upd.refl _ _) | (with_reducible refine Upd.alloc ?_ _)), rfl⟩
end Go.Proofs.Ytnnakiojfpnphaa
namespace Go.Proofs.Ytnnakiojfpnphaa
open Go.RowKit
def OfR (kind k wd rt : Int) (base : Nat) (X : Value) (B : Bool) (w : World) : Prop := (B = true → ∃ T v, X = .iface T v ∧ BR kind wd (actsP kind k wd rt) base T v w) ∧ (B = false → actsP kind k wd rt = 0)
theorem dof_all {k cap wd rt : Int} (kind obj x0 x1 x2 x3 cn : Int) (hr : rightB k cap wd rt = true) (hk : kinds kind = true) (W : World) :
    Calls Try.prog 51 #[.agg #[.int .i64 k, .int .i64 0, .int .i64 cap, .int .i64 wd, .int .i64 rt], .agg #[.int .i64 kind, .int .i64 obj, .int .u32 x0, .int .u32 x1, .int .u32 x2, .int .u32 x3, .int .u32 cn]] W fun e w' => ∃ X B, e = .returned (.tuple #[X, .bool B]) ∧ Upd [] W w' ∧ OfR kind k wd rt W.heap.size X B w' :=
  (dof_any kind obj x0 x1 x2 x3 cn hr hk W).mono fun e w' ⟨hu, hor⟩ => by
    rcases hor with ⟨T, v, he, hb⟩ | ⟨h0, he⟩
    · exact ⟨_, true, he, hu, fun _ => ⟨T, v, rfl, hb⟩, fun h => by cases h⟩
    · exact ⟨_, false, he, hu, fun h => (by cases h), fun _ => h0⟩
section
variable {k cap wd rt : Int}
set_option maxRecDepth 100000 in
set_option maxHeartbeats 4000000 in
theorem routine_ok (kind x0 x1 x2 x3 cn : Int) (hr : rightB k cap wd rt = true) (hk : kinds kind = true) (pb po pc : Nat) (W : World) (lb : pb < W.heap.size)
    (c0 : W.cell? ⟨pb, po, none⟩ = some (.int .i64 k)) (c1 : W.cell? ⟨pb, po + 1, none⟩ = some (.int .i64 0)) (c2 : W.cell? ⟨pb, po + 2, none⟩ = some (.int .i64 cap)) (c3 : W.cell? ⟨pb, po + 3, none⟩ = some (.int .i64 wd)) (c4 : W.cell? ⟨pb, po + 4, none⟩ = some (.int .i64 rt)) :
    Calls Try.prog 23 #[.slice (some ⟨pb, po, none⟩) 1 pc, .agg (callA kind 0 x0 x1 x2 x3 cn)] W fun e w' => Upd [] W w' ∧ ∃ T v, e = .returned (.iface T v) ∧ BR kind wd (actsP kind k wd rt) W.heap.size T v w' := by
  unfold callA
  have HD := Lib.hid fun w => dof_all kind 0 x0 x1 x2 x3 cn hr hk w
  have hk1 : 1 ≤ kind := by unfold kinds at hk; simp at hk; omega
  have q1 : decide (kind < 1) = false := by simp; omega
  have HF := Lib.hid (show ∀ w : World, 6 < kind → Calls Try.prog 50 #[.int .i64 kind] w fun e w' => e = .returned (.int .i64 (flagP kind)) ∧ w = w' from fun w hk1 => dflag_c kind w)
  obtain ⟨N, hN⟩ : ∃ N, flagP kind = N := ⟨_, rfl⟩
  rw [hN] at HF
  have hN0 : 6 < kind → (N == 0) = false := fun h6 => by
    unfold kinds at hk
    simp at hk
    have e : kind = 7 ∨ kind = 8 ∨ kind = 9 ∨ kind = 16 ∨ kind = 17 := by omega
    rw [← hN]
    rcases e with rfl | rfl | rfl | rfl | rfl <;> decide
  clear hN hk1
  obtain ⟨A, hA⟩ : ∃ A, actsP kind k wd rt = A := ⟨_, rfl⟩
  have HA := Lib.hid hA
  have HKK := Lib.hid hk
  by_cases h6 : 6 < kind
  · have q2 : decide (6 < kind) = true := by simpa using h6
    have q3 : decide (kind > 6) = true := by simpa using h6
    have q4 := hN0 h6
    have H6 := Lib.hid h6
    clear hN0 h6 hr hk hA
    go_enter Try.func23, Try.ntmps23
    (
        go_upto_region 6 with (go_at_call 50; (with_reducible refine (HF.out _ H6.out).mono ?_); rintro e w2 ⟨rfl, rfl⟩)
        have HUX := Lib.hid (show Upd [] W (W.alloc (.cells #[.int .i64 kind, .int .i64 0, .int .u32 x0, .int .u32 x1, .int .u32 x2, .int .u32 x3, .int .u32 cn] 67)) from (Upd.refl _ _).alloc _)
        have HAX := Lib.hid (heap_alloc_new W (.cells #[.int .i64 kind, .int .i64 0, .int .u32 x0, .int .u32 x1, .int .u32 x2, .int .u32 x3, .int .u32 cn] 67))
        have HSX := Lib.hid (show W.heap.size ≤ (W.alloc (.cells #[.int .i64 kind, .int .i64 0, .int .u32 x0, .int .u32 x1, .int .u32 x2, .int .u32 x3, .int .u32 cn] 67)).heap.size by simp)
        generalize W.alloc (.cells #[.int .i64 kind, .int .i64 0, .int .u32 x0, .int .u32 x1, .int .u32 x2, .int .u32 x3, .int .u32 cn] 67) = wx at *
        have C0 : ∀ w1 : World, Upd [] wx w1 → w1.cell? ⟨pb, po, none⟩ = some (.int .i64 k) := fun w1 h => ((HUX.out.trans h).cell (p := ⟨pb, po, none⟩) lb (by simp)).trans c0
        have C1 : ∀ w1 : World, Upd [] wx w1 → w1.cell? ⟨pb, po + 1, none⟩ = some (.int .i64 0) := fun w1 h => ((HUX.out.trans h).cell (p := ⟨pb, po + 1, none⟩) lb (by simp)).trans c1
        have C2 : ∀ w1 : World, Upd [] wx w1 → w1.cell? ⟨pb, po + 2, none⟩ = some (.int .i64 cap) := fun w1 h => ((HUX.out.trans h).cell (p := ⟨pb, po + 2, none⟩) lb (by simp)).trans c2
        have C3 : ∀ w1 : World, Upd [] wx w1 → w1.cell? ⟨pb, po + 3, none⟩ = some (.int .i64 wd) := fun w1 h => ((HUX.out.trans h).cell (p := ⟨pb, po + 3, none⟩) lb (by simp)).trans c3
        have C4 : ∀ w1 : World, Upd [] wx w1 → w1.cell? ⟨pb, po + 4, none⟩ = some (.int .i64 rt) := fun w1 h => ((HUX.out.trans h).cell (p := ⟨pb, po + 4, none⟩) lb (by simp)).trans c4
        have D0 : ∀ w1 : World, Upd [] wx w1 → w1.cell? ⟨W.heap.size, 0, none⟩ = some (.int .i64 kind) := fun w1 h => by rw [cell_of_heap (h.keepb HAX.out (by simp))]; rfl
        have D1 : ∀ w1 : World, Upd [] wx w1 → w1.cell? ⟨W.heap.size, 1, none⟩ = some (.int .i64 0) := fun w1 h => by rw [cell_of_heap (h.keepb HAX.out (by simp))]; rfl
        have D2 : ∀ w1 : World, Upd [] wx w1 → w1.cell? ⟨W.heap.size, 2, none⟩ = some (.int .u32 x0) := fun w1 h => by rw [cell_of_heap (h.keepb HAX.out (by simp))]; rfl
        have D3 : ∀ w1 : World, Upd [] wx w1 → w1.cell? ⟨W.heap.size, 3, none⟩ = some (.int .u32 x1) := fun w1 h => by rw [cell_of_heap (h.keepb HAX.out (by simp))]; rfl
        have D4 : ∀ w1 : World, Upd [] wx w1 → w1.cell? ⟨W.heap.size, 4, none⟩ = some (.int .u32 x2) := fun w1 h => by rw [cell_of_heap (h.keepb HAX.out (by simp))]; rfl
        have D5 : ∀ w1 : World, Upd [] wx w1 → w1.cell? ⟨W.heap.size, 5, none⟩ = some (.int .u32 x3) := fun w1 h => by rw [cell_of_heap (h.keepb HAX.out (by simp))]; rfl
        have D6 : ∀ w1 : World, Upd [] wx w1 → w1.cell? ⟨W.heap.size, 6, none⟩ = some (.int .u32 cn) := fun w1 h => by rw [cell_of_heap (h.keepb HAX.out (by simp))]; rfl
        have lx : pb < wx.heap.size := Nat.lt_of_lt_of_le lb HUX.out.size
        have ly : W.heap.size < wx.heap.size := heap_lt HAX.out
        clear c0 c1 c2 c3 c4
        refine wp_region_held_drew (S := fun w1 => Upd [] wx w1) (by kernel_rfl) ?_ (fun hHeld => ?_)
        · exact (Upd.refl _ wx).drew
        apply wpAnyH_take (i := 0) (oi := { dst := some 36, op := Op.move (Operand.tmp 0), type := 58, pos := "duel.go:82", after := #[], guard := none }) rfl (by kernel_rfl) (by kernel_rfl) (by kernel_rfl) (fun _ _ _ h => h) (Or.inl ⟨by rfl, ?_⟩) hHeld ?_
        rotate_left 1
        · intro w1 hSw
          (try dsimp only at hSw)
          go_simp
          rfl
        (try simp only [Act.put, List.setIfInBounds_toArray, List.set_cons_zero, List.set_cons_succ])
        apply wpAnyH_take (i := 1) (oi := { dst := some 37, op := Op.fieldAddr 67 (Operand.tmp 3) 1, type := 0, pos := "duel.go:82", after := #[], guard := none }) rfl (by kernel_rfl) (by kernel_rfl) (by kernel_rfl) (fun _ _ _ h => h) (Or.inl ⟨by rfl, ?_⟩) hHeld ?_
        rotate_left 1
        · intro w1 hSw
          (try dsimp only at hSw)
          go_simp
          rfl
        (try simp only [Act.put, List.setIfInBounds_toArray, List.set_cons_zero, List.set_cons_succ])
        apply wpAnyH_take (i := 2) (oi := { dst := some 38, op := Op.load 3 (Operand.tmp 37), type := 3, pos := "duel.go:82", after := #[{ on := 1, ground := Ground.data }], guard := none }) rfl (by kernel_rfl) (by kernel_rfl) (by kernel_rfl) (fun _ _ _ h => h) (Or.inl ⟨by rfl, ?_⟩) hHeld ?_
        rotate_left 1
        · intro w1 hSw
          (try dsimp only at hSw)
          go_simp
          rfl
        (try simp only [Act.put, List.setIfInBounds_toArray, List.set_cons_zero, List.set_cons_succ])
        apply wpAnyH_take (i := 3) (oi := { dst := some 39, op := Op.indexAddr 58 (Operand.tmp 36) (Operand.tmp 38), type := 0, pos := "duel.go:82", after := #[{ on := 0, ground := Ground.data }, { on := 2, ground := Ground.data }], guard := none }) rfl (by kernel_rfl) (by kernel_rfl) (by kernel_rfl) (fun _ _ _ h => h) (Or.inl ⟨by rfl, ?_⟩) hHeld ?_
        rotate_left 1
        · intro w1 hSw
          (try dsimp only at hSw)
          go_simp
          rfl
        (try simp only [Act.put, List.setIfInBounds_toArray, List.set_cons_zero, List.set_cons_succ])
        apply wpAnyH_take (i := 4) (oi := { dst := some 40, op := Op.load 27 (Operand.tmp 39), type := 27, pos := "duel.go:82", after := #[{ on := 3, ground := Ground.data }], guard := none }) rfl (by kernel_rfl) (by kernel_rfl) (by kernel_rfl) (fun _ _ _ h => h) (Or.inl ⟨by rfl, ?_⟩) hHeld ?_
        rotate_left 1
        · intro w1 hSw
          (try dsimp only at hSw)
          go_simp
          rfl
        (try simp only [Act.put, List.setIfInBounds_toArray, List.set_cons_zero, List.set_cons_succ])
        apply wpAnyH_take (i := 5) (oi := { dst := some 41, op := Op.load 67 (Operand.tmp 3), type := 67, pos := "duel.go:82", after := #[], guard := none }) rfl (by kernel_rfl) (by kernel_rfl) (by kernel_rfl) (fun _ _ _ h => h) (Or.inl ⟨by rfl, ?_⟩) hHeld ?_
        rotate_left 1
        · intro w1 hSw
          (try dsimp only at hSw)
          go_simp
          rfl
        (try simp only [Act.put, List.setIfInBounds_toArray, List.set_cons_zero, List.set_cons_succ])
        refine wpAnyH_ready (rs := [6]) (by kernel_rfl) (by simp) ?_
        refine AllReadyH.cons (o := { dst := some 42, op := Op.call { callee := Callee.value (Operand.func 51), args := #[Operand.tmp 40, Operand.tmp 41], argTypes := #[27, 67] }, type := 102, pos := "duel.go:82", after := #[{ on := 4, ground := Ground.data }, { on := 5, ground := Ground.data }], guard := none }) rfl (fun K hK => ?_) AllReadyH.nil
        go_simp
        (with_reducible refine (HD.out _).mono ?_)
        rintro e w5 ⟨X, B, rfl, hu5, hof⟩
        have HOF := Lib.hid hof
        have hHeld := hHeld.trans (show Upd [] _ _ from hu5)
        have HW5 := Lib.hid hu5
        clear hof hu5
        refine hK.out _ _ (by repeat (first | (with_reducible exact Upd.refl _ _) | (with_reducible exact hHeld) | (with_reducible apply Upd.drew) | (with_reducible refine Upd.grE ?_ _))) (fun hHeld => ?_)
        clear hK K
        (try simp only [Act.put, List.setIfInBounds_toArray, List.set_cons_zero, List.set_cons_succ])
        apply wpAnyH_take (i := 7) (oi := { dst := some 35, op := Op.move (Operand.tmp 42), type := 102, pos := "duel.go:82", after := #[{ on := 6, ground := Ground.data }], guard := none }) rfl (by kernel_rfl) (by kernel_rfl) (by kernel_rfl) (fun _ _ _ h => h) (Or.inl ⟨by rfl, ?_⟩) hHeld ?_
        rotate_left 1
        · intro w1 hSw
          (try dsimp only at hSw)
          go_simp
          rfl
        (try simp only [Act.put, List.setIfInBounds_toArray, List.set_cons_zero, List.set_cons_succ])
        apply wpAnyH_take (i := 8) (oi := { dst := some 43, op := Op.extract (Operand.tmp 35) 0, type := 64, pos := "duel.go:82", after := #[{ on := 7, ground := Ground.data }], guard := none }) rfl (by kernel_rfl) (by kernel_rfl) (by kernel_rfl) (fun _ _ _ h => h) (Or.inl ⟨by rfl, ?_⟩) hHeld ?_
        rotate_left 1
        · intro w1 hSw
          (try dsimp only at hSw)
          go_simp
          rfl
        (try simp only [Act.put, List.setIfInBounds_toArray, List.set_cons_zero, List.set_cons_succ])
        apply wpAnyH_take (i := 9) (oi := { dst := some 44, op := Op.extract (Operand.tmp 35) 1, type := 4, pos := "duel.go:82", after := #[{ on := 7, ground := Ground.data }, { on := 10, ground := Ground.gcOnly Departure.lateStores }], guard := none }) rfl (by kernel_rfl) (by kernel_rfl) (by kernel_rfl) (fun _ _ _ h => h) (Or.inl ⟨by rfl, ?_⟩) hHeld ?_
        rotate_left 1
        · intro w1 hSw
          (try dsimp only at hSw)
          go_simp
          rfl
        (try simp only [Act.put, List.setIfInBounds_toArray, List.set_cons_zero, List.set_cons_succ])
        apply wpAnyH_take (i := 10) (oi := { dst := some 5, op := Op.assign (Operand.tmp 43), type := 64, pos := "duel.go:82", after := #[{ on := 8, ground := Ground.data }, { on := 6, ground := Ground.chain }, { on := 0, ground := Ground.phase }, { on := 1, ground := Ground.phase }, { on := 2, ground := Ground.phase }, { on := 3, ground := Ground.phase }, { on := 4, ground := Ground.phase }, { on := 5, ground := Ground.phase }, { on := 6, ground := Ground.phase }, { on := 7, ground := Ground.phase }, { on := 8, ground := Ground.phase }, { on := 9, ground := Ground.textOnly Departure.lateStores }], guard := none }) rfl (by kernel_rfl) (by kernel_rfl) (by kernel_rfl) (fun _ _ _ h => h) (Or.inl ⟨by rfl, ?_⟩) hHeld ?_
        rotate_left 1
        · intro w1 hSw
          (try dsimp only at hSw)
          go_simp
          rfl
        (try simp only [Act.put, List.setIfInBounds_toArray, List.set_cons_zero, List.set_cons_succ])
        apply wpAnyH_take (i := 11) (oi := { dst := some 6, op := Op.assign (Operand.tmp 44), type := 4, pos := "duel.go:82", after := #[{ on := 9, ground := Ground.data }, { on := 10, ground := Ground.chain }, { on := 0, ground := Ground.phase }, { on := 1, ground := Ground.phase }, { on := 2, ground := Ground.phase }, { on := 3, ground := Ground.phase }, { on := 4, ground := Ground.phase }, { on := 5, ground := Ground.phase }, { on := 6, ground := Ground.phase }, { on := 7, ground := Ground.phase }, { on := 8, ground := Ground.phase }, { on := 9, ground := Ground.phase }, { on := 10, ground := Ground.phase }], guard := none }) rfl (by kernel_rfl) (by kernel_rfl) (by kernel_rfl) (fun _ _ _ h => h) (Or.inl ⟨by rfl, ?_⟩) hHeld ?_
        rotate_left 1
        · intro w1 hSw
          (try dsimp only at hSw)
          go_simp
          rfl
        (try simp only [Act.put, List.setIfInBounds_toArray, List.set_cons_zero, List.set_cons_succ])
        refine wpAnyH_done (by kernel_rfl) ?_ _
        clear C0 C1 C2 C3 C4 D0 D1 D2 D3 D4 D5 D6
        have HHE := Lib.hid hHeld
        clear hHeld
        have hsz := HW5.out.size
        rcases B with _ | _
        · have h0 := HOF.out.2 rfl
          have H0 := Lib.hid h0
          clear h0
          go_wp2
          go_ret
          exact ⟨HUX.out.trans HHE.out, _, _, rfl, by rw [HA.out, H0.out] at *; exact br_told kind wd 12 (by decide) _ _⟩
        · obtain ⟨T, v, hX, hbr⟩ := HOF.out.1 rfl
          have HBR := Lib.hid hbr
          subst hX
          clear hbr
          go_wp2
          go_ret
          refine ⟨HUX.out.trans HHE.out, _, _, rfl, ?_⟩
          have := HBR.out.mono (base' := W.heap.size) (Nat.le_trans HSX.out (by first | exact Nat.le_refl _ | simp))
          exact this)
  · have q2 : decide (6 < kind) = false := by simpa using h6
    have q3 : decide (kind > 6) = false := by simpa using h6
    have H6 := Lib.hid h6
    clear hN0 h6 hr hk hA HF
    go_enter Try.func23, Try.ntmps23
    (
        go_upto_region 6 with (go_at_call 50; (with_reducible refine (HF.out _ H6.out).mono ?_); rintro e w2 ⟨rfl, rfl⟩)
        have HUX := Lib.hid (show Upd [] W (W.alloc (.cells #[.int .i64 kind, .int .i64 0, .int .u32 x0, .int .u32 x1, .int .u32 x2, .int .u32 x3, .int .u32 cn] 67)) from (Upd.refl _ _).alloc _)
        have HAX := Lib.hid (heap_alloc_new W (.cells #[.int .i64 kind, .int .i64 0, .int .u32 x0, .int .u32 x1, .int .u32 x2, .int .u32 x3, .int .u32 cn] 67))
        have HSX := Lib.hid (show W.heap.size ≤ (W.alloc (.cells #[.int .i64 kind, .int .i64 0, .int .u32 x0, .int .u32 x1, .int .u32 x2, .int .u32 x3, .int .u32 cn] 67)).heap.size by simp)
        generalize W.alloc (.cells #[.int .i64 kind, .int .i64 0, .int .u32 x0, .int .u32 x1, .int .u32 x2, .int .u32 x3, .int .u32 cn] 67) = wx at *
        have C0 : ∀ w1 : World, Upd [] wx w1 → w1.cell? ⟨pb, po, none⟩ = some (.int .i64 k) := fun w1 h => ((HUX.out.trans h).cell (p := ⟨pb, po, none⟩) lb (by simp)).trans c0
        have C1 : ∀ w1 : World, Upd [] wx w1 → w1.cell? ⟨pb, po + 1, none⟩ = some (.int .i64 0) := fun w1 h => ((HUX.out.trans h).cell (p := ⟨pb, po + 1, none⟩) lb (by simp)).trans c1
        have C2 : ∀ w1 : World, Upd [] wx w1 → w1.cell? ⟨pb, po + 2, none⟩ = some (.int .i64 cap) := fun w1 h => ((HUX.out.trans h).cell (p := ⟨pb, po + 2, none⟩) lb (by simp)).trans c2
        have C3 : ∀ w1 : World, Upd [] wx w1 → w1.cell? ⟨pb, po + 3, none⟩ = some (.int .i64 wd) := fun w1 h => ((HUX.out.trans h).cell (p := ⟨pb, po + 3, none⟩) lb (by simp)).trans c3
        have C4 : ∀ w1 : World, Upd [] wx w1 → w1.cell? ⟨pb, po + 4, none⟩ = some (.int .i64 rt) := fun w1 h => ((HUX.out.trans h).cell (p := ⟨pb, po + 4, none⟩) lb (by simp)).trans c4
        have D0 : ∀ w1 : World, Upd [] wx w1 → w1.cell? ⟨W.heap.size, 0, none⟩ = some (.int .i64 kind) := fun w1 h => by rw [cell_of_heap (h.keepb HAX.out (by simp))]; rfl
        have D1 : ∀ w1 : World, Upd [] wx w1 → w1.cell? ⟨W.heap.size, 1, none⟩ = some (.int .i64 0) := fun w1 h => by rw [cell_of_heap (h.keepb HAX.out (by simp))]; rfl
        have D2 : ∀ w1 : World, Upd [] wx w1 → w1.cell? ⟨W.heap.size, 2, none⟩ = some (.int .u32 x0) := fun w1 h => by rw [cell_of_heap (h.keepb HAX.out (by simp))]; rfl
        have D3 : ∀ w1 : World, Upd [] wx w1 → w1.cell? ⟨W.heap.size, 3, none⟩ = some (.int .u32 x1) := fun w1 h => by rw [cell_of_heap (h.keepb HAX.out (by simp))]; rfl
        have D4 : ∀ w1 : World, Upd [] wx w1 → w1.cell? ⟨W.heap.size, 4, none⟩ = some (.int .u32 x2) := fun w1 h => by rw [cell_of_heap (h.keepb HAX.out (by simp))]; rfl
        have D5 : ∀ w1 : World, Upd [] wx w1 → w1.cell? ⟨W.heap.size, 5, none⟩ = some (.int .u32 x3) := fun w1 h => by rw [cell_of_heap (h.keepb HAX.out (by simp))]; rfl
        have D6 : ∀ w1 : World, Upd [] wx w1 → w1.cell? ⟨W.heap.size, 6, none⟩ = some (.int .u32 cn) := fun w1 h => by rw [cell_of_heap (h.keepb HAX.out (by simp))]; rfl
        have lx : pb < wx.heap.size := Nat.lt_of_lt_of_le lb HUX.out.size
        have ly : W.heap.size < wx.heap.size := heap_lt HAX.out
        clear c0 c1 c2 c3 c4
        refine wp_region_held_drew (S := fun w1 => Upd [] wx w1) (by kernel_rfl) ?_ (fun hHeld => ?_)
        · exact (Upd.refl _ wx).drew
        apply wpAnyH_take (i := 0) (oi := { dst := some 36, op := Op.move (Operand.tmp 0), type := 58, pos := "duel.go:82", after := #[], guard := none }) rfl (by kernel_rfl) (by kernel_rfl) (by kernel_rfl) (fun _ _ _ h => h) (Or.inl ⟨by rfl, ?_⟩) hHeld ?_
        rotate_left 1
        · intro w1 hSw
          (try dsimp only at hSw)
          go_simp
          rfl
        (try simp only [Act.put, List.setIfInBounds_toArray, List.set_cons_zero, List.set_cons_succ])
        apply wpAnyH_take (i := 1) (oi := { dst := some 37, op := Op.fieldAddr 67 (Operand.tmp 3) 1, type := 0, pos := "duel.go:82", after := #[], guard := none }) rfl (by kernel_rfl) (by kernel_rfl) (by kernel_rfl) (fun _ _ _ h => h) (Or.inl ⟨by rfl, ?_⟩) hHeld ?_
        rotate_left 1
        · intro w1 hSw
          (try dsimp only at hSw)
          go_simp
          rfl
        (try simp only [Act.put, List.setIfInBounds_toArray, List.set_cons_zero, List.set_cons_succ])
        apply wpAnyH_take (i := 2) (oi := { dst := some 38, op := Op.load 3 (Operand.tmp 37), type := 3, pos := "duel.go:82", after := #[{ on := 1, ground := Ground.data }], guard := none }) rfl (by kernel_rfl) (by kernel_rfl) (by kernel_rfl) (fun _ _ _ h => h) (Or.inl ⟨by rfl, ?_⟩) hHeld ?_
        rotate_left 1
        · intro w1 hSw
          (try dsimp only at hSw)
          go_simp
          rfl
        (try simp only [Act.put, List.setIfInBounds_toArray, List.set_cons_zero, List.set_cons_succ])
        apply wpAnyH_take (i := 3) (oi := { dst := some 39, op := Op.indexAddr 58 (Operand.tmp 36) (Operand.tmp 38), type := 0, pos := "duel.go:82", after := #[{ on := 0, ground := Ground.data }, { on := 2, ground := Ground.data }], guard := none }) rfl (by kernel_rfl) (by kernel_rfl) (by kernel_rfl) (fun _ _ _ h => h) (Or.inl ⟨by rfl, ?_⟩) hHeld ?_
        rotate_left 1
        · intro w1 hSw
          (try dsimp only at hSw)
          go_simp
          rfl
        (try simp only [Act.put, List.setIfInBounds_toArray, List.set_cons_zero, List.set_cons_succ])
        apply wpAnyH_take (i := 4) (oi := { dst := some 40, op := Op.load 27 (Operand.tmp 39), type := 27, pos := "duel.go:82", after := #[{ on := 3, ground := Ground.data }], guard := none }) rfl (by kernel_rfl) (by kernel_rfl) (by kernel_rfl) (fun _ _ _ h => h) (Or.inl ⟨by rfl, ?_⟩) hHeld ?_
        rotate_left 1
        · intro w1 hSw
          (try dsimp only at hSw)
          go_simp
          rfl
        (try simp only [Act.put, List.setIfInBounds_toArray, List.set_cons_zero, List.set_cons_succ])
        apply wpAnyH_take (i := 5) (oi := { dst := some 41, op := Op.load 67 (Operand.tmp 3), type := 67, pos := "duel.go:82", after := #[], guard := none }) rfl (by kernel_rfl) (by kernel_rfl) (by kernel_rfl) (fun _ _ _ h => h) (Or.inl ⟨by rfl, ?_⟩) hHeld ?_
        rotate_left 1
        · intro w1 hSw
          (try dsimp only at hSw)
          go_simp
          rfl
        (try simp only [Act.put, List.setIfInBounds_toArray, List.set_cons_zero, List.set_cons_succ])
        refine wpAnyH_ready (rs := [6]) (by kernel_rfl) (by simp) ?_
        refine AllReadyH.cons (o := { dst := some 42, op := Op.call { callee := Callee.value (Operand.func 51), args := #[Operand.tmp 40, Operand.tmp 41], argTypes := #[27, 67] }, type := 102, pos := "duel.go:82", after := #[{ on := 4, ground := Ground.data }, { on := 5, ground := Ground.data }], guard := none }) rfl (fun K hK => ?_) AllReadyH.nil
        go_simp
        (with_reducible refine (HD.out _).mono ?_)
        rintro e w5 ⟨X, B, rfl, hu5, hof⟩
        have HOF := Lib.hid hof
        have hHeld := hHeld.trans (show Upd [] _ _ from hu5)
        have HW5 := Lib.hid hu5
        clear hof hu5
        refine hK.out _ _ (by repeat (first | (with_reducible exact Upd.refl _ _) | (with_reducible exact hHeld) | (with_reducible apply Upd.drew) | (with_reducible refine Upd.grE ?_ _))) (fun hHeld => ?_)
        clear hK K
        (try simp only [Act.put, List.setIfInBounds_toArray, List.set_cons_zero, List.set_cons_succ])
        apply wpAnyH_take (i := 7) (oi := { dst := some 35, op := Op.move (Operand.tmp 42), type := 102, pos := "duel.go:82", after := #[{ on := 6, ground := Ground.data }], guard := none }) rfl (by kernel_rfl) (by kernel_rfl) (by kernel_rfl) (fun _ _ _ h => h) (Or.inl ⟨by rfl, ?_⟩) hHeld ?_
        rotate_left 1
        · intro w1 hSw
          (try dsimp only at hSw)
          go_simp
          rfl
        (try simp only [Act.put, List.setIfInBounds_toArray, List.set_cons_zero, List.set_cons_succ])
        apply wpAnyH_take (i := 8) (oi := { dst := some 43, op := Op.extract (Operand.tmp 35) 0, type := 64, pos := "duel.go:82", after := #[{ on := 7, ground := Ground.data }], guard := none }) rfl (by kernel_rfl) (by kernel_rfl) (by kernel_rfl) (fun _ _ _ h => h) (Or.inl ⟨by rfl, ?_⟩) hHeld ?_
        rotate_left 1
        · intro w1 hSw
          (try dsimp only at hSw)
          go_simp
          rfl
        (try simp only [Act.put, List.setIfInBounds_toArray, List.set_cons_zero, List.set_cons_succ])
        apply wpAnyH_take (i := 9) (oi := { dst := some 44, op := Op.extract (Operand.tmp 35) 1, type := 4, pos := "duel.go:82", after := #[{ on := 7, ground := Ground.data }, { on := 10, ground := Ground.gcOnly Departure.lateStores }], guard := none }) rfl (by kernel_rfl) (by kernel_rfl) (by kernel_rfl) (fun _ _ _ h => h) (Or.inl ⟨by rfl, ?_⟩) hHeld ?_
        rotate_left 1
        · intro w1 hSw
          (try dsimp only at hSw)
          go_simp
          rfl
        (try simp only [Act.put, List.setIfInBounds_toArray, List.set_cons_zero, List.set_cons_succ])
        apply wpAnyH_take (i := 10) (oi := { dst := some 5, op := Op.assign (Operand.tmp 43), type := 64, pos := "duel.go:82", after := #[{ on := 8, ground := Ground.data }, { on := 6, ground := Ground.chain }, { on := 0, ground := Ground.phase }, { on := 1, ground := Ground.phase }, { on := 2, ground := Ground.phase }, { on := 3, ground := Ground.phase }, { on := 4, ground := Ground.phase }, { on := 5, ground := Ground.phase }, { on := 6, ground := Ground.phase }, { on := 7, ground := Ground.phase }, { on := 8, ground := Ground.phase }, { on := 9, ground := Ground.textOnly Departure.lateStores }], guard := none }) rfl (by kernel_rfl) (by kernel_rfl) (by kernel_rfl) (fun _ _ _ h => h) (Or.inl ⟨by rfl, ?_⟩) hHeld ?_
        rotate_left 1
        · intro w1 hSw
          (try dsimp only at hSw)
          go_simp
          rfl
        (try simp only [Act.put, List.setIfInBounds_toArray, List.set_cons_zero, List.set_cons_succ])
        apply wpAnyH_take (i := 11) (oi := { dst := some 6, op := Op.assign (Operand.tmp 44), type := 4, pos := "duel.go:82", after := #[{ on := 9, ground := Ground.data }, { on := 10, ground := Ground.chain }, { on := 0, ground := Ground.phase }, { on := 1, ground := Ground.phase }, { on := 2, ground := Ground.phase }, { on := 3, ground := Ground.phase }, { on := 4, ground := Ground.phase }, { on := 5, ground := Ground.phase }, { on := 6, ground := Ground.phase }, { on := 7, ground := Ground.phase }, { on := 8, ground := Ground.phase }, { on := 9, ground := Ground.phase }, { on := 10, ground := Ground.phase }], guard := none }) rfl (by kernel_rfl) (by kernel_rfl) (by kernel_rfl) (fun _ _ _ h => h) (Or.inl ⟨by rfl, ?_⟩) hHeld ?_
        rotate_left 1
        · intro w1 hSw
          (try dsimp only at hSw)
          go_simp
          rfl
        (try simp only [Act.put, List.setIfInBounds_toArray, List.set_cons_zero, List.set_cons_succ])
        refine wpAnyH_done (by kernel_rfl) ?_ _
        clear C0 C1 C2 C3 C4 D0 D1 D2 D3 D4 D5 D6
        have HHE := Lib.hid hHeld
        clear hHeld
        have hsz := HW5.out.size
        rcases B with _ | _
        · have h0 := HOF.out.2 rfl
          have H0 := Lib.hid h0
          clear h0
          go_wp2
          go_ret
          exact ⟨HUX.out.trans HHE.out, _, _, rfl, by rw [HA.out, H0.out] at *; exact br_told kind wd 12 (by decide) _ _⟩
        · obtain ⟨T, v, hX, hbr⟩ := HOF.out.1 rfl
          have HBR := Lib.hid hbr
          subst hX
          clear hbr
          go_wp2
          go_ret
          refine ⟨HUX.out.trans HHE.out, _, _, rfl, ?_⟩
          have := HBR.out.mono (base' := W.heap.size) (Nat.le_trans HSX.out (by first | exact Nat.le_refl _ | simp))
          exact this)
end
end Go.Proofs.Ytnnakiojfpnphaa
