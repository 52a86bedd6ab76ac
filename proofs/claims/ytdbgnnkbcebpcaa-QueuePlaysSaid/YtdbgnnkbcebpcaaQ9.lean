/- Package queue: Add. -/
import Derived.Test.YtdbgnnkbcebpcaaQ8
set_option linter.unusedVariables false
set_option linter.unusedSimpArgs false
namespace Go.Proofs.Ytdbgnnkbcebpcaa
open Go.RowKit

def qaddN (x : QW) (xs : List QN) : Bool := decide (0 ≤ x.t) && decide (x.t < 16) && (qfindN x.t xs).isNone
def QAddPost (w : World) (q : Nat) (xs : List QN) (x : QW) (e : Ending) (w' : World) : Prop :=
  (qaddN x xs = false ∧ e = .returned (.bool false) ∧ Upd [] w w') ∨
  (qaddN x xs = true ∧ ∃ N, e = .returned (.bool true) ∧ w.heap.size ≤ N ∧ QL w' q (xs ++ [⟨N, x⟩]) ∧ Upd (q :: xs.map QN.b) w w')
section
variable {w : World} {q : Nat} {xs : List QN}
set_option maxRecDepth 100000 in
set_option maxHeartbeats 4000000 in
theorem qadd_c (x : QW) (h : QL w q xs) (hn : xs.length ≤ 1000000) : Calls Try.prog 19 #[.pointer (some ⟨q, 0, none⟩), .agg x.A] w (QAddPost w q xs x) := by
  have hF := fun (w' : World) (hu : Upd [] w w') => qfind_c x.t (h.upd hu (by simp)) hn
  have HL := Lib.hid h
  have HF := Lib.hid hF
  clear h hF
  obtain ⟨t, k, o, m⟩ := x
  unfold QW.A
  simp only at HF
  rcases h0 : decide (0 ≤ t) with _ | _
  · have hq : qaddN ⟨t, k, o, m⟩ xs = false := by simp [qaddN, h0]
    have HQ := Lib.hid hq
    have ht : t < 0 := by simpa using h0
    clear hq h0
    go_enter Try.func19, Try.ntmps19
    go_wp2
    go_ret
    exact .inl ⟨HQ.out, by simp, (Upd.refl [] w).alloc _⟩
  have ht0 : 0 ≤ t := by simpa using h0
  have ht0' : ¬ t < 0 := by omega
  rcases h1 : decide (t < 16) with _ | _
  · have hq : qaddN ⟨t, k, o, m⟩ xs = false := by simp [qaddN, h1]
    have HQ := Lib.hid hq
    have ht : 16 ≤ t := by simpa using h1
    clear hq h1 h0
    go_enter Try.func19, Try.ntmps19
    go_wp2
    go_ret
    exact .inl ⟨HQ.out, by simp, (Upd.refl [] w).alloc _⟩
  have ht1 : t < 16 := by simpa using h1
  have ht1' : ¬ 16 ≤ t := by omega
  rcases hx : qfindN t xs with _ | y
  · have hq : qaddN ⟨t, k, o, m⟩ xs = true := by simp [qaddN, h1, h0, hx]
    have HQ := Lib.hid hq
    rw [hx] at HF
    unfold qaddr at HF
    simp only [Option.map] at HF
    obtain ⟨va, vn, hh, he⟩ := HL.out.hd
    have hlq := HL.out.lt q (by simp)
    have hfq := frozen_of_heap hh 4
    have hfq5 := frozen_of_heap hh 5
    have hfq6 := frozen_of_heap hh 6
    obtain ⟨c0, c1, c2, c3, c4, c5, c6⟩ := cells7 hh
    have hw : wrap64 ((xs.length : Int) + 1) = ((xs.length + 1 : Nat) : Int) := by unfold wrap64; omega
    have HE := Lib.hid he
    have HH := Lib.hid hh
    clear hq h0 h1 hx hh he hn
    rcases xs with _ | ⟨z, zs⟩
    · simp only [List.length_nil] at c6 hw
      go_enter Try.func19, Try.ntmps19
      go_wp2_with (go_at_call 54; refine (HF.out _ ((Upd.refl _ _).alloc _)).mono ?_; rintro e w1 ⟨rfl, hu⟩; obtain ⟨p1, rfl⟩ := hu.grown; clear hu)
      go_region
      go_wp2
      go_region
      go_wp2
      go_ret
      refine .inr ⟨HQ.out, w.heap.size + 1 + p1.os.size, by simp, by omega, ?_, ?_⟩
      · have hW : QL (gr (w.alloc (.cells #[.int .i64 t, .int .i64 k, .int .i64 o, .int .u32 m] 51)) ⟨p1.d + 1 + 1, p1.os⟩) q [] := HL.out.upd (S := []) (((Upd.refl [] w).alloc _).grE _) (by simp)
        have h2 := QL.add hW.own (by
          obtain ⟨va', vn', hh', _⟩ := hW.hd
          have h1 := heap_set hh' 4 (qptr q)
          exact ⟨qptr q, qptr q, _, by rw [heap_set h1]; rfl, rfl, rfl⟩) ⟨t, k, o, m⟩
        have hlq' : q < (w.alloc (.cells #[.int .i64 t, .int .i64 k, .int .i64 o, .int .u32 m] 51)).heap.size := by simp; omega
        simp only [qlast, qptr, size_setCell, size_gr, World.size_alloc, List.length_nil, Nat.zero_add] at h2
        rw [setCell_gr _ _ _ hlq', setCell_gr _ _ _ (by simpa [size_setCell] using hlq'), setCell_gr _ _ _ (by simpa [size_setCell] using hlq'), setCell_gr _ _ _ (by simpa [size_setCell] using hlq'), setCell_gr _ _ _ (by simpa [size_setCell] using hlq')] at h2
        rw [World.setCell_alloc_past _ _ _ _ hlq, World.setCell_alloc_past _ _ _ _ (by simpa [size_setCell] using hlq), World.setCell_alloc_past _ _ _ _ (by simpa [size_setCell] using hlq), World.setCell_alloc_past _ _ _ _ (by simpa [size_setCell] using hlq), World.setCell_alloc_past _ _ _ _ (by simpa [size_setCell] using hlq)] at h2
        exact h2
      · refine Upd.alloc (Upd.grE (Upd.alloc (Upd.setB (Upd.setB (Upd.setB (Upd.setB (Upd.setB (Upd.refl _ _) (.inl ?_)) (.inl ?_)) (.inl ?_)) (.inl ?_)) (.inl ?_)) _) _) _ <;> simp
    · obtain ⟨rfl, rfl⟩ := HE.out (by simp)
      generalize hxs : z :: zs = xs at *
      obtain ⟨⟨vA, hcA⟩, hfA⟩ := HL.out.lnk (k := qlast q xs) (by rcases qlast_mem q xs with e | e <;> simp [e]) 5 (by omega)
      have hlA := HL.out.lt (qlast q xs) (by rcases qlast_mem q xs with e | e <;> simp [e])
      have hz : (((xs.length : Nat) : Int) == 0) = false := by rw [← hxs]; simp; omega
      have hz' : ¬ (((xs.length : Nat) : Int) = 0) := by rw [← hxs]; simp; omega
      unfold qptr at c4
      generalize hA0 : qlast q xs = A at c4 hcA hfA hlA
      generalize hB0 : qptr (qhd q xs) = B at c5
      have HX := Lib.hid (And.intro hA0 (And.intro hB0 hxs))
      clear hA0 hB0 hxs
      go_enter Try.func19, Try.ntmps19
      go_wp2_with (go_at_call 54; refine (HF.out _ ((Upd.refl _ _).alloc _)).mono ?_; rintro e w1 ⟨rfl, hu⟩; obtain ⟨p1, rfl⟩ := hu.grown; clear hu)
      go_region
      go_wp2
      go_ret
      obtain ⟨rfl, hB0, hxs⟩ := HX.out
      refine .inr ⟨HQ.out, w.heap.size + 1 + p1.os.size, by simp, by omega, ?_, ?_⟩
      · have hW : QL (gr (w.alloc (.cells #[.int .i64 t, .int .i64 k, .int .i64 o, .int .u32 m] 51)) ⟨p1.d + 1, p1.os⟩) q xs := HL.out.upd (S := []) (((Upd.refl [] w).alloc _).grE _) (by simp)
        have h2 := QL.add hW (by
          obtain ⟨va', vn', hh', he'⟩ := hW.hd
          obtain ⟨rfl, rfl⟩ := he' (by rw [← hxs]; simp)
          exact ⟨_, _, _, hh', rfl, rfl⟩) ⟨t, k, o, m⟩
        have hlq' : q < (w.alloc (.cells #[.int .i64 t, .int .i64 k, .int .i64 o, .int .u32 m] 51)).heap.size := by simp; omega
        have hlA' : qlast q xs < (w.alloc (.cells #[.int .i64 t, .int .i64 k, .int .i64 o, .int .u32 m] 51)).heap.size := by simp; omega
        simp only [qptr, size_setCell, size_gr, World.size_alloc] at h2
        rw [setCell_gr _ _ _ hlA', setCell_gr _ _ _ (by simpa [size_setCell] using hlq'), setCell_gr _ _ _ (by simpa [size_setCell] using hlq')] at h2
        rw [World.setCell_alloc_past _ _ _ _ hlA, World.setCell_alloc_past _ _ _ _ (by simpa [size_setCell] using hlq), World.setCell_alloc_past _ _ _ _ (by simpa [size_setCell] using hlq)] at h2
        exact h2
      · refine Upd.alloc (Upd.grE (Upd.alloc (Upd.setB (Upd.setB (Upd.setB (Upd.refl _ _) (.inl ?_)) (.inl ?_)) (.inl ?_)) _) _) _
        · rcases qlast_mem q xs with e | e <;> simp [e]
        all_goals simp
  · have hq : qaddN ⟨t, k, o, m⟩ xs = false := by simp [qaddN, hx]
    have HQ := Lib.hid hq
    rw [hx] at HF
    unfold qaddr at HF
    simp only [Option.map] at HF
    clear hq h0 h1 hx
    go_enter Try.func19, Try.ntmps19
    go_wp2_with (go_at_call 54; refine (HF.out _ ((Upd.refl _ _).alloc _)).mono ?_; rintro e w1 ⟨rfl, hu⟩; obtain ⟨p1, rfl⟩ := hu.grown; clear hu)
    go_ret
    exact .inl ⟨HQ.out, by simp, ((Upd.refl [] w).alloc _).grE _⟩
end
end Go.Proofs.Ytdbgnnkbcebpcaa
