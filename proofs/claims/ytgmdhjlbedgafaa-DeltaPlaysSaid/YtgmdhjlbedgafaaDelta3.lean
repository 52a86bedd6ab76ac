/- Package delta: Remove, Left, Len, and Add that is refused. -/
import Derived.Test.YtgmdhjlbedgafaaDelta2
set_option linter.unusedVariables false
set_option linter.unusedSimpArgs false
namespace Go.Proofs.Ytgmdhjlbedgafaa
open Go.RowKit

set_option maxRecDepth 100000 in
set_option maxHeartbeats 1000000 in
theorem dlen_any {w : World} {d : Nat} {xs : List DN} (h : DL w d xs) :
    Calls Try.prog 15 #[.pointer (some ⟨d, 0, none⟩)] w fun e w' => e = .returned (.int .i64 xs.length) ∧ w = w' := by
  obtain ⟨c0, c1⟩ := cells2 h.hd
  clear h
  go_enter Try.func15, Try.ntmps15
  go_wp2
  go_ret
  exact ⟨rfl, rfl⟩
set_option maxRecDepth 100000 in
set_option maxHeartbeats 1000000 in
theorem dlen_nil (w : World) : Calls Try.prog 15 #[.pointer none] w fun e w' => e = .returned (.int .i64 0) ∧ w = w' := by
  go_enter Try.func15, Try.ntmps15
  go_wp2
  go_ret
  exact ⟨rfl, rfl⟩

/-- What 'Left' answers. -/
def dleft (t : Int) (xs : List DN) : Int × Bool := match dfind t xs with
  | none => (0, false)
  | some r => (r.2.1.a, true)

set_option maxRecDepth 100000 in
set_option maxHeartbeats 1000000 in
theorem dleft_any {w : World} {d : Nat} {xs : List DN} (t : Int) (h : DL w d xs) :
    Calls Try.prog 13 #[.pointer (some ⟨d, 0, none⟩), .int .i64 t] w fun e w' => e = .returned (.tuple #[.int .u32 (dleft t xs).1, .bool (dleft t xs).2]) ∧ w = w' := by
  have hf := dfind_any t h
  unfold dleft
  cases hx : dfind t xs with
  | none =>
    rw [hx] at hf
    have HF := Lib.hid hf
    clear hf hx h
    go_enter Try.func13, Try.ntmps13
    go_wp2_with (go_at_call 33; refine (HF.out).mono ?_; simp only [findAns]; rintro e w' ⟨rfl, rfl⟩)
    go_ret2
    exact ⟨rfl, rfl⟩
  | some r =>
    rw [hx] at hf
    have HF := Lib.hid hf
    clear hf hx h
    go_enter Try.func13, Try.ntmps13
    go_wp2_with (go_at_call 33; refine (HF.out).mono ?_; simp only [findAns]; rintro e w' ⟨rfl, rfl⟩)
    go_ret2
    exact ⟨rfl, rfl⟩
set_option maxRecDepth 100000 in
set_option maxHeartbeats 1000000 in
theorem dleft_nil (t : Int) (w : World) :
    Calls Try.prog 13 #[.pointer none, .int .i64 t] w fun e w' => e = .returned (.tuple #[.int .u32 0, .bool false]) ∧ w = w' := by
  go_enter Try.func13, Try.ntmps13
  go_wp2_with (go_at_call 33; refine (dfind_nil _ _).mono ?_; rintro e w' ⟨rfl, rfl⟩)
  go_ret2
  exact ⟨rfl, rfl⟩

set_option maxRecDepth 100000 in
set_option maxHeartbeats 1000000 in
theorem dadd_nil (t a : Int) (w : World) :
    Calls Try.prog 6 #[.pointer none, .int .i64 t, .int .u32 a] w fun e w' => e = .returned (.bool false) ∧ w = w' := by
  go_enter Try.func6, Try.ntmps6
  go_wp2_with (go_at_call 33; refine (dfind_nil _ _).mono ?_; rintro e w' ⟨rfl, rfl⟩)
  go_ret
  exact ⟨rfl, rfl⟩

set_option maxRecDepth 100000 in
set_option maxHeartbeats 2000000 in
theorem dadd_no {w : World} {d : Nat} {xs : List DN} (t a : Int) (h : DL w d xs) (hno : dfind t xs ≠ none ∨ t < 0 ∨ 16 ≤ t ∨ a = 0) :
    Calls Try.prog 6 #[.pointer (some ⟨d, 0, none⟩), .int .i64 t, .int .u32 a] w fun e w' => e = .returned (.bool false) ∧ w = w' := by
  have hf := dfind_any t h
  cases hx : dfind t xs with
  | some r =>
    rw [hx] at hf
    have HF := Lib.hid hf
    clear hf hx h hno
    go_enter Try.func6, Try.ntmps6
    go_wp2_with (go_at_call 33; refine (HF.out).mono ?_; simp only [findAns]; rintro e w' ⟨rfl, rfl⟩)
    go_ret
    exact ⟨rfl, rfl⟩
  | none =>
    rw [hx] at hf
    have HF := Lib.hid hf
    have hno' : t < 0 ∨ 16 ≤ t ∨ a = 0 := by simpa [hx] using hno
    clear hf hx h hno
    by_cases h1 : t < 0
    · clear hno'
      go_enter Try.func6, Try.ntmps6
      go_wp2_with (go_at_call 33; refine (HF.out).mono ?_; simp only [findAns]; rintro e w' ⟨rfl, rfl⟩)
      go_ret
      exact ⟨rfl, rfl⟩
    · by_cases h2 : 16 ≤ t
      · clear hno'
        go_enter Try.func6, Try.ntmps6
        go_wp2_with (go_at_call 33; refine (HF.out).mono ?_; simp only [findAns]; rintro e w' ⟨rfl, rfl⟩)
        go_ret
        exact ⟨rfl, rfl⟩
      · obtain rfl : a = 0 := by omega
        clear hno'
        go_enter Try.func6, Try.ntmps6
        go_wp2_with (go_at_call 33; refine (HF.out).mono ?_; simp only [findAns]; rintro e w' ⟨rfl, rfl⟩)
        go_ret
        exact ⟨rfl, rfl⟩

/-- The world behind 'Remove' of the link behind ys. -/
def remTick (w1 : World) (p : Int) : List DN → World
  | [] => w1
  | z :: _ => w1.setCell ⟨z.b, 1, none⟩ (.int .u32 (z.a - p))
def remW (w : World) (d : Nat) (ys zs : List DN) : World :=
  ((remTick w (dlast 0 ys) zs).setCell (dlink ⟨d, 0, none⟩ ys) (dfirst zs)).setCell ⟨d, 1, none⟩ (.int .i64 (ys ++ zs).length)

theorem DL.remove {w : World} {d : Nat} {ys zs : List DN} {z : DN} (h : DL w d (ys ++ z :: zs)) :
    DL (remW w d ys zs) d (ys ++ zs) ∧ Upd (d :: (ys ++ z :: zs).map DN.b) w (remW w d ys zs) := by
  have hnd : (d :: (ys.map DN.b ++ z.b :: zs.map DN.b)).Nodup := by simpa using h.nodup
  obtain ⟨hdn, happ⟩ := List.nodup_cons.1 hnd
  obtain ⟨hy, hz, hyz⟩ := List.nodup_append.1 happ
  obtain ⟨hzn, hz'⟩ := List.nodup_cons.1 hz
  obtain ⟨hp, hs0⟩ := DP.split.1 h.dp
  have hs := hs0.2
  have hdy : d ∉ ys.map DN.b := fun hm => hdn (by simp at hm ⊢; exact .inl hm)
  have hlb := dlink_mem d ys
  have hdlb : ∀ x ∈ zs, x.b ∉ d :: ys.map DN.b := fun x hx hm => by
    rcases List.mem_cons.1 hm with e | hk
    · exact hdn (by rw [← e]; simp; exact .inr (.inr ⟨x, hx, rfl⟩))
    · exact hyz _ hk _ (by simp; exact .inr ⟨x, hx, rfl⟩) rfl
  -- the one behind
  obtain ⟨w2, hw2, hp2, hs2, hu2⟩ : ∃ w2, w2 = remTick w (dlast 0 ys) zs ∧ DP w2 d ys (dptr z.b) ((ys ++ z :: zs).length) ∧ DSegN w2 (Value.pointer none) (dlast 0 ys) zs ∧ Upd (d :: (ys ++ z :: zs).map DN.b) w w2 := by
    cases zs with
    | nil => exact ⟨_, rfl, hp, trivial, Upd.refl _ _⟩
    | cons x zs =>
      refine ⟨_, rfl, hp.frame fun k hk => heap_set_other _ _ _ ?_, hs.setTicks (by simpa using hz') _, (Upd.refl _ _).setCell (by simp) _⟩
      rintro rfl
      exact hdlb x (by simp) hk
  have hp3 := hp2.setLink (List.nodup_cons.2 ⟨hdy, hy⟩) (dfirst zs)
  have hs3 := hs2.frame (w' := w2.setCell (dlink ⟨d, 0, none⟩ ys) (dfirst zs)) fun x hx => heap_setCell_ne _ _ _ (fun e => hdlb x hx (e ▸ hlb))
  have hp4 := hp3.setN hdy ((ys ++ zs).length)
  have hs4 := hs3.frame (w' := (w2.setCell (dlink ⟨d, 0, none⟩ ys) (dfirst zs)).setCell ⟨d, 1, none⟩ (.int .i64 ((ys ++ zs).length))) fun x hx => heap_set_other _ _ _ (by rintro e; exact hdlb x hx (by rw [e]; simp))
  have hW : remW w d ys zs = (w2.setCell (dlink ⟨d, 0, none⟩ ys) (dfirst zs)).setCell ⟨d, 1, none⟩ (.int .i64 ((ys ++ zs).length)) := by rw [remW, hw2]
  rw [hW]
  obtain ⟨hso1, hso2⟩ := DSorted.split.1 h.sorted
  refine ⟨DP.dl (DP.split.2 ⟨hp4, hs4⟩) ?_ (DSorted.split.2 ⟨hso1, ?_⟩), (hu2.setCell (.inl ?_) _).setCell (by simp) _⟩
  · simp only [List.map_append, List.nodup_cons, List.nodup_append, List.mem_append]
    exact ⟨fun hm => hdn (by simp at hm ⊢; rcases hm with hm | hm; exact .inl hm; exact .inr (.inr hm)), hy, hz', fun a ha b hb => hyz a ha b (by simp at hb ⊢; exact .inr hb)⟩
  · cases zs with
    | nil => trivial
    | cons x zs => exact ⟨Int.le_trans hso2.1 hso2.2.2.1, hso2.2.2.2.1, hso2.2.2.2.2⟩
  · rcases List.mem_cons.1 hlb with e | hk
    · rw [e]; simp
    · simp at hk ⊢; exact .inr (.inl hk)

set_option maxRecDepth 100000 in
set_option maxHeartbeats 1000000 in
theorem drem_nil (t : Int) (w : World) :
    Calls Try.prog 8 #[.pointer none, .int .i64 t] w fun e w' => e = .returned (.tuple #[.int .u32 0, .bool false]) ∧ w = w' := by
  go_enter Try.func8, Try.ntmps8
  go_wp2_with (go_at_call 33; refine (dfind_nil _ _).mono ?_; rintro e w' ⟨rfl, rfl⟩)
  go_ret2
  exact ⟨rfl, rfl⟩
set_option maxRecDepth 100000 in
set_option maxHeartbeats 1000000 in
theorem drem_no {w : World} {d : Nat} {xs : List DN} (t : Int) (h : DL w d xs) (hn : dfind t xs = none) :
    Calls Try.prog 8 #[.pointer (some ⟨d, 0, none⟩), .int .i64 t] w fun e w' => e = .returned (.tuple #[.int .u32 0, .bool false]) ∧ w = w' := by
  have hf := dfind_any t h
  rw [hn] at hf
  have HF := Lib.hid hf
  clear hf hn h
  go_enter Try.func8, Try.ntmps8
  go_wp2_with (go_at_call 33; refine (HF.out).mono ?_; simp only [findAns]; rintro e w' ⟨rfl, rfl⟩)
  go_ret2
  exact ⟨rfl, rfl⟩

def DRemPost (w : World) (d : Nat) (ys zs : List DN) (z : DN) (e : Ending) (w' : World) : Prop :=
  e = .returned (.tuple #[.int .u32 z.a, .bool true]) ∧ DL w' d (ys ++ zs) ∧ Upd (d :: (ys ++ z :: zs).map DN.b) w w'

theorem DRem_end {w : World} {d : Nat} {ys zs : List DN} {z : DN} (h : DL w d (ys ++ z :: zs)) (n : Nat) : DRemPost w d ys zs z (.returned (.tuple #[.int .u32 z.a, .bool true])) ((remW w d ys zs).drewN n) := by
  obtain ⟨h1, h2⟩ := h.remove
  exact ⟨rfl, ⟨h1.hd, h1.seg.frame (fun _ _ => rfl), h1.nodup, h1.sorted⟩, h2.drewN n⟩

set_option maxRecDepth 100000 in
set_option maxHeartbeats 2000000 in
theorem drem_yes {w : World} {d : Nat} {ys zs : List DN} {z : DN} (t : Int) (h : DL w d (ys ++ z :: zs)) (hf : dfind t (ys ++ z :: zs) = some (ys, z, zs)) (hlen : (ys ++ z :: zs).length < 1000000) :
    Calls Try.prog 8 #[.pointer (some ⟨d, 0, none⟩), .int .i64 t] w (DRemPost w d ys zs z) := by
  have hfa := dfind_any t h
  rw [hf] at hfa
  simp only [findAns] at hfa
  have hl := h.link (ys := ys) (zs := z :: zs) rfl
  have hlf := h.linkFree (ys := ys) (zs := z :: zs)
  obtain ⟨hc0, hc1⟩ := cells2 h.hd
  have hfd := frozen_of_heap h.hd 1
  have hn := DSeg.node h.seg
  obtain ⟨n0, n1, n2⟩ := cells3 hn
  have nf := frozen_of_heap hn 1
  have hs := DSorted.node h.sorted
  have hp := DSorted.last (ys := ys) h.sorted (by omega)
  have hdz : d ≠ z.b := by
    have := h.nodup
    rintro rfl
    simp at this
  have hzd : z.b ≠ d := Ne.symm hdz
  have hzl : z.b ≠ (dlink ⟨d, 0, none⟩ ys).block := fun e => by
    have hm := dlink_mem d ys
    have hnd : (d :: (ys.map DN.b ++ z.b :: zs.map DN.b)).Nodup := by simpa using h.nodup
    obtain ⟨hdn, happ⟩ := List.nodup_cons.1 hnd
    rw [← e] at hm
    rcases List.mem_cons.1 hm with e | hk
    · exact hzd e
    · exact (List.nodup_append.1 happ).2.2 _ hk _ (by simp) rfl
  have hrw := fun n => DRem_end h n
  obtain ⟨n, hN⟩ : ∃ n : Nat, (ys ++ zs).length = n := ⟨_, rfl⟩
  have hN1 : (ys ++ z :: zs).length = n + 1 := by simp at hN ⊢; omega
  have hn9 : n < 1000000 := by omega
  have hN2 : ((n + 1 : Nat) : Int) - 1 = n := by omega
  obtain ⟨lb, lo, hL, hlo⟩ := dlink_form d ys
  simp only [remW, hL, hN] at hrw
  rw [hL] at hl hlf hfa hzl
  rw [hN1] at hc1
  have HF := Lib.hid hfa
  have hlz : lb ≠ z.b := Ne.symm hzl
  simp only [dfirst, dfirstN, dptr] at hl
  cases zs with
  | nil =>
    simp only [remTick, dfirst, dfirstN] at hrw
    simp only [dfirst, dfirstN] at n2
    have HRW := Lib.hid hrw
    clear hfa hrw h hn hc0 hN hN1 hf hL
    go_enter Try.func8, Try.ntmps8
    go_wp2_with (go_at_call 33; refine (HF.out).mono ?_; rintro e w' ⟨rfl, rfl⟩)
    go_ret2
    exact HRW.out 0
  | cons x zs =>
    have hnx := DSeg.node (ys := ys ++ [z]) (z := x) (zs := zs) (by simpa using h.seg)
    rw [dlast_append] at hnx
    obtain ⟨x0, x1, x2⟩ := cells3 hnx
    have xf := frozen_of_heap hnx 1
    have hsx := DSorted.node (ys := ys ++ [z]) (z := x) (zs := zs) (by simpa using h.sorted)
    rw [dlast_append] at hsx
    have hnd : (d :: (ys.map DN.b ++ z.b :: x.b :: zs.map DN.b)).Nodup := by simpa using h.nodup
    obtain ⟨hdn, happ⟩ := List.nodup_cons.1 hnd
    have hxz : x.b ≠ z.b := fun e => by
      have := (List.nodup_cons.1 (List.nodup_append.1 happ).2.1).1
      simp [e] at this
    have hzx : z.b ≠ x.b := Ne.symm hxz
    have hdx : d ≠ x.b := fun e => hdn (by simp [e])
    have hw : IntKind.u32.wrap (x.a - z.a + (z.a - dlast 0 ys)) = x.a - dlast 0 ys := by rw [IntKind.wrap_u32]; omega
    simp only [remTick, dfirst, dfirstN, dptr] at hrw
    simp only [dfirst, dfirstN, dptr] at n2
    have HRW := Lib.hid hrw
    clear hfa hrw h hn hc0 hN hN1 hf hL hnx hnd happ hdn
    go_enter Try.func8, Try.ntmps8
    go_wp2_with (go_at_call 33; refine (HF.out).mono ?_; rintro e w' ⟨rfl, rfl⟩)
    go_still_tail 14, (by kernel_rfl)
    change wpList _ _ _ _ _ w.drew
    go_wp2
    go_ret2
    exact HRW.out 1
end Go.Proofs.Ytgmdhjlbedgafaa
