/- Package delta: Copy. -/
import Derived.Test.YtfdidgobgeohcaaDelta8
set_option linter.unusedVariables false
set_option linter.unusedSimpArgs false
namespace Go.Proofs.Ytfdidgobgeohcaa
open Go.RowKit

/-- The same tasks and ticks, in other blocks. -/
def dsame (xs ys : List DN) : Prop := xs.map (fun x => (x.t, x.a)) = ys.map (fun x => (x.t, x.a))
theorem dsame_last {xs ys : List DN} (h : dsame xs ys) (p : Int) : dlast p xs = dlast p ys := by
  induction xs generalizing ys p with
  | nil => cases ys with
    | nil => rfl
    | cons y ys => cases h
  | cons x xs ih =>
    cases ys with
    | nil => cases h
    | cons y ys =>
      simp only [dsame, List.map_cons, List.cons.injEq, Prod.mk.injEq] at h
      simp only [dlast]
      rw [ih h.2, h.1.2]
theorem dsame_snoc {xs ys : List DN} (h : dsame xs ys) {x y : DN} (h1 : x.t = y.t) (h2 : x.a = y.a) : dsame (xs ++ [x]) (ys ++ [y]) := by
  unfold dsame at *
  simp [h, h1, h2]
theorem dsame_sorted {xs ys : List DN} (h : dsame xs ys) {p : Int} (hs : DSorted p ys) : DSorted p xs := by
  induction xs generalizing ys p with
  | nil => trivial
  | cons x xs ih =>
    cases ys with
    | nil => cases h
    | cons y ys =>
      simp only [dsame, List.map_cons, List.cons.injEq, Prod.mk.injEq] at h
      obtain ⟨h1, h2, h3⟩ := hs
      rw [← h.1.2] at h1 h2 h3
      exact ⟨h1, h2, ih h.2 h3⟩

/-- What is built of a copy. -/
structure DCp (w : World) (c l : Nat) (cs : List DN) (n : Int) : Prop where
  dp : DP w c cs (.pointer none) n
  nd : (c :: cs.map DN.b).Nodup
  lk : w.heap[l]? = some (.cells #[.pointer (some (dlink ⟨c, 0, none⟩ cs))] 184 (0, 0))
  ln : l ∉ c :: cs.map DN.b

theorem DP.lt {w : World} {d : Nat} {ys : List DN} {nx : Value} {n : Int} (h : DP w d ys nx n) : ∀ k ∈ d :: ys.map DN.b, k < w.heap.size := by
  intro k hk
  rcases List.mem_cons.1 hk with rfl | hk
  · exact heap_lt h.hd
  · obtain ⟨x, hx, rfl⟩ := List.mem_map.1 hk
    exact h.seg.lt x hx

def copyW (w : World) (c l : Nat) (cs : List DN) (t a : Int) : World :=
  ((w.setCell (dlink ⟨c, 0, none⟩ cs) (dptr w.heap.size)).setCell ⟨l, 0, none⟩ (.pointer (some ⟨w.heap.size, 2, none⟩))).alloc (.cells #[.int .i64 t, .int .u32 (a - dlast 0 cs), .pointer none] 188)

theorem DCp.next {w : World} {c l : Nat} {cs : List DN} {n : Int} (h : DCp w c l cs n) (t a : Int) : DCp (copyW w c l cs t a) c l (cs ++ [⟨w.heap.size, t, a⟩]) n ∧ Upd (l :: c :: cs.map DN.b) w (copyW w c l cs t a) := by
  have hlt := h.dp.lt
  have hll := heap_lt h.lk
  have hlb := dlink_mem c cs
  have hln : l ≠ (dlink ⟨c, 0, none⟩ cs).block := fun e => h.ln (e ▸ hlb)
  have hp1 := h.dp.setLink h.nd (dptr w.heap.size)
  have hp2 : DP ((w.setCell (dlink ⟨c, 0, none⟩ cs) (dptr w.heap.size)).setCell ⟨l, 0, none⟩ (.pointer (some ⟨w.heap.size, 2, none⟩))) c cs (dptr w.heap.size) n :=
    hp1.frame fun k hk => heap_set_other _ _ _ (by rintro rfl; exact h.ln hk)
  have hs : ((w.setCell (dlink ⟨c, 0, none⟩ cs) (dptr w.heap.size)).setCell ⟨l, 0, none⟩ (.pointer (some ⟨w.heap.size, 2, none⟩))).heap.size = w.heap.size := by rw [size_setCell, size_setCell]
  have hp3 : DP (copyW w c l cs t a) c cs (dptr w.heap.size) n := hp2.frame fun k hk => heap_alloc_other _ _ (by rw [hs]; exact hlt k hk)
  have hB : (copyW w c l cs t a).heap[w.heap.size]? = some (.cells #[.int .i64 t, .int .u32 (a - dlast 0 cs), .pointer none] 188 (0, 0)) := by
    have := heap_alloc_new ((w.setCell (dlink ⟨c, 0, none⟩ cs) (dptr w.heap.size)).setCell ⟨l, 0, none⟩ (.pointer (some ⟨w.heap.size, 2, none⟩))) (.cells #[.int .i64 t, .int .u32 (a - dlast 0 cs), .pointer none] 188)
    rw [hs] at this
    exact this
  have hne : ∀ k ∈ c :: cs.map DN.b, k ≠ w.heap.size := fun k hk e => by have := hlt k hk; omega
  refine ⟨⟨DP.split.2 ⟨hp3, hB, trivial⟩, ?_, ?_, ?_⟩, (((Upd.refl _ _).setCell (.inl ?_) _).setCell (by simp) _).alloc _⟩
  · simp only [List.map_append, List.map_cons, List.map_nil]
    obtain ⟨h1, h2⟩ := List.nodup_cons.1 h.nd
    refine List.nodup_cons.2 ⟨fun hm => ?_, ?_⟩
    · rcases List.mem_append.1 hm with hm | hm
      · exact h1 hm
      · simp at hm; exact hne c (by simp) hm
    · rw [List.nodup_append]
      exact ⟨h2, by simp, fun x hx y hy => by simp at hy; subst hy; exact hne x (by simp at hx ⊢; exact .inr hx)⟩
  · rw [dlink_append]
    show (copyW w c l cs t a).heap[l]? = _
    unfold copyW
    rw [heap_alloc_other _ _ (by rw [hs]; exact hll)]
    have h1 : (w.setCell (dlink ⟨c, 0, none⟩ cs) (dptr w.heap.size)).heap[l]? = some (.cells #[.pointer (some (dlink ⟨c, 0, none⟩ cs))] 184 (0, 0)) := by rw [heap_setCell_ne _ _ _ hln]; exact h.lk
    rw [heap_set h1]
    rfl
  · intro hm
    have hm' : l ∈ c :: cs.map DN.b ∨ l = w.heap.size := by
      simp only [List.map_append, List.map_cons, List.map_nil] at hm
      rcases List.mem_cons.1 hm with e | hm
      · exact .inl (by simp [e])
      · rcases List.mem_append.1 hm with hm | hm
        · exact .inl (by simp at hm ⊢; exact .inr hm)
        · exact .inr (by simpa using hm)
    rcases hm' with h1 | h1
    · exact h.ln h1
    · omega
  · simp at hlb ⊢
    rcases hlb with e | e
    · exact .inr (.inl e)
    · exact .inr (.inr e)

def CopyPost (w : World) (c l : Nat) (cs : List DN) (n t a : Int) (e : Ending) (w' : World) : Prop :=
  e = .returned (.tuple #[]) ∧ DCp w' c l (cs ++ [⟨w.heap.size, t, a⟩]) n ∧ Upd (l :: c :: cs.map DN.b) w w'

set_option maxRecDepth 100000 in
set_option maxHeartbeats 1000000 in
theorem copy1_any {w : World} {c l : Nat} {cs : List DN} {n : Int} (t a : Int) (bh : Option Addr) (h : DCp w c l cs n) :
    Calls Try.prog 103 #[.agg #[.int .i64 t, .int .u32 (a - dlast 0 cs), .pointer bh], .pointer (some ⟨l, 0, none⟩)] w (CopyPost w c l cs n t a) := by
  have hlb := h.dp.lt _ (dlink_mem c cs)
  have hll := heap_lt h.lk
  have hlk : w.cell? ⟨l, 0, none⟩ = some (.pointer (some (dlink ⟨c, 0, none⟩ cs))) := by rw [cell_of_heap h.lk]; rfl
  have hlf := frozen_of_heap h.lk 0
  have hln : l ≠ (dlink ⟨c, 0, none⟩ cs).block := fun e => h.ln (e ▸ dlink_mem c cs)
  obtain ⟨hc, hf⟩ : w.cell? (dlink ⟨c, 0, none⟩ cs) = some (.pointer none) ∧ w.frozen? (dlink ⟨c, 0, none⟩ cs) = false := by
    rcases List.eq_nil_or_concat cs with rfl | ⟨ys, y, rfl⟩
    · exact ⟨by rw [dlink, cell_of_heap h.dp.hd]; rfl, frozen_of_heap h.dp.hd 0⟩
    · have hd := h.dp
      rw [List.concat_eq_append] at *
      rw [dlink_append]
      have hn := (DP.split.1 hd).2.1
      exact ⟨by rw [cell_of_heap hn]; rfl, frozen_of_heap hn 2⟩
  have hfin := h.next t a
  unfold copyW at hfin
  obtain ⟨lb, lo, hL, hlo⟩ := dlink_form c cs
  simp only [hL, dptr] at hfin
  rw [hL] at hlb hlk hln hc hf
  have hlne : lb ≠ l := Ne.symm hln
  have HFIN := Lib.hid hfin
  clear h hfin hL
  go_enter Try.func103, Try.ntmps103
  go_wp2
  go_end0
  exact ⟨rfl, HFIN.out⟩

set_option maxRecDepth 100000 in
set_option maxHeartbeats 1000000 in
theorem dcopy_nil (w : World) : Calls Try.prog 63 #[.pointer none] w fun e w' => e = .returned (.pointer none) ∧ w = w' := by
  go_enter Try.func63, Try.ntmps63
  go_wp2
  go_ret
  exact ⟨rfl, rfl⟩

def DCopyPost (w : World) (xs : List DN) (e : Ending) (w' : World) : Prop :=
  ∃ c cs, e = .returned (.pointer (some ⟨c, 0, none⟩)) ∧ DL w' c cs ∧ dsame cs xs ∧ (∀ k ∈ c :: cs.map DN.b, w.heap.size ≤ k) ∧ Upd [] w w'

theorem dfirst_form (zs : List DN) : ∃ p : Option Addr, .pointer p = dfirst zs := by cases zs <;> exact ⟨_, rfl⟩

theorem dcopy_ge {B : Nat} {cs : List DN} (h : ∀ k ∈ cs.map DN.b, B ≤ k) : ∀ i, i ∈ (B + 1) :: B :: cs.map DN.b → i ∈ ([] : List Nat) ∨ B ≤ i := by
  intro i hi
  rcases List.mem_cons.1 hi with rfl | hi
  · exact .inr (by omega)
  · rcases List.mem_cons.1 hi with rfl | hi
    · exact .inr (Nat.le_refl _)
    · exact .inr (h i hi)

set_option maxRecDepth 100000 in
set_option maxHeartbeats 1000000 in
theorem dcopy_any {w : World} {d : Nat} {xs : List DN} (h : DL w d xs) :
    Calls Try.prog 63 #[.pointer (some ⟨d, 0, none⟩)] w (DCopyPost w xs) := by
  obtain ⟨c0, c1⟩ := cells2 h.hd
  obtain ⟨fv, hfv⟩ := dfirst_form xs
  rw [← hfv] at c0
  have hdl := heap_lt h.hd
  have HL := Lib.hid h
  have HFV := Lib.hid hfv
  obtain ⟨n, hn⟩ : ∃ n : Nat, n = xs.length := ⟨_, rfl⟩
  rw [← hn] at c1
  have HN := Lib.hid hn
  have hcp : DCp ((w.alloc (.cells #[.pointer none, .int .i64 n] 56)).alloc (.cells #[.pointer (some ⟨w.heap.size, 0, none⟩)] 184)) w.heap.size (w.heap.size + 1) [] n := by
    refine ⟨⟨?_, trivial⟩, by simp, ?_, by simp⟩
    · rw [heap_alloc_other _ _ (by simp), heap_alloc_new]; rfl
    · have := heap_alloc_new (w.alloc (.cells #[.pointer none, .int .i64 n] 56)) (.cells #[.pointer (some ⟨w.heap.size, 0, none⟩)] 184)
      rw [World.size_alloc] at this
      exact this
  have HCP := Lib.hid hcp
  have hu0 : Upd [] w ((w.alloc (.cells #[.pointer none, .int .i64 n] 56)).alloc (.cells #[.pointer (some ⟨w.heap.size, 0, none⟩)] 184)) := ((Upd.refl _ _).alloc _).alloc _
  have HU0 := Lib.hid hu0
  clear h hfv hn hcp hu0
  go_enter Try.func63, Try.ntmps63
  go_wp2
  go_loopg [6] xs.length (fun m x wr => ∃ ys zs cs, m = zs.length ∧ xs = ys ++ zs ∧ x = dfirst zs ∧ DCp wr w.heap.size (w.heap.size + 1) cs n ∧ dsame cs ys ∧ (∀ k ∈ cs.map DN.b, w.heap.size ≤ k) ∧ Upd [] w wr)
  case atStart => exact ⟨[], xs, [], rfl, rfl, HFV.out, HCP.out, rfl, by simp, HU0.out⟩
  case round =>
    obtain ⟨ys, zs, cs, rfl, hsp, rfl, hcp, hsm, hge, hu⟩ := hrel
    have HSP := Lib.hid hsp
    have HCP := Lib.hid hcp
    have HSM := Lib.hid hsm
    have HGE := Lib.hid hge
    have HU := Lib.hid hu
    cases zs with
    | nil =>
      simp only [dfirst, dfirstN]
      clear hsp hcp hsm hge hu
      go_wp2
      go_ret
      have hcp := HCP.out
      have hsm := HSM.out
      have hsp := HSP.out
      simp only [List.append_nil] at hsp
      subst hsp
      have hl : cs.length = xs.length := by
        have := congrArg List.length hsm
        simpa using this
      refine ⟨w.heap.size, cs, rfl, DP.dl ?_ hcp.nd (dsame_sorted hsm HL.out.sorted), hsm, ?_, HU.out⟩
      · have := hcp.dp
        rw [HN.out, ← hl] at this
        exact this
      · intro k hk
        rcases List.mem_cons.1 hk with rfl | hk
        · exact Nat.le_refl _
        · exact HGE.out k hk
    | cons z zs =>
      have hdl2 := HL.out
      rw [hsp] at hdl2
      have hz := hu.keepb (DSeg.node hdl2.seg) (by simp)
      rw [← dsame_last hsm] at hz
      obtain ⟨fz, hfz⟩ := dfirst_form zs
      rw [← hfz] at hz
      have HFZ := Lib.hid hfz
      obtain ⟨z0, z1, z2⟩ := cells3 hz
      have hzl := heap_lt (DSeg.node hdl2.seg)
      have HZN := Lib.hid (DSeg.node hdl2.seg)
      have hsz := hu.size
      simp only [dfirst, dfirstN, dptr]
      clear hsp hcp hsm hge hu hz hfz hdl2
      go_wp2_with (go_at_call 103; refine (copy1_any z.t z.a fz HCP.out).mono ?_; rintro e w1 ⟨rfl, hcp1, hu1⟩; have hu2 := HU.out.then hu1 (dcopy_ge HGE.out); have hz2 := hu2.keepb HZN.out (by simp); rw [← HFZ.out] at hz2; obtain ⟨y0, y1, y2⟩ := cells3 hz2; have HCP1 := Lib.hid hcp1; have HU2 := Lib.hid hu2; clear hcp1 hu1 hu2 hz2)
      go_roundg zs.length
      case measure => simp
      case rel =>
        refine ⟨ys ++ [z], zs, _, rfl, by rw [HSP.out]; simp, HFZ.out, HCP1.out, dsame_snoc HSM.out rfl rfl, ?_, HU2.out⟩
        intro k hk
        simp only [List.map_append, List.map_cons, List.map_nil] at hk
        rcases List.mem_append.1 hk with hk | hk
        · exact HGE.out k hk
        · simp at hk; omega

set_option maxRecDepth 100000 in
set_option maxHeartbeats 1000000 in
theorem dlist_nil (w : World) : Calls Try.prog 46 #[.pointer none] w fun e w' => e = .returned (.slice none 0 0) ∧ w = w' := by
  go_enter Try.func46, Try.ntmps46
  go_wp2
  go_ret
  exact ⟨rfl, rfl⟩

theorem drest_blocks {W w : World} {d : Nat} {xs : List DN} (h : DI W w d xs) {N : Nat} (hN : ∀ k ∈ d :: xs.map DN.b, k < N) : ∀ k ∈ d :: (drest xs).map DN.b, k < N := by
  intro k hk
  rcases List.mem_cons.1 hk with rfl | hk
  · exact hN _ (by simp)
  · obtain ⟨z, hz, rfl⟩ := List.mem_map.1 hk
    obtain ⟨h1, _⟩ := tick_spec h
    obtain ⟨x, hx, rfl⟩ := ddec_mem.1 (show z ∈ ddec xs by rw [h1]; simp [hz])
    exact hN _ (by simp; exact .inr ⟨x, hx, rfl⟩)
end Go.Proofs.Ytfdidgobgeohcaa
