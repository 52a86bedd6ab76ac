/- The law RingRow. -/
import Derived.Test.YtbjeojcnofpgfaaRR2
import Derived.Test.YtbjeojcnofpgfaaRowAt
import Derived.Test.YtbjeojcnofpgfaaRing15
import Derived.Test.YtbjeojcnofpgfaaOwn
import Derived.Test.YtbjeojcnofpgfaaShape
import Derived.Deep.CutRange
import Derived.Deep.RegionHeld3
import Derived.Deep.QuietTactic
import Derived.BigQuiet
set_option linter.unusedVariables false
set_option linter.unusedSimpArgs false
namespace Go.Proofs.Ytbjeojcnofpgfaa
open Go.RowKit

/-- A step: Push of four words, or Pop. -/
structure RStep where
  pop : Bool
  v0 : Int
  v1 : Int
  v2 : Int
  v3 : Int
def ReadsR (w : World) (a : Option Addr) (ss : List RStep) : Prop :=
  0 < ss.length → ∃ b off, a = some ⟨b, off, none⟩ ∧ b < w.heap.size ∧ ∀ j (hj : j < ss.length), w.cell? ⟨b, off + j * 5, none⟩ = some (.bool ss[j].pop) ∧ w.cell? ⟨b, off + j * 5 + 1, none⟩ = some (.int .u32 ss[j].v0) ∧ w.cell? ⟨b, off + j * 5 + 2, none⟩ = some (.int .u32 ss[j].v1) ∧ w.cell? ⟨b, off + j * 5 + 3, none⟩ = some (.int .u32 ss[j].v2) ∧ w.cell? ⟨b, off + j * 5 + 4, none⟩ = some (.int .u32 ss[j].v3)
theorem list_of' {α : Type} (n : Nat) (p : Nat → α → Prop) (h : ∀ i, i < n → ∃ x, p i x) : ∃ l : List α, l.length = n ∧ ∀ i (hi : i < l.length), p i l[i] := by
  induction n with
  | zero => exact ⟨[], rfl, fun i hi => by simp at hi⟩
  | succ n ih =>
    obtain ⟨l, hl, hp⟩ := ih (fun i hi => h i (by omega))
    obtain ⟨x, hx⟩ := h n (by omega)
    refine ⟨l ++ [x], by simp [hl], fun i hi => ?_⟩
    simp [hl] at hi
    by_cases e : i < l.length
    · rw [List.getElem_append_left e]
      exact hp i e
    · have : i = n := by omega
      subst this
      rw [List.getElem_append_right (by omega)]
      simp [hl]
      exact hx
theorem reads_rsteps {w : World} {v : Value} (h : (Sh.slice (.st (.cons (.bool) (.cons (.ar 4 (.int .u32)) (.nil))))).okV w v) :
    ∃ (a : Option Addr) (cap : Nat) (ss : List RStep), v = .slice a ss.length cap ∧ ss.length ≤ cap ∧ cap ≤ maxLen ∧ ReadsR w a ss := by
  obtain ⟨a, len, cap, hv, hlc, hcm, f, hf, hm, _⟩ : (Sh.slice (.st (.cons (.bool) (.cons (.ar 4 (.int .u32)) (.nil))))).ok w [v] := h
  obtain rfl : v = .slice a len cap := by simpa using hv
  obtain ⟨ss, hl, hx⟩ := list_of' len (fun i (x : RStep) => f i = [.bool x.pop, .int .u32 x.v0, .int .u32 x.v1, .int .u32 x.v2, .int .u32 x.v3]) (fun i hi => by
    obtain ⟨_, _, e1, ⟨p, rfl⟩, _, _, rfl, ⟨_, _, rfl, ⟨x0, rfl, _⟩, _, _, rfl, ⟨x1, rfl, _⟩, _, _, rfl, ⟨x2, rfl, _⟩, _, _, rfl, ⟨x3, rfl, _⟩, rfl⟩, rfl⟩ := (hf i hi).1
    exact ⟨⟨p, x0, x1, x2, x3⟩, by rw [e1]; rfl⟩)
  subst hl
  refine ⟨a, cap, ss, rfl, hlc, hcm, fun h0 => ?_⟩
  obtain ⟨b, off, e, hb, hc⟩ := hm h0
  refine ⟨b, off, e, hb, fun j hj => ?_⟩
  exact ⟨hc j hj 0 _ (by rw [hx j hj]; rfl), hc j hj 1 _ (by rw [hx j hj]; rfl), hc j hj 2 _ (by rw [hx j hj]; rfl), hc j hj 3 _ (by rw [hx j hj]; rfl), hc j hj 4 _ (by rw [hx j hj]; rfl)⟩

def rowC (R : List Q4) : List Value := R.flatMap fun q => [.int .u32 q.a, .int .u32 q.b, .int .u32 q.c, .int .u32 q.d]

theorem neq_value (w : World) (a b c d : Int) : (binOp .neq 35 (.agg #[.int .u32 a, .int .u32 b, .int .u32 c, .int .u32 d]) (.agg #[.int .u32 a, .int .u32 b, .int .u32 c, .int .u32 d])).run Try.prog w = .ok (.bool false) w := by
  refine (run_neq_struct w _ _ _).trans ?_
  rw [eq_value 9998]
  simp [Result.andThen]

theorem keep_new {w w' : World} {o : Obj} {b g p : Nat} (hu : Upd [b, g, p] (w.alloc o) w') (hb : b < w.heap.size) (hg : g < w.heap.size) (hp : p < w.heap.size) : w'.heap[w.heap.size]? = some (match o with | .cells c t _ => .cells c t (0, 0) | o => o) ∨ w'.heap[w.heap.size]? = some o := .inr (hu.keepb (heap_alloc_new w o) (by simp; omega))
theorem keep_cells {w w' : World} {c : Array Value} {t : TypeId} {b g p : Nat} (hu : Upd [b, g, p] (w.alloc (.cells c t)) w') (hb : b < w.heap.size) (hg : g < w.heap.size) (hp : p < w.heap.size) : w'.heap[w.heap.size]? = some (.cells c t (0, 0)) := hu.keepb (heap_alloc_new w _) (by simp; omega)
theorem keep_cells2 {w w' : World} {o : Obj} {k b g p : Nat} (hu : Upd [b, g, p] w w') (hz : w.heap[k]? = some o) (hb : k ≠ b) (hg : k ≠ g) (hp : k ≠ p) : w'.heap[k]? = some o := hu.keepb hz (by simp; omega)
theorem new_then {w w' : World} {o : Obj} {p : Nat} (hu : Upd [] (w.drew.alloc o) w') (hp : (w.drew.alloc o).heap.size ≤ p) : w.heap.size < p := by
  have := World.size_alloc w.drew o
  simp at hp
  omega
theorem new_keep {w w' : World} {c : Array Value} {t : TypeId} (hu : Upd [] (w.drew.alloc (.cells c t)) w') : w'.heap[w.heap.size]? = some (.cells c t (0, 0)) := hu.keepb (heap_alloc_new w.drew _) (by simp)
theorem le_new {w : World} {o : Obj} {p : Nat} (hp : (w.drew.alloc o).heap.size ≤ p) : w.heap.size ≤ p := by
  simp at hp
  omega
theorem upd_new {w w' : World} {o : Obj} (hu : Upd [] (w.drew.alloc o) w') : Upd [] w w' := (((Upd.refl [] w).drew).alloc o).trans hu
theorem info_value : (Try.prog.info? 35).map (fun i => (i.zero, i.size, i.bytes)) = some (some (.agg #[.int .u32 0, .int .u32 0, .int .u32 0, .int .u32 0]), 4, 16) := by kernel_rfl

theorem res_set {w : World} {r : Nat} {x0 x1 x2 x3 x4 : Value} {t : TypeId} (y0 y1 y2 y3 y4 : Value) (hz : w.heap[r]? = some (.cells #[x0, x1, x2, x3, x4] t (0, 0))) :
    r < (((((w.setCell ⟨r, 0, none⟩ y0).setCell ⟨r, 1, none⟩ y1).setCell ⟨r, 2, none⟩ y2).setCell ⟨r, 3, none⟩ y3).setCell ⟨r, 4, none⟩ y4).heap.size ∧
    (((((w.setCell ⟨r, 0, none⟩ y0).setCell ⟨r, 1, none⟩ y1).setCell ⟨r, 2, none⟩ y2).setCell ⟨r, 3, none⟩ y3).setCell ⟨r, 4, none⟩ y4).cell? ⟨r, 0, none⟩ = some y0 ∧
    Upd [r] w (((((w.setCell ⟨r, 0, none⟩ y0).setCell ⟨r, 1, none⟩ y1).setCell ⟨r, 2, none⟩ y2).setCell ⟨r, 3, none⟩ y3).setCell ⟨r, 4, none⟩ y4) := by
  have h : (((((w.setCell ⟨r, 0, none⟩ y0).setCell ⟨r, 1, none⟩ y1).setCell ⟨r, 2, none⟩ y2).setCell ⟨r, 3, none⟩ y3).setCell ⟨r, 4, none⟩ y4).heap[r]? = some (.cells [y0, y1, y2, y3, y4].toArray t (0, 0)) := by
    repeat (with_reducible apply heap_set2)
    · exact hz
    all_goals rfl
  refine ⟨heap_lt h, by rw [cell_of_heap h]; rfl, ?_⟩
  repeat (with_reducible refine Upd.setCell ?_ (by simp) _)
  exact Upd.refl _ _
theorem res_new {w : World} {t : TypeId} (y0 y1 y2 y3 y4 : Value) : w.heap.size < (w.alloc (.cells #[y0, y1, y2, y3, y4] t)).heap.size ∧ (w.alloc (.cells #[y0, y1, y2, y3, y4] t)).cell? ⟨w.heap.size, 0, none⟩ = some y0 ∧ Upd [] w (w.alloc (.cells #[y0, y1, y2, y3, y4] t)) := by
  have h := heap_alloc_new w (.cells #[y0, y1, y2, y3, y4] t)
  exact ⟨heap_lt h, by rw [cell_of_heap h]; rfl, (Upd.refl _ _).alloc _⟩

/-- A word of an entry whose words from wdn to k are struck. -/
def zw (wdn k i : Nat) (v : Int) : Int := if wdn ≤ i ∧ i < k then 0 else v
theorem zw_start (wdn i : Nat) (v : Int) : zw wdn wdn i v = v := if_neg (by omega)
theorem zw_same {wdn k i : Nat} (v : Int) (h : i ≠ k) : zw wdn (k + 1) i v = zw wdn k i v := by
  unfold zw
  by_cases h1 : wdn ≤ i ∧ i < k
  · rw [if_pos h1, if_pos (by omega)]
  · rw [if_neg h1, if_neg (by omega)]
theorem zw_at {wdn k : Nat} (v : Int) (h : wdn ≤ k) : zw wdn (k + 1) k v = 0 := if_pos (by omega)
theorem zw_mask (wdn : Nat) (v0 v1 v2 v3 : Int) (h1 : 1 ≤ wdn) : mask wdn v0 v1 v2 v3 = ⟨zw wdn 4 0 v0, zw wdn 4 1 v1, zw wdn 4 2 v2, zw wdn 4 3 v3⟩ := by
  unfold mask zw
  congr 1
  · exact (if_neg (by omega)).symm
  · split <;> split <;> first | rfl | omega
  · split <;> split <;> first | rfl | omega
  · split <;> split <;> first | rfl | omega
theorem rowC_snoc (R : List Q4) (q : Q4) : rowC (R ++ [q]) = rowC R ++ [.int .u32 q.a, .int .u32 q.b, .int .u32 q.c, .int .u32 q.d] := by simp [rowC]

set_option maxRecDepth 100000 in
set_option maxHeartbeats 4000000 in
theorem ringRow_in (log cap from' : Int) (wdn : Nat) (a : Option Addr) (cp : Nat) (ss : List RStep) (W : World) (hlog0 : 0 ≤ log) (hlog : log ≤ 4) (hshl : (1 : Int) * 2 ^ log.toNat = cap) (hc : Cap5 cap) (h1 : 1 ≤ wdn) (h4 : wdn ≤ 4) (hf0 : 0 ≤ from') (hf1 : from' ≤ 4294967295) (hl : ss.length ≤ 80) (hs : ReadsR W a ss) :
    Calls Try.prog 6 #[.int .i64 log, .int .i64 wdn, .int .u32 from', .slice a ss.length cp] W fun e w' => e = .returned (.bool true) ∧ Upd [] W w' := by
  have q1 : decide (log < 0) = false := by simp; omega
  have q2 : decide (4 < log) = false := by simp; omega
  have q5 : decide (80 < (ss.length : Int)) = false := by simp; omega
  have q5' : decide (80 < ss.length) = false := by simp; omega
  have q4' : decide (4 < wdn) = false := by simp; omega
  have q3' : decide (wdn < 1) = false := by simp; omega
  have q3 : decide ((wdn : Int) < 1) = false := by simp; omega
  have q4 : decide (4 < (wdn : Int)) = false := by simp; omega
  have hwc : wrap64 cap = cap := by have := hc.le; unfold wrap64; omega
  have HW3 := Lib.hid (show wrap64 ((wdn : Int) + 3) = (wdn : Int) + 3 from by unfold wrap64; omega)
  have qN := fun w a b c d => neq_value w a b c d
  have HPL := Lib.hid fun w => place_any cap wdn hc h1 h4 w
  have HNW := Lib.hid fun w => new_ring cap wdn hc h1 h4 w
  have HH := Lib.hid fun w => cell_ring_head cap (wdn : Int) hc (by omega) (by omega) w
  have HT := Lib.hid fun w => cell_ring_tail cap (wdn : Int) hc (by omega) (by omega) w
  have HRM := Lib.hid (RM.start cap wdn from' hf0 hf1 hc h1 h4)
  have HLEN := Lib.hid (show 2 ≤ (2 + cap * (wdn : Int)).toNat from by have := Int.mul_nonneg (show 0 ≤ cap by have := hc.le; omega) (show (0 : Int) ≤ wdn by omega); omega)
  have HS := Lib.hid hs
  have HC := Lib.hid hc
  have H14 := Lib.hid (And.intro h1 h4)
  have HL := Lib.hid hl
  clear hs hc h1 h4 hf0 hf1 hl
  go_enter Try.func6, Try.ntmps6
  go_wp2_with fail
  refine (HPL.out _).mono ?_
  rintro e w1 ⟨rfl, hu1⟩
  have HU1 := Lib.hid hu1
  clear hu1
  go_wp2_with fail
  refine (HNW.out _).mono ?_
  rintro e w2 ⟨b, g, rfl, hb, hg, hm2, hu2⟩
  have HM2 := Lib.hid hm2
  have hp := hu2.keepb (heap_alloc_new w1 _) (by simp)
  have HU2 := Lib.hid (((HU1.out).alloc _).trans hu2)
  simp only [World.size_alloc] at hb hg
  have lp := heap_lt hp
  have HP2 := Lib.hid hp
  have k0 := cell_of_heap hp 0
  have k1 := cell_of_heap hp 1
  have k2 := cell_of_heap hp 2
  have k3 := cell_of_heap hp 3
  have k4 := cell_of_heap hp 4
  simp at k0 k1 k2 k3 k4
  clear hm2 hu2 hp
  go_wp2_with fail
  refine (HH.out _).mono ?_
  rintro e w3 ⟨rfl, hu3⟩
  have HU3 := Lib.hid hu3
  clear hu3
  go_wp2_with fail
  refine (store_any 0 from' (HM2.out.keep HU3.out (by simp) (by simp)) (by have := HLEN.out; simp; omega) (by omega) (by omega)).mono ?_
  rintro e w4 ⟨rfl, hm4, hu4⟩
  have HM4 := Lib.hid hm4
  have HU4 := Lib.hid (HU3.out.mono (S' := [b, g]) (by simp) |>.trans hu4)
  have hp := HU4.out.keepb HP2.out (by simp; omega)
  have lp4 := heap_lt hp
  clear k0 k1 k2 k3 k4
  have k0 := cell_of_heap hp 0
  have k1 := cell_of_heap hp 1
  have k2 := cell_of_heap hp 2
  have k3 := cell_of_heap hp 3
  have k4 := cell_of_heap hp 4
  simp at k0 k1 k2 k3 k4
  have HP4 := Lib.hid hp
  clear hm4 hu4 hp
  go_wp2_with fail
  refine (HT.out _).mono ?_
  rintro e w5 ⟨rfl, hu5⟩
  have HU5 := Lib.hid hu5
  clear hu5
  go_wp2_with fail
  refine (store_any 1 from' (HM4.out.keep HU5.out (by simp) (by simp)) (by have := HLEN.out; simp; omega) (by omega) (by omega)).mono ?_
  rintro e w6 ⟨rfl, hm6, hu6⟩
  have hu46 := (HU5.out.mono (S' := [b, g]) (by simp)).trans hu6
  have hp6 := hu46.keepb HP4.out (by simp; omega)
  have hu06 : Upd [] W w6 := (HU2.out.then HU4.out (by simp; have := HU1.out.size; omega)).then hu46 (by simp; have := HU1.out.size; omega)
  have hmr : MR w6 b g 2 cap wdn [] := ⟨_, _, ⟨0, 2, by omega, by omega, by omega, by omega, hm6⟩, HRM.out⟩
  have hbg : b < w6.heap.size ∧ g < w6.heap.size ∧ w1.heap.size < w6.heap.size ∧ w1.heap.size ≠ b ∧ w1.heap.size ≠ g ∧ W.heap.size ≤ b ∧ W.heap.size ≤ g ∧ W.heap.size ≤ w1.heap.size := by
    have := hmr.lt
    have := heap_lt hp6
    have := HU1.out.size
    omega
  have HP6 := Lib.hid hp6
  have HU06 := Lib.hid hu06
  have HMR := Lib.hid hmr
  have HBG := Lib.hid hbg
  clear hm6 hu6 hu46 hp6 hu06 hmr hbg k0 k1 k2 k3 k4 lp lp4 hb hg HM2 HM4 HU2 HU3 HU4 HU5 HP2 HP4 HNW HPL HH HT HRM
  go_wp2_with fail
  go_loopg [12, 13] ss.length (fun n row i wr => ∃ j : Nat, n + j = ss.length ∧ i = .int .i64 j ∧ ∃ R, MR wr b g (7 * j + 2) cap wdn R ∧ RowAt wr w6.heap.size 35 4 row R.length (rowC R) ∧ wr.heap[w1.heap.size]? = some (.cells #[.int .i64 1, .int .i64 0, .int .i64 cap, .int .i64 wdn, .int .i64 0] 66 (0, 0)) ∧ Upd [] W wr ∧ w6.heap.size ≤ wr.heap.size)
  case atStart => exact ⟨0, rfl, rfl, [], HMR.out, RowAt.empty _ _ _ _, HP6.out, HU06.out, Nat.le_refl _⟩
  case round =>
    obtain ⟨j, hj, rfl, R, hmr, hrow, hp, hu, hsz⟩ := hrel
    obtain ⟨ra, rc, rfl⟩ := hrow.shape
    have hRle : (R.length : Int) ≤ cap := hmr.le
    have k0 := cell_of_heap hp 0
    have k1 := cell_of_heap hp 1
    have k2 := cell_of_heap hp 2
    have k3 := cell_of_heap hp 3
    have k4 := cell_of_heap hp 4
    simp at k0 k1 k2 k3 k4
    have lp := heap_lt hp
    have HMR := Lib.hid hmr
    have HROW := Lib.hid hrow
    have HP := Lib.hid hp
    have HU := Lib.hid hu
    have HSZ := Lib.hid hsz
    have HJ := Lib.hid hj
    have hbg := hmr.lt
    have HB := Lib.hid (show b < wr.heap.size ∧ g < wr.heap.size ∧ w1.heap.size < wr.heap.size from ⟨hbg.1, hbg.2, lp⟩)
    have HRL := Lib.hid hRle
    clear hmr hrow hp hu hsz hj hbg hRle
    by_cases hlt : j < ss.length
    · obtain ⟨sb, so, rfl, hsb, hcells⟩ := HS.out (by omega)
      obtain ⟨e0, e1, e2, e3, e4⟩ := hcells j hlt
      have e0 := (HU.out.cell (p := ⟨sb, _, none⟩) hsb (by simp)).trans e0
      have e1 := (HU.out.cell (p := ⟨sb, _, none⟩) hsb (by simp)).trans e1
      have e2 := (HU.out.cell (p := ⟨sb, _, none⟩) hsb (by simp)).trans e2
      have e3 := (HU.out.cell (p := ⟨sb, _, none⟩) hsb (by simp)).trans e3
      have e4 := (HU.out.cell (p := ⟨sb, _, none⟩) hsb (by simp)).trans e4
      have hsbr : sb < wr.heap.size := Nat.lt_of_lt_of_le hsb HU.out.size
      have HSB := Lib.hid (And.intro hsb hsbr)
      have HJW := Lib.hid (show wrap64 ((j : Int) + 1) = ((j + 1 : Nat) : Int) from by have := HL.out; unfold wrap64; omega)
      have hcj : 7 * j + 2 < 10000 := by have := HL.out; omega
      have HCJ := Lib.hid hcj
      have b1 : (0 : Int) ≤ (j : Int) := by omega
      have b2 : (j : Int) < (ss.length : Int) := by omega
      have b3 : decide ((j : Int) < (ss.length : Int)) = true := by simp; omega
      clear hcells hsb hsbr hcj
      obtain ⟨pp, v0, v1, v2, v3, hst⟩ : ∃ p a b c d, ss[j] = ⟨p, a, b, c, d⟩ := ⟨_, _, _, _, _, rfl⟩
      rw [hst] at e0 e1 e2 e3 e4
      simp only at e0 e1 e2 e3 e4
      have HST := Lib.hid hst
      clear hst
      cases pp
      · -- Push
        have HN := Lib.hid fun w => push_new cap (wdn : Int) v0 v1 v2 v3 HC.out (by have := H14.out; omega) (by have := H14.out; omega) w
        by_cases hfull : (R.length : Int) = cap
        · have HA := Lib.hid (fun (p : Nat) (w : World) (hu : Upd [] wr w) (hp : wr.heap.size ≤ p) (hf : RG cap wdn w p 106 { ring0 with v0 := v0, v1 := v1, v2 := v2, v3 := v3 }) => push_alone_full v0 v1 v2 v3 (HMR.out.keep hu (by simp) (by simp)) hfull HC.out H14.out.1 H14.out.2 HCJ.out hf (by have := HB.out; omega) (by have := HB.out; omega))
          have NP := Lib.hid (show w1.heap.size ∉ [b, g] from by have := HBG.out; simp; omega)
          have NP0 := Lib.hid (show w1.heap.size ∉ ([] : List Nat) from by simp)
          have NS := Lib.hid (show sb ∉ [b, g] from by have := HBG.out; have := HSB.out; simp; omega)
          have NS0 := Lib.hid (show sb ∉ ([] : List Nat) from by simp)
          have nb1 := HB.out
          have nb2 := HSB.out
          go_wp2_with fail
          go_cut [17, 18, 19] from 61 to 176 (fun s17 s18 s19 w => ∃ r, s17 = .pointer (some ⟨r, 0, none⟩) ∧ s18 = .int .i64 (2) ∧ s19 = .bool true ∧ r < w.heap.size ∧ w.cell? ⟨r, 0, none⟩ = some (.int .i64 6) ∧ MR w b g (7 * j + 9) cap wdn (R) ∧ Upd [b, g] wr w)
          case first =>
            go_region_held3 (fun w' => w'.cell? ⟨w1.heap.size, 0, none⟩ = some (.int .i64 1) ∧ w'.cell? ⟨w1.heap.size, 1, none⟩ = some (.int .i64 0) ∧ w'.cell? ⟨w1.heap.size, 2, none⟩ = some (.int .i64 cap) ∧ w'.cell? ⟨w1.heap.size, 3, none⟩ = some (.int .i64 wdn) ∧ w'.cell? ⟨w1.heap.size, 4, none⟩ = some (.int .i64 0) ∧ w'.cell? ⟨sb, so + j * 5 + 1, none⟩ = some (.int .u32 v0) ∧ w'.cell? ⟨sb, so + j * 5 + 2, none⟩ = some (.int .u32 v1) ∧ w'.cell? ⟨sb, so + j * 5 + 3, none⟩ = some (.int .u32 v2) ∧ w'.cell? ⟨sb, so + j * 5 + 4, none⟩ = some (.int .u32 v3))
              (((try dsimp only); (repeat' apply And.intro) <;> (repeat (first | (with_reducible assumption) | (with_reducible apply cell_alloc2) | (with_reducible apply cell_drew2) | (with_reducible refine cell_set3 (by omega) ?_)))))
              (first
                | (go_at_call 41; refine (HN.out _).mono ?_; rintro e w7 ⟨p, rfl, hp7, hf7, hu7⟩; have hu7' : Upd [] wr w7 := (by first | exact upd_new hu7 | exact hu7.of_drew | exact hu7); have hpl : wr.heap.size ≤ p := (by first | exact le_new hp7 | exact hp7); have k0_7 := (hu7'.cell (p := ⟨w1.heap.size, _, none⟩) lp NP0.out).trans k0; have k1_7 := (hu7'.cell (p := ⟨w1.heap.size, _, none⟩) lp NP0.out).trans k1; have k2_7 := (hu7'.cell (p := ⟨w1.heap.size, _, none⟩) lp NP0.out).trans k2; have k3_7 := (hu7'.cell (p := ⟨w1.heap.size, _, none⟩) lp NP0.out).trans k3; have k4_7 := (hu7'.cell (p := ⟨w1.heap.size, _, none⟩) lp NP0.out).trans k4; have e1_7 := (hu7'.cell (p := ⟨sb, _, none⟩) HSB.out.2 NS0.out).trans e1; have e2_7 := (hu7'.cell (p := ⟨sb, _, none⟩) HSB.out.2 NS0.out).trans e2; have e3_7 := (hu7'.cell (p := ⟨sb, _, none⟩) HSB.out.2 NS0.out).trans e3; have e4_7 := (hu7'.cell (p := ⟨sb, _, none⟩) HSB.out.2 NS0.out).trans e4; have HF7 := Lib.hid hf7; have HU7 := Lib.hid hu7'; have hs7 := hu7'.size; have lp7 := heap_lt hf7.h; (first | (have HZ7 := Lib.hid (new_keep hu7); have np7 := new_then hu7 hp7) | skip); clear hf7 hu7' hp7 hu7)
                | (go_at_call 39; refine (HA.out p _ (by first | exact HU7.out | exact HU7.out.alloc _) hpl (by first | exact HF7.out | exact HF7.out.keep ((Upd.refl [] _).alloc _) (by simp))).mono ?_; rintro e w8 ⟨rfl, hm8, hu8⟩; unfold ansV; have hu8' : Upd [b, g] wr w8 := ((show Upd [] wr _ from (by first | exact HU7.out | exact HU7.out.alloc _)).mono (by simp)).then hu8 (fun k hk => by simp at hk ⊢; omega); have k0_8 := (hu8'.cell (p := ⟨w1.heap.size, _, none⟩) lp NP.out).trans k0; have k1_8 := (hu8'.cell (p := ⟨w1.heap.size, _, none⟩) lp NP.out).trans k1; have k2_8 := (hu8'.cell (p := ⟨w1.heap.size, _, none⟩) lp NP.out).trans k2; have k3_8 := (hu8'.cell (p := ⟨w1.heap.size, _, none⟩) lp NP.out).trans k3; have k4_8 := (hu8'.cell (p := ⟨w1.heap.size, _, none⟩) lp NP.out).trans k4; have e1_8 := (hu8'.cell (p := ⟨sb, _, none⟩) HSB.out.2 NS.out).trans e1; have e2_8 := (hu8'.cell (p := ⟨sb, _, none⟩) HSB.out.2 NS.out).trans e2; have e3_8 := (hu8'.cell (p := ⟨sb, _, none⟩) HSB.out.2 NS.out).trans e3; have e4_8 := (hu8'.cell (p := ⟨sb, _, none⟩) HSB.out.2 NS.out).trans e4; have HM8 := Lib.hid hm8; have HU8 := Lib.hid hu8'; have hs8 := hu8'.size; (first | (have hz := keep_cells2 hu8 HZ7.out (by omega) (by omega) (by omega); have zf := fun j => frozen_of_heap hz j; have z0 := cell_of_heap hz 0; have z1 := cell_of_heap hz 1; have z2 := cell_of_heap hz 2; have z3 := cell_of_heap hz 3; have z4 := cell_of_heap hz 4; simp at z0 z1 z2 z3 z4; have lz := heap_lt hz; have HZ8 := Lib.hid hz; clear hz) | (have hz := keep_cells hu8 (by omega) (by omega) (by omega); have zf := fun j => frozen_of_heap hz j; have z0 := cell_of_heap hz 0; have z1 := cell_of_heap hz 1; have z2 := cell_of_heap hz 2; have z3 := cell_of_heap hz 3; have z4 := cell_of_heap hz 4; simp at z0 z1 z2 z3 z4; have lz := heap_lt hz; have HZ8 := Lib.hid hz; clear hz) | skip); clear hm8 hu8' hu8))
            all_goals
              go_wp2_with fail
              go_meet
              case rel =>
                first
                  | (have hs := res_set (.int .i64 6) (.int .u32 0) (.int .u32 0) (.int .u32 0) (.int .u32 0) HZ8.out
                     exact ⟨_, rfl, rfl, rfl, hs.1, hs.2.1, (HM8.out.keep hs.2.2 (by simp; omega) (by simp; omega)).mono (by omega), HU8.out.then hs.2.2 (fun k hk => .inr (by simp at hk; omega))⟩)
                  | (have hs := res_new (w := w8) (t := 39) (.int .i64 6) (.int .u32 0) (.int .u32 0) (.int .u32 0) (.int .u32 0)
                     exact ⟨_, rfl, rfl, rfl, hs.1, hs.2.1, (HM8.out.keep hs.2.2 (by simp) (by simp)).mono (by omega), HU8.out.then hs.2.2 (fun k hk => by simp at hk)⟩)
          case rest =>
            obtain ⟨r, rfl, rfl, rfl, hr, hrc, hm, hu⟩ := hcut
            have k0 := (hu.cell (p := ⟨w1.heap.size, _, none⟩) lp NP.out).trans k0
            have k1 := (hu.cell (p := ⟨w1.heap.size, _, none⟩) lp NP.out).trans k1
            have k2 := (hu.cell (p := ⟨w1.heap.size, _, none⟩) lp NP.out).trans k2
            have k3 := (hu.cell (p := ⟨w1.heap.size, _, none⟩) lp NP.out).trans k3
            have k4 := (hu.cell (p := ⟨w1.heap.size, _, none⟩) lp NP.out).trans k4
            have e1 := (hu.cell (p := ⟨sb, _, none⟩) HSB.out.2 NS.out).trans e1
            have e2 := (hu.cell (p := ⟨sb, _, none⟩) HSB.out.2 NS.out).trans e2
            have e3 := (hu.cell (p := ⟨sb, _, none⟩) HSB.out.2 NS.out).trans e3
            have e4 := (hu.cell (p := ⟨sb, _, none⟩) HSB.out.2 NS.out).trans e4
            have HUC := Lib.hid hu
            have HMC := Lib.hid hm
            clear hu hm HA HN
            have qf : ((R.length : Int) == cap) = true := by simpa using hfull
            go_wp2_with fail
            have hbg := HB.out
            have hbase := HBG.out
            go_roundg (ss.length - (j + 1))
            case rel => exact ⟨j + 1, by have := HJ.out; omega, by rw [HJW.out], R, HMC.out.mono (by omega), HROW.out.keep HUC.out (fun k hk => by have := HROW.out.block hk; simp; omega), HUC.out.keepb HP.out (by simp; omega), HU.out.then HUC.out (by simp; omega), by have := HSZ.out; have := HUC.out.size; omega⟩
            case measure => have := HJ.out; omega
        · have hroom : (R.length : Int) < cap := by have := HRL.out; omega
          have HA := Lib.hid (fun (p : Nat) (w : World) (hu : Upd [] wr w) (hp : wr.heap.size ≤ p) (hf : RG cap wdn w p 106 { ring0 with v0 := v0, v1 := v1, v2 := v2, v3 := v3 }) => push_alone_ok v0 v1 v2 v3 (HMR.out.keep hu (by simp) (by simp)) hroom HC.out H14.out.1 H14.out.2 HCJ.out hf (by have := HB.out; omega) (by have := HB.out; omega))
          have NP := Lib.hid (show w1.heap.size ∉ [b, g] from by have := HBG.out; simp; omega)
          have NP0 := Lib.hid (show w1.heap.size ∉ ([] : List Nat) from by simp)
          have NS := Lib.hid (show sb ∉ [b, g] from by have := HBG.out; have := HSB.out; simp; omega)
          have NS0 := Lib.hid (show sb ∉ ([] : List Nat) from by simp)
          have nb1 := HB.out
          have nb2 := HSB.out
          go_wp2_with fail
          go_cut [17, 18, 19] from 61 to 176 (fun s17 s18 s19 w => ∃ r, s17 = .pointer (some ⟨r, 0, none⟩) ∧ s18 = .int .i64 (wdn + 3) ∧ s19 = .bool true ∧ r < w.heap.size ∧ w.cell? ⟨r, 0, none⟩ = some (.int .i64 0) ∧ MR w b g (7 * j + 9) cap wdn (R ++ [mask wdn v0 v1 v2 v3]) ∧ Upd [b, g] wr w)
          case first =>
            go_region_held3 (fun w' => w'.cell? ⟨w1.heap.size, 0, none⟩ = some (.int .i64 1) ∧ w'.cell? ⟨w1.heap.size, 1, none⟩ = some (.int .i64 0) ∧ w'.cell? ⟨w1.heap.size, 2, none⟩ = some (.int .i64 cap) ∧ w'.cell? ⟨w1.heap.size, 3, none⟩ = some (.int .i64 wdn) ∧ w'.cell? ⟨w1.heap.size, 4, none⟩ = some (.int .i64 0) ∧ w'.cell? ⟨sb, so + j * 5 + 1, none⟩ = some (.int .u32 v0) ∧ w'.cell? ⟨sb, so + j * 5 + 2, none⟩ = some (.int .u32 v1) ∧ w'.cell? ⟨sb, so + j * 5 + 3, none⟩ = some (.int .u32 v2) ∧ w'.cell? ⟨sb, so + j * 5 + 4, none⟩ = some (.int .u32 v3))
              (((try dsimp only); (repeat' apply And.intro) <;> (repeat (first | (with_reducible assumption) | (with_reducible apply cell_alloc2) | (with_reducible apply cell_drew2) | (with_reducible refine cell_set3 (by omega) ?_)))))
              (first
                | (go_at_call 41; refine (HN.out _).mono ?_; rintro e w7 ⟨p, rfl, hp7, hf7, hu7⟩; have hu7' : Upd [] wr w7 := (by first | exact upd_new hu7 | exact hu7.of_drew | exact hu7); have hpl : wr.heap.size ≤ p := (by first | exact le_new hp7 | exact hp7); have k0_7 := (hu7'.cell (p := ⟨w1.heap.size, _, none⟩) lp NP0.out).trans k0; have k1_7 := (hu7'.cell (p := ⟨w1.heap.size, _, none⟩) lp NP0.out).trans k1; have k2_7 := (hu7'.cell (p := ⟨w1.heap.size, _, none⟩) lp NP0.out).trans k2; have k3_7 := (hu7'.cell (p := ⟨w1.heap.size, _, none⟩) lp NP0.out).trans k3; have k4_7 := (hu7'.cell (p := ⟨w1.heap.size, _, none⟩) lp NP0.out).trans k4; have e1_7 := (hu7'.cell (p := ⟨sb, _, none⟩) HSB.out.2 NS0.out).trans e1; have e2_7 := (hu7'.cell (p := ⟨sb, _, none⟩) HSB.out.2 NS0.out).trans e2; have e3_7 := (hu7'.cell (p := ⟨sb, _, none⟩) HSB.out.2 NS0.out).trans e3; have e4_7 := (hu7'.cell (p := ⟨sb, _, none⟩) HSB.out.2 NS0.out).trans e4; have HF7 := Lib.hid hf7; have HU7 := Lib.hid hu7'; have hs7 := hu7'.size; have lp7 := heap_lt hf7.h; (first | (have HZ7 := Lib.hid (new_keep hu7); have np7 := new_then hu7 hp7) | skip); clear hf7 hu7' hp7 hu7)
                | (go_at_call 39; refine (HA.out p _ (by first | exact HU7.out | exact HU7.out.alloc _) hpl (by first | exact HF7.out | exact HF7.out.keep ((Upd.refl [] _).alloc _) (by simp))).mono ?_; rintro e w8 ⟨rfl, hm8, hu8⟩; unfold ansV; have hu8' : Upd [b, g] wr w8 := ((show Upd [] wr _ from (by first | exact HU7.out | exact HU7.out.alloc _)).mono (by simp)).then hu8 (fun k hk => by simp at hk ⊢; omega); have k0_8 := (hu8'.cell (p := ⟨w1.heap.size, _, none⟩) lp NP.out).trans k0; have k1_8 := (hu8'.cell (p := ⟨w1.heap.size, _, none⟩) lp NP.out).trans k1; have k2_8 := (hu8'.cell (p := ⟨w1.heap.size, _, none⟩) lp NP.out).trans k2; have k3_8 := (hu8'.cell (p := ⟨w1.heap.size, _, none⟩) lp NP.out).trans k3; have k4_8 := (hu8'.cell (p := ⟨w1.heap.size, _, none⟩) lp NP.out).trans k4; have e1_8 := (hu8'.cell (p := ⟨sb, _, none⟩) HSB.out.2 NS.out).trans e1; have e2_8 := (hu8'.cell (p := ⟨sb, _, none⟩) HSB.out.2 NS.out).trans e2; have e3_8 := (hu8'.cell (p := ⟨sb, _, none⟩) HSB.out.2 NS.out).trans e3; have e4_8 := (hu8'.cell (p := ⟨sb, _, none⟩) HSB.out.2 NS.out).trans e4; have HM8 := Lib.hid hm8; have HU8 := Lib.hid hu8'; have hs8 := hu8'.size; (first | (have hz := keep_cells2 hu8 HZ7.out (by omega) (by omega) (by omega); have zf := fun j => frozen_of_heap hz j; have z0 := cell_of_heap hz 0; have z1 := cell_of_heap hz 1; have z2 := cell_of_heap hz 2; have z3 := cell_of_heap hz 3; have z4 := cell_of_heap hz 4; simp at z0 z1 z2 z3 z4; have lz := heap_lt hz; have HZ8 := Lib.hid hz; clear hz) | (have hz := keep_cells hu8 (by omega) (by omega) (by omega); have zf := fun j => frozen_of_heap hz j; have z0 := cell_of_heap hz 0; have z1 := cell_of_heap hz 1; have z2 := cell_of_heap hz 2; have z3 := cell_of_heap hz 3; have z4 := cell_of_heap hz 4; simp at z0 z1 z2 z3 z4; have lz := heap_lt hz; have HZ8 := Lib.hid hz; clear hz) | skip); clear hm8 hu8' hu8))
            all_goals
              go_wp2_with fail
              go_meet
              case rel =>
                first
                  | (have hs := res_set (.int .i64 0) (.int .u32 0) (.int .u32 0) (.int .u32 0) (.int .u32 0) HZ8.out
                     exact ⟨_, rfl, rfl, rfl, hs.1, hs.2.1, (HM8.out.keep hs.2.2 (by simp; omega) (by simp; omega)).mono (by omega), HU8.out.then hs.2.2 (fun k hk => .inr (by simp at hk; omega))⟩)
                  | (have hs := res_new (w := w8) (t := 39) (.int .i64 0) (.int .u32 0) (.int .u32 0) (.int .u32 0) (.int .u32 0)
                     exact ⟨_, rfl, rfl, rfl, hs.1, hs.2.1, (HM8.out.keep hs.2.2 (by simp) (by simp)).mono (by omega), HU8.out.then hs.2.2 (fun k hk => by simp at hk)⟩)
          case rest =>
            obtain ⟨r, rfl, rfl, rfl, hr, hrc, hm, hu⟩ := hcut
            have k0 := (hu.cell (p := ⟨w1.heap.size, _, none⟩) lp NP.out).trans k0
            have k1 := (hu.cell (p := ⟨w1.heap.size, _, none⟩) lp NP.out).trans k1
            have k2 := (hu.cell (p := ⟨w1.heap.size, _, none⟩) lp NP.out).trans k2
            have k3 := (hu.cell (p := ⟨w1.heap.size, _, none⟩) lp NP.out).trans k3
            have k4 := (hu.cell (p := ⟨w1.heap.size, _, none⟩) lp NP.out).trans k4
            have e1 := (hu.cell (p := ⟨sb, _, none⟩) HSB.out.2 NS.out).trans e1
            have e2 := (hu.cell (p := ⟨sb, _, none⟩) HSB.out.2 NS.out).trans e2
            have e3 := (hu.cell (p := ⟨sb, _, none⟩) HSB.out.2 NS.out).trans e3
            have e4 := (hu.cell (p := ⟨sb, _, none⟩) HSB.out.2 NS.out).trans e4
            have HUC := Lib.hid hu
            have HMC := Lib.hid hm
            clear hu hm HA HN
            have qf : ((R.length : Int) == cap) = false := by simpa using hfull
            have hw3 := HW3.out
            go_wp2_with fail
            clear hw3
            have h14 := H14.out
            go_loopg [21] (4 - wdn) (fun n wv wr2 => ∃ k : Nat, wdn ≤ k ∧ k ≤ 4 ∧ n + k = 4 ∧ wv = .int .i64 k ∧ wr2.heap[wc.heap.size]? = some (.cells [.int .u32 (zw wdn k 0 v0), .int .u32 (zw wdn k 1 v1), .int .u32 (zw wdn k 2 v2), .int .u32 (zw wdn k 3 v3)].toArray 35 (0, 0)) ∧ Upd [wc.heap.size] (wc.alloc (.cells #[.int .u32 v0, .int .u32 v1, .int .u32 v2, .int .u32 v3] 35)) wr2)
            case atStart => exact ⟨wdn, Nat.le_refl _, h14.2, by omega, rfl, by simp only [zw_start]; exact heap_alloc_new _ _, Upd.refl _ _⟩
            case round =>
              obtain ⟨k, hk1, hk2, hk3, rfl, hz, huz⟩ := hrel
              have HZ := Lib.hid hz
              have HUZ := Lib.hid huz
              have z0 := cell_of_heap hz 0
              have z1 := cell_of_heap hz 1
              have z2 := cell_of_heap hz 2
              have z3 := cell_of_heap hz 3
              have zf := fun i => frozen_of_heap hz i
              have lz := heap_lt hz
              simp at z0 z1 z2 z3
              clear hz huz
              by_cases hk : k < 4
              · have hk' : k = 1 ∨ k = 2 ∨ k = 3 := by omega
                rcases hk' with rfl | rfl | rfl
                · go_wp2_with fail
                  go_roundg (2)
                  case rel => exact ⟨2, by omega, by omega, by omega, rfl, by rw [zw_same (wdn := wdn) (k := 1) (i := 0) v0 (by omega), zw_same (wdn := wdn) (k := 1) (i := 2) v2 (by omega), zw_same (wdn := wdn) (k := 1) (i := 3) v3 (by omega), zw_at (k := 1) v1 (by omega)]; exact heap_set2 HZ.out rfl, HUZ.out.setCell (by simp) _⟩
                  case measure => omega
                · go_wp2_with fail
                  go_roundg (1)
                  case rel => exact ⟨3, by omega, by omega, by omega, rfl, by rw [zw_same (wdn := wdn) (k := 2) (i := 0) v0 (by omega), zw_same (wdn := wdn) (k := 2) (i := 1) v1 (by omega), zw_same (wdn := wdn) (k := 2) (i := 3) v3 (by omega), zw_at (k := 2) v2 (by omega)]; exact heap_set2 HZ.out rfl, HUZ.out.setCell (by simp) _⟩
                  case measure => omega
                · go_wp2_with fail
                  go_roundg (0)
                  case rel => exact ⟨4, by omega, by omega, by omega, rfl, by rw [zw_same (wdn := wdn) (k := 3) (i := 0) v0 (by omega), zw_same (wdn := wdn) (k := 3) (i := 1) v1 (by omega), zw_same (wdn := wdn) (k := 3) (i := 2) v2 (by omega), zw_at (k := 3) v3 (by omega)]; exact heap_set2 HZ.out rfl, HUZ.out.setCell (by simp) _⟩
                  case measure => omega
                
              · obtain rfl : k = 4 := by omega
                go_wp2_with (at_builtin; refine Go.RowKit.Hid.out ?_)
                refine Lib.hid ?_
                obtain ⟨ip, hip, hi0, hi1, hi2⟩ := info_parts info_value
                have hbg := HB.out
                have hbase := HBG.out
                have hsz1 := HUC.out.size
                have hsz6 := HSZ.out
                have hcap := HC.out.le
                have h11 := (HUC.out.alloc (.cells #[.int .u32 v0, .int .u32 v1, .int .u32 v2, .int .u32 v3] 35)).then HUZ.out (fun k hk => .inr (by simp at hk; omega))
                have h12 := h11.alloc (.cells #[.int .u32 (zw wdn 4 0 v0), .int .u32 (zw wdn 4 1 v1), .int .u32 (zw wdn 4 2 v2), .int .u32 (zw wdn 4 3 v3)] 35)
                have hsz2 := h12.size
                have hW := HU.out.then h12 (by simp; omega)
                have hP := h12.keepb HP.out (by simp; omega)
                have hM := ((HMC.out.keep ((Upd.refl [] wc).alloc (.cells #[.int .u32 v0, .int .u32 v1, .int .u32 v2, .int .u32 v3] 35)) (by simp) (by simp)).keep HUZ.out (by simp; omega) (by simp; omega)).keep ((Upd.refl [] _).alloc (.cells #[.int .u32 (zw wdn 4 0 v0), .int .u32 (zw wdn 4 1 v1), .int .u32 (zw wdn 4 2 v2), .int .u32 (zw wdn 4 3 v3)] 35)) (by simp) (by simp)
                have hR := HROW.out.keep h12 (fun k hk => by have := HROW.out.block hk; simp; omega)
                refine wpList_append_at rfl _ _ 93 rfl w6.heap.size 35 ip _ 4 16 Try.underlying93 hip hi0 hi1 hi2 rfl (by decide) _ R.length (rowC R) rfl hR wr.heap.size 0 1 [.int .u32 (zw wdn 4 0 v0), .int .u32 (zw wdn 4 1 v1), .int .u32 (zw wdn 4 2 v2), .int .u32 (zw wdn 4 3 v3)] rfl rfl
                  (fun i u hi => by rw [Nat.zero_add, cell_of_heap (heap_alloc_new _ _)]; simpa using hi) (fun u hu => by simp at hu; rcases hu with rfl | rfl | rfl | rfl <;> rfl) (by omega) (by decide) (by omega) ?_
                intro v' w9 hrow9 hu9 hown9
                have hnb : ∀ k, k < w6.heap.size → k ∉ (Value.slice ra R.length rc).ownBlock.toList := fun k hk hm => by
                  rw [Option.mem_toList] at hm
                  have := HROW.out.block hm
                  omega
                have hM9 := hM.keep hu9 (hnb _ hbase.1) (hnb _ hbase.2.1)
                have hP9 := hu9.keepb hP (hnb _ hbase.2.2.1)
                have hW9 := hW.then hu9 (fun k hk => .inr (by rw [Option.mem_toList] at hk; have := HROW.out.block hk; omega))
                have hsz9 := hu9.size
                have HM9 := Lib.hid hM9
                have HP9 := Lib.hid hP9
                have HW9 := Lib.hid hW9
                have HROW9 := Lib.hid hrow9
                have HSZ9 := Lib.hid (show w6.heap.size ≤ w9.heap.size from by omega)
                clear hM9 hP9 hW9 hrow9 hu9 hown9 hM hP hW hR h11 h12 hnb
                go_wp2_with fail
                go_roundg (ss.length - (j + 1))
                case rel => exact ⟨j + 1, by have := HJ.out; omega, by rw [HJW.out], R ++ [mask wdn v0 v1 v2 v3], HM9.out.mono (by omega), by rw [show (R ++ [mask wdn v0 v1 v2 v3]).length = R.length + 1 from by simp, rowC_snoc, zw_mask wdn v0 v1 v2 v3 H14.out.1]; exact HROW9.out, HP9.out, HW9.out, HSZ9.out⟩
                case measure => have := HJ.out; omega
      · -- Pop
        have HN := Lib.hid fun w => pop_new cap (wdn : Int) HC.out (by have := H14.out; omega) (by have := H14.out; omega) w
        rcases R with _ | ⟨q, R⟩
        · go_wp2_with (first
          | (go_at_call 40; refine (HN.out _).mono ?_; rintro e w7 ⟨p, rfl, hp7, hf7, hu7⟩; have HF7 := Lib.hid hf7; have HU7 := Lib.hid hu7; have HP7 := Lib.hid hp7; clear hf7 hu7 hp7 HN)
          | (go_at_call 39; refine (pop_alone_none (HMR.out.keep HU7.out (by simp) (by simp)) HC.out H14.out.1 H14.out.2 HCJ.out HF7.out (by have := HB.out; have := HP7.out; omega) (by have := HB.out; have := HP7.out; omega)).mono ?_; rintro e w8 ⟨rfl, hm8, hu8⟩; have HM8 := Lib.hid hm8; have HU8 := Lib.hid (show Upd [b, g] wr w8 from (HU7.out.mono (by simp)).then hu8 (fun k hk => by have := HP7.out; simp at hk ⊢; omega)); unfold ansV; clear hm8 hu8))
          have hbg := HB.out
          have hbase := HBG.out
          have hu9 := (HU8.out.alloc (.cells #[.int .i64 7, .int .u32 0, .int .u32 0, .int .u32 0, .int .u32 0] 39))
          go_roundg (ss.length - (j + 1))
          case rel => exact ⟨j + 1, by have := HJ.out; omega, by rw [HJW.out], [], (HM8.out.keep ((Upd.refl [] _).alloc _) (by simp) (by simp)).mono (by omega), HROW.out.keep hu9 (fun k hk => by have := HROW.out.block hk; simp; omega), hu9.keepb HP.out (by simp; omega), HU.out.then hu9 (by simp; omega), by have := HSZ.out; have := hu9.size; omega⟩
          case measure => have := HJ.out; omega
        · obtain ⟨rg, ro, rcap, hre, hrb, hrl, hrn, hrx⟩ := HROW.out.full (by simp)
          simp only [Value.slice.injEq] at hre
          obtain ⟨rfl, -, rfl⟩ := hre
          have r0 := hrx 0 _ rfl
          simp only [Nat.add_zero] at r0
          have r1 := hrx 1 _ rfl
          have r2 := hrx 2 _ rfl
          have r3 := hrx 3 _ rfl
          have HRC := Lib.hid (show 1 ≤ rc from by simp at hrn; omega)
          have HRX := Lib.hid (And.intro hrb (And.intro hrl hrn))
          go_wp2_with (first
          | (go_at_call 40; refine (HN.out _).mono ?_; rintro e w7 ⟨p, rfl, hp7, hf7, hu7⟩; have HF7 := Lib.hid hf7; have HU7 := Lib.hid hu7; have HP7 := Lib.hid hp7; clear hf7 hu7 hp7 HN)
          | (go_at_call 39; refine (pop_alone_ok (HMR.out.keep HU7.out (by simp) (by simp)) HC.out H14.out.1 H14.out.2 HCJ.out HF7.out (by have := HB.out; have := HP7.out; omega) (by have := HB.out; have := HP7.out; omega)).mono ?_; rintro e w8 ⟨rfl, hm8, hu8⟩; have HM8 := Lib.hid hm8; have HU8 := Lib.hid (show Upd [b, g] wr w8 from (HU7.out.mono (by simp)).then hu8 (fun k hk => by have := HP7.out; simp at hk ⊢; omega)); unfold ansV; clear hm8 hu8))
          have hbg := HB.out
          have hbase := HBG.out
          have hu9 := (HU8.out.alloc (.cells #[.int .i64 0, .int .u32 q.a, .int .u32 q.b, .int .u32 q.c, .int .u32 q.d] 39))
          have hrg := HRX.out
          have r0 := (hu9.cell (p := ⟨rg, _, none⟩) hrg.2.1 (by simp; omega)).trans r0
          have r1 := (hu9.cell (p := ⟨rg, _, none⟩) hrg.2.1 (by simp; omega)).trans r1
          have r2 := (hu9.cell (p := ⟨rg, _, none⟩) hrg.2.1 (by simp; omega)).trans r2
          have r3 := (hu9.cell (p := ⟨rg, _, none⟩) hrg.2.1 (by simp; omega)).trans r3
          have HU9 := Lib.hid hu9
          clear hbg hbase hu9 hrg
          have hw3 := HW3.out
          go_quiet (fail)
          go_wp2_with fail
          all_goals
            clear hw3
            have hbg := HB.out
            have hbase := HBG.out
            have hu10 := HU9.out.drewN nq
            go_roundg (ss.length - (j + 1))
            case rel => exact ⟨j + 1, by have := HJ.out; omega, by rw [HJW.out], R, (HM8.out.keep (((Upd.refl [] _).alloc _).drewN _) (by simp) (by simp)).mono (by omega), (HROW.out.keep hu10 (fun k hk => by have := HROW.out.block hk; simp; omega)).tail _ _ (by omega) (by first | rw [if_pos h] | rw [if_neg h]), hu10.keepb HP.out (by simp; omega), HU.out.then hu10 (by simp; omega), by have := HSZ.out; have := hu10.size; omega⟩
            case measure => have := HJ.out; omega
    · -- the end
      obtain rfl : j = ss.length := by have := HJ.out; omega
      go_wp2_with (go_at_call 34; refine (alive12 _).mono ?_; rintro e w9 ⟨rfl, hu9⟩; have HU9 := Lib.hid (HU.out.trans hu9); clear hu9)
      go_ret
      exact ⟨rfl, HU9.out⟩
set_option maxRecDepth 100000 in
set_option maxHeartbeats 2000000 in
theorem ringRow_out (log wd from' : Int) (a : Option Addr) (n cp : Nat) (W : World) (h : log < 0 ∨ 4 < log ∨ wd < 1 ∨ 4 < wd ∨ 80 < n) :
    Calls Try.prog 6 #[.int .i64 log, .int .i64 wd, .int .u32 from', .slice a n cp] W fun e w' => e = .returned (.bool true) ∧ Upd [] W w' := by
  have HA := Lib.hid alive12
  by_cases h1 : log < 0
  · have q1 : decide (log < 0) = true := by simpa using h1
    clear h h1
    go_enter Try.func6, Try.ntmps6
    go_wp2_with (go_at_call 34; refine (HA.out _).mono ?_; rintro e w9 ⟨rfl, hu9⟩; have HU9 := Lib.hid hu9; clear hu9)
    go_ret
    exact ⟨rfl, HU9.out⟩
  have q1 : decide (log < 0) = false := by simpa using h1
  by_cases h2 : 4 < log
  · have q2 : decide (4 < log) = true := by simpa using h2
    clear h h1 h2
    go_enter Try.func6, Try.ntmps6
    go_wp2_with (go_at_call 34; refine (HA.out _).mono ?_; rintro e w9 ⟨rfl, hu9⟩; have HU9 := Lib.hid hu9; clear hu9)
    go_ret
    exact ⟨rfl, HU9.out⟩
  have q2 : decide (4 < log) = false := by simpa using h2
  by_cases h3 : wd < 1
  · have q3 : decide (wd < 1) = true := by simpa using h3
    clear h h1 h2 h3
    go_enter Try.func6, Try.ntmps6
    go_wp2_with (go_at_call 34; refine (HA.out _).mono ?_; rintro e w9 ⟨rfl, hu9⟩; have HU9 := Lib.hid hu9; clear hu9)
    go_ret
    exact ⟨rfl, HU9.out⟩
  have q3 : decide (wd < 1) = false := by simpa using h3
  by_cases h4 : 4 < wd
  · have q4 : decide (4 < wd) = true := by simpa using h4
    clear h h1 h2 h3 h4
    go_enter Try.func6, Try.ntmps6
    go_wp2_with (go_at_call 34; refine (HA.out _).mono ?_; rintro e w9 ⟨rfl, hu9⟩; have HU9 := Lib.hid hu9; clear hu9)
    go_ret
    exact ⟨rfl, HU9.out⟩
  have q4 : decide (4 < wd) = false := by simpa using h4
  have h5 : 80 < n := by omega
  have q5 : decide (80 < (n : Int)) = true := by simp; omega
  have q5' : decide (80 < n) = true := by simp; omega
  clear h h1 h2 h3 h4 h5
  go_enter Try.func6, Try.ntmps6
  go_wp2_with (go_at_call 34; refine (HA.out _).mono ?_; rintro e w9 ⟨rfl, hu9⟩; have HU9 := Lib.hid hu9; clear hu9)
  go_ret
  exact ⟨rfl, HU9.out⟩
theorem cap_of {log : Int} (h0 : 0 ≤ log) (h4 : log ≤ 4) : ∃ cap, (1 : Int) * 2 ^ log.toNat = cap ∧ Cap5 cap := by
  refine ⟨_, rfl, ?_⟩
  have h : log = 0 ∨ log = 1 ∨ log = 2 ∨ log = 3 ∨ log = 4 := by omega
  unfold Cap5
  rcases h with rfl | rfl | rfl | rfl | rfl <;> decide
theorem ringRow_walk (W : World) (v0 v1 v2 v3 : Value) (h0 : Sh.okV W (.int .i64) v0) (h1 : Sh.okV W (.int .i64) v1) (h2 : Sh.okV W (.int .u32) v2) (h3 : Sh.okV W (.slice (.st (.cons (.bool) (.cons (.ar 4 (.int .u32)) (.nil))))) v3) :
    Calls Try.prog 6 #[v0, v1, v2, v3] W fun e w' => e = .returned (.bool true) ∧ Upd [] W w' := by
  obtain ⟨log, hlog, _⟩ := h0
  obtain rfl : v0 = .int .i64 log := by simpa using hlog
  obtain ⟨wd, hwd, _⟩ := h1
  obtain rfl : v1 = .int .i64 wd := by simpa using hwd
  obtain ⟨from', hfr, hfw⟩ := h2
  obtain rfl : v2 = .int .u32 from' := by simpa using hfr
  obtain ⟨a, cp, ss, rfl, -, -, hs⟩ := reads_rsteps h3
  have hf : 0 ≤ from' ∧ from' ≤ 4294967295 := by simpa [Lit.wf, IntKind.min, IntKind.max, IntKind.bits, IntKind.signed] using hfw
  by_cases hin : 0 ≤ log ∧ log ≤ 4 ∧ 1 ≤ wd ∧ wd ≤ 4 ∧ ss.length ≤ 80
  · obtain ⟨cap, hc1, hc2⟩ := cap_of hin.1 hin.2.1
    obtain ⟨wdn, rfl⟩ : ∃ n : Nat, wd = n := ⟨wd.toNat, by omega⟩
    exact ringRow_in log cap from' wdn a cp ss W hin.1 hin.2.1 hc1 hc2 (by omega) (by omega) hf.1 hf.2 hin.2.2.2.2 hs
  · exact ringRow_out log wd from' a ss.length cp W (by omega)
end Go.Proofs.Ytbjeojcnofpgfaa
