/- Package ring: a ring in a memory: a row; Push and Pop, each done alone. -/
import Derived.Test.YtbjeojcnofpgfaaRR1
import Derived.Test.YtbjeojcnofpgfaaRing13
import Derived.Test.YtbjeojcnofpgfaaPlaceG
import Derived.Test.YtbjeojcnofpgfaaResEq
set_option linter.unusedVariables false
set_option linter.unusedSimpArgs false
namespace Go.Proofs.Ytbjeojcnofpgfaa
open Go.RowKit

/-- A memory that holds a ring with a row in it. -/
def MR (w : World) (b g c : Nat) (cap : Int) (wdn : Nat) (R : List Q4) : Prop := ∃ xs h, MemX w b g c xs ∧ RM cap wdn xs h R
theorem MR.keep {w w' : World} {b g c : Nat} {cap : Int} {wdn : Nat} {R : List Q4} (h : MR w b g c cap wdn R) {S : List Nat} (hu : Upd S w w') (h1 : b ∉ S) (h2 : g ∉ S) : MR w' b g c cap wdn R := by
  obtain ⟨xs, h, m, r⟩ := h
  exact ⟨xs, h, m.keep hu h1 h2, r⟩
theorem MR.mono {w : World} {b g c c' : Nat} {cap : Int} {wdn : Nat} {R : List Q4} (h : MR w b g c cap wdn R) (hc : c ≤ c') : MR w b g c' cap wdn R := by
  obtain ⟨xs, h, m, r⟩ := h
  exact ⟨xs, h, m.mono hc, r⟩
theorem MR.lt {w : World} {b g c : Nat} {cap : Int} {wdn : Nat} {R : List Q4} (h : MR w b g c cap wdn R) : b < w.heap.size ∧ g < w.heap.size := by
  obtain ⟨xs, h, m, r⟩ := h
  exact m.lt
theorem MR.le {w : World} {b g c : Nat} {cap : Int} {wdn : Nat} {R : List Q4} (h : MR w b g c cap wdn R) : (R.length : Int) ≤ cap := by
  obtain ⟨xs, h, m, r⟩ := h
  exact r.le

/-- What of an entry is kept: its first words. -/
def mask (wdn : Nat) (v0 v1 v2 v3 : Int) : Q4 := ⟨v0, if 1 < wdn then v1 else 0, if 2 < wdn then v2 else 0, if 3 < wdn then v3 else 0⟩
theorem mask_at (wdn : Nat) (v0 v1 v2 v3 : Int) (h4 : wdn ≤ 4) (k : Nat) (hk : k < wdn) : (mask wdn v0 v1 v2 v3).at k = v4 v0 v1 v2 v3 k := by
  have h : k = 0 ∨ k = 1 ∨ k = 2 ∨ k = 3 := by omega
  rcases h with rfl | rfl | rfl | rfl <;> simp [mask, Q4.at, v4] <;> omega
theorem mask_zero (wdn : Nat) (v0 v1 v2 v3 : Int) (h1 : 1 ≤ wdn) (k : Nat) (hk : wdn ≤ k) (hk4 : k < 4) : (mask wdn v0 v1 v2 v3).at k = 0 := by
  have h : k = 1 ∨ k = 2 ∨ k = 3 := by omega
  rcases h with rfl | rfl | rfl <;> simp [mask, Q4.at] <;> omega

def ansV (f a b c d : Int) : Value := .agg #[.int .i64 f, .int .u32 a, .int .u32 b, .int .u32 c, .int .u32 d]
theorem push_alone_ok {w : World} {b g p c : Nat} {cap : Int} {wdn : Nat} {R : List Q4} (v0 v1 v2 v3 : Int) (hm : MR w b g c cap wdn R) (hlt : (R.length : Int) < cap) (hc : Cap5 cap) (h1 : 1 ≤ wdn) (h4 : wdn ≤ 4) (hcc : c < 10000)
    (hf : RG cap wdn w p 106 { ring0 with v0 := v0, v1 := v1, v2 := v2, v3 := v3 }) (hb : b ≠ p) (hg : g ≠ p) :
    Calls Try.prog 39 #[.pointer (some ⟨b, 0, none⟩), .iface 100 (.pointer (some ⟨p, 0, none⟩)), .int .i64 20] w fun e w' =>
      e = .returned (.tuple #[ansV 0 0 0 0 0, .int .i64 (wdn + 3), .bool true]) ∧ MR w' b g (c + 7) cap wdn (R ++ [mask wdn v0 v1 v2 v3]) ∧ Upd [b, g, p] w w' := by
  obtain ⟨xs, h, m, r⟩ := hm
  have h := alone_any (pu_rou (cap := cap) (wd := wdn) p hc (by omega) (by omega)) (s0 := ⟨0, 0, 0, v0, v1, v2, v3, 0, 0, 0, 0, 0, true⟩) (most := 20) (K := wdn + 3) m ⟨fun _ => (by simp only; omega), hf⟩ (by simpa using hb) (by simpa using hg) (by omega) (by omega) (by omega)
    (pu_ok _ _ v0 v1 v2 v3 xs hc h1 h4 (by rw [r.len]; exact Nat.le_refl _) r.x0 r.x1 (by rw [r.many hc]; omega))
  refine h.mono fun e w' ⟨he, _, hm', hu⟩ => ⟨by rw [he]; rfl, ⟨_, _, hm'.mono (by omega), r.push v0 v1 v2 v3 (mask wdn v0 v1 v2 v3) (mask_at wdn v0 v1 v2 v3 h4) (mask_zero wdn v0 v1 v2 v3 h1) hc h1 h4 hlt⟩, hu⟩
theorem push_alone_full {w : World} {b g p c : Nat} {cap : Int} {wdn : Nat} {R : List Q4} (v0 v1 v2 v3 : Int) (hm : MR w b g c cap wdn R) (hlt : (R.length : Int) = cap) (hc : Cap5 cap) (h1 : 1 ≤ wdn) (h4 : wdn ≤ 4) (hcc : c < 10000)
    (hf : RG cap wdn w p 106 { ring0 with v0 := v0, v1 := v1, v2 := v2, v3 := v3 }) (hb : b ≠ p) (hg : g ≠ p) :
    Calls Try.prog 39 #[.pointer (some ⟨b, 0, none⟩), .iface 100 (.pointer (some ⟨p, 0, none⟩)), .int .i64 20] w fun e w' =>
      e = .returned (.tuple #[ansV 6 0 0 0 0, .int .i64 2, .bool true]) ∧ MR w' b g (c + 7) cap wdn R ∧ Upd [b, g, p] w w' := by
  obtain ⟨xs, h, m, r⟩ := hm
  have h := alone_any (pu_rou (cap := cap) (wd := wdn) p hc (by omega) (by omega)) (s0 := ⟨0, 0, 0, v0, v1, v2, v3, 0, 0, 0, 0, 0, true⟩) (most := 20) (K := 2) m ⟨fun _ => (by simp only; omega), hf⟩ (by simpa using hb) (by simpa using hg) (by omega) (by omega) (by omega)
    (pu_full _ _ v0 v1 v2 v3 xs h1 h4 r.x0 r.x1 (by rw [r.many hc]; omega))
  refine h.mono fun e w' ⟨he, _, hm', hu⟩ => ⟨by rw [he]; rfl, ⟨_, _, hm'.mono (by omega), r⟩, hu⟩
theorem pop_alone_ok {w : World} {b g p c : Nat} {cap : Int} {wdn : Nat} {q : Q4} {R : List Q4} (hm : MR w b g c cap wdn (q :: R)) (hc : Cap5 cap) (h1 : 1 ≤ wdn) (h4 : wdn ≤ 4) (hcc : c < 10000)
    (hf : RG cap wdn w p 107 ring0) (hb : b ≠ p) (hg : g ≠ p) :
    Calls Try.prog 39 #[.pointer (some ⟨b, 0, none⟩), .iface 98 (.pointer (some ⟨p, 0, none⟩)), .int .i64 20] w fun e w' =>
      e = .returned (.tuple #[ansV 0 q.a q.b q.c q.d, .int .i64 (wdn + 3), .bool true]) ∧ MR w' b g (c + 7) cap wdn R ∧ Upd [b, g, p] w w' := by
  obtain ⟨xs, h, m, r⟩ := hm
  have hle := r.le
  have hcl := hc.le
  have hh0 := r.h0
  have hh1 := r.h1
  simp at hle
  have h := alone_any (po_rou (cap := cap) (wd := wdn) p hc (by omega) (by omega)) (s0 := ring0) (most := 20) (K := wdn + 3) m ⟨fun _ => (by simp only [ring0]; omega), hf⟩ (by simpa using hb) (by simpa using hg) (by omega) (by omega) (by omega)
    (po_ok _ _ (fun k => q.at k) xs hc h1 h4 (by rw [r.len]; exact Nat.le_refl _) r.x0 r.x1 (by simp; omega) (fun k hk => by have := r.at' 0 q rfl k hk; simpa using this))
  refine h.mono fun e w' ⟨he, _, hm', hu⟩ => ⟨?_, ⟨_, _, hm'.mono (by omega), r.pop hc h1 h4⟩, hu⟩
  rw [he]
  have z := r.zero q (by simp)
  have e0 : (if 0 < wdn then q.at 0 else 0) = q.a := by rw [if_pos (by omega)]; rfl
  have e1 : (if 1 < wdn then q.at 1 else 0) = q.b := by
    split
    · rfl
    · exact (z 1 (by omega) (by omega)).symm
  have e2 : (if 2 < wdn then q.at 2 else 0) = q.c := by
    split
    · rfl
    · exact (z 2 (by omega) (by omega)).symm
  have e3 : (if 3 < wdn then q.at 3 else 0) = q.d := by
    split
    · rfl
    · exact (z 3 (by omega) (by omega)).symm
  unfold poE ansV Ans.v
  simp only [e0, e1, e2, e3]
  rfl
theorem pop_alone_none {w : World} {b g p c : Nat} {cap : Int} {wdn : Nat} (hm : MR w b g c cap wdn []) (hc : Cap5 cap) (h1 : 1 ≤ wdn) (h4 : wdn ≤ 4) (hcc : c < 10000)
    (hf : RG cap wdn w p 107 ring0) (hb : b ≠ p) (hg : g ≠ p) :
    Calls Try.prog 39 #[.pointer (some ⟨b, 0, none⟩), .iface 98 (.pointer (some ⟨p, 0, none⟩)), .int .i64 20] w fun e w' =>
      e = .returned (.tuple #[ansV 7 0 0 0 0, .int .i64 2, .bool true]) ∧ MR w' b g (c + 7) cap wdn [] ∧ Upd [b, g, p] w w' := by
  obtain ⟨xs, h, m, r⟩ := hm
  have hx1 := r.x1
  have hh0 := r.h0
  have hh1 := r.h1
  have h := alone_any (po_rou (cap := cap) (wd := wdn) p hc (by omega) (by omega)) (s0 := ring0) (most := 20) (K := 2) m ⟨fun _ => (by simp only [ring0]; omega), hf⟩ (by simpa using hb) (by simpa using hg) (by omega) (by omega) (by omega)
    (po_none (cap := cap) (wdn := wdn) _ xs r.x0 (by rw [hx1]; congr 1; simp; omega))
  refine h.mono fun e w' ⟨he, _, hm', hu⟩ => ⟨by rw [he]; rfl, ⟨_, _, hm'.mono (by omega), r⟩, hu⟩

/-- A memory for a ring. -/
theorem new_ring (cap : Int) (wdn : Nat) (hc : Cap5 cap) (h1 : 1 ≤ wdn) (h4 : wdn ≤ 4) (w : World) : Calls Try.prog 36 #[.int .i64 (2 + cap * wdn)] w fun e w' => ∃ b g, e = .returned (.pointer (some ⟨b, 0, none⟩)) ∧ w.heap.size ≤ b ∧ w.heap.size ≤ g ∧ Mem w' b g 0 0 (List.replicate (2 + cap * wdn).toNat 0) ∧ Upd [] w w' := by
  have hmul := mul_le64 (cap := cap) (wd := wdn) (by have := hc.le; omega) (by omega) (by omega)
  have e : (2 + cap * wdn) = (((2 + cap * wdn).toNat : Nat) : Int) := by omega
  rw [e]
  exact new_any _ w (by omega)
/-- Both counters at the same number: nothing in it. -/
theorem RM.start (cap : Int) (wdn : Nat) (from' : Int) (h0 : 0 ≤ from') (h1 : from' ≤ 4294967295) (hc : Cap5 cap) (hw : 1 ≤ wdn) (h4 : wdn ≤ 4) : RM cap wdn (((List.replicate (2 + cap * wdn).toNat 0).set 0 from').set 1 from') from' [] := by
  have hmul := mul_le64 (cap := cap) (wd := wdn) (by have := hc.le; omega) (by omega) (by omega)
  refine ⟨by simp, h0, by omega, ?_, ?_, by have := hc.le; simp; omega, fun j q hj => by simp at hj, fun q hq => by simp at hq⟩
  · rw [List.getElem?_set_ne (by omega), List.getElem?_set_self (by simp; omega)]
  · rw [List.getElem?_set_self (by simp; omega)]
    congr 1
    simp
    omega

theorem info_place5 (a b c d e : Value) : (Try.prog.info? 66).map (·.size) = some (#[a, b, c, d, e] : Array Value).size := by kernel_rfl
set_option maxRecDepth 100000 in
set_option maxHeartbeats 1000000 in
theorem place_any (cap : Int) (wdn : Nat) (hc : Cap5 cap) (h1 : 1 ≤ wdn) (h4 : wdn ≤ 4) (W : World) : Calls Try.prog 35 #[.int .i64 cap, .int .i64 wdn] W fun e w' => e = .returned (.tuple #[.agg #[.int .i64 1, .int .i64 0, .int .i64 cap, .int .i64 wdn, .int .i64 0], .int .i64 (2 + cap * wdn)]) ∧ Upd [] W w' := by
  have HO := Lib.hid fun lb c W ty hb => of_ring cap (wdn : Int) hc (by omega) (by omega) lb c W (ty := ty) hb
  clear hc h1 h4
  go_enter Try.func35, Try.ntmps35
  go_wp2_with fail
  refine Calls.mono (HO.out (W.heap.size + 1) 1 _ 68 ?hb) ?_
  case hb => exact heap_alloc_at _ (by simp)
  rintro e w1 ⟨v, rfl, hown, hu1⟩
  obtain ⟨q, cp, rfl, hq, hpl⟩ := own_placeG hown
  have lq := hpl.lt
  have HU1 := Lib.hid ((((Upd.refl [] W).alloc _).alloc _).trans hu1)
  have hz := hu1.keepb (heap_alloc' (heap_alloc_new W (.cells #[.int .i64 0, .int .i64 0, .int .i64 0, .int .i64 0, .int .i64 0] 66))) (by simp)
  have HZ := Lib.hid hz
  have zf := fun j => frozen_of_heap hz j
  have z0 := cell_of_heap hz 0
  have z1 := cell_of_heap hz 1
  have z2 := cell_of_heap hz 2
  have z3 := cell_of_heap hz 3
  have z4 := cell_of_heap hz 4
  simp at z0 z1 z2 z3 z4
  obtain ⟨lq', q0, q1, q2, q3, q4⟩ := hpl
  have nq : q ≠ W.heap.size := by (simp at hq; omega)
  have nq' : W.heap.size ≠ q := fun h => nq h.symm
  clear hown hu1 hz hq
  go_wp2
  refine bodyPost_ret (results_cell_tmp rfl _ _ W.heap.size 66 #[.int .i64 1, .int .i64 0, .int .i64 cap, .int .i64 wdn, .int .i64 0] (0, 0) _ (.int .i64 (2 + cap * wdn)) rfl rfl ?hg Try.underlying66 rfl (info_place5 _ _ _ _ _)) rfl ?_
  case hg =>
    show _ = some (Obj.cells [Value.int .i64 1, .int .i64 0, .int .i64 cap, .int .i64 wdn, .int .i64 0].toArray _ _)
    repeat (first | (with_reducible exact HZ.out) | (with_reducible apply heap_set2))
    all_goals rfl
  refine ⟨rfl, ?_⟩
  suffices hsuf : Upd [W.heap.size] w1 _ from HU1.out.then hsuf (fun i hi => .inr (by simp at hi; omega))
  repeat (with_reducible refine Upd.setCell ?_ (by simp) _)
  exact Upd.refl _ _
end Go.Proofs.Ytbjeojcnofpgfaa
