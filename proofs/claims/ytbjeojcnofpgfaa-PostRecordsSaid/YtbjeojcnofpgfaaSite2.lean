/- Package site: where an object's cells lie. -/
import Derived.Test.YtbjeojcnofpgfaaSite
import Derived.Test.YtbjeojcnofpgfaaCell2
import Derived.Deep.RegionHeld3
set_option linter.unusedVariables false
set_option linter.unusedSimpArgs false
namespace Go.Proofs.Ytbjeojcnofpgfaa
open Go.RowKit

theorem cells10 {w : World} {k : Nat} {a b c d e f g h i j : Value} {t : TypeId} {fr : Nat × Nat} (hh : w.heap[k]? = some (.cells #[a, b, c, d, e, f, g, h, i, j] t fr)) :
    w.cell? ⟨k, 0, none⟩ = some a ∧ w.cell? ⟨k, 1, none⟩ = some b ∧ w.cell? ⟨k, 2, none⟩ = some c ∧ w.cell? ⟨k, 3, none⟩ = some d ∧ w.cell? ⟨k, 4, none⟩ = some e ∧ w.cell? ⟨k, 5, none⟩ = some f ∧ w.cell? ⟨k, 6, none⟩ = some g ∧ w.cell? ⟨k, 7, none⟩ = some h ∧ w.cell? ⟨k, 8, none⟩ = some i ∧ w.cell? ⟨k, 9, none⟩ = some j :=
  ⟨by rw [cell_of_heap hh]; rfl, by rw [cell_of_heap hh]; rfl, by rw [cell_of_heap hh]; rfl, by rw [cell_of_heap hh]; rfl, by rw [cell_of_heap hh]; rfl, by rw [cell_of_heap hh]; rfl, by rw [cell_of_heap hh]; rfl, by rw [cell_of_heap hh]; rfl, by rw [cell_of_heap hh]; rfl, by rw [cell_of_heap hh]; rfl⟩
theorem heap_alloc_at {w : World} {g : Nat} (o : Obj) (h : g = w.heap.size) : (w.alloc o).heap[g]? = some o := by subst h; exact heap_alloc_new _ _
def placeC (kind at' cap width retry : Int) : List Value := [.int .i64 kind, .int .i64 at', .int .i64 cap, .int .i64 width, .int .i64 retry]
theorem info_place : (Try.prog.info? 66).map (fun i => (i.zero, i.size, i.bytes)) = some (some (.agg #[.int .i64 0, .int .i64 0, .int .i64 0, .int .i64 0, .int .i64 0]), 5, 40) := by kernel_rfl

def OfFlagsPost (W : World) (e : Ending) (w' : World) : Prop :=
  ∃ v, e = .returned (.tuple #[v, .int .i64 1]) ∧ w'.ownsRow W.heap.size 66 5 v 1 (placeC 4 0 0 0 0) ∧ Upd [] W w'

set_option maxRecDepth 100000 in
set_option maxHeartbeats 2000000 in
theorem of_flags (lb c : Nat) (W : World) {ty : TypeId} (hb : W.heap[lb]? = some (.cells #[.int .i64 4, .int .i64 0, .int .i64 0, .int .i64 0, .int .i64 0, .int .i64 0, .int .u32 0, .int .u32 0, .int .u32 0, .int .u32 0] ty (0, 0))) :
    Calls Try.prog 66 #[.slice (some ⟨lb, 0, none⟩) 1 c] W (OfFlagsPost W) := by
  obtain ⟨ip, hip, hz0, hz1, hz2⟩ := info_parts info_place
  have hmf : ∀ (fn : Fn) (first cap : Array Value) (w : World), (Instr.makeFunc fn first cap).run Try.prog w = .ok (.func fn first cap) w := fun _ _ _ _ => rfl
  have hl := heap_lt hb
  have HB := Lib.hid hb
  clear hb
  go_enter Try.func66, Try.ntmps66
  go_wp2
  have hstart : (W.alloc (.cells #[.int .i64 0] 3)).heap[W.heap.size]? = some (.cells #[.int .i64 0] 3 (0, 0)) := heap_alloc_new _ _
  have HSTART := Lib.hid hstart
  clear hstart
  go_loopg [2, 11] 1 (fun n out i wr => (n = 1 ∧ out = .slice none 0 0 ∧ i = .int .i64 0 ∧ wr.heap[W.heap.size]? = some (.cells #[.int .i64 0] 3 (0, 0)) ∧ Upd [] W wr) ∨ (n = 0 ∧ i = .int .i64 1 ∧ wr.heap[W.heap.size]? = some (.cells #[.int .i64 1] 3 (0, 0)) ∧ wr.ownsRow W.heap.size 66 5 out 1 (placeC 4 0 0 0 0) ∧ Upd [] W wr))
  case atStart => exact .inl ⟨by omega, rfl, rfl, HSTART.out, (Upd.refl _ _).alloc _⟩
  case round =>
    rcases hrel with ⟨rfl, rfl, rfl, hnb, hu⟩ | ⟨rfl, rfl, hnb, hown, hu⟩
    · have HNB := Lib.hid hnb
      have HU := Lib.hid hu
      have HBR := Lib.hid (hu.keepb HB.out (by simp))
      have lr := heap_lt HBR.out
      have ln := heap_lt hnb
      have b0 : wr.cell? ⟨lb, 0, none⟩ = some (.int .i64 4) := by rw [cell_of_heap HBR.out]; rfl
      have b1 : wr.cell? ⟨lb, 1, none⟩ = some (.int .i64 0) := by rw [cell_of_heap HBR.out]; rfl
      have b2 : wr.cell? ⟨lb, 2, none⟩ = some (.int .i64 0) := by rw [cell_of_heap HBR.out]; rfl
      have b3 : wr.cell? ⟨lb, 3, none⟩ = some (.int .i64 0) := by rw [cell_of_heap HBR.out]; rfl
      have b4 : wr.cell? ⟨lb, 4, none⟩ = some (.int .i64 0) := by rw [cell_of_heap HBR.out]; rfl
      have b5 : wr.cell? ⟨lb, 5, none⟩ = some (.int .i64 0) := by rw [cell_of_heap HBR.out]; rfl
      have b6 : wr.cell? ⟨lb, 6, none⟩ = some (.int .u32 0) := by rw [cell_of_heap HBR.out]; rfl
      have b7 : wr.cell? ⟨lb, 7, none⟩ = some (.int .u32 0) := by rw [cell_of_heap HBR.out]; rfl
      have b8 : wr.cell? ⟨lb, 8, none⟩ = some (.int .u32 0) := by rw [cell_of_heap HBR.out]; rfl
      have b9 : wr.cell? ⟨lb, 9, none⟩ = some (.int .u32 0) := by rw [cell_of_heap HBR.out]; rfl
      clear hnb hu
      go_wp2_with (go_at_call 125; refine Go.RowKit.Hid.out ?_)
      refine Lib.hid ?_
      refine (take_flags 0 0 0 0 0 0 W.heap.size 0 (by omega) (by omega) _ ((heap_alloc_other _ _ ln).trans HNB.out)).mono ?_
      rintro e w1 ⟨rfl, hn1, hu1⟩
      have HN1 := Lib.hid hn1
      have HU1 := Lib.hid hu1
      have hx1 := hu1.keepb (heap_alloc_new _ _) (by simp; omega)
      have HX1 := Lib.hid hx1
      obtain ⟨g0, g1, g2, g3, g4, g5, g6, g7, g8, g9⟩ := cells10 hx1
      have lx1 := heap_lt hx1
      have nx1 : w1.heap.size ≠ wr.heap.size := by omega
      have nx2 : wr.heap.size ≠ w1.heap.size := by omega
      clear hn1 hu1 hx1
      go_wp2_with (go_at_call 94; refine Go.RowKit.Hid.out ?_)
      refine Lib.hid ?_
      refine (right_flags 0 0 0 0 0 0 _).mono ?_
      rintro e w2 ⟨rfl, hu2⟩
      have HU2 := Lib.hid (((Upd.refl [] w1).alloc _).trans hu2)
      have HP2 := Lib.hid (hu2.keepb (heap_alloc_new _ _) (by simp))
      have HX2 := Lib.hid (HU2.out.keepb HX1.out (by simp))
      have HN2 := Lib.hid (HU2.out.keepb HN1.out (by simp))
      clear g0 g1 g2 g3 g4 g5 g6 g7 g8 g9 hu2
      obtain ⟨g0, g1, g2, g3, -, -, -, -, -, -⟩ := cells10 HX2.out
      have p0 : w2.cell? ⟨w1.heap.size, 0, none⟩ = some (.int .i64 0) := by rw [cell_of_heap HP2.out]; rfl
      have p1 : w2.cell? ⟨w1.heap.size, 1, none⟩ = some (.int .i64 0) := by rw [cell_of_heap HP2.out]; rfl
      have p2 : w2.cell? ⟨w1.heap.size, 2, none⟩ = some (.int .i64 0) := by rw [cell_of_heap HP2.out]; rfl
      have p3 : w2.cell? ⟨w1.heap.size, 3, none⟩ = some (.int .i64 0) := by rw [cell_of_heap HP2.out]; rfl
      have p4 : w2.cell? ⟨w1.heap.size, 4, none⟩ = some (.int .i64 0) := by rw [cell_of_heap HP2.out]; rfl
      have pf := fun j => frozen_of_heap HP2.out j
      go_wp2
      go_region
      go_wp2_with (at_builtin; refine Go.RowKit.Hid.out ?_)
      refine Lib.hid ?_
      refine wpList_append_reads rfl _ _ 52 rfl W.heap.size 66 ip _ 5 40 Try.underlying52 hip hz0 hz1 hz2 rfl (by decide) _ 0 [] rfl (World.ownsRow_nil _ _ _ _) (some ⟨w2.heap.size, 0, none⟩) 1 1 (placeC 4 0 0 0 0) rfl rfl
        (fun _ => ⟨w2.heap.size, 0, rfl, fun j u hj => by rw [Nat.zero_add, World.cell?_drew, cell_of_heap (heap_alloc_at _ (by simp [size_setCell]))]; simpa [placeC] using hj⟩) (fun h => by cases h) (fun u hu => by simp [placeC] at hu; rcases hu with rfl | rfl <;> rfl) (by simp [maxLen]) (by omega) ?base ?_
      case base => have h1 := HU.out.size; have h2 := HU1.out.size; have h3 := HU2.out.size; simp at h2; simp [size_setCell]; omega
      intro v' w3 hown' hgrow
      simp only [Nat.zero_add, List.nil_append] at hown'
      have hg3 : Upd [] _ w3 := upd_grown hgrow
      have h1 := HU.out.size
      have h2 := HU1.out.size
      simp at h2
      have hc : Upd [w1.heap.size] w2 w3 := Upd.trans ((((((Upd.refl _ _).setCell (by simp) _).setCell (by simp) _).setCell (by simp) _).setCell (by simp) _).alloc _).drew (hg3.mono (by simp))
      have HC := Lib.hid hc
      have HOWN := Lib.hid hown'
      have HU3 := Lib.hid (((((HU.out.alloc _).then HU1.out (by simp)).trans HU2.out)).then hc (by simp; omega))
      have HN3 := Lib.hid (hc.keepb HN2.out (by simp; omega))
      have HBR3 := Lib.hid (HU3.out.keepb HB.out (by simp))
      clear hown' hgrow hg3 hc
      go_wp2
      go_roundg 0
      case rel => exact .inr ⟨rfl, by go_num, HN3.out, HOWN.out, HU3.out⟩
      case measure => omega
    · obtain ⟨va, vc, rfl, -, -⟩ := own_shape hown
      have n0 : wr.cell? ⟨W.heap.size, 0, none⟩ = some (.int .i64 1) := by rw [cell_of_heap hnb]; rfl
      have nf := frozen_of_heap hnb 0
      have HNB := Lib.hid hnb
      have HOWN := Lib.hid hown
      have HU := Lib.hid hu
      clear hnb hown hu
      go_wp2
      go_region
      go_wp2
      refine bodyPost_ret (v := .tuple #[.slice va 1 vc, .int .i64 1]) (by simp [results, Try.results66, go_sem, n0]) rfl ?_
      have hS : Upd [W.heap.size] wr (wr.setCell ⟨W.heap.size, 0, none⟩ (.int .i64 1)).drew := ((Upd.refl _ _).setCell (by simp) _).drew
      exact ⟨_, rfl, own_upd HOWN.out hS (fun q hq => by have := own_ne HOWN.out HNB.out (by decide); simp; intro e; subst e; exact this hq), HU.out.then hS (by simp)⟩
end Go.Proofs.Ytbjeojcnofpgfaa
