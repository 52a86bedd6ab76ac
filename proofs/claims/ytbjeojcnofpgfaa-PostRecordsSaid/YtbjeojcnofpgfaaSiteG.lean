/- Package site: where one object's cells lie, of whatever kind. -/
import Derived.Test.YtbjeojcnofpgfaaSite2
set_option linter.unusedVariables false
set_option linter.unusedSimpArgs false
namespace Go.Proofs.Ytbjeojcnofpgfaa
open Go.RowKit

set_option maxRecDepth 100000 in
set_option maxHeartbeats 1000000 in
theorem size_any (kind cap wd retry a r rw m : Int) (hR : ∀ w, Calls Try.prog 94 #[objV kind cap wd retry 0 0 0 0 0 0] w fun e w' => e = .returned (.bool true) ∧ Upd [] w w')
    (hA : ∀ w, Calls Try.prog 97 #[.int .i64 kind] w fun e w' => e = .returned (.int .i64 a) ∧ w = w') (hM : ∀ w, Calls Try.prog 96 #[.int .i64 kind, .int .i64 cap] w fun e w' => e = .returned (.int .i64 r) ∧ w = w')
    (hw1 : IntKind.i64.wrap (r * wd) = rw) (hw2 : IntKind.i64.wrap (a + rw) = m) (w : World) : Calls Try.prog 79 #[objV kind cap wd retry 0 0 0 0 0 0] w fun e w' => e = .returned (.int .i64 m) ∧ Upd [] w w' := by
  have HR := Lib.hid hR
  have HA := Lib.hid hA
  have HM := Lib.hid hM
  clear hR hA hM
  unfold objV at *
  go_enter Try.func79, Try.ntmps79
  go_wp2_with (first
    | (go_at_call 94; refine (HR.out _).mono ?_; rintro e w1 ⟨rfl, hu1⟩)
    | (go_at_call 97; refine (HA.out _).mono ?_; rintro e w2 ⟨rfl, rfl⟩)
    | (go_at_call 96; refine (HM.out _).mono ?_; rintro e w2 ⟨rfl, rfl⟩))
  have HX := Lib.hid (hu1.keepb (heap_alloc_new _ _) (by simp))
  have c0 : w1.cell? ⟨w.heap.size, 0, none⟩ = some (.int .i64 kind) := by rw [cell_of_heap HX.out]; rfl
  have c1 : w1.cell? ⟨w.heap.size, 1, none⟩ = some (.int .i64 cap) := by rw [cell_of_heap HX.out]; rfl
  have c2 : w1.cell? ⟨w.heap.size, 2, none⟩ = some (.int .i64 wd) := by rw [cell_of_heap HX.out]; rfl
  go_region_held3 (fun w' => w'.cell? ⟨w.heap.size, 0, none⟩ = some (.int .i64 kind) ∧ w'.cell? ⟨w.heap.size, 1, none⟩ = some (.int .i64 cap) ∧ w'.cell? ⟨w.heap.size, 2, none⟩ = some (.int .i64 wd))
    (first | exact ⟨c0, c1, c2⟩ | (go_keep; done))
    (first
      | (go_at_call 97; refine (HA.out _).mono ?_; rintro e w2 ⟨rfl, rfl⟩)
      | (go_at_call 96; refine (HM.out _).mono ?_; rintro e w2 ⟨rfl, rfl⟩))
  all_goals
    go_wp2
    go_ret
    refine ⟨by first | rfl | rw [hw1, hw2] | simp [hw1, hw2], ?_⟩
    first | exact ((Upd.refl _ _).alloc _).trans hu1 | exact (((Upd.refl _ _).alloc _).trans hu1).drew | exact (((Upd.refl _ _).alloc _).trans hu1).drewN _

set_option maxRecDepth 100000 in
set_option maxHeartbeats 2000000 in
theorem take_any (kind cap wd retry m : Int) (hS : ∀ w, Calls Try.prog 79 #[objV kind cap wd retry 0 0 0 0 0 0] w fun e w' => e = .returned (.int .i64 m) ∧ Upd [] w w') (nb : Nat) (n : Int) (hm0 : 0 ≤ m) (hm : m < 1000000) (hn0 : 0 ≤ n) (hn : n < 1000000) (w : World) {ty : TypeId} (hb : w.heap[nb]? = some (.cells #[.int .i64 n] ty (0, 0))) :
    Calls Try.prog 125 #[objV kind cap wd retry 0 0 0 0 0 0, .pointer (some ⟨nb, 0, none⟩)] w fun e w' => e = .returned (.int .i64 n) ∧ w'.heap[nb]? = some (.cells #[.int .i64 (n + m)] ty (0, 0)) ∧ Upd [nb] w w' := by
  have HS := Lib.hid hS
  clear hS
  unfold objV at *
  have c0 : w.cell? ⟨nb, 0, none⟩ = some (.int .i64 n) := by rw [cell_of_heap hb]; rfl
  have f0 := frozen_of_heap hb 0
  have hl := heap_lt hb
  have HB := Lib.hid hb
  have ne0 : nb ≠ w.heap.size := by omega
  have ne1 : w.heap.size ≠ nb := by omega
  have hwr : IntKind.i64.wrap (n + m) = n + m := by rw [IntKind.wrap_i64]; omega
  clear hb
  go_enter Try.func125, Try.ntmps125
  go_wp2
  go_region_with (first
    | (go_at_call 79; refine (HS.out _).mono ?_; rintro e w2 ⟨rfl, hu2⟩; have HU2 := Lib.hid (show Upd [] w w2 from by first | exact ((Upd.refl _ _).alloc _).trans hu2 | exact ((Upd.refl _ _).alloc _).drew.trans hu2 | exact (((Upd.refl _ _).alloc _).drewN _).trans hu2); clear hu2; have c0' := (HU2.out.cell (p := ⟨nb, 0, none⟩) hl (by simp)).trans c0; have f0' := (HU2.out.frozen (p := ⟨nb, 0, none⟩) hl (by simp)).trans f0))
  all_goals
    go_wp2
    go_ret
    have hS : Upd [nb] w2 (w2.setCell ⟨nb, 0, none⟩ (.int .i64 (n + m))) := (Upd.refl _ _).setCell (by simp) _
    refine ⟨rfl, ?_, ((HU2.out.mono (by simp)).trans hS)⟩
    exact heap_set (HU2.out.keepb HB.out (by simp)) 0 _
def OfPost (kind cap wd retry m : Int) (W : World) (e : Ending) (w' : World) : Prop :=
  ∃ v, e = .returned (.tuple #[v, .int .i64 m]) ∧ w'.ownsRow W.heap.size 66 5 v 1 (placeC kind 0 cap wd retry) ∧ Upd [] W w'

set_option maxRecDepth 100000 in
set_option maxHeartbeats 2000000 in
theorem of_one (kind cap wd retry m : Int) (hm0 : 0 ≤ m) (hm : m < 1000000) (hR : ∀ w, Calls Try.prog 94 #[objV kind cap wd retry 0 0 0 0 0 0] w fun e w' => e = .returned (.bool true) ∧ Upd [] w w') (hS : ∀ w, Calls Try.prog 79 #[objV kind cap wd retry 0 0 0 0 0 0] w fun e w' => e = .returned (.int .i64 m) ∧ Upd [] w w') (lb c : Nat) (W : World) {ty : TypeId} (hb : W.heap[lb]? = some (.cells #[.int .i64 kind, .int .i64 cap, .int .i64 wd, .int .i64 retry, .int .i64 0, .int .i64 0, .int .u32 0, .int .u32 0, .int .u32 0, .int .u32 0] ty (0, 0))) :
    Calls Try.prog 66 #[.slice (some ⟨lb, 0, none⟩) 1 c] W (OfPost kind cap wd retry m W) := by
  have HR := Lib.hid hR
  have HS := Lib.hid hS
  clear hR hS
  have HM0 := Lib.hid hm0
  have HM1 := Lib.hid hm
  clear hm0 hm
  obtain ⟨ip, hip, hz0, hz1, hz2⟩ := info_parts info_place
  have hmf : ∀ (fn : Fn) (first cap : Array Value) (w : World), (Instr.makeFunc fn first cap).run Try.prog w = .ok (.func fn first cap) w := fun _ _ _ _ => rfl
  have hl := heap_lt hb
  have HB := Lib.hid hb
  clear hb
  go_enter Try.func66, Try.ntmps66
  go_wp2
  have hstart : (W.alloc (.cells #[.int .i64 0] 3)).heap[W.heap.size]? = some (.cells #[.int .i64 0] 3 (0, 0)) := heap_alloc_new _ _
  have HSTART := Lib.hid hstart
  clear hstart
  go_loopg [2, 11] 1 (fun n out i wr => (n = 1 ∧ out = .slice none 0 0 ∧ i = .int .i64 0 ∧ wr.heap[W.heap.size]? = some (.cells #[.int .i64 0] 3 (0, 0)) ∧ Upd [] W wr) ∨ (n = 0 ∧ i = .int .i64 1 ∧ wr.heap[W.heap.size]? = some (.cells #[.int .i64 m] 3 (0, 0)) ∧ wr.ownsRow W.heap.size 66 5 out 1 (placeC kind 0 cap wd retry) ∧ Upd [] W wr))
  case atStart => exact .inl ⟨by omega, rfl, rfl, HSTART.out, (Upd.refl _ _).alloc _⟩
  case round =>
    rcases hrel with ⟨rfl, rfl, rfl, hnb, hu⟩ | ⟨rfl, rfl, hnb, hown, hu⟩
    · have HNB := Lib.hid hnb
      have HU := Lib.hid hu
      have HBR := Lib.hid (hu.keepb HB.out (by simp))
      have lr := heap_lt HBR.out
      have ln := heap_lt hnb
      have b0 : wr.cell? ⟨lb, 0, none⟩ = some (.int .i64 kind) := by rw [cell_of_heap HBR.out]; rfl
      have b1 : wr.cell? ⟨lb, 1, none⟩ = some (.int .i64 cap) := by rw [cell_of_heap HBR.out]; rfl
      have b2 : wr.cell? ⟨lb, 2, none⟩ = some (.int .i64 wd) := by rw [cell_of_heap HBR.out]; rfl
      have b3 : wr.cell? ⟨lb, 3, none⟩ = some (.int .i64 retry) := by rw [cell_of_heap HBR.out]; rfl
      have b4 : wr.cell? ⟨lb, 4, none⟩ = some (.int .i64 0) := by rw [cell_of_heap HBR.out]; rfl
      have b5 : wr.cell? ⟨lb, 5, none⟩ = some (.int .i64 0) := by rw [cell_of_heap HBR.out]; rfl
      have b6 : wr.cell? ⟨lb, 6, none⟩ = some (.int .u32 0) := by rw [cell_of_heap HBR.out]; rfl
      have b7 : wr.cell? ⟨lb, 7, none⟩ = some (.int .u32 0) := by rw [cell_of_heap HBR.out]; rfl
      have b8 : wr.cell? ⟨lb, 8, none⟩ = some (.int .u32 0) := by rw [cell_of_heap HBR.out]; rfl
      have b9 : wr.cell? ⟨lb, 9, none⟩ = some (.int .u32 0) := by rw [cell_of_heap HBR.out]; rfl
      clear hnb hu
      go_wp2_with (go_at_call 125; refine Go.RowKit.Hid.out ?_)
      refine Lib.hid ?_
      refine (take_any kind cap wd retry m HS.out W.heap.size 0 HM0.out HM1.out (by omega) (by omega) _ ((heap_alloc_other _ _ ln).trans HNB.out)).mono ?_
      rintro e w1 ⟨rfl, hn1, hu1⟩
      rw [Int.zero_add] at hn1
      have HN1 := Lib.hid hn1
      have HU1 := Lib.hid hu1
      have hx1 := hu1.keepb (heap_alloc_new _ _) (by simp; omega)
      have HX1 := Lib.hid hx1
      obtain ⟨g0, g1, g2, g3, g4, g5, g6, g7, g8, g9⟩ := cells10 hx1
      have lx1 := heap_lt hx1
      have nx1 : w1.heap.size ≠ wr.heap.size := by omega
      have nx2 : wr.heap.size ≠ w1.heap.size := by omega
      clear hn1 hu1 hx1
      go_wp2_with (go_at_call 94; refine Go.RowKit.Hid.out ?_)
      refine Lib.hid ?_
      refine (HR.out _).mono ?_
      rintro e w2 ⟨rfl, hu2⟩
      have HU2 := Lib.hid (((Upd.refl [] w1).alloc _).trans hu2)
      have HP2 := Lib.hid (hu2.keepb (heap_alloc_new _ _) (by simp))
      have HX2 := Lib.hid (HU2.out.keepb HX1.out (by simp))
      have HN2 := Lib.hid (HU2.out.keepb HN1.out (by simp))
      clear g0 g1 g2 g3 g4 g5 g6 g7 g8 g9 hu2
      obtain ⟨g0, g1, g2, g3, -, -, -, -, -, -⟩ := cells10 HX2.out
      have p0 : w2.cell? ⟨w1.heap.size, 0, none⟩ = some (.int .i64 0) := by rw [cell_of_heap HP2.out]; rfl
      have p1 : w2.cell? ⟨w1.heap.size, 1, none⟩ = some (.int .i64 0) := by rw [cell_of_heap HP2.out]; rfl
      have p2 : w2.cell? ⟨w1.heap.size, 2, none⟩ = some (.int .i64 0) := by rw [cell_of_heap HP2.out]; rfl
      have p3 : w2.cell? ⟨w1.heap.size, 3, none⟩ = some (.int .i64 0) := by rw [cell_of_heap HP2.out]; rfl
      have p4 : w2.cell? ⟨w1.heap.size, 4, none⟩ = some (.int .i64 0) := by rw [cell_of_heap HP2.out]; rfl
      have pf := fun j => frozen_of_heap HP2.out j
      go_wp2
      go_region
      go_wp2_with (at_builtin; refine Go.RowKit.Hid.out ?_)
      refine Lib.hid ?_
      refine wpList_append_reads rfl _ _ 52 rfl W.heap.size 66 ip _ 5 40 Try.underlying52 hip hz0 hz1 hz2 rfl (by decide) _ 0 [] rfl (World.ownsRow_nil _ _ _ _) (some ⟨w2.heap.size, 0, none⟩) 1 1 (placeC kind 0 cap wd retry) rfl rfl
        (fun _ => ⟨w2.heap.size, 0, rfl, fun j u hj => by rw [Nat.zero_add, World.cell?_drew, cell_of_heap (heap_alloc_at _ (by simp [size_setCell]))]; simpa [placeC] using hj⟩) (fun h => by cases h) (fun u hu => by simp [placeC] at hu; rcases hu with rfl | rfl | rfl | rfl | rfl <;> rfl) (by simp [maxLen]) (by omega) ?base ?_
      case base => have h1 := HU.out.size; have h2 := HU1.out.size; have h3 := HU2.out.size; simp at h2; simp [size_setCell]; omega
      intro v' w3 hown' hgrow
      simp only [Nat.zero_add, List.nil_append] at hown'
      have hg3 : Upd [] _ w3 := upd_grown hgrow
      have h1 := HU.out.size
      have h2 := HU1.out.size
      simp at h2
      have hc : Upd [w1.heap.size] w2 w3 := Upd.trans ((((((Upd.refl _ _).setCell (by simp) _).setCell (by simp) _).setCell (by simp) _).setCell (by simp) _).alloc _).drew (hg3.mono (by simp))
      have HC := Lib.hid hc
      have HOWN := Lib.hid hown'
      have HU3 := Lib.hid (((((HU.out.alloc _).then HU1.out (by simp)).trans HU2.out)).then hc (by simp; omega))
      have HN3 := Lib.hid (hc.keepb HN2.out (by simp; omega))
      have HBR3 := Lib.hid (HU3.out.keepb HB.out (by simp))
      clear hown' hgrow hg3 hc
      go_wp2
      go_roundg 0
      case rel => exact .inr ⟨rfl, by go_num, HN3.out, HOWN.out, HU3.out⟩
      case measure => omega
    · obtain ⟨va, vc, rfl, -, -⟩ := own_shape hown
      have n0 : wr.cell? ⟨W.heap.size, 0, none⟩ = some (.int .i64 m) := by rw [cell_of_heap hnb]; rfl
      have nf := frozen_of_heap hnb 0
      have HNB := Lib.hid hnb
      have HOWN := Lib.hid hown
      have HU := Lib.hid hu
      clear hnb hown hu
      go_wp2
      go_region
      go_wp2
      refine bodyPost_ret (v := .tuple #[.slice va 1 vc, .int .i64 m]) (by simp [results, Try.results66, go_sem, n0]) rfl ?_
      have hS : Upd [W.heap.size] wr (wr.setCell ⟨W.heap.size, 0, none⟩ (.int .i64 m)).drew := ((Upd.refl _ _).setCell (by simp) _).drew
      exact ⟨_, rfl, own_upd HOWN.out hS (fun q hq => by have := own_ne HOWN.out HNB.out (by decide); simp; intro e; subst e; exact this hq), HU.out.then hS (by simp)⟩
end Go.Proofs.Ytbjeojcnofpgfaa
