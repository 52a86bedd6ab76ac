/- Package queue: the link of a task. -/
import Derived.Test.YtdbgnnkbcebpcaaQ2
set_option linter.unusedVariables false
set_option linter.unusedSimpArgs false
namespace Go.Proofs.Ytdbgnnkbcebpcaa
open Go.RowKit Go.Shelf
attribute [local go_sem] Oper.semAt_some

theorem cell_of_box_q {W : World} {B : Nat} {v : Value} {t : TypeId} (h : W.heap[B]? = some (.cells #[v] t (0, 0))) : W.cell? ⟨B, 0, none⟩ = some v ∧ W.frozen? ⟨B, 0, none⟩ = false := by
  constructor <;> simp [World.cell?, World.frozen?, h]
theorem cell_new_q (W : World) (v : Value) (t : TypeId) : (W.alloc (.cells #[v] t)).cell? ⟨W.heap.size, 0, none⟩ = some v ∧ (W.alloc (.cells #[v] t)).frozen? ⟨W.heap.size, 0, none⟩ = false :=
  cell_of_box_q (World.alloc_heap_new W _)
theorem cell_alloc_q {W : World} {a : Addr} {v : Value} (o : Obj) (h : W.cell? a = some v) : (W.alloc o).cell? a = some v := cell_kept h (World.grownBy_alloc W o none) (fun r e => by cases e)
theorem frozen_alloc_q {W : World} {a : Addr} {v : Value} (o : Obj) (h : W.cell? a = some v) (hf : W.frozen? a = false) : (W.alloc o).frozen? a = false := (frozen_kept h (World.grownBy_alloc W o none) (fun r e => by cases e)).trans hf
theorem QSeg.mem {w : World} {nx p : Nat} {xs : List QN} (h : QSeg w nx p xs) {x : QN} (hx : x ∈ xs) : ∃ va vn, w.heap[x.b]? = some (.cells #[.int .i64 x.w.t, .int .i64 x.w.k, .int .i64 x.w.o, .int .u32 x.w.m, va, vn] 54) := by
  obtain ⟨ys, zs, rfl⟩ := List.append_of_mem hx
  exact ⟨_, _, QSeg.at h⟩
def qfindN (t : Int) (xs : List QN) : Option QN := xs.find? (fun x => x.w.t == t)
def qaddr (x : Option QN) : Value := .pointer (x.map fun x => ⟨x.b, 0, none⟩)
theorem qfindN_none {t : Int} {xs : List QN} (h : ∀ x ∈ xs, x.w.t ≠ t) : qfindN t xs = none := by
  unfold qfindN
  rw [List.find?_eq_none]
  intro x hx
  simpa using h x hx
theorem qfindN_some {t : Int} {pre xs : List QN} {x : QN} (hp : pre ++ [x] <+: xs) (h : ∀ y ∈ pre, y.w.t ≠ t) (hx : x.w.t = t) : qfindN t xs = some x := by
  obtain ⟨zs, rfl⟩ := hp
  unfold qfindN
  rw [List.append_assoc, List.find?_append, List.find?_eq_none.2 (by intro y hy; simpa using h y hy)]
  simp [hx]
theorem QE.mem {xs : List QN} {l : List (QE xs)} {y : QE xs} (h : y ∈ l) : y.1 ∈ QE.v l := List.mem_map.2 ⟨y, h, rfl⟩

set_option maxRecDepth 100000 in
set_option maxHeartbeats 4000000 in
theorem qfind_in (F : Fence) (n : Nat) (h3 : F.fn 54) (h4 : F.fn 55) (h5 : F.fn 76) (hro : F.round = none) (hn : 3 ≤ n) (q : Nat) (xs : List QN) (task : Int) (w : World) (hL : QL w q xs) (hlen : xs.length ≤ 1000000) :
    CallsIn F n Try.prog 54 #[.pointer (some ⟨q, 0, none⟩), .int .i64 task] w fun e W' => e = .returned (qaddr (qfindN task xs)) ∧ Below w.heap.size w W' := by
  have h1 : 1 ≤ n := by omega
  refine callsIn_of_wp_marks Try.func54 rfl h3 ?_ hro
  simp only [Try.ntmps54, List.size_toArray, List.length_cons, List.length_nil, Nat.reduceAdd, Nat.reduceSub, Array.replicate_succ, Array.replicate_zero, List.push_toArray, List.append_toArray, List.nil_append, List.cons_append]
  have HL := Lib.hid hL
  have HN := Lib.hid hlen
  clear hL hlen
  gi_wp2_with (gi_at_call 55; refine (qall_in F (n - 1) h4 hro _ _ rfl _).mono ?_; rintro e w' ⟨rfl, rfl⟩)
  have c0 := cell_new_q w (.int .i64 task) 3
  have c1 := cell_new_q (w.alloc (.cells #[.int .i64 task] 3)) (.pointer none) 52
  have c2 := cell_new_q ((w.alloc (.cells #[.int .i64 task] 3)).alloc (.cells #[.pointer none] 52)) (.pointer (some ⟨q, 0, none⟩)) 49
  simp only [World.size_alloc] at c1 c2
  have hB0 : Below w.heap.size w (((w.alloc (.cells #[.int .i64 task] 3)).alloc (.cells #[.pointer none] 52)).alloc (.cells #[.pointer (some ⟨q, 0, none⟩)] 49)) := (((Below.refl _ w).alloc (Nat.le_refl _) _).alloc (by simp) _).alloc (by simp; omega) _
  refine wpIn_rangeFunc_ownF hro h1 (gf := 76) (lb := #[.pointer (some ⟨w.heap.size + 1 + 1, 0, none⟩)]) rfl h5 (enters_of Try.func76 (by kernel_rfl) rfl)
    (qall_stops F (n - 1) h5 hro (by omega) (w.heap.size + 1 + 1) w.heap.size q xs _ (by simp) (by simp; omega) c2.1 (HL.out.below hB0 HL.out.lt) HL.out.lt HN.out) KpQ.trans (kpQ_b (by simp; omega) (by simp)) (Below.refl _ _) (fun _ => rfl)
    (fun pre W => ((∀ y ∈ QE.v pre, y.w.t ≠ task) ∧ W.cell? ⟨w.heap.size, 0, none⟩ = some (.int .i64 task) ∧ W.cell? ⟨w.heap.size + 1, 0, none⟩ = some (.pointer none) ∧ W.frozen? ⟨w.heap.size + 1, 0, none⟩ = false) ∧ Below w.heap.size w W)
    (fun c pre W => (c = .ret ∧ ∃ pre' x, QE.v pre = pre' ++ [x] ∧ (∀ y ∈ pre', y.w.t ≠ task) ∧ x.w.t = task ∧ W.cell? ⟨w.heap.size + 1, 0, none⟩ = some (.pointer (some ⟨x.b, 0, none⟩))) ∧ Below w.heap.size w W)
    (OwnFrom.and (Own.from (fun s A B row hs hg hr => ⟨hs.1, cell_kept hs.2.1 hg hr, cell_kept hs.2.2.1 hg hr, (frozen_kept hs.2.2.1 hg hr).trans hs.2.2.2⟩) _) (ownFrom_below (Nat.le_refl _) (by simp; omega)))
    (fun c => OwnFrom.and (Own.from (fun s A B row hs hg hr => ⟨hs.1, by obtain ⟨pre', x, e1, e2, e3, e4⟩ := hs.2; exact ⟨pre', x, e1, e2, e3, cell_kept e4 hg hr⟩⟩) _) (ownFrom_below (Nat.le_refl _) (by simp; omega)))
    ⟨⟨by simp [QE.v], cell_alloc_q _ (cell_alloc_q _ c0.1), cell_alloc_q _ c1.1, frozen_alloc_q _ c1.1 c1.2⟩, hB0⟩
    (fun x => { tmps := #[.pointer (some ⟨q, 0, none⟩), .int .i64 task, undef, .pointer (some ⟨w.heap.size, 0, none⟩), .pointer (some ⟨w.heap.size + 1, 0, none⟩), qptr x.1.b, .pointer (some ⟨q, 0, none⟩), .func (.func 76) #[] #[.pointer (some ⟨w.heap.size + 1 + 1, 0, none⟩)], qptr x.1.b, undef, undef, undef, undef, undef, undef, undef, undef], defers := [] }) ?assign ?body ?done ?stop
  case assign =>
    intro l x W K hK
    gi_wp2
    exact hK
  case body =>
    rintro l pre x W ⟨⟨hp, hcw, hcr, hfr⟩, hB⟩ _
    obtain ⟨va, vn, hx⟩ := (HL.out.below hB HL.out.lt).seg.mem x.2
    obtain ⟨d0, d1, d2, d3, d4, d5⟩ := cellsQ hx
    have hxb := heap_lt hx
    have HB := Lib.hid hB
    have HP := Lib.hid hp
    clear hx hB hp
    unfold qptr
    rcases hx : (x.1.w.t == task) with _ | _
    · have hne : x.1.w.t ≠ task := by simpa using hx
      have HNE := Lib.hid hne
      clear hne
      gi_wp2
      gi_region
      all_goals gi_wp2
      all_goals exact ⟨KeepsOthers.drew _, ⟨(Below.refl _ _).drew, rfl⟩, ⟨fun y hy => by rw [QE.v_snoc] at hy; rcases List.mem_append.1 hy with h | h; exact HP.out y h; simp at h; subst h; exact HNE.out, hcw, hcr, hfr⟩, HB.out.drew⟩
    · have hne : x.1.w.t = task := by simpa using hx
      have HNE := Lib.hid hne
      clear hne
      gi_wp2
      gi_region
      all_goals gi_wp2
      all_goals exact ⟨(KeepsOthers.setCell _ _ _).trans (KeepsOthers.drew _), ⟨rfl, QE.v pre, x.1, QE.v_snoc _ _, HP.out, HNE.out, World.cell?_setCell_same' _ _ _ (by rw [hcr]; rfl)⟩, (HB.out.setCell (p := ⟨w.heap.size + 1, 0, none⟩) (by simp) _).drew⟩
  case done =>
    rintro D ys W hD hys ⟨⟨hne, _, hcr, hfr⟩, hB⟩ hK
    rw [hys] at hne
    have HNE := Lib.hid hne
    have HB := Lib.hid hB
    have HD := Lib.hid hD
    clear hne hB hD
    gi_wp2
    have hK' := (KeepsOthers.setCell W ⟨w.heap.size + 1, 0, none⟩ (.pointer none)).same D _ hK rfl
    refine ⟨by simp, .inl ⟨_, _, rfl, run_takeDeferred hK', ?_⟩⟩
    have hc5 := cell_kept (World.cell?_setCell_same' W ⟨w.heap.size + 1, 0, none⟩ (.pointer none) (by rw [hcr]; rfl)) (grownBy_putObj' _ D (.deferred none)) (fun r e => by cases e; exact ⟨_, hK', rfl⟩)
    refine ⟨.pointer none, ?_, by rw [qfindN_none HNE.out]; rfl, (HB.out.setCell (p := ⟨w.heap.size + 1, 0, none⟩) (by simp) _).trans (belowK_b (w := w) (Nat.le_refl _) _ D _ _ (by have := HD.out; simp at this; omega) hK' rfl rfl)⟩
    simp [results, Try.f54, go_sem, hc5]
  case stop =>
    rintro D c pre W hD hpre ⟨⟨rfl, pre', x, e1, e2, e3, hcr⟩, hB⟩ hK
    have HB := Lib.hid hB
    have HD := Lib.hid hD
    have hfd : qfindN task xs = some x := qfindN_some (by rw [← e1]; exact hpre) e2 e3
    clear hB hD hpre e1 e2 e3
    gi_wp2
    refine ⟨by simp, .inl ⟨_, _, rfl, run_takeDeferred hK, ?_⟩⟩
    have hc5 := cell_kept hcr (grownBy_putObj' _ D (.deferred none)) (fun r e => by cases e; exact ⟨_, hK, rfl⟩)
    refine ⟨.pointer (some ⟨x.b, 0, none⟩), ?_, by rw [hfd]; rfl, HB.out.trans (belowK_b (w := w) (Nat.le_refl _) W D _ _ (by have := HD.out; simp at this; omega) hK rfl rfl)⟩
    simp [results, Try.f54, go_sem, hc5]

theorem qfind_c {w : World} {q : Nat} {xs : List QN} (task : Int) (hL : QL w q xs) (hlen : xs.length ≤ 1000000) :
    Calls Try.prog 54 #[.pointer (some ⟨q, 0, none⟩), .int .i64 task] w fun e W' => e = .returned (qaddr (qfindN task xs)) ∧ Upd [] w W' :=
  (callsIn_wide.1 (qfind_in Fence.wide 3 trivial trivial trivial rfl (Nat.le_refl _) q xs task w hL hlen)).mono fun _ _ h => ⟨h.1, below_upd h.2⟩
end Go.Proofs.Ytdbgnnkbcebpcaa
