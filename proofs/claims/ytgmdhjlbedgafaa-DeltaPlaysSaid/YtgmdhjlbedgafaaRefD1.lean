/- Package ref24: the document's row of who waits: its place, Left, Add. -/
import Derived.Test.YtgmdhjlbedgafaaLaws
import Derived.Test.YtgmdhjlbedgafaaOwn
import Derived.Test.YtgmdhjlbedgafaaInts
import Derived.Test.YtgmdhjlbedgafaaRet
import Derived.Deep.Onto
set_option linter.unusedVariables false
set_option linter.unusedSimpArgs false
namespace Go.Proofs.Ytgmdhjlbedgafaa
open Go.RowKit

theorem heap_alloc_at {w : World} {g : Nat} (o : Obj) (h : g = w.heap.size) : (w.alloc o).heap[g]? = some o := by subst h; exact heap_alloc_new _ _
def pairs (L : List (Int × Int)) : List Value := L.flatMap fun x => [.int .i64 x.1, .int .u64 x.2]
theorem pairs_length (L : List (Int × Int)) : (pairs L).length = L.length * 2 := by
  induction L with
  | nil => rfl
  | cons x xs ih => simp [pairs] at ih ⊢; omega
theorem pairs_cons (x : Int × Int) (L : List (Int × Int)) : pairs (x :: L) = .int .i64 x.1 :: .int .u64 x.2 :: pairs L := rfl
theorem pairs_append (L M : List (Int × Int)) : pairs (L ++ M) = pairs L ++ pairs M := by simp [pairs]
theorem pairs_at : ∀ (L : List (Int × Int)) (j : Nat) (x : Int × Int), L[j]? = some x → (pairs L)[j * 2]? = some (.int .i64 x.1) ∧ (pairs L)[j * 2 + 1]? = some (.int .u64 x.2)
  | [], j, x, h => by simp at h
  | y :: ys, 0, x, h => by simp at h; subst h; exact ⟨rfl, rfl⟩
  | y :: ys, j + 1, x, h => by
    simp at h
    have := pairs_at ys j x h
    rw [pairs_cons, show (j + 1) * 2 = j * 2 + 1 + 1 by omega]
    simpa using this
/-- The document's row. -/
def RD (w : World) (B : Nat) (v : Value) (L : List (Int × Int)) : Prop := w.ownsRow B 86 2 v L.length (pairs L)
theorem RD.cells {w : World} {B : Nat} {v : Value} {L : List (Int × Int)} (h : RD w B v L) (hn : 0 < L.length) : ∃ b cap, v = .slice (some ⟨b, 0, none⟩) L.length cap ∧ B ≤ b ∧ b < w.heap.size ∧ ∀ j x, L[j]? = some x → w.cell? ⟨b, j * 2, none⟩ = some (.int .i64 x.1) ∧ w.cell? ⟨b, j * 2 + 1, none⟩ = some (.int .u64 x.2) := by
  obtain ⟨a, cap, rfl, _, hc⟩ := own_shape h
  obtain ⟨b, cap', e, hb, hl⟩ := own_some h hn
  obtain ⟨b', off, e', _, hcc⟩ := hc hn
  simp only [Value.slice.injEq] at e
  obtain ⟨rfl, -, rfl⟩ := e
  simp at e'
  obtain ⟨rfl, rfl⟩ := e'
  refine ⟨b, cap, rfl, hb, hl, fun j x hx => ?_⟩
  have hp := pairs_at L j x hx
  have h1 := hcc _ _ hp.1
  have h2 := hcc _ _ hp.2
  rw [Nat.zero_add] at h1 h2
  exact ⟨h1, h2⟩
theorem RD.shape {w : World} {B : Nat} {v : Value} {L : List (Int × Int)} (h : RD w B v L) : ∃ a cap, v = .slice a L.length cap ∧ (a = none → cap = 0) := by
  obtain ⟨a, cap, e, h1, _⟩ := own_shape h
  exact ⟨a, cap, e, h1⟩
theorem RD.upd {w w' : World} {B : Nat} {v : Value} {L : List (Int × Int)} {S : List Nat} (h : RD w B v L) (hu : Upd S w w') (hS : ∀ k, k ∈ S → k < B) : RD w' B v L :=
  own_upd h hu (fun k hk hm => by have := own_base h k hk; have := hS k hm; omega)
theorem RD.new {w w' : World} {B : Nat} {v : Value} {L : List (Int × Int)} (h : RD w B v L) (hu : Upd [] w w') : RD w' B v L := own_upd h hu (fun k _ hm => by cases hm)
theorem RD.base {w : World} {B B' : Nat} {v : Value} {L : List (Int × Int)} (h : RD w B v L) (hb : B' ≤ B) : RD w B' v L := World.ownsRow.mono h hb

theorem RD.src {w w' : World} {B cap : Nat} {va : Option Addr} {L : List (Int × Int)} (h : RD w B (.slice va L.length cap) L) (hu : Upd [] w w') : 0 < L.length → ∃ b off, va = some ⟨b, off, none⟩ ∧ ∀ j u, (pairs L)[j]? = some u → w'.cell? ⟨b, off + j, none⟩ = some u := fun h0 => by
  obtain ⟨a, cap', e, _, hc⟩ := own_shape (h.new hu)
  simp only [Value.slice.injEq, true_and] at e
  obtain ⟨rfl, rfl⟩ := e
  obtain ⟨b, off, e, hb, hcc⟩ := hc h0
  exact ⟨b, off, e, hcc⟩
theorem pairs_one (L : List (Int × Int)) : ∀ u ∈ pairs L, u.oneCell' = true := by
  intro u hu
  simp only [pairs, List.mem_flatMap] at hu
  obtain ⟨x, _, hx⟩ := hu
  simp at hx
  rcases hx with rfl | rfl <;> rfl
theorem grow_upd {w w' : World} {v : Value} {B size n : Nat} {e : TypeId} {xs : List Value} (h : w.ownsRow B e size v n xs) (hg : w.grownBy w' v.ownBlock) : ∃ S, (∀ k ∈ S, B ≤ k) ∧ Upd S w w' := ⟨v.ownBlock.toList, fun k hk => (own_base h k (Option.mem_toList.1 hk)), upd_grown hg⟩
/-- Where a task is, from k on. -/
def plI (t : Int) : Nat → List (Int × Int) → Int
  | _, [] => -1
  | k, x :: xs => if x.1 = t then (k : Int) else plI t (k + 1) xs
theorem plI_none {t : Int} : ∀ (L : List (Int × Int)) (k : Nat), (∀ x ∈ L, x.1 ≠ t) → plI t k L = -1
  | [], _, _ => rfl
  | x :: xs, k, h => by
    unfold plI
    rw [if_neg (h x (by simp))]
    exact plI_none xs (k + 1) (fun y hy => h y (by simp [hy]))
theorem plI_some {t a : Int} : ∀ (ys zs : List (Int × Int)) (k : Nat), (∀ x ∈ ys, x.1 ≠ t) → plI t k (ys ++ (t, a) :: zs) = k + ys.length
  | [], zs, k, _ => by simp [plI]
  | y :: ys, zs, k, h => by
    show plI t k (y :: (ys ++ (t, a) :: zs)) = _
    unfold plI
    rw [if_neg (h y (by simp)), plI_some ys zs (k + 1) (fun x hx => h x (by simp [hx]))]
    simp
    omega

set_option maxRecDepth 100000 in
set_option maxHeartbeats 1000000 in
theorem rd_place {w : World} {B : Nat} {v : Value} {L : List (Int × Int)} (t : Int) (h : RD w B v L) (hl : L.length ≤ 1000) :
    Calls Try.prog 34 #[.agg #[v], .int .i64 t] w fun e w' => e = .returned (.int .i64 (plI t 0 L)) ∧ Upd [] w w' := by
  obtain ⟨a, cap, rfl, -⟩ := h.shape
  have HR := Lib.hid h
  have HL := Lib.hid hl
  clear h hl
  go_enter Try.func34, Try.ntmps34
  go_wp2
  go_loopg [5] L.length (fun n i wr => ∃ j : Nat, n + j = L.length ∧ i = .int .i64 j ∧ plI t 0 L = plI t j (L.drop j) ∧ wr = w.alloc (.cells #[.slice a L.length cap] 30))
  case atStart => exact ⟨0, by omega, rfl, rfl, rfl⟩
  case round =>
    obtain ⟨j, hj, rfl, hp, rfl⟩ := hrel
    have hu : Upd [] w (w.alloc (.cells #[.slice a L.length cap] 30)) := (Upd.refl _ _).alloc _
    have HJ := Lib.hid hj
    have HP := Lib.hid hp
    by_cases hlt : j < L.length
    · obtain ⟨b, cap', hv, hB, hb, hc⟩ := (HR.out.new hu).cells (by omega)
      simp only [Value.slice.injEq] at hv
      obtain ⟨rfl, -, rfl⟩ := hv
      obtain ⟨c0, c1⟩ := hc j L[j] (List.getElem?_eq_getElem hlt)
      have hdr : plI t j (L.drop j) = if L[j].1 = t then (j : Int) else plI t (j + 1) (L.drop (j + 1)) := by
        rw [List.drop_eq_getElem_cons hlt]
        rfl
      have HD := Lib.hid hdr
      have b1 : (0 : Int) ≤ (j : Int) := by omega
      have b2 : (j : Int) < (L.length : Int) := by omega
      clear hc hdr hj hp
      by_cases ht : L[j].1 = t
      · have q : (L[j].1 == t) = true := by simpa using ht
        go_wp2
        go_ret
        refine ⟨congrArg Ending.returned (congrArg (Value.int IntKind.i64) ?_), hu⟩
        rw [HP.out, HD.out, if_pos ht]
      · have q : (L[j].1 == t) = false := by simpa using ht
        go_wp2
        have hw : wrap64 ((j : Int) + 1) = ((j + 1 : Nat) : Int) := by have := HL.out; unfold wrap64; omega
        go_roundg (L.length - (j + 1))
        case rel => exact ⟨j + 1, by have := HJ.out; omega, by rw [hw], by rw [HP.out, HD.out, if_neg ht], rfl⟩
        case measure => have := HJ.out; omega
    · obtain rfl : j = L.length := by omega
      go_wp2
      go_ret
      refine ⟨congrArg Ending.returned (congrArg (Value.int IntKind.i64) ?_), hu⟩
      rw [HP.out]
      simp [plI]

theorem plI_nonneg_or {t : Int} (L : List (Int × Int)) : plI t 0 L = -1 ∨ 0 ≤ plI t 0 L := by
  have : ∀ (L : List (Int × Int)) (k : Nat), plI t k L = -1 ∨ 0 ≤ plI t k L := by
    intro L
    induction L with
    | nil => intro k; exact .inl rfl
    | cons x xs ih =>
      intro k
      unfold plI
      split
      · exact .inr (by omega)
      · exact ih (k + 1)
  exact this L 0

set_option maxRecDepth 100000 in
set_option maxHeartbeats 1000000 in
theorem rd_left_none {w : World} {B : Nat} {v : Value} {L : List (Int × Int)} (t : Int) (h : RD w B v L) (hl : L.length ≤ 1000) (hn : plI t 0 L = -1) :
    Calls Try.prog 14 #[.agg #[v], .int .i64 t] w fun e w' => e = .returned (.tuple #[.int .u32 0, .bool false]) ∧ Upd [] w w' := by
  have HP := Lib.hid (rd_place t (h.new ((Upd.refl [] w).alloc (.cells #[v] 30))) hl)
  rw [hn] at HP
  clear h hn hl
  go_enter Try.func14, Try.ntmps14
  go_wp2_with (go_at_call 34; refine (HP.out).mono ?_; rintro e w1 ⟨rfl, hu1⟩; have HU1 := Lib.hid (((Upd.refl [] w).alloc _).trans hu1); clear hu1)
  go_ret2
  exact ⟨rfl, HU1.out⟩
set_option maxRecDepth 100000 in
set_option maxHeartbeats 1000000 in
theorem rd_left_some {w : World} {B : Nat} {v : Value} {L : List (Int × Int)} (t a : Int) (h : RD w B v L) (hl : L.length ≤ 1000) (j : Nat) (hn : plI t 0 L = j) (hj : L[j]? = some (t, a)) (ha0 : 0 ≤ a) (ha : a ≤ 4294967295) :
    Calls Try.prog 14 #[.agg #[v], .int .i64 t] w fun e w' => e = .returned (.tuple #[.int .u32 a, .bool true]) ∧ Upd [] w w' := by
  have HP := Lib.hid (rd_place t (h.new ((Upd.refl [] w).alloc (.cells #[v] 30))) hl)
  rw [hn] at HP
  have hjl := (List.getElem?_eq_some_iff.1 hj).1
  obtain ⟨b, cap, rfl, hB, hb, hc⟩ := h.cells (by omega)
  obtain ⟨c0, c1⟩ := hc j _ hj
  simp only at c0 c1
  have b1 : (0 : Int) ≤ (j : Int) := by omega
  have b2 : (j : Int) < (L.length : Int) := by omega
  have d1 : decide ((j : Int) < 0) = false := by simp
  have hwa : IntKind.u32.wrap a = a := by rw [IntKind.wrap_u32]; omega
  have HC1 := Lib.hid c1
  clear h hn hc hl hj
  go_enter Try.func14, Try.ntmps14
  go_wp2_with (go_at_call 34; refine (HP.out).mono ?_; rintro e w1 ⟨rfl, hu1⟩; have hu2 := ((Upd.refl [] w).alloc (.cells #[.slice (some ⟨b, 0, none⟩) L.length cap] 30)).trans hu1; have k1 := (hu2.cell (p := ⟨b, _, none⟩) hb (by simp)).trans HC1.out; have kb := cell_of_heap (hu1.keepb (heap_alloc_new w _) (by simp)) 0; simp at kb; have HU1 := Lib.hid hu2; clear hu1 hu2)
  go_ret2
  exact ⟨rfl, HU1.out⟩

theorem info_one : (Try.prog.info? 86).map (fun i => (i.zero, i.size, i.bytes)) = some (some (.agg #[.int .i64 0, .int .u64 0]), 2, 16) := by kernel_rfl
theorem info_delta1 (a : Value) : (Try.prog.info? 30).map (·.size) = some (#[a] : Array Value).size := by kernel_rfl
/-- A document's Delta and a bool. -/
theorem ret_delta {fn : Func} {p q : Tmp} (h : fn.results = #[.cell p 30, .tmp q]) {R : Ending → World → Prop} {a : Act} {w : World} {g : Nat} {t : TypeId} {fr : Nat × Nat} {x v : Value}
    (hp : a.tmps.getD p undef = .pointer (some ⟨g, 0, none⟩)) (hq : a.tmps.getD q undef = v) (hd : a.defers = []) (hg : w.heap[g]? = some (.cells [x].toArray t fr)) (hR : R (.returned (.tuple #[.agg #[x], v])) w) : bodyPost Try.prog fn R .ret a w :=
  bodyPost_ret (results_cell_tmp h _ _ g t _ fr _ v hp hq hg Try.underlying30 rfl (info_delta1 x)) hd hR
set_option maxRecDepth 100000 in
set_option maxHeartbeats 1000000 in
theorem rd_add_no1 {w : World} {B : Nat} {v : Value} {L : List (Int × Int)} (t a : Int) (h : RD w B v L) (hl : L.length ≤ 1000) (h1 : t < 0) :
    Calls Try.prog 7 #[.agg #[v], .int .i64 t, .int .u32 a] w fun e w' => e = .returned (.tuple #[.agg #[v], .bool false]) ∧ Upd [] w w' := by
  obtain ⟨va, cap, rfl, hcap⟩ := h.shape
  have d1 : decide (t < 0) = true := by simpa using h1
  clear h1
  clear h hl hcap
  go_enter Try.func7, Try.ntmps7
  go_wp2
  refine ret_delta rfl (g := w.heap.size + 1) (t := 30) (fr := (0, 0)) (x := .slice va L.length cap) rfl rfl rfl (hg := ?hg) ?_
  case hg =>
    first
      | (refine heap_alloc_at _ ?_; simp; done)
      | (repeat (first | (with_reducible exact HZ.out) | (with_reducible apply heap_set2))
         all_goals rfl)
  refine ⟨rfl, ?_⟩
  first
    | exact ((Upd.refl _ _).alloc _).alloc _
    | (refine Upd.then (S := []) HU1.out ((Upd.refl [w.heap.size + 1] w1).setCell (by simp) _) (fun i hi => .inr (by simp at hi; omega)))
set_option maxRecDepth 100000 in
set_option maxHeartbeats 1000000 in
theorem rd_add_no2 {w : World} {B : Nat} {v : Value} {L : List (Int × Int)} (t a : Int) (h : RD w B v L) (hl : L.length ≤ 1000) (h0 : 0 ≤ t) (h1 : 15 < t) :
    Calls Try.prog 7 #[.agg #[v], .int .i64 t, .int .u32 a] w fun e w' => e = .returned (.tuple #[.agg #[v], .bool false]) ∧ Upd [] w w' := by
  obtain ⟨va, cap, rfl, hcap⟩ := h.shape
  have d0 : decide (t < 0) = false := by simpa using h0
  have d1 : decide (15 < t) = true := by simpa using h1
  clear h0 h1
  clear h hl hcap
  go_enter Try.func7, Try.ntmps7
  go_wp2
  refine ret_delta rfl (g := w.heap.size + 1) (t := 30) (fr := (0, 0)) (x := .slice va L.length cap) rfl rfl rfl (hg := ?hg) ?_
  case hg =>
    first
      | (refine heap_alloc_at _ ?_; simp; done)
      | (repeat (first | (with_reducible exact HZ.out) | (with_reducible apply heap_set2))
         all_goals rfl)
  refine ⟨rfl, ?_⟩
  first
    | exact ((Upd.refl _ _).alloc _).alloc _
    | (refine Upd.then (S := []) HU1.out ((Upd.refl [w.heap.size + 1] w1).setCell (by simp) _) (fun i hi => .inr (by simp at hi; omega)))
set_option maxRecDepth 100000 in
set_option maxHeartbeats 1000000 in
theorem rd_add_no3 {w : World} {B : Nat} {v : Value} {L : List (Int × Int)} (t : Int) (h : RD w B v L) (hl : L.length ≤ 1000) (h0 : 0 ≤ t) (h1 : t ≤ 15) :
    Calls Try.prog 7 #[.agg #[v], .int .i64 t, .int .u32 0] w fun e w' => e = .returned (.tuple #[.agg #[v], .bool false]) ∧ Upd [] w w' := by
  obtain ⟨va, cap, rfl, hcap⟩ := h.shape
  have d0 : decide (t < 0) = false := by simpa using h0
  have d1 : decide (15 < t) = false := by simpa using h1
  clear h0 h1
  clear h hl hcap
  go_enter Try.func7, Try.ntmps7
  go_wp2
  refine ret_delta rfl (g := w.heap.size + 1) (t := 30) (fr := (0, 0)) (x := .slice va L.length cap) rfl rfl rfl (hg := ?hg) ?_
  case hg =>
    first
      | (refine heap_alloc_at _ ?_; simp; done)
      | (repeat (first | (with_reducible exact HZ.out) | (with_reducible apply heap_set2))
         all_goals rfl)
  refine ⟨rfl, ?_⟩
  first
    | exact ((Upd.refl _ _).alloc _).alloc _
    | (refine Upd.then (S := []) HU1.out ((Upd.refl [w.heap.size + 1] w1).setCell (by simp) _) (fun i hi => .inr (by simp at hi; omega)))
set_option maxRecDepth 100000 in
set_option maxHeartbeats 1000000 in
theorem rd_add_no4 {w : World} {B : Nat} {v : Value} {L : List (Int × Int)} (t a : Int) (h : RD w B v L) (hl : L.length ≤ 1000) (h0 : 0 ≤ t) (h1 : t ≤ 15) (ha : 0 < a) (j : Nat) (hn : plI t 0 L = j) :
    Calls Try.prog 7 #[.agg #[v], .int .i64 t, .int .u32 a] w fun e w' => e = .returned (.tuple #[.agg #[v], .bool false]) ∧ Upd [] w w' := by
  obtain ⟨va, cap, rfl, hcap⟩ := h.shape
  have hz0 : ((w.alloc (.cells #[.slice va L.length cap] 30)).alloc (.cells #[.slice none 0 0] 30)).heap[w.heap.size + 1]? = some (.cells #[.slice none 0 0] 30 (0, 0)) := heap_alloc_at _ (by simp)
  have hb0 : ((w.alloc (.cells #[.slice va L.length cap] 30)).alloc (.cells #[.slice none 0 0] 30)).heap[w.heap.size]? = some (.cells #[.slice va L.length cap] 30 (0, 0)) := heap_alloc' (heap_alloc_new w _)
  have HP := Lib.hid (show Calls Try.prog 34 #[.agg #[.slice va L.length cap], .int .i64 t] ((w.alloc (.cells #[.slice va L.length cap] 30)).alloc (.cells #[.slice none 0 0] 30)) fun e w' => e = .returned (.int .i64 (j : Int)) ∧ Upd [] ((w.alloc (.cells #[.slice va L.length cap] 30)).alloc (.cells #[.slice none 0 0] 30)) w' from by
    have hp := rd_place t (h.new (((Upd.refl [] w).alloc (.cells #[.slice va L.length cap] 30)).alloc (.cells #[.slice none 0 0] 30))) hl
    rw [hn] at hp
    exact hp)
  have d0 : decide (t < 0) = false := by simpa using h0
  have d1 : decide (15 < t) = false := by simpa using h1
  have d2 : (a == 0) = false := by simp; omega
  have d3 : decide (0 ≤ (j : Int)) = true := by simp
  clear h0 h1 ha hn
  clear h hl hcap
  go_enter Try.func7, Try.ntmps7
  go_wp2_with (go_at_call 34; refine (HP.out).mono ?_; rintro e w1 ⟨rfl, hu1⟩; have hz := hu1.keepb hz0 (by simp); have hbx := hu1.keepb hb0 (by simp); have HZ := Lib.hid (show w1.heap[w.heap.size + 1]? = some (.cells [.slice none 0 0].toArray 30 (0, 0)) from hz); have z0 := cell_of_heap hz 0; have zf := fun j => frozen_of_heap hz j; have lz := heap_lt hz; have lbx := heap_lt hbx; have kb := cell_of_heap hbx 0; simp at z0 kb; have HU1 := Lib.hid ((((Upd.refl [] w).alloc _).alloc _).trans hu1); clear hu1 hz hbx)
  refine ret_delta rfl (g := w.heap.size + 1) (t := 30) (fr := (0, 0)) (x := .slice va L.length cap) rfl rfl rfl (hg := ?hg) ?_
  case hg =>
    first
      | (refine heap_alloc_at _ ?_; simp; done)
      | (repeat (first | (with_reducible exact HZ.out) | (with_reducible apply heap_set2))
         all_goals rfl)
  refine ⟨rfl, ?_⟩
  first
    | exact ((Upd.refl _ _).alloc _).alloc _
    | (refine Upd.then (S := []) HU1.out ((Upd.refl [w.heap.size + 1] w1).setCell (by simp) _) (fun i hi => .inr (by simp at hi; omega)))
set_option maxRecDepth 100000 in
set_option maxHeartbeats 1000000 in
theorem rd_add_yes {w : World} {B : Nat} {v : Value} {L : List (Int × Int)} (t a : Int) (h : RD w B v L) (hl : L.length ≤ 1000) (h0 : 0 ≤ t) (h1 : t ≤ 15) (ha : 0 < a) (ha2 : a ≤ 4294967295) (hn : plI t 0 L = -1) :
    Calls Try.prog 7 #[.agg #[v], .int .i64 t, .int .u32 a] w fun e w' => ∃ v', e = .returned (.tuple #[.agg #[v'], .bool true]) ∧ RD w' w.heap.size v' (L ++ [(t, a)]) ∧ Upd [] w w' := by
  obtain ⟨va, cap, rfl, hcap⟩ := h.shape
  have hz0 : ((w.alloc (.cells #[.slice va L.length cap] 30)).alloc (.cells #[.slice none 0 0] 30)).heap[w.heap.size + 1]? = some (.cells #[.slice none 0 0] 30 (0, 0)) := heap_alloc_at _ (by simp)
  have hb0 : ((w.alloc (.cells #[.slice va L.length cap] 30)).alloc (.cells #[.slice none 0 0] 30)).heap[w.heap.size]? = some (.cells #[.slice va L.length cap] 30 (0, 0)) := heap_alloc' (heap_alloc_new w _)
  have HP := Lib.hid (show Calls Try.prog 34 #[.agg #[.slice va L.length cap], .int .i64 t] ((w.alloc (.cells #[.slice va L.length cap] 30)).alloc (.cells #[.slice none 0 0] 30)) fun e w' => e = .returned (.int .i64 (-1)) ∧ Upd [] ((w.alloc (.cells #[.slice va L.length cap] 30)).alloc (.cells #[.slice none 0 0] 30)) w' from by
    have hp := rd_place t (h.new (((Upd.refl [] w).alloc (.cells #[.slice va L.length cap] 30)).alloc (.cells #[.slice none 0 0] 30))) hl
    rw [hn] at hp
    exact hp)
  have d0 : decide (t < 0) = false := by simpa using h0
  have d1 : decide (15 < t) = false := by simpa using h1
  have d2 : (a == 0) = false := by simp; omega
  have hwa : IntKind.u64.wrap a = a := by rw [IntKind.wrap_u64]; omega
  have HR := Lib.hid h
  have HL := Lib.hid hl
  have HCP := Lib.hid hcap
  obtain ⟨ip, hip, hi0, hi1, hi2⟩ := info_parts info_one
  clear h hl hcap h0 h1 ha ha2 hn
  go_enter Try.func7, Try.ntmps7
  go_wp2_with (first
    | (go_at_call 34; refine (HP.out).mono ?_; rintro e w1 ⟨rfl, hu1⟩; have hz := hu1.keepb hz0 (by simp); have hbx := hu1.keepb hb0 (by simp); have HZ := Lib.hid (show w1.heap[w.heap.size + 1]? = some (.cells [.slice none 0 0].toArray 30 (0, 0)) from hz); have z0 := cell_of_heap hz 0; have zf := fun j => frozen_of_heap hz j; have lz := heap_lt hz; have lbx := heap_lt hbx; have kb := cell_of_heap hbx 0; simp at z0 kb; have HU1 := Lib.hid ((((Upd.refl [] w).alloc _).alloc _).trans hu1); clear hu1 hz hbx)
    | (at_builtin; refine Go.RowKit.Hid.out ?_))
  refine Lib.hid ?_
  have HB1 := Lib.hid (show w.heap.size ≤ w1.heap.size from HU1.out.size)
  have HUE := Lib.hid (HU1.out.alloc (.cells #[] 86))
  have hoe : (w1.alloc (.cells #[] 86)).ownsRow w.heap.size 86 2 (.slice (some ⟨w1.heap.size, 0, none⟩) 0 0) 0 [] := own_empty' HB1.out rfl
  refine wpList_append_reads rfl _ _ 28 rfl w.heap.size 86 ip _ 2 16 Try.underlying28 hip hi0 hi1 hi2 rfl (by decide) _ 0 [] rfl hoe va L.length cap (pairs L) rfl (pairs_length L) (HR.out.src HUE.out) HCP.out (pairs_one L)
    (by have := HL.out; simp only [maxLen]; omega) (by have := HL.out; omega) (by have := HUE.out.size; omega) ?_
  intro v2 w2 hown2 hgrow2
  obtain ⟨S2, hS2, hu2⟩ := grow_upd hoe hgrow2
  have HU2 := Lib.hid (HUE.out.then hu2 (fun k hk => .inr (hS2 k hk)))
  have hz2 := hgrow2
  rw [Nat.zero_add, List.nil_append] at hown2
  have HOWN2 := Lib.hid hown2
  have hzz : w2.heap[w.heap.size + 1]? = some (.cells #[.slice none 0 0] 30 (0, 0)) := by
    rw [hgrow2.block (w.heap.size + 1) (by simp; omega) (fun e => own_ne hoe (heap_alloc' HZ.out) (by decide) e.symm)]
    exact heap_alloc' HZ.out
  have HZZ := Lib.hid hzz
  have lz2 := heap_lt hzz
  have z02 := cell_of_heap hzz 0
  have zf2 := fun j => frozen_of_heap hzz j
  simp at z02
  obtain ⟨a2, c2, rfl, -, -⟩ := own_shape hown2
  clear hown2 hgrow2 hu2 hz2 hzz
  go_wp2_with (at_builtin; refine Go.RowKit.Hid.out ?_)
  refine Lib.hid ?_
  have ho2 := own_upd HOWN2.out ((Upd.refl [] w2).alloc (.cells #[.int .i64 t, .int .u64 a] 86)) (fun k _ hm => by cases hm)
  refine wpList_append_reads rfl _ _ 28 rfl w.heap.size 86 ip _ 2 16 Try.underlying28 hip hi0 hi1 hi2 rfl (by decide) _ L.length (pairs L) rfl ho2 (some ⟨w2.heap.size, 0, none⟩) 1 1 [.int .i64 t, .int .u64 a] rfl rfl
    (fun _ => ⟨w2.heap.size, 0, rfl, fun j u hj => by rw [Nat.zero_add, cell_of_heap (heap_alloc_new _ _)]; simpa using hj⟩) (fun h => by cases h) (fun u hu => by simp at hu; rcases hu with rfl | rfl <;> rfl)
    (by have := HL.out; simp only [maxLen]; omega) (by have := HL.out; omega) (by have := HU2.out.size; simp; omega) ?_
  intro v3 w3 hown3 hgrow3
  obtain ⟨S3, hS3, hu3⟩ := grow_upd ho2 hgrow3
  have HU3 := Lib.hid ((HU2.out.alloc (.cells #[.int .i64 t, .int .u64 a] 86)).then hu3 (fun k hk => .inr (hS3 k hk)))
  have hzz3 : w3.heap[w.heap.size + 1]? = some (.cells #[.slice none 0 0] 30 (0, 0)) := by
    rw [hgrow3.block (w.heap.size + 1) (by simp; omega) (fun e => own_ne HOWN2.out HZZ.out (by decide) e.symm)]
    exact heap_alloc' HZZ.out
  have HZ3 := Lib.hid (show w3.heap[w.heap.size + 1]? = some (.cells [.slice none 0 0].toArray 30 (0, 0)) from hzz3)
  have lz3 := heap_lt hzz3
  have z03 := cell_of_heap hzz3 0
  have zf3 := fun j => frozen_of_heap hzz3 j
  simp at z03
  have HOWN3 := Lib.hid hown3
  obtain ⟨a3, c3, rfl, -, -⟩ := own_shape hown3
  clear hown3 hgrow3 hu3 hzz3 ho2
  go_wp2
  refine ret_delta rfl (g := w.heap.size + 1) (t := 30) (fr := (0, 0)) (x := .slice a3 (L.length + 1) c3) rfl rfl rfl (hg := ?hg) ?_
  case hg =>
    repeat (first | (with_reducible exact HZ3.out) | (with_reducible apply heap_set2))
    all_goals rfl
  have hus : Upd [w.heap.size + 1] w3 (w3.setCell ⟨w.heap.size + 1, 0, none⟩ (.slice a3 (L.length + 1) c3)) := (Upd.refl _ _).setCell (by simp) _
  refine ⟨_, rfl, ?_, HU3.out.then hus (fun k hk => .inr (by simp at hk; omega))⟩
  have ho := own_upd HOWN3.out hus (fun k hk hm => by
    simp at hm
    subst hm
    exact own_ne HOWN3.out HZ3.out (by decide) hk)
  unfold RD
  rw [pairs_append, List.length_append]
  exact ho
end Go.Proofs.Ytgmdhjlbedgafaa
