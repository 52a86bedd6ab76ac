/- Package spec: an item behind a call, as a plain function. -/
import Derived.Test.YtdbgnnkbcebpcaaSP4E
import Derived.Test.YtdbgnnkbcebpcaaSP4B
import Derived.Test.YtdbgnnkbcebpcaaSP4C
import Derived.Test.YtdbgnnkbcebpcaaSP4D
import Derived.Test.YtdbgnnkbcebpcaaSP4rN
import Derived.Test.YtdbgnnkbcebpcaaSP4s
set_option linter.unusedVariables false
set_option linter.unusedSimpArgs false
namespace Go.Proofs.Ytdbgnnkbcebpcaa
open Go.RowKit

structure IT where
  o : OBJ
  row : List V4
  v : V4
def IT.A (x : IT) (ra : Option Addr) (rc : Nat) : Array Value := itA x.o.k x.o.cap x.o.wd x.o.rt x.o.f x.o.t x.o.i0 x.o.i1 x.o.i2 x.o.i3 ra x.row.length rc x.v.a x.v.b x.v.c x.v.d
def IT.kind (x : IT) : Int := kindP x.o.k x.o.cap x.o.wd x.o.rt
structure ItemR (w : World) (x : IT) (ra : Option Addr) (rc : Nat) : Prop where
  els : Els w ra 4 (x.row.map V4.cells)
  lc : x.row.length ≤ rc
  cm : rc ≤ maxLen
  none : ra = none → rc = 0
  blk : ∀ b, ra.map (·.block) = some b → b < w.heap.size
theorem ItemR.upd {w w' : World} {x : IT} {ra : Option Addr} {rc : Nat} (h : ItemR w x ra rc) (hu : Upd [] w w') : ItemR w' x ra rc :=
  ⟨h.els.upd hu (by simp), h.lc, h.cm, h.none, fun b hb => Nat.lt_of_lt_of_le (h.blk b hb) hu.size⟩
def v0 : V4 := ⟨0, 0, 0, 0⟩
def V4.one (a : Int) : V4 := ⟨a, 0, 0, 0⟩
def doneP (kind : Int) (x : IT) (c : V4) : IT × (Int × V4) × Bool × Bool :=
  if kind = 1 ∧ x.kind = 1 then (if x.o.cap ≤ x.row.length then (x, (6, v0), false, true) else (⟨x.o, x.row ++ [c.clip x.o.wd], x.v⟩, (0, v0), true, true))
  else if kind = 2 ∧ x.kind = 1 then (match x.row with | [] => (x, (7, v0), false, true) | y :: r => (⟨x.o, r, x.v⟩, (0, y), true, true))
  else if kind = 3 ∧ (x.kind = 2 ∨ x.kind = 3) then (⟨x.o, x.row, c.clip x.o.wd⟩, (0, v0), true, true)
  else if (kind = 4 ∧ x.kind = 2) ∨ ((kind = 5 ∨ kind = 6) ∧ x.kind = 3) then (x, (0, x.v), false, true)
  else if kind = 7 ∧ x.kind = 4 then (⟨x.o, x.row, .one (bits .or .u32 x.v.a c.a)⟩, (0, .one x.v.a), true, true)
  else if kind = 8 ∧ x.kind = 4 then (⟨x.o, x.row, .one (bits .andNot .u32 x.v.a c.a)⟩, (0, .one x.v.a), true, true)
  else if kind = 16 ∧ x.kind = 4 then (if holdsB 4 x.v.a c.a then (x, (0, .one x.v.a), false, true) else (x, (7, v0), false, true))
  else if kind = 17 ∧ x.kind = 4 then (if holdsB 5 x.v.a c.a then (x, (0, .one x.v.a), false, true) else (x, (7, v0), false, true))
  else if kind = 9 ∧ x.kind = 4 then (x, (0, .one x.v.a), false, true)
  else (x, (12, v0), false, false)
def resV (r : Int × V4) : Array Value := resA r.1 r.2.a r.2.b r.2.c r.2.d
theorem kind_wide {x : IT} (h : x.kind = 1 ∨ x.kind = 2 ∨ x.kind = 3) : 1 ≤ x.o.wd ∧ x.o.wd ≤ 4 := by
  have hr : rightB x.o.k x.o.cap x.o.wd x.o.rt = true ∧ (x.o.k = 1 ∨ x.o.k = 2 ∨ x.o.k = 3) := by
    unfold IT.kind kindP at h
    cases hb : rightB x.o.k x.o.cap x.o.wd x.o.rt with
    | true => rw [hb] at h; simpa using h
    | false => rw [hb] at h; simp at h
  obtain ⟨hr, hk⟩ := hr
  have hw : wideB x.o.wd = true := by
    rcases hk with hk | hk | hk <;> (rw [hk] at hr; simp [rightB] at hr; simp [hr])
  simpa [wideB] using hw
/-- Where a row lies: in the block where it lay, or in a new one. -/
def OwnB (w : World) (ra ra' : Option Addr) : Prop := ra'.map (·.block) = ra.map (·.block) ∨ ∀ b, ra'.map (·.block) = some b → w.heap.size ≤ b
def DonePost (w : World) (ra0 : Option Addr) (d : IT × (Int × V4) × Bool × Bool) (e : Ending) (w' : World) : Prop := ∃ ra rc, e = .returned (.tuple #[.agg (d.1.A ra rc), .agg (resV d.2.1), .bool d.2.2.1, .bool d.2.2.2]) ∧ Upd [] w w' ∧ ItemR w' d.1 ra rc ∧ OwnB w ra0 ra
theorem done_post {w : World} {x y : IT} {ra : Option Addr} {rc : Nat} (h : ItemR w x ra rc) {r : Int × V4} {a b : Bool} (hy : y.o = x.o ∧ y.row = x.row) {e : Ending} {w' : World} (he : e = .returned (.tuple #[.agg (y.A ra rc), .agg (resV r), .bool a, .bool b]) ∧ Upd [] w w') : DonePost w ra (y, r, a, b) e w' :=
  ⟨ra, rc, he.1, he.2, ⟨by show Els w' ra 4 (y.row.map V4.cells); rw [hy.2]; exact h.els.upd he.2 (by simp), by show y.row.length ≤ rc; rw [hy.2]; exact h.lc, h.cm, h.none, fun b hb => Nat.lt_of_lt_of_le (h.blk b hb) he.2.size⟩, .inl rfl⟩
theorem flat_get {α : Type} (f : α → List Value) (sz : Nat) (hl : ∀ x, (f x).length = sz) : ∀ (xs : List α) (i : Nat) (hi : i < xs.length) (j : Nat) (v : Value), (f xs[i])[j]? = some v → (xs.flatMap f)[i * sz + j]? = some v
  | [], i, hi, _, _, _ => by simp at hi
  | x :: xs, 0, hi, j, v, h => by
    simp only [List.getElem_cons_zero] at h
    rw [List.flatMap_cons, Nat.zero_mul, Nat.zero_add, List.getElem?_append_left (List.getElem?_eq_some_iff.1 h).1]
    exact h
  | x :: xs, i + 1, hi, j, v, h => by
    have e : (i + 1) * sz = i * sz + sz := by rw [Nat.add_mul, Nat.one_mul]
    rw [List.flatMap_cons, List.getElem?_append_right (by rw [hl, e]; omega), hl, show (i + 1) * sz + j - sz = i * sz + j by omega]
    exact flat_get f sz hl xs i (by simpa using hi) j v (by simpa using h)
theorem flat_inv {α : Type} (f : α → List Value) (sz : Nat) (hl : ∀ x, (f x).length = sz) : ∀ (xs : List α) (j : Nat) (u : Value), (xs.flatMap f)[j]? = some u → ∃ (i : Nat) (hi : i < xs.length) (k : Nat), j = i * sz + k ∧ (f xs[i])[k]? = some u
  | [], j, u, h => by simp at h
  | x :: xs, j, u, h => by
    rw [List.flatMap_cons] at h
    by_cases hj : j < sz
    · rw [List.getElem?_append_left (by rw [hl]; exact hj)] at h
      exact ⟨0, by simp, j, by omega, h⟩
    · rw [List.getElem?_append_right (by rw [hl]; omega), hl] at h
      obtain ⟨i, hi, k, e, hk⟩ := flat_inv f sz hl xs (j - sz) u h
      refine ⟨i + 1, by simpa using hi, k, ?_, by simpa using hk⟩
      rw [Nat.add_mul, Nat.one_mul]
      omega
theorem v4_len (v : V4) : v.cells.length = 4 := rfl
theorem flat_len (xs : List V4) : (xs.flatMap V4.cells).length = xs.length * 4 := by
  induction xs with
  | nil => rfl
  | cons x xs ih => rw [List.flatMap_cons, List.length_append, ih, v4_len, List.length_cons]; omega
section
variable (ck co cn : Int) {w : World} {ra : Option Addr} {rc : Nat}
theorem done_c (x : IT) (kind : Int) (c : V4) (h : ItemR w x ra rc) (hl : x.row.length ≤ 64) : Calls Try.prog 48 #[.agg (x.A ra rc), .int .i64 kind, .agg (caV ck co c.a c.b c.c c.d cn)] w (DonePost w ra (doneP kind x c)) := by
  unfold doneP
  by_cases c1 : kind = 1 ∧ x.kind = 1
  · rw [if_pos c1]
    obtain ⟨rfl, hk⟩ := c1
    by_cases hf : x.o.cap ≤ x.row.length
    · rw [if_pos hf]
      exact (done_full _ _ _ _ _ _ _ _ _ _ _ _ _ _ _ _ _ _ _ _ _ _ _ _ _ hk hf).mono fun e w' he => done_post h ⟨rfl, rfl⟩ he
    · rw [if_neg hf]
      have hw := kind_wide (x := x) (.inl hk)
      refine (done_send _ _ _ _ _ _ _ _ _ _ _ _ _ _ _ _ _ _ _ _ _ _ _ _ _ hk hw.1 hw.2 (by omega) h.lc hl (fun h0 => by have := h.none h0; have := h.lc; omega) (x.row.flatMap V4.cells) (flat_len _) (fun b hb j u hj => ?_)).mono fun e w' he => ?_
      · obtain ⟨i, hi, k, rfl, hk'⟩ := flat_inv V4.cells 4 v4_len _ _ _ hj
        obtain ⟨b', off, ea, hb', hc⟩ := els_at h.els hi
        rw [hb] at ea
        obtain rfl := Option.some.inj ea
        rw [Addr.add_mid, ← Nat.add_assoc]
        exact hc k u hk'
      · obtain ⟨g, cp, cs, e1, hu, hg, h1, h2, hh, ht⟩ := he
        refine ⟨some ⟨g, 0, none⟩, cp, ?_, hu, ⟨fun h0 => ⟨g, 0, rfl, heap_lt hh, fun i hi j u hj => ?_⟩, by simpa using h1, h2, (fun h0 => by cases h0), fun b hb => by simp at hb; subst hb; exact heap_lt hh⟩, .inr fun b hb => by simp at hb; omega⟩
        · rw [e1]
          simp [IT.A, resV, v0]
        · have hfl : (x.row ++ [c.clip x.o.wd]).flatMap V4.cells = x.row.flatMap V4.cells ++ (clipA x.o.wd c.a c.b c.c c.d).toList := by
            rw [List.flatMap_append]
            simp [V4.cells, V4.A, V4.clip, clipA]
          have hi' : i < (x.row ++ [c.clip x.o.wd]).length := by simpa using hi
          have hj' := flat_get V4.cells 4 v4_len (x.row ++ [c.clip x.o.wd]) i hi' j u (by rw [List.getElem_map] at hj; exact hj)
          rw [hfl, ← ht, List.getElem?_take] at hj'
          split at hj'
          · rw [Nat.zero_add, cell_of_heap hh]
            simpa using hj'
          · cases hj'
  rw [if_neg c1]
  by_cases c2 : kind = 2 ∧ x.kind = 1
  · rw [if_pos c2]
    obtain ⟨rfl, hk⟩ := c2
    obtain ⟨o, row, v⟩ := x
    cases row with
    | nil => exact (done_empty _ _ _ _ _ _ _ _ _ _ _ _ _ _ _ _ _ _ _ _ _ _ _ _ hk).mono fun e w' he => done_post (x := ⟨o, [], v⟩) (y := ⟨o, [], v⟩) h ⟨rfl, rfl⟩ he
    | cons y r =>
      obtain ⟨b, off, ea, hb, hc⟩ := h.els (by simp)
      subst ea
      have g := fun j u hj => hc 0 (by simp) j u hj
      have g0 := g 0 (.int .u32 y.a) rfl
      have g1 := g 1 (.int .u32 y.b) rfl
      have g2 := g 2 (.int .u32 y.c) rfl
      have g3 := g 3 (.int .u32 y.d) rfl
      simp only [Nat.zero_mul, Nat.add_zero] at g0 g1 g2 g3
      have h1 := h.lc
      have h2 := h.cm
      simp only [List.length_cons] at h1
      rcases rc with _ | _ | m
      · omega
      · obtain rfl : r = [] := List.eq_nil_of_length_eq_zero (by omega)
        refine (done_r1 _ _ _ _ _ _ _ _ _ _ _ _ _ _ _ _ _ _ _ _ _ _ hk b off y.a y.b y.c y.d g0 g1 g2 g3).mono fun e w' he => ?_
        exact ⟨_, _, he.1, he.2, ⟨fun h0 => by simp at h0, by simp, by simp [maxLen], (fun h0 => by cases h0), fun b hb => Nat.lt_of_lt_of_le (h.blk b hb) he.2.size⟩, .inl rfl⟩
      · refine (done_rN _ _ _ _ _ _ _ _ _ _ _ _ _ _ _ _ _ _ _ _ _ _ hk b off r.length m y.a y.b y.c y.d (by omega) h2 g0 g1 g2 g3).mono fun e w' he => ?_
        refine ⟨_, _, he.1, he.2, ⟨fun h0 => ⟨b, off + 4, rfl, Nat.lt_of_lt_of_le hb he.2.size, fun i hi j u hu => ?_⟩, by simp; omega, by omega, (fun h0 => by cases h0), fun b hb => Nat.lt_of_lt_of_le (h.blk b hb) he.2.size⟩, .inl rfl⟩
        have := hc (i + 1) (by simp at hi ⊢; omega) j u (by simpa using hu)
        rw [he.2.cell (p := ⟨b, off + 4 + i * 4 + j, none⟩) hb (by simp), show off + 4 + i * 4 + j = off + (i + 1) * 4 + j by omega]
        exact this
  rw [if_neg c2]
  by_cases c3 : kind = 3 ∧ (x.kind = 2 ∨ x.kind = 3)
  · rw [if_pos c3]
    obtain ⟨rfl, hk⟩ := c3
    have hw := kind_wide (x := x) (.inr hk)
    rcases hk with hk | hk
    · exact (done_write0 _ _ _ _ _ _ _ _ _ _ _ _ _ _ _ _ _ _ _ _ _ _ _ _ _ hk hw.1 hw.2).mono fun e w' he => done_post (x := x) (y := ⟨x.o, x.row, c.clip x.o.wd⟩) h ⟨rfl, rfl⟩ he
    · exact (done_write1 _ _ _ _ _ _ _ _ _ _ _ _ _ _ _ _ _ _ _ _ _ _ _ _ _ hk hw.1 hw.2).mono fun e w' he => done_post (x := x) (y := ⟨x.o, x.row, c.clip x.o.wd⟩) h ⟨rfl, rfl⟩ he
  rw [if_neg c3]
  by_cases c4 : (kind = 4 ∧ x.kind = 2) ∨ ((kind = 5 ∨ kind = 6) ∧ x.kind = 3)
  · rw [if_pos c4]
    rcases c4 with ⟨rfl, hk⟩ | ⟨rfl | rfl, hk⟩
    · exact (done_read0 _ _ _ _ _ _ _ _ _ _ _ _ _ _ _ _ _ _ _ _ _ _ _ _ _ hk).mono fun e w' he => done_post h ⟨rfl, rfl⟩ he
    · exact (done_read1 _ _ _ _ _ _ _ _ _ _ _ _ _ _ _ _ _ _ _ _ _ _ _ _ _ hk).mono fun e w' he => done_post h ⟨rfl, rfl⟩ he
    · exact (done_read2 _ _ _ _ _ _ _ _ _ _ _ _ _ _ _ _ _ _ _ _ _ _ _ _ _ hk).mono fun e w' he => done_post h ⟨rfl, rfl⟩ he
  rw [if_neg c4]
  by_cases c5 : kind = 7 ∧ x.kind = 4
  · rw [if_pos c5]
    obtain ⟨rfl, hk⟩ := c5
    exact (done_or _ _ _ _ _ _ _ _ _ _ _ _ _ _ _ _ _ _ _ _ _ _ _ _ _ hk).mono fun e w' he => done_post (x := x) (y := ⟨x.o, x.row, .one (bits .or .u32 x.v.a c.a)⟩) h ⟨rfl, rfl⟩ he
  rw [if_neg c5]
  by_cases c6 : kind = 8 ∧ x.kind = 4
  · rw [if_pos c6]
    obtain ⟨rfl, hk⟩ := c6
    exact (done_andNot _ _ _ _ _ _ _ _ _ _ _ _ _ _ _ _ _ _ _ _ _ _ _ _ _ hk).mono fun e w' he => done_post (x := x) (y := ⟨x.o, x.row, .one (bits .andNot .u32 x.v.a c.a)⟩) h ⟨rfl, rfl⟩ he
  rw [if_neg c6]
  by_cases c7 : kind = 16 ∧ x.kind = 4
  · rw [if_pos c7]
    obtain ⟨rfl, hk⟩ := c7
    cases hb : holdsB 4 x.v.a c.a with
    | true => rw [if_pos rfl]; exact (done_w16y _ _ _ _ _ _ _ _ _ _ _ _ _ _ _ _ _ _ _ _ _ _ _ _ _ hk hb).mono fun e w' he => done_post h ⟨rfl, rfl⟩ he
    | false => rw [if_neg (by simp)]; exact (done_w16n _ _ _ _ _ _ _ _ _ _ _ _ _ _ _ _ _ _ _ _ _ _ _ _ _ hk hb).mono fun e w' he => done_post h ⟨rfl, rfl⟩ he
  rw [if_neg c7]
  by_cases c8 : kind = 17 ∧ x.kind = 4
  · rw [if_pos c8]
    obtain ⟨rfl, hk⟩ := c8
    cases hb : holdsB 5 x.v.a c.a with
    | true => rw [if_pos rfl]; exact (done_w17y _ _ _ _ _ _ _ _ _ _ _ _ _ _ _ _ _ _ _ _ _ _ _ _ _ hk hb).mono fun e w' he => done_post h ⟨rfl, rfl⟩ he
    | false => rw [if_neg (by simp)]; exact (done_w17n _ _ _ _ _ _ _ _ _ _ _ _ _ _ _ _ _ _ _ _ _ _ _ _ _ hk hb).mono fun e w' he => done_post h ⟨rfl, rfl⟩ he
  rw [if_neg c8]
  by_cases c9 : kind = 9 ∧ x.kind = 4
  · rw [if_pos c9]
    obtain ⟨rfl, hk⟩ := c9
    exact (done_get _ _ _ _ _ _ _ _ _ _ _ _ _ _ _ _ _ _ _ _ _ _ _ _ _ hk).mono fun e w' he => done_post h ⟨rfl, rfl⟩ he
  rw [if_neg c9]
  refine (done_other _ _ _ _ _ _ _ _ _ _ _ _ _ _ _ _ _ _ _ _ _ _ _ _ _ kind x.kind rfl ?_).mono fun e w' he => done_post h ⟨rfl, rfl⟩ he
  intro hm
  simp only [spec13, List.mem_cons, Prod.mk.injEq, List.not_mem_nil, or_false] at hm
  omega
end
end Go.Proofs.Ytdbgnnkbcebpcaa
