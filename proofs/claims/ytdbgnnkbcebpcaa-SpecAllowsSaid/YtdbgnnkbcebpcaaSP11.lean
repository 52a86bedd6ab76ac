/- Package spec: Do, as a plain function of a state. -/
import Derived.Test.YtdbgnnkbcebpcaaSP10
set_option linter.unusedVariables false
set_option linter.unusedSimpArgs false
namespace Go.Proofs.Ytdbgnnkbcebpcaa
open Go.RowKit

theorem pw7_le {n : Int} (h : pw7 n = true) : n ≤ 64 := by
  simp [pw7] at h
  omega
theorem kind_cap {x : IT} (h : x.kind = 1) : x.o.cap ≤ 64 := by
  unfold IT.kind kindP at h
  cases hb : rightB x.o.k x.o.cap x.o.wd x.o.rt with
  | true =>
    rw [hb] at h
    have hk : x.o.k = 1 := by simpa using h
    rw [hk] at hb
    simp [rightB] at hb
    exact pw7_le hb.2.1
  | false => rw [hb] at h; simp at h
theorem doneP_row (kind : Int) (x : IT) (c : V4) (h : x.row.length ≤ 64) : (doneP kind x c).1.row.length ≤ 64 := by
  unfold doneP
  split
  · rename_i hk
    split
    · exact h
    · have := kind_cap hk.2
      simp
      omega
  split
  · split
    · exact h
    · rename_i hr
      rw [hr] at h
      simp at h ⊢
      omega
  (repeat' split) <;> exact h
theorem doneP_same (kind : Int) (x : IT) (c : V4) (h : (doneP kind x c).2.2.1 = false) : (doneP kind x c).1 = x := by
  unfold doneP at h ⊢
  split
  · rename_i hk
    rw [if_pos hk] at h
    split
    · rfl
    · rename_i hk2
      rw [if_neg hk2] at h
      cases h
  rename_i hk
  rw [if_neg hk] at h
  split
  · rename_i hk2
    rw [if_pos hk2] at h
    revert h
    split
    · intro _; rfl
    · intro h; cases h
  rename_i hk2
  rw [if_neg hk2] at h
  revert h
  (repeat' split) <;> intro h <;> first | rfl | cases h

/-- What Do makes of a state and a call, and what it answers. -/
def doR (s : List IT) (k o : Int) (c : V4) : List IT × (Int × V4) :=
  if (1 ≤ plainP k ∧ plainP k ≤ 9) ∨ plainP k = 16 ∨ plainP k = 17 then
    (if 0 ≤ o ∧ o < s.length then (match s[o.toNat]? with | some x => (s.set o.toNat (doneP (plainP k) x c).1, (doneP (plainP k) x c).2.1) | none => (s, (4, v0))) else (s, (4, v0)))
  else (s, (1, v0))
theorem doR_len (s : List IT) (k o : Int) (c : V4) : (doR s k o c).1.length = s.length := by
  unfold doR
  split
  · split
    · split <;> simp
    · rfl
  · rfl
theorem doR_rows (s : List IT) (k o : Int) (c : V4) (h : ∀ x ∈ s, x.row.length ≤ 64) : ∀ x ∈ (doR s k o c).1, x.row.length ≤ 64 := by
  unfold doR
  split
  · split
    · split
      · rename_i x hx
        intro y hy
        rcases List.mem_or_eq_of_mem_set hy with h1 | h1
        · exact h y h1
        · rw [h1]
          exact doneP_row _ _ _ (h x (List.mem_of_getElem? hx))
      · exact h
    · exact h
  · exact h
/-- What a state is where it is handed out. -/
def SOut (s : List IT) (r : Int × V4) (e : Ending) (w' : World) : Prop := ∃ sa sc rs, e = .returned (.tuple #[.slice sa s.length sc, .agg (resV r)]) ∧ SRel w' sa rs ∧ rs.map (·.x) = s
theorem list_set_map (rs : List IL) (i : Nat) (z : IL) : (rs.set i z).map (·.x) = (rs.map (·.x)).set i z.x := by
  rw [List.map_set]
section
variable {w : World} {sa : Option Addr} {rs : List IL}
theorem do_c (sc : Nat) (k o cn : Int) (c : V4) (h : SRel w sa rs) (hn : rs.length ≤ 1000) (hr : ∀ r ∈ rs, r.x.row.length ≤ 64) :
    Calls Try.prog 10 #[.slice sa rs.length sc, .agg (caV k o c.a c.b c.c c.d cn)] w fun e w' => Upd [] w w' ∧ SOut (doR (rs.map (·.x)) k o c).1 (doR (rs.map (·.x)) k o c).2 e w' := by
  unfold doR
  by_cases hp : (1 ≤ plainP k ∧ plainP k ≤ 9) ∨ plainP k = 16 ∨ plainP k = 17
  · rw [if_pos hp]
    by_cases ho : 0 ≤ o ∧ o < (rs.map (·.x)).length
    · rw [if_pos ho]
      obtain ⟨i, rfl⟩ : ∃ i : Nat, o = i := ⟨o.toNat, by omega⟩
      have hi : i < rs.length := by have := ho.2; simp at this; omega
      rw [Int.toNat_natCast, List.getElem?_map, List.getElem?_eq_getElem hi, Option.map_some]
      simp only
      obtain ⟨sb, so, rfl, hb, hc⟩ := els_at h.els hi
      have hit := h.items rs[i] (List.getElem_mem hi)
      have hrl := hr rs[i] (List.getElem_mem hi)
      have hfl : ∀ j u, (rs.flatMap IL.cells)[j]? = some u → w.cell? ⟨sb, so + j, none⟩ = some u := fun j u hj => by
        obtain ⟨m, hm, q, rfl, hq⟩ := flat_inv IL.cells 15 il_len _ _ _ hj
        obtain ⟨b', o', e, _, hcc⟩ := els_at h.els hm
        obtain ⟨rfl, rfl⟩ : sb = b' ∧ so = o' := by simpa using e
        rw [← Nat.add_assoc]
        exact hcc q u hq
      have hdo := doneP_o (plainP k) rs[i].x c
      have hsame := doneP_same (plainP k) rs[i].x c
      have hdc : ∀ w1, Upd [] w w1 → _ := fun (w1 : World) (hu : Upd [] w w1) => done_c (w := w1) k (i : Int) cn rs[i].x (plainP k) c (hit.upd hu) hrl
      have hset : (rs.map (·.x)).set i rs[i].x = rs.map (·.x) := by
        apply List.ext_getElem?
        intro m
        rw [List.getElem?_set]
        split
        · rename_i h1
          subst h1
          simp [hi]
        · rfl
      have hcc := fun j v hv => hc j v hv
      have key : ∀ (y : IT) (r : Int × V4) (ch is : Bool), y.o = rs[i].x.o → (ch = false → y = rs[i].x) →
          (∀ w1, Upd [] w w1 → Calls Try.prog 48 #[.agg (rs[i].x.A rs[i].ra rs[i].rc), .int .i64 (plainP k), .agg (caV k i c.a c.b c.c c.d cn)] w1 (DonePost w1 rs[i].ra (y, r, ch, is))) →
          Calls Try.prog 10 #[.slice (some ⟨sb, so, none⟩) rs.length sc, .agg (caV k i c.a c.b c.c c.d cn)] w fun e w' => Upd [] w w' ∧ SOut ((rs.map (·.x)).set i y) r e w' := by
        intro y r ch is hyo hsm hdd
        generalize hz : rs[i] = z at *
        obtain ⟨⟨⟨k', cap, wd, rt, f, t, i0, i1, i2, i3⟩, row, ⟨v0, v1, v2, v3⟩⟩, ra, rc⟩ := z
        obtain ⟨yo, yrow, ⟨y0, y1, y2, y3⟩⟩ := y
        obtain ⟨rf, ⟨r0, r1, r2, r3⟩⟩ := r
        simp only at hyo
        subst hyo
        have g := fun j v hj => hcc j v hj
        refine (do_go sb so i rs.length sc k' cap wd rt f t i0 i1 i2 i3 ra row.length rc v0 v1 v2 v3 ⟨⟨k', cap, wd, rt, f, t, i0, i1, i2, i3⟩, yrow, ⟨y0, y1, y2, y3⟩⟩ yrow y0 y1 y2 y3 rf r0 r1 r2 r3 k c.a c.b c.c c.d cn ch is w hb hi hp hn hit.blk
          (fun w1 hu => (hdd w1 hu).mono fun e w' he => ?_)
          (g 0 _ rfl) (g 1 _ rfl) (g 2 _ rfl) (g 3 _ rfl) (g 4 _ rfl) (g 5 _ rfl) (g 6 _ rfl) (g 7 _ rfl) (g 8 _ rfl) (g 9 _ rfl) (g 10 _ rfl) (g 11 _ rfl) (g 12 _ rfl) (g 13 _ rfl) (g 14 _ rfl) rs rfl hfl h.items (fun _ _ => rfl)).mono fun e w' he => ?_
        · obtain ⟨ra', rc', e1, e2, e3, e4⟩ := he
          exact ⟨ra', rc', e1, e2, e3, e4⟩
        · obtain ⟨hu, rb, rd, hde⟩ := he
          refine ⟨hu, ?_⟩
          cases ch with
          | true =>
            obtain ⟨gn, e1, hs⟩ := hde
            refine ⟨some ⟨gn, 0, none⟩, rs.length, _, ?_, hs, ?_⟩
            · rw [e1]; simp [resV, resA]
            · rw [list_set_map]
          | false =>
            have e1 : e = _ := hde
            rw [hsm rfl]
            refine ⟨some ⟨sb, so, none⟩, sc, rs, ?_, h.upd hu, ?_⟩
            · rw [e1]; simp [resV, resA]
            · rw [hset]
      exact key _ _ _ _ hdo hsame hdc
    · rw [if_neg ho]
      refine (do_missing sa rs.length sc k o c.a c.b c.c c.d cn w hp (by simp at ho; omega)).mono fun e w' he => ⟨he.2, sa, sc, rs, ?_, h.upd he.2, rfl⟩
      rw [he.1]
      simp [resV, v0]
  · rw [if_neg hp]
    have hq : plainP k < 1 ∨ (9 < plainP k ∧ plainP k ≠ 16 ∧ plainP k ≠ 17) := by omega
    rcases hq with hq | hq
    · refine (do_low sa rs.length sc k o c.a c.b c.c c.d cn w hq).mono fun e w' he => ⟨he.2, sa, sc, rs, ?_, h.upd he.2, rfl⟩
      rw [he.1]
      simp [resV, v0]
    · refine (do_high sa rs.length sc k o c.a c.b c.c c.d cn w hq.1 hq.2.1 hq.2.2).mono fun e w' he => ⟨he.2, sa, sc, rs, ?_, h.upd he.2, rfl⟩
      rw [he.1]
      simp [resV, v0]
end
end Go.Proofs.Ytdbgnnkbcebpcaa
