/- The document's spec: Do, as a plain function (printed by gensr10.py). -/
import Derived.Test.YtdbgnnkbcebpcaaSR5a
import Derived.Test.YtdbgnnkbcebpcaaSR5b
import Derived.Test.YtdbgnnkbcebpcaaSR5c
import Derived.Test.YtdbgnnkbcebpcaaSR5d
import Derived.Test.YtdbgnnkbcebpcaaSR5e
import Derived.Test.YtdbgnnkbcebpcaaSR7
import Derived.Test.YtdbgnnkbcebpcaaSR89
set_option linter.unusedVariables false
set_option linter.unusedSimpArgs false
namespace Go.Proofs.Ytdbgnnkbcebpcaa
open Go.RowKit
/-- What holds of a flags word behind any calls. -/
def IOk (x : IT) : Prop := x.kind = 4 → (0 ≤ x.v.a ∧ x.v.a ≤ 4294967295) ∧ x.v.b = 0 ∧ x.v.c = 0 ∧ x.v.d = 0
theorem set_self (rs : List IL) (i : Nat) (hi : i < rs.length) : (rs.map (·.x)).set i rs[i].x = rs.map (·.x) := by
  apply List.ext_getElem?
  intro m
  rw [List.getElem?_set]
  split
  · rename_i h1
    subst h1
    simp [hi]
  · rfl
section
variable {w : World} {sa : Option Addr} {rs : List IL}
theorem rdo_k1 (sc i : Nat) (k c0 c1 c2 c3 cn k1 cap wd rt f t i0 i1 i2 i3 z0 z1 z2 z3 : Int) (row : List V4) (h : SRel w sa rs) (hn : rs.length ≤ 1000) (hrw : ∀ r ∈ rs, r.x.row.length ≤ 64) (hi : i < rs.length) (hk : plainP k = 1)
    (hx : rs[i].x = ⟨⟨k1, cap, wd, rt, f, t, i0, i1, i2, i3⟩, row, ⟨z0, z1, z2, z3⟩⟩) (hok : IOk ⟨⟨k1, cap, wd, rt, f, t, i0, i1, i2, i3⟩, row, ⟨z0, z1, z2, z3⟩⟩) (hc : 0 ≤ c0 ∧ c0 ≤ 4294967295) :
    Calls Try.prog 11 #[.slice sa rs.length sc, .agg (caV k i c0 c1 c2 c3 cn)] w fun e w' => Upd [] w w' ∧ SOut ((rs.map (·.x)).set i (doneP 1 ⟨⟨k1, cap, wd, rt, f, t, i0, i1, i2, i3⟩, row, ⟨z0, z1, z2, z3⟩⟩ ⟨c0, c1, c2, c3⟩).1) (doneP 1 ⟨⟨k1, cap, wd, rt, f, t, i0, i1, i2, i3⟩, row, ⟨z0, z1, z2, z3⟩⟩ ⟨c0, c1, c2, c3⟩).2.1 e w' := by
  have hset : (rs.map (·.x)).set i ⟨⟨k1, cap, wd, rt, f, t, i0, i1, i2, i3⟩, row, ⟨z0, z1, z2, z3⟩⟩ = rs.map (·.x) := by rw [← hx]; exact set_self rs i hi
  cases hr : rightB k1 cap wd rt with
  | false =>
    have e : doneP 1 ⟨⟨k1, cap, wd, rt, f, t, i0, i1, i2, i3⟩, row, ⟨z0, z1, z2, z3⟩⟩ ⟨c0, c1, c2, c3⟩ = (⟨⟨k1, cap, wd, rt, f, t, i0, i1, i2, i3⟩, row, ⟨z0, z1, z2, z3⟩⟩, (12, v0), false, false) := by simp [doneP, IT.kind, kindP, hr]
    rw [e]
    simp only
    rw [hset]
    exact rdo_nr1 sc i k c0 c1 c2 c3 cn k1 cap wd rt f t i0 i1 i2 i3 z0 z1 z2 z3 row h hn hrw hi hk hx hr
  | true =>
    by_cases hk1 : k1 = 1
    · have hkd : IT.kind ⟨⟨k1, cap, wd, rt, f, t, i0, i1, i2, i3⟩, row, ⟨z0, z1, z2, z3⟩⟩ = 1 := by simpa [IT.kind, kindP, hr] using hk1
      have hw := kind_wide (x := ⟨⟨k1, cap, wd, rt, f, t, i0, i1, i2, i3⟩, row, ⟨z0, z1, z2, z3⟩⟩) (by rw [hkd]; decide)
      simp only at hw
      by_cases hf : cap ≤ row.length
      · have e : doneP 1 ⟨⟨k1, cap, wd, rt, f, t, i0, i1, i2, i3⟩, row, ⟨z0, z1, z2, z3⟩⟩ ⟨c0, c1, c2, c3⟩ = (⟨⟨k1, cap, wd, rt, f, t, i0, i1, i2, i3⟩, row, ⟨z0, z1, z2, z3⟩⟩, (6, v0), false, true) := by simp [doneP, hkd, hf]
        rw [e]
        simp only
        rw [hset]
        exact rdo_full sc i k c0 c1 c2 c3 cn k1 cap wd rt f t i0 i1 i2 i3 z0 z1 z2 z3 row h hn hrw hi hk hx hk1 hr hf
      · have e : doneP 1 ⟨⟨k1, cap, wd, rt, f, t, i0, i1, i2, i3⟩, row, ⟨z0, z1, z2, z3⟩⟩ ⟨c0, c1, c2, c3⟩ = (⟨⟨k1, cap, wd, rt, f, t, i0, i1, i2, i3⟩, row ++ [⟨clip1 (decide (0 < wd)) c0, clip1 (decide (1 < wd)) c1, clip1 (decide (2 < wd)) c2, clip1 (decide (3 < wd)) c3⟩], ⟨z0, z1, z2, z3⟩⟩, (0, v0), true, true) := by simp [doneP, hkd, hf, V4.clip]
        rw [e]
        exact rdo_send sc i k c0 c1 c2 c3 cn k1 cap wd rt f t i0 i1 i2 i3 z0 z1 z2 z3 row h hn hrw hi hk hx hk1 hr hw hf
    have hn1 := hk1
    clear hk1
    have e : doneP 1 ⟨⟨k1, cap, wd, rt, f, t, i0, i1, i2, i3⟩, row, ⟨z0, z1, z2, z3⟩⟩ ⟨c0, c1, c2, c3⟩ = (⟨⟨k1, cap, wd, rt, f, t, i0, i1, i2, i3⟩, row, ⟨z0, z1, z2, z3⟩⟩, (12, v0), false, false) := by simp [doneP, IT.kind, kindP, hr, hn1]
    rw [e]
    simp only
    rw [hset]
    exact rdo_no1 sc i k c0 c1 c2 c3 cn k1 cap wd rt f t i0 i1 i2 i3 z0 z1 z2 z3 row h hn hrw hi hk hx hr hn1
theorem rdo_k2 (sc i : Nat) (k c0 c1 c2 c3 cn k1 cap wd rt f t i0 i1 i2 i3 z0 z1 z2 z3 : Int) (row : List V4) (h : SRel w sa rs) (hn : rs.length ≤ 1000) (hrw : ∀ r ∈ rs, r.x.row.length ≤ 64) (hi : i < rs.length) (hk : plainP k = 2)
    (hx : rs[i].x = ⟨⟨k1, cap, wd, rt, f, t, i0, i1, i2, i3⟩, row, ⟨z0, z1, z2, z3⟩⟩) (hok : IOk ⟨⟨k1, cap, wd, rt, f, t, i0, i1, i2, i3⟩, row, ⟨z0, z1, z2, z3⟩⟩) (hc : 0 ≤ c0 ∧ c0 ≤ 4294967295) :
    Calls Try.prog 11 #[.slice sa rs.length sc, .agg (caV k i c0 c1 c2 c3 cn)] w fun e w' => Upd [] w w' ∧ SOut ((rs.map (·.x)).set i (doneP 2 ⟨⟨k1, cap, wd, rt, f, t, i0, i1, i2, i3⟩, row, ⟨z0, z1, z2, z3⟩⟩ ⟨c0, c1, c2, c3⟩).1) (doneP 2 ⟨⟨k1, cap, wd, rt, f, t, i0, i1, i2, i3⟩, row, ⟨z0, z1, z2, z3⟩⟩ ⟨c0, c1, c2, c3⟩).2.1 e w' := by
  have hset : (rs.map (·.x)).set i ⟨⟨k1, cap, wd, rt, f, t, i0, i1, i2, i3⟩, row, ⟨z0, z1, z2, z3⟩⟩ = rs.map (·.x) := by rw [← hx]; exact set_self rs i hi
  cases hr : rightB k1 cap wd rt with
  | false =>
    have e : doneP 2 ⟨⟨k1, cap, wd, rt, f, t, i0, i1, i2, i3⟩, row, ⟨z0, z1, z2, z3⟩⟩ ⟨c0, c1, c2, c3⟩ = (⟨⟨k1, cap, wd, rt, f, t, i0, i1, i2, i3⟩, row, ⟨z0, z1, z2, z3⟩⟩, (12, v0), false, false) := by simp [doneP, IT.kind, kindP, hr]
    rw [e]
    simp only
    rw [hset]
    exact rdo_nr2 sc i k c0 c1 c2 c3 cn k1 cap wd rt f t i0 i1 i2 i3 z0 z1 z2 z3 row h hn hrw hi hk hx hr
  | true =>
    by_cases hk1 : k1 = 1
    · have hkd : IT.kind ⟨⟨k1, cap, wd, rt, f, t, i0, i1, i2, i3⟩, row, ⟨z0, z1, z2, z3⟩⟩ = 1 := by simpa [IT.kind, kindP, hr] using hk1
      cases row with
      | nil =>
        have e : doneP 2 ⟨⟨k1, cap, wd, rt, f, t, i0, i1, i2, i3⟩, [], ⟨z0, z1, z2, z3⟩⟩ ⟨c0, c1, c2, c3⟩ = (⟨⟨k1, cap, wd, rt, f, t, i0, i1, i2, i3⟩, [], ⟨z0, z1, z2, z3⟩⟩, (7, v0), false, true) := by simp [doneP, hkd]
        rw [e]
        simp only
        rw [hset]
        exact rdo_empty sc i k c0 c1 c2 c3 cn k1 cap wd rt f t i0 i1 i2 i3 z0 z1 z2 z3 [] h hn hrw hi hk hx hk1 hr rfl
      | cons y rr =>
        obtain ⟨y0, y1, y2, y3⟩ := y
        have e : doneP 2 ⟨⟨k1, cap, wd, rt, f, t, i0, i1, i2, i3⟩, ⟨y0, y1, y2, y3⟩ :: rr, ⟨z0, z1, z2, z3⟩⟩ ⟨c0, c1, c2, c3⟩ = (⟨⟨k1, cap, wd, rt, f, t, i0, i1, i2, i3⟩, rr, ⟨z0, z1, z2, z3⟩⟩, (0, ⟨y0, y1, y2, y3⟩), true, true) := by simp [doneP, hkd]
        rw [e]
        exact rdo_recv sc i k c0 c1 c2 c3 cn k1 cap wd rt f t i0 i1 i2 i3 z0 z1 z2 z3 y0 y1 y2 y3 rr h hn hrw hi hk hx hk1 hr
    have hn1 := hk1
    clear hk1
    have e : doneP 2 ⟨⟨k1, cap, wd, rt, f, t, i0, i1, i2, i3⟩, row, ⟨z0, z1, z2, z3⟩⟩ ⟨c0, c1, c2, c3⟩ = (⟨⟨k1, cap, wd, rt, f, t, i0, i1, i2, i3⟩, row, ⟨z0, z1, z2, z3⟩⟩, (12, v0), false, false) := by simp [doneP, IT.kind, kindP, hr, hn1]
    rw [e]
    simp only
    rw [hset]
    exact rdo_no2 sc i k c0 c1 c2 c3 cn k1 cap wd rt f t i0 i1 i2 i3 z0 z1 z2 z3 row h hn hrw hi hk hx hr hn1
theorem rdo_k3 (sc i : Nat) (k c0 c1 c2 c3 cn k1 cap wd rt f t i0 i1 i2 i3 z0 z1 z2 z3 : Int) (row : List V4) (h : SRel w sa rs) (hn : rs.length ≤ 1000) (hrw : ∀ r ∈ rs, r.x.row.length ≤ 64) (hi : i < rs.length) (hk : plainP k = 3)
    (hx : rs[i].x = ⟨⟨k1, cap, wd, rt, f, t, i0, i1, i2, i3⟩, row, ⟨z0, z1, z2, z3⟩⟩) (hok : IOk ⟨⟨k1, cap, wd, rt, f, t, i0, i1, i2, i3⟩, row, ⟨z0, z1, z2, z3⟩⟩) (hc : 0 ≤ c0 ∧ c0 ≤ 4294967295) :
    Calls Try.prog 11 #[.slice sa rs.length sc, .agg (caV k i c0 c1 c2 c3 cn)] w fun e w' => Upd [] w w' ∧ SOut ((rs.map (·.x)).set i (doneP 3 ⟨⟨k1, cap, wd, rt, f, t, i0, i1, i2, i3⟩, row, ⟨z0, z1, z2, z3⟩⟩ ⟨c0, c1, c2, c3⟩).1) (doneP 3 ⟨⟨k1, cap, wd, rt, f, t, i0, i1, i2, i3⟩, row, ⟨z0, z1, z2, z3⟩⟩ ⟨c0, c1, c2, c3⟩).2.1 e w' := by
  have hset : (rs.map (·.x)).set i ⟨⟨k1, cap, wd, rt, f, t, i0, i1, i2, i3⟩, row, ⟨z0, z1, z2, z3⟩⟩ = rs.map (·.x) := by rw [← hx]; exact set_self rs i hi
  cases hr : rightB k1 cap wd rt with
  | false =>
    have e : doneP 3 ⟨⟨k1, cap, wd, rt, f, t, i0, i1, i2, i3⟩, row, ⟨z0, z1, z2, z3⟩⟩ ⟨c0, c1, c2, c3⟩ = (⟨⟨k1, cap, wd, rt, f, t, i0, i1, i2, i3⟩, row, ⟨z0, z1, z2, z3⟩⟩, (12, v0), false, false) := by simp [doneP, IT.kind, kindP, hr]
    rw [e]
    simp only
    rw [hset]
    exact rdo_nr3 sc i k c0 c1 c2 c3 cn k1 cap wd rt f t i0 i1 i2 i3 z0 z1 z2 z3 row h hn hrw hi hk hx hr
  | true =>
    by_cases hk1 : k1 = 2
    · have hkd : IT.kind ⟨⟨k1, cap, wd, rt, f, t, i0, i1, i2, i3⟩, row, ⟨z0, z1, z2, z3⟩⟩ = 2 := by simpa [IT.kind, kindP, hr] using hk1
      have hw := kind_wide (x := ⟨⟨k1, cap, wd, rt, f, t, i0, i1, i2, i3⟩, row, ⟨z0, z1, z2, z3⟩⟩) (by rw [hkd]; decide)
      simp only at hw
      have e : doneP 3 ⟨⟨k1, cap, wd, rt, f, t, i0, i1, i2, i3⟩, row, ⟨z0, z1, z2, z3⟩⟩ ⟨c0, c1, c2, c3⟩ = (⟨⟨k1, cap, wd, rt, f, t, i0, i1, i2, i3⟩, row, ⟨clip1 (decide (0 < wd)) c0, clip1 (decide (1 < wd)) c1, clip1 (decide (2 < wd)) c2, clip1 (decide (3 < wd)) c3⟩⟩, (0, v0), true, true) := by simp [doneP, hkd, V4.clip]
      rw [e]
      exact rdo_set2 sc i k c0 c1 c2 c3 cn k1 cap wd rt f t i0 i1 i2 i3 z0 z1 z2 z3 row h hn hrw hi hk hx hk1 hr hw
    have hn2 := hk1
    clear hk1
    by_cases hk1 : k1 = 3
    · have hkd : IT.kind ⟨⟨k1, cap, wd, rt, f, t, i0, i1, i2, i3⟩, row, ⟨z0, z1, z2, z3⟩⟩ = 3 := by simpa [IT.kind, kindP, hr] using hk1
      have hw := kind_wide (x := ⟨⟨k1, cap, wd, rt, f, t, i0, i1, i2, i3⟩, row, ⟨z0, z1, z2, z3⟩⟩) (by rw [hkd]; decide)
      simp only at hw
      have e : doneP 3 ⟨⟨k1, cap, wd, rt, f, t, i0, i1, i2, i3⟩, row, ⟨z0, z1, z2, z3⟩⟩ ⟨c0, c1, c2, c3⟩ = (⟨⟨k1, cap, wd, rt, f, t, i0, i1, i2, i3⟩, row, ⟨clip1 (decide (0 < wd)) c0, clip1 (decide (1 < wd)) c1, clip1 (decide (2 < wd)) c2, clip1 (decide (3 < wd)) c3⟩⟩, (0, v0), true, true) := by simp [doneP, hkd, V4.clip]
      rw [e]
      exact rdo_set3 sc i k c0 c1 c2 c3 cn k1 cap wd rt f t i0 i1 i2 i3 z0 z1 z2 z3 row h hn hrw hi hk hx hk1 hr hw
    have hn3 := hk1
    clear hk1
    have e : doneP 3 ⟨⟨k1, cap, wd, rt, f, t, i0, i1, i2, i3⟩, row, ⟨z0, z1, z2, z3⟩⟩ ⟨c0, c1, c2, c3⟩ = (⟨⟨k1, cap, wd, rt, f, t, i0, i1, i2, i3⟩, row, ⟨z0, z1, z2, z3⟩⟩, (12, v0), false, false) := by simp [doneP, IT.kind, kindP, hr, hn2, hn3]
    rw [e]
    simp only
    rw [hset]
    exact rdo_no3 sc i k c0 c1 c2 c3 cn k1 cap wd rt f t i0 i1 i2 i3 z0 z1 z2 z3 row h hn hrw hi hk hx hr hn2 hn3
theorem rdo_k4 (sc i : Nat) (k c0 c1 c2 c3 cn k1 cap wd rt f t i0 i1 i2 i3 z0 z1 z2 z3 : Int) (row : List V4) (h : SRel w sa rs) (hn : rs.length ≤ 1000) (hrw : ∀ r ∈ rs, r.x.row.length ≤ 64) (hi : i < rs.length) (hk : plainP k = 4)
    (hx : rs[i].x = ⟨⟨k1, cap, wd, rt, f, t, i0, i1, i2, i3⟩, row, ⟨z0, z1, z2, z3⟩⟩) (hok : IOk ⟨⟨k1, cap, wd, rt, f, t, i0, i1, i2, i3⟩, row, ⟨z0, z1, z2, z3⟩⟩) (hc : 0 ≤ c0 ∧ c0 ≤ 4294967295) :
    Calls Try.prog 11 #[.slice sa rs.length sc, .agg (caV k i c0 c1 c2 c3 cn)] w fun e w' => Upd [] w w' ∧ SOut ((rs.map (·.x)).set i (doneP 4 ⟨⟨k1, cap, wd, rt, f, t, i0, i1, i2, i3⟩, row, ⟨z0, z1, z2, z3⟩⟩ ⟨c0, c1, c2, c3⟩).1) (doneP 4 ⟨⟨k1, cap, wd, rt, f, t, i0, i1, i2, i3⟩, row, ⟨z0, z1, z2, z3⟩⟩ ⟨c0, c1, c2, c3⟩).2.1 e w' := by
  have hset : (rs.map (·.x)).set i ⟨⟨k1, cap, wd, rt, f, t, i0, i1, i2, i3⟩, row, ⟨z0, z1, z2, z3⟩⟩ = rs.map (·.x) := by rw [← hx]; exact set_self rs i hi
  cases hr : rightB k1 cap wd rt with
  | false =>
    have e : doneP 4 ⟨⟨k1, cap, wd, rt, f, t, i0, i1, i2, i3⟩, row, ⟨z0, z1, z2, z3⟩⟩ ⟨c0, c1, c2, c3⟩ = (⟨⟨k1, cap, wd, rt, f, t, i0, i1, i2, i3⟩, row, ⟨z0, z1, z2, z3⟩⟩, (12, v0), false, false) := by simp [doneP, IT.kind, kindP, hr]
    rw [e]
    simp only
    rw [hset]
    exact rdo_nr4 sc i k c0 c1 c2 c3 cn k1 cap wd rt f t i0 i1 i2 i3 z0 z1 z2 z3 row h hn hrw hi hk hx hr
  | true =>
    by_cases hk1 : k1 = 2
    · have hkd : IT.kind ⟨⟨k1, cap, wd, rt, f, t, i0, i1, i2, i3⟩, row, ⟨z0, z1, z2, z3⟩⟩ = 2 := by simpa [IT.kind, kindP, hr] using hk1
      have e : doneP 4 ⟨⟨k1, cap, wd, rt, f, t, i0, i1, i2, i3⟩, row, ⟨z0, z1, z2, z3⟩⟩ ⟨c0, c1, c2, c3⟩ = (⟨⟨k1, cap, wd, rt, f, t, i0, i1, i2, i3⟩, row, ⟨z0, z1, z2, z3⟩⟩, (0, ⟨z0, z1, z2, z3⟩), false, true) := by simp [doneP, hkd]
      rw [e]
      simp only
      rw [hset]
      exact rdo_get4 sc i k c0 c1 c2 c3 cn k1 cap wd rt f t i0 i1 i2 i3 z0 z1 z2 z3 row h hn hrw hi hk hx hk1 hr
    have hn2 := hk1
    clear hk1
    have e : doneP 4 ⟨⟨k1, cap, wd, rt, f, t, i0, i1, i2, i3⟩, row, ⟨z0, z1, z2, z3⟩⟩ ⟨c0, c1, c2, c3⟩ = (⟨⟨k1, cap, wd, rt, f, t, i0, i1, i2, i3⟩, row, ⟨z0, z1, z2, z3⟩⟩, (12, v0), false, false) := by simp [doneP, IT.kind, kindP, hr, hn2]
    rw [e]
    simp only
    rw [hset]
    exact rdo_no4 sc i k c0 c1 c2 c3 cn k1 cap wd rt f t i0 i1 i2 i3 z0 z1 z2 z3 row h hn hrw hi hk hx hr hn2
theorem rdo_k5 (sc i : Nat) (k c0 c1 c2 c3 cn k1 cap wd rt f t i0 i1 i2 i3 z0 z1 z2 z3 : Int) (row : List V4) (h : SRel w sa rs) (hn : rs.length ≤ 1000) (hrw : ∀ r ∈ rs, r.x.row.length ≤ 64) (hi : i < rs.length) (hk : plainP k = 5)
    (hx : rs[i].x = ⟨⟨k1, cap, wd, rt, f, t, i0, i1, i2, i3⟩, row, ⟨z0, z1, z2, z3⟩⟩) (hok : IOk ⟨⟨k1, cap, wd, rt, f, t, i0, i1, i2, i3⟩, row, ⟨z0, z1, z2, z3⟩⟩) (hc : 0 ≤ c0 ∧ c0 ≤ 4294967295) :
    Calls Try.prog 11 #[.slice sa rs.length sc, .agg (caV k i c0 c1 c2 c3 cn)] w fun e w' => Upd [] w w' ∧ SOut ((rs.map (·.x)).set i (doneP 5 ⟨⟨k1, cap, wd, rt, f, t, i0, i1, i2, i3⟩, row, ⟨z0, z1, z2, z3⟩⟩ ⟨c0, c1, c2, c3⟩).1) (doneP 5 ⟨⟨k1, cap, wd, rt, f, t, i0, i1, i2, i3⟩, row, ⟨z0, z1, z2, z3⟩⟩ ⟨c0, c1, c2, c3⟩).2.1 e w' := by
  have hset : (rs.map (·.x)).set i ⟨⟨k1, cap, wd, rt, f, t, i0, i1, i2, i3⟩, row, ⟨z0, z1, z2, z3⟩⟩ = rs.map (·.x) := by rw [← hx]; exact set_self rs i hi
  cases hr : rightB k1 cap wd rt with
  | false =>
    have e : doneP 5 ⟨⟨k1, cap, wd, rt, f, t, i0, i1, i2, i3⟩, row, ⟨z0, z1, z2, z3⟩⟩ ⟨c0, c1, c2, c3⟩ = (⟨⟨k1, cap, wd, rt, f, t, i0, i1, i2, i3⟩, row, ⟨z0, z1, z2, z3⟩⟩, (12, v0), false, false) := by simp [doneP, IT.kind, kindP, hr]
    rw [e]
    simp only
    rw [hset]
    exact rdo_nr5 sc i k c0 c1 c2 c3 cn k1 cap wd rt f t i0 i1 i2 i3 z0 z1 z2 z3 row h hn hrw hi hk hx hr
  | true =>
    by_cases hk1 : k1 = 3
    · have hkd : IT.kind ⟨⟨k1, cap, wd, rt, f, t, i0, i1, i2, i3⟩, row, ⟨z0, z1, z2, z3⟩⟩ = 3 := by simpa [IT.kind, kindP, hr] using hk1
      have e : doneP 5 ⟨⟨k1, cap, wd, rt, f, t, i0, i1, i2, i3⟩, row, ⟨z0, z1, z2, z3⟩⟩ ⟨c0, c1, c2, c3⟩ = (⟨⟨k1, cap, wd, rt, f, t, i0, i1, i2, i3⟩, row, ⟨z0, z1, z2, z3⟩⟩, (0, ⟨z0, z1, z2, z3⟩), false, true) := by simp [doneP, hkd]
      rw [e]
      simp only
      rw [hset]
      exact rdo_get5 sc i k c0 c1 c2 c3 cn k1 cap wd rt f t i0 i1 i2 i3 z0 z1 z2 z3 row h hn hrw hi hk hx hk1 hr
    have hn3 := hk1
    clear hk1
    have e : doneP 5 ⟨⟨k1, cap, wd, rt, f, t, i0, i1, i2, i3⟩, row, ⟨z0, z1, z2, z3⟩⟩ ⟨c0, c1, c2, c3⟩ = (⟨⟨k1, cap, wd, rt, f, t, i0, i1, i2, i3⟩, row, ⟨z0, z1, z2, z3⟩⟩, (12, v0), false, false) := by simp [doneP, IT.kind, kindP, hr, hn3]
    rw [e]
    simp only
    rw [hset]
    exact rdo_no5 sc i k c0 c1 c2 c3 cn k1 cap wd rt f t i0 i1 i2 i3 z0 z1 z2 z3 row h hn hrw hi hk hx hr hn3
theorem rdo_k6 (sc i : Nat) (k c0 c1 c2 c3 cn k1 cap wd rt f t i0 i1 i2 i3 z0 z1 z2 z3 : Int) (row : List V4) (h : SRel w sa rs) (hn : rs.length ≤ 1000) (hrw : ∀ r ∈ rs, r.x.row.length ≤ 64) (hi : i < rs.length) (hk : plainP k = 6)
    (hx : rs[i].x = ⟨⟨k1, cap, wd, rt, f, t, i0, i1, i2, i3⟩, row, ⟨z0, z1, z2, z3⟩⟩) (hok : IOk ⟨⟨k1, cap, wd, rt, f, t, i0, i1, i2, i3⟩, row, ⟨z0, z1, z2, z3⟩⟩) (hc : 0 ≤ c0 ∧ c0 ≤ 4294967295) :
    Calls Try.prog 11 #[.slice sa rs.length sc, .agg (caV k i c0 c1 c2 c3 cn)] w fun e w' => Upd [] w w' ∧ SOut ((rs.map (·.x)).set i (doneP 6 ⟨⟨k1, cap, wd, rt, f, t, i0, i1, i2, i3⟩, row, ⟨z0, z1, z2, z3⟩⟩ ⟨c0, c1, c2, c3⟩).1) (doneP 6 ⟨⟨k1, cap, wd, rt, f, t, i0, i1, i2, i3⟩, row, ⟨z0, z1, z2, z3⟩⟩ ⟨c0, c1, c2, c3⟩).2.1 e w' := by
  have hset : (rs.map (·.x)).set i ⟨⟨k1, cap, wd, rt, f, t, i0, i1, i2, i3⟩, row, ⟨z0, z1, z2, z3⟩⟩ = rs.map (·.x) := by rw [← hx]; exact set_self rs i hi
  cases hr : rightB k1 cap wd rt with
  | false =>
    have e : doneP 6 ⟨⟨k1, cap, wd, rt, f, t, i0, i1, i2, i3⟩, row, ⟨z0, z1, z2, z3⟩⟩ ⟨c0, c1, c2, c3⟩ = (⟨⟨k1, cap, wd, rt, f, t, i0, i1, i2, i3⟩, row, ⟨z0, z1, z2, z3⟩⟩, (12, v0), false, false) := by simp [doneP, IT.kind, kindP, hr]
    rw [e]
    simp only
    rw [hset]
    exact rdo_nr6 sc i k c0 c1 c2 c3 cn k1 cap wd rt f t i0 i1 i2 i3 z0 z1 z2 z3 row h hn hrw hi hk hx hr
  | true =>
    by_cases hk1 : k1 = 3
    · have hkd : IT.kind ⟨⟨k1, cap, wd, rt, f, t, i0, i1, i2, i3⟩, row, ⟨z0, z1, z2, z3⟩⟩ = 3 := by simpa [IT.kind, kindP, hr] using hk1
      have e : doneP 6 ⟨⟨k1, cap, wd, rt, f, t, i0, i1, i2, i3⟩, row, ⟨z0, z1, z2, z3⟩⟩ ⟨c0, c1, c2, c3⟩ = (⟨⟨k1, cap, wd, rt, f, t, i0, i1, i2, i3⟩, row, ⟨z0, z1, z2, z3⟩⟩, (0, ⟨z0, z1, z2, z3⟩), false, true) := by simp [doneP, hkd]
      rw [e]
      simp only
      rw [hset]
      exact rdo_get6 sc i k c0 c1 c2 c3 cn k1 cap wd rt f t i0 i1 i2 i3 z0 z1 z2 z3 row h hn hrw hi hk hx hk1 hr
    have hn3 := hk1
    clear hk1
    have e : doneP 6 ⟨⟨k1, cap, wd, rt, f, t, i0, i1, i2, i3⟩, row, ⟨z0, z1, z2, z3⟩⟩ ⟨c0, c1, c2, c3⟩ = (⟨⟨k1, cap, wd, rt, f, t, i0, i1, i2, i3⟩, row, ⟨z0, z1, z2, z3⟩⟩, (12, v0), false, false) := by simp [doneP, IT.kind, kindP, hr, hn3]
    rw [e]
    simp only
    rw [hset]
    exact rdo_no6 sc i k c0 c1 c2 c3 cn k1 cap wd rt f t i0 i1 i2 i3 z0 z1 z2 z3 row h hn hrw hi hk hx hr hn3
theorem rdo_k7 (sc i : Nat) (k c0 c1 c2 c3 cn k1 cap wd rt f t i0 i1 i2 i3 z0 z1 z2 z3 : Int) (row : List V4) (h : SRel w sa rs) (hn : rs.length ≤ 1000) (hrw : ∀ r ∈ rs, r.x.row.length ≤ 64) (hi : i < rs.length) (hk : plainP k = 7)
    (hx : rs[i].x = ⟨⟨k1, cap, wd, rt, f, t, i0, i1, i2, i3⟩, row, ⟨z0, z1, z2, z3⟩⟩) (hok : IOk ⟨⟨k1, cap, wd, rt, f, t, i0, i1, i2, i3⟩, row, ⟨z0, z1, z2, z3⟩⟩) (hc : 0 ≤ c0 ∧ c0 ≤ 4294967295) :
    Calls Try.prog 11 #[.slice sa rs.length sc, .agg (caV k i c0 c1 c2 c3 cn)] w fun e w' => Upd [] w w' ∧ SOut ((rs.map (·.x)).set i (doneP 7 ⟨⟨k1, cap, wd, rt, f, t, i0, i1, i2, i3⟩, row, ⟨z0, z1, z2, z3⟩⟩ ⟨c0, c1, c2, c3⟩).1) (doneP 7 ⟨⟨k1, cap, wd, rt, f, t, i0, i1, i2, i3⟩, row, ⟨z0, z1, z2, z3⟩⟩ ⟨c0, c1, c2, c3⟩).2.1 e w' := by
  have hset : (rs.map (·.x)).set i ⟨⟨k1, cap, wd, rt, f, t, i0, i1, i2, i3⟩, row, ⟨z0, z1, z2, z3⟩⟩ = rs.map (·.x) := by rw [← hx]; exact set_self rs i hi
  cases hr : rightB k1 cap wd rt with
  | false =>
    have e : doneP 7 ⟨⟨k1, cap, wd, rt, f, t, i0, i1, i2, i3⟩, row, ⟨z0, z1, z2, z3⟩⟩ ⟨c0, c1, c2, c3⟩ = (⟨⟨k1, cap, wd, rt, f, t, i0, i1, i2, i3⟩, row, ⟨z0, z1, z2, z3⟩⟩, (12, v0), false, false) := by simp [doneP, IT.kind, kindP, hr]
    rw [e]
    simp only
    rw [hset]
    exact rdo_nr7 sc i k c0 c1 c2 c3 cn k1 cap wd rt f t i0 i1 i2 i3 z0 z1 z2 z3 row h hn hrw hi hk hx hr
  | true =>
    by_cases hk1 : k1 = 4
    · have hkd : IT.kind ⟨⟨k1, cap, wd, rt, f, t, i0, i1, i2, i3⟩, row, ⟨z0, z1, z2, z3⟩⟩ = 4 := by simpa [IT.kind, kindP, hr] using hk1
      obtain ⟨ha, hz1, hz2, hz3⟩ := hok hkd
      simp only at ha hz1 hz2 hz3
      have e : doneP 7 ⟨⟨k1, cap, wd, rt, f, t, i0, i1, i2, i3⟩, row, ⟨z0, z1, z2, z3⟩⟩ ⟨c0, c1, c2, c3⟩ = (⟨⟨k1, cap, wd, rt, f, t, i0, i1, i2, i3⟩, row, ⟨bits .or .u32 z0 c0, 0, 0, 0⟩⟩, (0, .one z0), true, true) := by simp [doneP, hkd, V4.one]
      rw [e]
      exact rdo_or sc i k c0 c1 c2 c3 cn k1 cap wd rt f t i0 i1 i2 i3 z0 z1 z2 z3 row h hn hrw hi hk hx hk1 hr ha hc ⟨hz1, hz2, hz3⟩
    have hn4 := hk1
    clear hk1
    have e : doneP 7 ⟨⟨k1, cap, wd, rt, f, t, i0, i1, i2, i3⟩, row, ⟨z0, z1, z2, z3⟩⟩ ⟨c0, c1, c2, c3⟩ = (⟨⟨k1, cap, wd, rt, f, t, i0, i1, i2, i3⟩, row, ⟨z0, z1, z2, z3⟩⟩, (12, v0), false, false) := by simp [doneP, IT.kind, kindP, hr, hn4]
    rw [e]
    simp only
    rw [hset]
    exact rdo_no7 sc i k c0 c1 c2 c3 cn k1 cap wd rt f t i0 i1 i2 i3 z0 z1 z2 z3 row h hn hrw hi hk hx hr hn4
theorem rdo_k8 (sc i : Nat) (k c0 c1 c2 c3 cn k1 cap wd rt f t i0 i1 i2 i3 z0 z1 z2 z3 : Int) (row : List V4) (h : SRel w sa rs) (hn : rs.length ≤ 1000) (hrw : ∀ r ∈ rs, r.x.row.length ≤ 64) (hi : i < rs.length) (hk : plainP k = 8)
    (hx : rs[i].x = ⟨⟨k1, cap, wd, rt, f, t, i0, i1, i2, i3⟩, row, ⟨z0, z1, z2, z3⟩⟩) (hok : IOk ⟨⟨k1, cap, wd, rt, f, t, i0, i1, i2, i3⟩, row, ⟨z0, z1, z2, z3⟩⟩) (hc : 0 ≤ c0 ∧ c0 ≤ 4294967295) :
    Calls Try.prog 11 #[.slice sa rs.length sc, .agg (caV k i c0 c1 c2 c3 cn)] w fun e w' => Upd [] w w' ∧ SOut ((rs.map (·.x)).set i (doneP 8 ⟨⟨k1, cap, wd, rt, f, t, i0, i1, i2, i3⟩, row, ⟨z0, z1, z2, z3⟩⟩ ⟨c0, c1, c2, c3⟩).1) (doneP 8 ⟨⟨k1, cap, wd, rt, f, t, i0, i1, i2, i3⟩, row, ⟨z0, z1, z2, z3⟩⟩ ⟨c0, c1, c2, c3⟩).2.1 e w' := by
  have hset : (rs.map (·.x)).set i ⟨⟨k1, cap, wd, rt, f, t, i0, i1, i2, i3⟩, row, ⟨z0, z1, z2, z3⟩⟩ = rs.map (·.x) := by rw [← hx]; exact set_self rs i hi
  cases hr : rightB k1 cap wd rt with
  | false =>
    have e : doneP 8 ⟨⟨k1, cap, wd, rt, f, t, i0, i1, i2, i3⟩, row, ⟨z0, z1, z2, z3⟩⟩ ⟨c0, c1, c2, c3⟩ = (⟨⟨k1, cap, wd, rt, f, t, i0, i1, i2, i3⟩, row, ⟨z0, z1, z2, z3⟩⟩, (12, v0), false, false) := by simp [doneP, IT.kind, kindP, hr]
    rw [e]
    simp only
    rw [hset]
    exact rdo_nr8 sc i k c0 c1 c2 c3 cn k1 cap wd rt f t i0 i1 i2 i3 z0 z1 z2 z3 row h hn hrw hi hk hx hr
  | true =>
    by_cases hk1 : k1 = 4
    · have hkd : IT.kind ⟨⟨k1, cap, wd, rt, f, t, i0, i1, i2, i3⟩, row, ⟨z0, z1, z2, z3⟩⟩ = 4 := by simpa [IT.kind, kindP, hr] using hk1
      obtain ⟨ha, hz1, hz2, hz3⟩ := hok hkd
      simp only at ha hz1 hz2 hz3
      have e : doneP 8 ⟨⟨k1, cap, wd, rt, f, t, i0, i1, i2, i3⟩, row, ⟨z0, z1, z2, z3⟩⟩ ⟨c0, c1, c2, c3⟩ = (⟨⟨k1, cap, wd, rt, f, t, i0, i1, i2, i3⟩, row, ⟨bits .andNot .u32 z0 c0, 0, 0, 0⟩⟩, (0, .one z0), true, true) := by simp [doneP, hkd, V4.one]
      rw [e]
      exact rdo_and sc i k c0 c1 c2 c3 cn k1 cap wd rt f t i0 i1 i2 i3 z0 z1 z2 z3 row h hn hrw hi hk hx hk1 hr ha hc ⟨hz1, hz2, hz3⟩
    have hn4 := hk1
    clear hk1
    have e : doneP 8 ⟨⟨k1, cap, wd, rt, f, t, i0, i1, i2, i3⟩, row, ⟨z0, z1, z2, z3⟩⟩ ⟨c0, c1, c2, c3⟩ = (⟨⟨k1, cap, wd, rt, f, t, i0, i1, i2, i3⟩, row, ⟨z0, z1, z2, z3⟩⟩, (12, v0), false, false) := by simp [doneP, IT.kind, kindP, hr, hn4]
    rw [e]
    simp only
    rw [hset]
    exact rdo_no8 sc i k c0 c1 c2 c3 cn k1 cap wd rt f t i0 i1 i2 i3 z0 z1 z2 z3 row h hn hrw hi hk hx hr hn4
theorem rdo_k9 (sc i : Nat) (k c0 c1 c2 c3 cn k1 cap wd rt f t i0 i1 i2 i3 z0 z1 z2 z3 : Int) (row : List V4) (h : SRel w sa rs) (hn : rs.length ≤ 1000) (hrw : ∀ r ∈ rs, r.x.row.length ≤ 64) (hi : i < rs.length) (hk : plainP k = 9)
    (hx : rs[i].x = ⟨⟨k1, cap, wd, rt, f, t, i0, i1, i2, i3⟩, row, ⟨z0, z1, z2, z3⟩⟩) (hok : IOk ⟨⟨k1, cap, wd, rt, f, t, i0, i1, i2, i3⟩, row, ⟨z0, z1, z2, z3⟩⟩) (hc : 0 ≤ c0 ∧ c0 ≤ 4294967295) :
    Calls Try.prog 11 #[.slice sa rs.length sc, .agg (caV k i c0 c1 c2 c3 cn)] w fun e w' => Upd [] w w' ∧ SOut ((rs.map (·.x)).set i (doneP 9 ⟨⟨k1, cap, wd, rt, f, t, i0, i1, i2, i3⟩, row, ⟨z0, z1, z2, z3⟩⟩ ⟨c0, c1, c2, c3⟩).1) (doneP 9 ⟨⟨k1, cap, wd, rt, f, t, i0, i1, i2, i3⟩, row, ⟨z0, z1, z2, z3⟩⟩ ⟨c0, c1, c2, c3⟩).2.1 e w' := by
  have hset : (rs.map (·.x)).set i ⟨⟨k1, cap, wd, rt, f, t, i0, i1, i2, i3⟩, row, ⟨z0, z1, z2, z3⟩⟩ = rs.map (·.x) := by rw [← hx]; exact set_self rs i hi
  cases hr : rightB k1 cap wd rt with
  | false =>
    have e : doneP 9 ⟨⟨k1, cap, wd, rt, f, t, i0, i1, i2, i3⟩, row, ⟨z0, z1, z2, z3⟩⟩ ⟨c0, c1, c2, c3⟩ = (⟨⟨k1, cap, wd, rt, f, t, i0, i1, i2, i3⟩, row, ⟨z0, z1, z2, z3⟩⟩, (12, v0), false, false) := by simp [doneP, IT.kind, kindP, hr]
    rw [e]
    simp only
    rw [hset]
    exact rdo_nr9 sc i k c0 c1 c2 c3 cn k1 cap wd rt f t i0 i1 i2 i3 z0 z1 z2 z3 row h hn hrw hi hk hx hr
  | true =>
    by_cases hk1 : k1 = 4
    · have hkd : IT.kind ⟨⟨k1, cap, wd, rt, f, t, i0, i1, i2, i3⟩, row, ⟨z0, z1, z2, z3⟩⟩ = 4 := by simpa [IT.kind, kindP, hr] using hk1
      obtain ⟨ha, hz1, hz2, hz3⟩ := hok hkd
      simp only at ha hz1 hz2 hz3
      have e : doneP 9 ⟨⟨k1, cap, wd, rt, f, t, i0, i1, i2, i3⟩, row, ⟨z0, z1, z2, z3⟩⟩ ⟨c0, c1, c2, c3⟩ = (⟨⟨k1, cap, wd, rt, f, t, i0, i1, i2, i3⟩, row, ⟨z0, z1, z2, z3⟩⟩, (0, .one z0), false, true) := by simp [doneP, hkd]
      rw [e]
      simp only
      rw [hset]
      exact rdo_get9 sc i k c0 c1 c2 c3 cn k1 cap wd rt f t i0 i1 i2 i3 z0 z1 z2 z3 row h hn hrw hi hk hx hk1 hr
    have hn4 := hk1
    clear hk1
    have e : doneP 9 ⟨⟨k1, cap, wd, rt, f, t, i0, i1, i2, i3⟩, row, ⟨z0, z1, z2, z3⟩⟩ ⟨c0, c1, c2, c3⟩ = (⟨⟨k1, cap, wd, rt, f, t, i0, i1, i2, i3⟩, row, ⟨z0, z1, z2, z3⟩⟩, (12, v0), false, false) := by simp [doneP, IT.kind, kindP, hr, hn4]
    rw [e]
    simp only
    rw [hset]
    exact rdo_no9 sc i k c0 c1 c2 c3 cn k1 cap wd rt f t i0 i1 i2 i3 z0 z1 z2 z3 row h hn hrw hi hk hx hr hn4
theorem rdo_k16 (sc i : Nat) (k c0 c1 c2 c3 cn k1 cap wd rt f t i0 i1 i2 i3 z0 z1 z2 z3 : Int) (row : List V4) (h : SRel w sa rs) (hn : rs.length ≤ 1000) (hrw : ∀ r ∈ rs, r.x.row.length ≤ 64) (hi : i < rs.length) (hk : plainP k = 16)
    (hx : rs[i].x = ⟨⟨k1, cap, wd, rt, f, t, i0, i1, i2, i3⟩, row, ⟨z0, z1, z2, z3⟩⟩) (hok : IOk ⟨⟨k1, cap, wd, rt, f, t, i0, i1, i2, i3⟩, row, ⟨z0, z1, z2, z3⟩⟩) (hc : 0 ≤ c0 ∧ c0 ≤ 4294967295) :
    Calls Try.prog 11 #[.slice sa rs.length sc, .agg (caV k i c0 c1 c2 c3 cn)] w fun e w' => Upd [] w w' ∧ SOut ((rs.map (·.x)).set i (doneP 16 ⟨⟨k1, cap, wd, rt, f, t, i0, i1, i2, i3⟩, row, ⟨z0, z1, z2, z3⟩⟩ ⟨c0, c1, c2, c3⟩).1) (doneP 16 ⟨⟨k1, cap, wd, rt, f, t, i0, i1, i2, i3⟩, row, ⟨z0, z1, z2, z3⟩⟩ ⟨c0, c1, c2, c3⟩).2.1 e w' := by
  have hset : (rs.map (·.x)).set i ⟨⟨k1, cap, wd, rt, f, t, i0, i1, i2, i3⟩, row, ⟨z0, z1, z2, z3⟩⟩ = rs.map (·.x) := by rw [← hx]; exact set_self rs i hi
  cases hr : rightB k1 cap wd rt with
  | false =>
    have e : doneP 16 ⟨⟨k1, cap, wd, rt, f, t, i0, i1, i2, i3⟩, row, ⟨z0, z1, z2, z3⟩⟩ ⟨c0, c1, c2, c3⟩ = (⟨⟨k1, cap, wd, rt, f, t, i0, i1, i2, i3⟩, row, ⟨z0, z1, z2, z3⟩⟩, (12, v0), false, false) := by simp [doneP, IT.kind, kindP, hr]
    rw [e]
    simp only
    rw [hset]
    exact rdo_nr16 sc i k c0 c1 c2 c3 cn k1 cap wd rt f t i0 i1 i2 i3 z0 z1 z2 z3 row h hn hrw hi hk hx hr
  | true =>
    by_cases hk1 : k1 = 4
    · have hkd : IT.kind ⟨⟨k1, cap, wd, rt, f, t, i0, i1, i2, i3⟩, row, ⟨z0, z1, z2, z3⟩⟩ = 4 := by simpa [IT.kind, kindP, hr] using hk1
      obtain ⟨ha, hz1, hz2, hz3⟩ := hok hkd
      simp only at ha hz1 hz2 hz3
      cases hh : holdsB 4 z0 c0 with
      | true =>
        have e : doneP 16 ⟨⟨k1, cap, wd, rt, f, t, i0, i1, i2, i3⟩, row, ⟨z0, z1, z2, z3⟩⟩ ⟨c0, c1, c2, c3⟩ = (⟨⟨k1, cap, wd, rt, f, t, i0, i1, i2, i3⟩, row, ⟨z0, z1, z2, z3⟩⟩, (0, .one z0), false, true) := by simp [doneP, hkd, hh]
        rw [e]
        simp only
        rw [hset]
        exact rdo_wait16true sc i k c0 c1 c2 c3 cn k1 cap wd rt f t i0 i1 i2 i3 z0 z1 z2 z3 row h hn hrw hi hk hx hk1 hr ha hc hh
      | false =>
        have e : doneP 16 ⟨⟨k1, cap, wd, rt, f, t, i0, i1, i2, i3⟩, row, ⟨z0, z1, z2, z3⟩⟩ ⟨c0, c1, c2, c3⟩ = (⟨⟨k1, cap, wd, rt, f, t, i0, i1, i2, i3⟩, row, ⟨z0, z1, z2, z3⟩⟩, (7, v0), false, true) := by simp [doneP, hkd, hh]
        rw [e]
        simp only
        rw [hset]
        exact rdo_wait16false sc i k c0 c1 c2 c3 cn k1 cap wd rt f t i0 i1 i2 i3 z0 z1 z2 z3 row h hn hrw hi hk hx hk1 hr ha hc hh
    have hn4 := hk1
    clear hk1
    have e : doneP 16 ⟨⟨k1, cap, wd, rt, f, t, i0, i1, i2, i3⟩, row, ⟨z0, z1, z2, z3⟩⟩ ⟨c0, c1, c2, c3⟩ = (⟨⟨k1, cap, wd, rt, f, t, i0, i1, i2, i3⟩, row, ⟨z0, z1, z2, z3⟩⟩, (12, v0), false, false) := by simp [doneP, IT.kind, kindP, hr, hn4]
    rw [e]
    simp only
    rw [hset]
    exact rdo_no16 sc i k c0 c1 c2 c3 cn k1 cap wd rt f t i0 i1 i2 i3 z0 z1 z2 z3 row h hn hrw hi hk hx hr hn4
theorem rdo_k17 (sc i : Nat) (k c0 c1 c2 c3 cn k1 cap wd rt f t i0 i1 i2 i3 z0 z1 z2 z3 : Int) (row : List V4) (h : SRel w sa rs) (hn : rs.length ≤ 1000) (hrw : ∀ r ∈ rs, r.x.row.length ≤ 64) (hi : i < rs.length) (hk : plainP k = 17)
    (hx : rs[i].x = ⟨⟨k1, cap, wd, rt, f, t, i0, i1, i2, i3⟩, row, ⟨z0, z1, z2, z3⟩⟩) (hok : IOk ⟨⟨k1, cap, wd, rt, f, t, i0, i1, i2, i3⟩, row, ⟨z0, z1, z2, z3⟩⟩) (hc : 0 ≤ c0 ∧ c0 ≤ 4294967295) :
    Calls Try.prog 11 #[.slice sa rs.length sc, .agg (caV k i c0 c1 c2 c3 cn)] w fun e w' => Upd [] w w' ∧ SOut ((rs.map (·.x)).set i (doneP 17 ⟨⟨k1, cap, wd, rt, f, t, i0, i1, i2, i3⟩, row, ⟨z0, z1, z2, z3⟩⟩ ⟨c0, c1, c2, c3⟩).1) (doneP 17 ⟨⟨k1, cap, wd, rt, f, t, i0, i1, i2, i3⟩, row, ⟨z0, z1, z2, z3⟩⟩ ⟨c0, c1, c2, c3⟩).2.1 e w' := by
  have hset : (rs.map (·.x)).set i ⟨⟨k1, cap, wd, rt, f, t, i0, i1, i2, i3⟩, row, ⟨z0, z1, z2, z3⟩⟩ = rs.map (·.x) := by rw [← hx]; exact set_self rs i hi
  cases hr : rightB k1 cap wd rt with
  | false =>
    have e : doneP 17 ⟨⟨k1, cap, wd, rt, f, t, i0, i1, i2, i3⟩, row, ⟨z0, z1, z2, z3⟩⟩ ⟨c0, c1, c2, c3⟩ = (⟨⟨k1, cap, wd, rt, f, t, i0, i1, i2, i3⟩, row, ⟨z0, z1, z2, z3⟩⟩, (12, v0), false, false) := by simp [doneP, IT.kind, kindP, hr]
    rw [e]
    simp only
    rw [hset]
    exact rdo_nr17 sc i k c0 c1 c2 c3 cn k1 cap wd rt f t i0 i1 i2 i3 z0 z1 z2 z3 row h hn hrw hi hk hx hr
  | true =>
    by_cases hk1 : k1 = 4
    · have hkd : IT.kind ⟨⟨k1, cap, wd, rt, f, t, i0, i1, i2, i3⟩, row, ⟨z0, z1, z2, z3⟩⟩ = 4 := by simpa [IT.kind, kindP, hr] using hk1
      obtain ⟨ha, hz1, hz2, hz3⟩ := hok hkd
      simp only at ha hz1 hz2 hz3
      cases hh : holdsB 5 z0 c0 with
      | true =>
        have e : doneP 17 ⟨⟨k1, cap, wd, rt, f, t, i0, i1, i2, i3⟩, row, ⟨z0, z1, z2, z3⟩⟩ ⟨c0, c1, c2, c3⟩ = (⟨⟨k1, cap, wd, rt, f, t, i0, i1, i2, i3⟩, row, ⟨z0, z1, z2, z3⟩⟩, (0, .one z0), false, true) := by simp [doneP, hkd, hh]
        rw [e]
        simp only
        rw [hset]
        exact rdo_wait17true sc i k c0 c1 c2 c3 cn k1 cap wd rt f t i0 i1 i2 i3 z0 z1 z2 z3 row h hn hrw hi hk hx hk1 hr ha hc hh
      | false =>
        have e : doneP 17 ⟨⟨k1, cap, wd, rt, f, t, i0, i1, i2, i3⟩, row, ⟨z0, z1, z2, z3⟩⟩ ⟨c0, c1, c2, c3⟩ = (⟨⟨k1, cap, wd, rt, f, t, i0, i1, i2, i3⟩, row, ⟨z0, z1, z2, z3⟩⟩, (7, v0), false, true) := by simp [doneP, hkd, hh]
        rw [e]
        simp only
        rw [hset]
        exact rdo_wait17false sc i k c0 c1 c2 c3 cn k1 cap wd rt f t i0 i1 i2 i3 z0 z1 z2 z3 row h hn hrw hi hk hx hk1 hr ha hc hh
    have hn4 := hk1
    clear hk1
    have e : doneP 17 ⟨⟨k1, cap, wd, rt, f, t, i0, i1, i2, i3⟩, row, ⟨z0, z1, z2, z3⟩⟩ ⟨c0, c1, c2, c3⟩ = (⟨⟨k1, cap, wd, rt, f, t, i0, i1, i2, i3⟩, row, ⟨z0, z1, z2, z3⟩⟩, (12, v0), false, false) := by simp [doneP, IT.kind, kindP, hr, hn4]
    rw [e]
    simp only
    rw [hset]
    exact rdo_no17 sc i k c0 c1 c2 c3 cn k1 cap wd rt f t i0 i1 i2 i3 z0 z1 z2 z3 row h hn hrw hi hk hx hr hn4
theorem rdo_c (sc : Nat) (k o cn : Int) (c : V4) (h : SRel w sa rs) (hn : rs.length ≤ 1000) (hr : ∀ r ∈ rs, r.x.row.length ≤ 64) (hok : ∀ r ∈ rs, IOk r.x) (hc : 0 ≤ c.a ∧ c.a ≤ 4294967295) :
    Calls Try.prog 11 #[.slice sa rs.length sc, .agg (caV k o c.a c.b c.c c.d cn)] w fun e w' => Upd [] w w' ∧ SOut (doR (rs.map (·.x)) k o c).1 (doR (rs.map (·.x)) k o c).2 e w' := by
  unfold doR
  by_cases hp : (1 ≤ plainP k ∧ plainP k ≤ 9) ∨ plainP k = 16 ∨ plainP k = 17
  · rw [if_pos hp]
    by_cases ho : 0 ≤ o ∧ o < (rs.map (·.x)).length
    · rw [if_pos ho]
      obtain ⟨i, rfl⟩ : ∃ i : Nat, o = i := ⟨o.toNat, by omega⟩
      have hi : i < rs.length := by have := ho.2; simp at this; omega
      rw [Int.toNat_natCast, List.getElem?_map, List.getElem?_eq_getElem hi, Option.map_some]
      simp only
      have hoi := hok rs[i] (List.getElem_mem hi)
      generalize hz : rs[i].x = z at hoi ⊢
      obtain ⟨⟨k1, cap, wd, rt, f, t, i0, i1, i2, i3⟩, row, ⟨z0, z1, z2, z3⟩⟩ := z
      obtain ⟨c0, c1, c2, c3⟩ := c
      simp only at hc ⊢
      have hp2 : plainP k = 1 ∨ plainP k = 2 ∨ plainP k = 3 ∨ plainP k = 4 ∨ plainP k = 5 ∨ plainP k = 6 ∨ plainP k = 7 ∨ plainP k = 8 ∨ plainP k = 9 ∨ plainP k = 16 ∨ plainP k = 17 := by omega
      rcases hp2 with e | e | e | e | e | e | e | e | e | e | e <;> rw [e]
      · exact rdo_k1 sc i k c0 c1 c2 c3 cn k1 cap wd rt f t i0 i1 i2 i3 z0 z1 z2 z3 row h hn hr hi e hz hoi hc
      · exact rdo_k2 sc i k c0 c1 c2 c3 cn k1 cap wd rt f t i0 i1 i2 i3 z0 z1 z2 z3 row h hn hr hi e hz hoi hc
      · exact rdo_k3 sc i k c0 c1 c2 c3 cn k1 cap wd rt f t i0 i1 i2 i3 z0 z1 z2 z3 row h hn hr hi e hz hoi hc
      · exact rdo_k4 sc i k c0 c1 c2 c3 cn k1 cap wd rt f t i0 i1 i2 i3 z0 z1 z2 z3 row h hn hr hi e hz hoi hc
      · exact rdo_k5 sc i k c0 c1 c2 c3 cn k1 cap wd rt f t i0 i1 i2 i3 z0 z1 z2 z3 row h hn hr hi e hz hoi hc
      · exact rdo_k6 sc i k c0 c1 c2 c3 cn k1 cap wd rt f t i0 i1 i2 i3 z0 z1 z2 z3 row h hn hr hi e hz hoi hc
      · exact rdo_k7 sc i k c0 c1 c2 c3 cn k1 cap wd rt f t i0 i1 i2 i3 z0 z1 z2 z3 row h hn hr hi e hz hoi hc
      · exact rdo_k8 sc i k c0 c1 c2 c3 cn k1 cap wd rt f t i0 i1 i2 i3 z0 z1 z2 z3 row h hn hr hi e hz hoi hc
      · exact rdo_k9 sc i k c0 c1 c2 c3 cn k1 cap wd rt f t i0 i1 i2 i3 z0 z1 z2 z3 row h hn hr hi e hz hoi hc
      · exact rdo_k16 sc i k c0 c1 c2 c3 cn k1 cap wd rt f t i0 i1 i2 i3 z0 z1 z2 z3 row h hn hr hi e hz hoi hc
      · exact rdo_k17 sc i k c0 c1 c2 c3 cn k1 cap wd rt f t i0 i1 i2 i3 z0 z1 z2 z3 row h hn hr hi e hz hoi hc
    · rw [if_neg ho]
      refine (rdo_missing sa rs.length sc k o c.a c.b c.c c.d cn w hp (by simp at ho; omega)).mono fun e w' he => ⟨he.2, sa, sc, rs, ?_, h.upd he.2, rfl⟩
      rw [he.1]
      simp [resV, v0]
  · rw [if_neg hp]
    refine (rdo_bad sa rs.length sc k o c.a c.b c.c c.d cn w hp).mono fun e w' he => ⟨he.2, sa, sc, rs, ?_, h.upd he.2, rfl⟩
    rw [he.1]
    simp [resV, v0]
end
/-! The invariants stay. -/
theorem itemP_ok (x : OBJ) (h : 0 ≤ x.i0 ∧ x.i0 ≤ 4294967295) : IOk (itemP x) := by
  intro hk
  unfold IT.kind at hk
  have hk4 : kindP x.k x.cap x.wd x.rt = 4 := hk
  unfold itemP
  simp [hk4]
  omega
theorem doneP_ok (kind : Int) (x : IT) (c : V4) (h : IOk x) (hc : 0 ≤ c.a ∧ c.a ≤ 4294967295) : IOk (doneP kind x c).1 := by
  have ho := doneP_o kind x c
  intro hk
  have hk4 : x.kind = 4 := by unfold IT.kind at hk ⊢; rw [← ho]; exact hk
  obtain ⟨ha, hb, hcc, hd⟩ := h hk4
  have b1 : 0 ≤ bits .or .u32 x.v.a c.a ∧ bits .or .u32 x.v.a c.a ≤ 4294967295 := by rw [or_word ha.1 ha.2 hc.1 hc.2]; exact wordop_bounds _ _ _
  have b2 : 0 ≤ bits .andNot .u32 x.v.a c.a ∧ bits .andNot .u32 x.v.a c.a ≤ 4294967295 := by rw [andNot_word ha.1 ha.2 hc.1 hc.2]; exact wordop_bounds _ _ _
  unfold doneP
  simp only [hk4]
  (repeat' split) <;> first | exact ⟨ha, hb, hcc, hd⟩ | exact ⟨b1, rfl, rfl, rfl⟩ | exact ⟨b2, rfl, rfl, rfl⟩ | (simp_all; done)
theorem doR_ok (s : List IT) (k o : Int) (c : V4) (h : ∀ x ∈ s, IOk x) (hc : 0 ≤ c.a ∧ c.a ≤ 4294967295) : ∀ x ∈ (doR s k o c).1, IOk x := by
  unfold doR
  split
  · split
    · split
      · rename_i x hx
        intro y hy
        rcases List.mem_or_eq_of_mem_set hy with h1 | h1
        · exact h y h1
        · rw [h1]
          exact doneP_ok _ _ _ (h x (List.mem_of_getElem? hx)) hc
      · exact h
    · exact h
  · exact h
end Go.Proofs.Ytdbgnnkbcebpcaa
