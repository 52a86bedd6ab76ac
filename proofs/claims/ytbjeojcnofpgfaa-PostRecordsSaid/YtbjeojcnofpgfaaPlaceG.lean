/- Package site: a place in a row of one, of whatever kind. -/
import Derived.Test.YtbjeojcnofpgfaaSiteG
set_option linter.unusedVariables false
set_option linter.unusedSimpArgs false
namespace Go.Proofs.Ytbjeojcnofpgfaa
open Go.RowKit

structure PlaceG (kind cap wd retry : Int) (w : World) (q : Nat) : Prop where
  lt : q < w.heap.size
  c0 : w.cell? ⟨q, 0, none⟩ = some (.int .i64 kind)
  c1 : w.cell? ⟨q, 1, none⟩ = some (.int .i64 0)
  c2 : w.cell? ⟨q, 2, none⟩ = some (.int .i64 cap)
  c3 : w.cell? ⟨q, 3, none⟩ = some (.int .i64 wd)
  c4 : w.cell? ⟨q, 4, none⟩ = some (.int .i64 retry)
theorem PlaceG.keep {kind cap wd retry : Int} {w w' : World} {q : Nat} (h : PlaceG kind cap wd retry w q) {S : List Nat} (hu : Upd S w w') (hq : q ∉ S) : PlaceG kind cap wd retry w' q :=
  ⟨Nat.lt_of_lt_of_le h.lt hu.size, (hu.cell (p := ⟨q, 0, none⟩) h.lt hq).trans h.c0, (hu.cell (p := ⟨q, 1, none⟩) h.lt hq).trans h.c1, (hu.cell (p := ⟨q, 2, none⟩) h.lt hq).trans h.c2, (hu.cell (p := ⟨q, 3, none⟩) h.lt hq).trans h.c3, (hu.cell (p := ⟨q, 4, none⟩) h.lt hq).trans h.c4⟩
theorem own_placeG {kind cap wd retry : Int} {w : World} {base : Nat} {v : Value} (h : w.ownsRow base 66 5 v 1 (placeC kind 0 cap wd retry)) : ∃ q c, v = .slice (some ⟨q, 0, none⟩) 1 c ∧ base ≤ q ∧ PlaceG kind cap wd retry w q := by
  obtain ⟨q, c, rfl, hb, hq⟩ := own_some h (by omega)
  obtain ⟨a, cap', e, _, hc⟩ := own_shape h
  obtain ⟨q', off, e', _, hc'⟩ := hc (by omega)
  cases e
  simp at e'
  obtain ⟨rfl, rfl⟩ := e'
  exact ⟨q, c, rfl, hb, hq, hc' 0 _ rfl, hc' 1 _ rfl, hc' 2 _ rfl, hc' 3 _ rfl, hc' 4 _ rfl⟩
def RAt (w : World) (r : Nat) (f v : Int) : Prop := w.heap[r]? = some (.cells #[.int .i64 f, .int .u32 v, .int .u32 0, .int .u32 0, .int .u32 0] 39 (0, 0))
theorem RAt.keep {w w' : World} {r : Nat} {f v : Int} (h : RAt w r f v) {S : List Nat} (hu : Upd S w w') (hr : r ∉ S) : RAt w' r f v := hu.keepb h hr
end Go.Proofs.Ytbjeojcnofpgfaa
