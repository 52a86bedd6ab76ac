/- Package spec: a state (a slice of items) as it can be read. -/
import Derived.Test.YtdbgnnkbcebpcaaSP7
set_option linter.unusedVariables false
set_option linter.unusedSimpArgs false
namespace Go.Proofs.Ytdbgnnkbcebpcaa
open Go.RowKit
/-- An item with where its row lies. -/
structure IL where
  x : IT
  ra : Option Addr
  rc : Nat
def IL.cells (i : IL) : List Value := (i.x.A i.ra i.rc).toList
theorem il_len (i : IL) : i.cells.length = 15 := rfl
structure SRel (w : World) (a : Option Addr) (rs : List IL) : Prop where
  els : Els w a 15 (rs.map IL.cells)
  items : ∀ r ∈ rs, ItemR w r.x r.ra r.rc
theorem SRel.upd {w w' : World} {a : Option Addr} {rs : List IL} (h : SRel w a rs) (hu : Upd [] w w') : SRel w' a rs :=
  ⟨h.els.upd hu (by simp), fun r hr => (h.items r hr).upd hu⟩
theorem il_one (i : IL) : ∀ v ∈ i.cells, v.oneCell' = true := by
  intro v hv
  simp [IL.cells, IT.A, itA] at hv
  rcases hv with rfl | rfl | rfl | rfl | rfl | rfl | rfl | rfl | rfl | rfl | rfl | rfl | rfl | rfl | rfl <;> rfl
end Go.Proofs.Ytdbgnnkbcebpcaa
