/- Package conf: whose an object's ends are. -/
import Derived.Test.YtnnakiojfpnphaaCF4
set_option linter.unusedVariables false
set_option linter.unusedSimpArgs false
namespace Go.Proofs.Ytnnakiojfpnphaa
open Go.RowKit


def oneB (tn ln : Nat) (ctx : Int) (is : Bool) : Bool := if is then hasB tn ln ctx else ctx == 0
def ownB (tn ln : Nat) (k f t : Int) : Bool := oneB tn ln f (k != 4) && oneB tn ln t (k == 1 || k == 2)
theorem cells4 {w : World} {k : Nat} {a b c d : Value} {t : TypeId} {fr : Nat × Nat} (hh : w.heap[k]? = some (.cells #[a, b, c, d] t fr)) :
    w.cell? ⟨k, 0, none⟩ = some a ∧ w.cell? ⟨k, 1, none⟩ = some b ∧ w.cell? ⟨k, 2, none⟩ = some c ∧ w.cell? ⟨k, 3, none⟩ = some d :=
  ⟨by rw [cell_of_heap hh]; rfl, by rw [cell_of_heap hh]; rfl, by rw [cell_of_heap hh]; rfl, by rw [cell_of_heap hh]; rfl⟩
theorem cells10' {w : World} {k : Nat} {a b c d e f g h i j : Value} {t : TypeId} {fr : Nat × Nat} (hh : w.heap[k]? = some (.cells #[a, b, c, d, e, f, g, h, i, j] t fr)) :
    w.cell? ⟨k, 0, none⟩ = some a ∧ w.cell? ⟨k, 1, none⟩ = some b ∧ w.cell? ⟨k, 2, none⟩ = some c ∧ w.cell? ⟨k, 3, none⟩ = some d ∧ w.cell? ⟨k, 4, none⟩ = some e ∧ w.cell? ⟨k, 5, none⟩ = some f :=
  ⟨by rw [cell_of_heap hh]; rfl, by rw [cell_of_heap hh]; rfl, by rw [cell_of_heap hh]; rfl, by rw [cell_of_heap hh]; rfl, by rw [cell_of_heap hh]; rfl, by rw [cell_of_heap hh]; rfl⟩
section
variable (ta la oa : Option Addr) (tn tc ln lc on oc : Nat) (tk : Int) (w : World)
end
end Go.Proofs.Ytnnakiojfpnphaa
