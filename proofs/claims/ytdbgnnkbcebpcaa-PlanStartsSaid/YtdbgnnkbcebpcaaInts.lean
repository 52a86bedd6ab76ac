/- Rows of numbers: the document's comparison of two; rows of the call's own, read. -/
import Derived.Test.YtdbgnnkbcebpcaaProg
import Derived.Test.YtdbgnnkbcebpcaaOwn
set_option linter.unusedVariables false
set_option linter.unusedSimpArgs false
namespace Go.Proofs.Ytdbgnnkbcebpcaa
open Go.RowKit

def i64s (xs : List Int) : List Value := xs.map (Value.int .i64)

theorem info_int : (Try.prog.info? 3).map (fun i => (i.zero, i.size, i.bytes)) = some (some (.int .i64 0), 1, 8) := by kernel_rfl

set_option maxRecDepth 100000 in
set_option maxHeartbeats 1000000 in
theorem same_any (a b : Option Addr) (ca cb : Nat) (xs ys : List Int) (w : World) (hx : Reads w a xs.length (i64s xs)) (hy : Reads w b ys.length (i64s ys)) (hlx : xs.length ≤ 9223372036854775807) (hly : ys.length ≤ 9223372036854775807) :
    Calls Try.prog 58 #[.slice a xs.length ca, .slice b ys.length cb] w fun e w' => e = .returned (.bool (decide (xs = ys))) ∧ Upd [] w w' := by
  by_cases hl : xs.length = ys.length
  · have HX := Lib.hid hx
    have HY := Lib.hid hy
    have HL := Lib.hid hl
    have hl2 : ((xs.length : Int) != (ys.length : Int)) = false := by simp; omega
    have hl3 : (xs.length != ys.length) = false := by simpa using hl
    have hl4 : (xs.length == ys.length) = true := by simpa using hl
    have hl5 : ((xs.length : Int) == (ys.length : Int)) = true := by simp; omega
    clear hx hy hl
    go_enter Try.func58, Try.ntmps58
    go_wp2
    go_loopw [5] (fun i wr => ∃ k : Nat, k ≤ xs.length ∧ i = .int .i64 k ∧ Upd [] w wr ∧ ∀ j, j < k → xs[j]? = ys[j]?) (fun i _ => xs.length - (intOf i).toNat)
    case atStart => exact ⟨0, by omega, rfl, Upd.refl _ _, fun j hj => by omega⟩
    case round =>
      obtain ⟨k, hk, rfl, hu, hall⟩ := hrel
      rename_i wr
      have HALL := Lib.hid hall
      clear hall
      by_cases hlt : k < xs.length
      · have hlt2 : k < ys.length := by have := HL.out; omega
        obtain ⟨ab, ao, rfl, hab, hac⟩ := HX.out.2 (by omega)
        obtain ⟨bb, bo, rfl, hbb, hbc⟩ := HY.out.2 (by omega)
        have r1 : wr.cell? ⟨ab, ao + k, none⟩ = some (.int .i64 xs[k]) := by
          rw [hu.cell (p := ⟨ab, ao + k, none⟩) hab (by simp)]
          exact hac k _ (by simp [i64s, List.getElem?_eq_getElem hlt])
        have r2 : wr.cell? ⟨bb, bo + k, none⟩ = some (.int .i64 ys[k]) := by
          rw [hu.cell (p := ⟨bb, bo + k, none⟩) hbb (by simp)]
          exact hbc k _ (by simp [i64s, List.getElem?_eq_getElem hlt2])
        clear hac hbc
        by_cases he : xs[k] = ys[k]
        · have e1 : (xs[k] == ys[k]) = true := by simpa using he
          have e2 : (xs[k] != ys[k]) = false := by simpa using he
          have HE := Lib.hid he
          clear he
          go_wp2
          go_quiet (fail)
          go_wp2
          go_roundw
          case rel =>
            refine ⟨k + 1, by omega, by go_num, hu.drewN _, fun j hj => ?_⟩
            by_cases hjk : j < k
            · exact HALL.out j hjk
            · obtain rfl : j = k := by omega
              rw [List.getElem?_eq_getElem hlt, List.getElem?_eq_getElem hlt2, HE.out]
          case measure => simp [intOf]; omega
        · have e1 : (xs[k] == ys[k]) = false := by simpa using he
          have e2 : (xs[k] != ys[k]) = true := by simpa using he
          have hne : xs ≠ ys := fun e => he (by subst e; rfl)
          clear he
          go_wp2
          go_quiet (fail)
          go_wp2
          go_ret
          exact ⟨by simp [hne], hu.drewN _⟩
      · have heq : xs = ys := by
          apply List.ext_getElem? 
          intro j
          by_cases hj : j < k
          · exact HALL.out j hj
          · have := HL.out
            rw [List.getElem?_eq_none (by omega), List.getElem?_eq_none (by omega)]
        have HEQ := Lib.hid heq
        clear heq
        go_wp2
        go_ret
        exact ⟨by simp [HEQ.out], hu⟩
  · have hne : xs ≠ ys := fun e => hl (by rw [e])
    have hl2 : ((xs.length : Int) != (ys.length : Int)) = true := by simp; omega
    have hl3 : (xs.length != ys.length) = true := by simpa using hl
    have hl4 : (xs.length == ys.length) = false := by simpa using hl
    have hl5 : ((xs.length : Int) == (ys.length : Int)) = false := by simp; omega
    clear hx hy
    go_enter Try.func58, Try.ntmps58
    go_wp2
    go_ret
    exact ⟨by simp [hne], Upd.refl _ _⟩
end Go.Proofs.Ytdbgnnkbcebpcaa
