/- Package site: Of, over any objects. -/
import Derived.Test.YtnnakiojfpnphaaPS1
set_option linter.unusedVariables false
set_option linter.unusedSimpArgs false
namespace Go.Proofs.Ytnnakiojfpnphaa
open Go.RowKit
structure PL where
  k : Int
  a : Int
  cap : Int
  wd : Int
  rt : Int
def PL.cells (p : PL) : List Value := [.int .i64 p.k, .int .i64 p.a, .int .i64 p.cap, .int .i64 p.wd, .int .i64 p.rt]
theorem pl_len (p : PL) : p.cells.length = 5 := rfl
def OBJ.size (o : OBJ) : Int := sizeP o.k o.cap o.wd o.rt
def plOf (n : Int) (o : OBJ) : PL := if rightB o.k o.cap o.wd o.rt = true then ⟨o.k, n, o.cap, o.wd, o.rt⟩ else ⟨0, n, 0, 0, 0⟩
def pls : Int → List OBJ → List PL
  | _, [] => []
  | n, o :: l => plOf n o :: pls (n + o.size) l
def sumS : List OBJ → Int
  | [] => 0
  | o :: l => o.size + sumS l
theorem sumS_snoc (l : List OBJ) (o : OBJ) : sumS (l ++ [o]) = sumS l + o.size := by
  induction l with
  | nil => simp [sumS]
  | cons x l ih => simp only [List.cons_append, sumS, ih]; omega
theorem pls_snoc (n : Int) (l : List OBJ) (o : OBJ) : pls n (l ++ [o]) = pls n l ++ [plOf (n + sumS l) o] := by
  induction l generalizing n with
  | nil => simp [pls, sumS]
  | cons x l ih => simp only [List.cons_append, pls, sumS, ih, Int.add_assoc]
theorem pls_len (n : Int) (l : List OBJ) : (pls n l).length = l.length := by
  induction l generalizing n with
  | nil => rfl
  | cons x l ih => simp [pls, ih]
theorem sumS_bounds (l : List OBJ) : 0 ≤ sumS l ∧ sumS l ≤ 260 * l.length := by
  induction l with
  | nil => simp [sumS]
  | cons x l ih =>
    have h := sizeP_bounds x.k x.cap x.wd x.rt
    simp only [sumS, OBJ.size, List.length_cons]
    omega
theorem info_pl : (Try.prog.info? 27).map (fun i => (i.zero, i.size, i.bytes)) = some (some (.agg #[.int .i64 0, .int .i64 0, .int .i64 0, .int .i64 0, .int .i64 0]), 5, 40) := by kernel_rfl
theorem info_obL (a b c d e f g h i j : Value) : (Try.prog.info? 56).map (·.size) = some ([a, b, c, d, e, f, g, h, i, j] : List Value).length := by kernel_rfl
theorem cells10p {w : World} {k : Nat} {a b c d e f g h i j : Value} {t : TypeId} {fr : Nat × Nat} (hh : w.heap[k]? = some (.cells #[a, b, c, d, e, f, g, h, i, j] t fr)) :
    w.cell? ⟨k, 0, none⟩ = some a ∧ w.cell? ⟨k, 1, none⟩ = some b ∧ w.cell? ⟨k, 2, none⟩ = some c ∧ w.cell? ⟨k, 3, none⟩ = some d ∧ w.cell? ⟨k, 4, none⟩ = some e ∧ w.cell? ⟨k, 5, none⟩ = some f ∧ w.cell? ⟨k, 6, none⟩ = some g ∧ w.cell? ⟨k, 7, none⟩ = some h ∧ w.cell? ⟨k, 8, none⟩ = some i ∧ w.cell? ⟨k, 9, none⟩ = some j :=
  ⟨by rw [cell_of_heap hh]; rfl, by rw [cell_of_heap hh]; rfl, by rw [cell_of_heap hh]; rfl, by rw [cell_of_heap hh]; rfl, by rw [cell_of_heap hh]; rfl, by rw [cell_of_heap hh]; rfl, by rw [cell_of_heap hh]; rfl, by rw [cell_of_heap hh]; rfl, by rw [cell_of_heap hh]; rfl, by rw [cell_of_heap hh]; rfl⟩
set_option maxRecDepth 100000 in
set_option maxHeartbeats 2000000 in
theorem take_c (k cap wd rt f t i0 i1 i2 i3 : Int) (nb : Nat) (n : Int) (hn0 : 0 ≤ n) (hn : n < 1000000) (w : World) {ty : TypeId} (hb : w.heap[nb]? = some (.cells #[.int .i64 n] ty (0, 0))) :
    Calls Try.prog 47 #[.agg #[.int .i64 k, .int .i64 cap, .int .i64 wd, .int .i64 rt, .int .i64 f, .int .i64 t, .int .u32 i0, .int .u32 i1, .int .u32 i2, .int .u32 i3], .pointer (some ⟨nb, 0, none⟩)] w fun e w' => e = .returned (.int .i64 n) ∧ w'.heap[nb]? = some (.cells #[.int .i64 (n + sizeP k cap wd rt)] ty (0, 0)) ∧ Upd [nb] w w' := by
  have HS := Lib.hid fun w => osize_c k cap wd rt f t i0 i1 i2 i3 w
  unfold obA at HS
  have hsb := sizeP_bounds k cap wd rt
  generalize sizeP k cap wd rt = m at *
  have c0 : w.cell? ⟨nb, 0, none⟩ = some (.int .i64 n) := by rw [cell_of_heap hb]; rfl
  have f0 := frozen_of_heap hb 0
  have hl := heap_lt hb
  have HB := Lib.hid hb
  have ne0 : nb ≠ w.heap.size := by omega
  have ne1 : w.heap.size ≠ nb := by omega
  have hwr : IntKind.i64.wrap (n + m) = n + m := by rw [IntKind.wrap_i64]; omega
  clear hb hsb
  go_enter Try.func47, Try.ntmps47
  go_wp2
  go_region_with (first
    | (go_at_call 48; refine (HS.out _).mono ?_; rintro e w2 ⟨rfl, hu2⟩; have HU2 := Lib.hid (show Upd [] w w2 from by first | exact ((Upd.refl _ _).alloc _).trans hu2 | exact ((Upd.refl _ _).alloc _).drew.trans hu2 | exact (((Upd.refl _ _).alloc _).drewN _).trans hu2); clear hu2; have c0' := (HU2.out.cell (p := ⟨nb, 0, none⟩) hl (by simp)).trans c0; have f0' := (HU2.out.frozen (p := ⟨nb, 0, none⟩) hl (by simp)).trans f0))
  all_goals
    go_wp2
    go_ret
    have hS : Upd [nb] w2 (w2.setCell ⟨nb, 0, none⟩ (.int .i64 (n + m))) := (Upd.refl _ _).setCell (by simp) _
    refine ⟨rfl, ?_, ((HU2.out.mono (by simp)).trans hS)⟩
    exact heap_set (HU2.out.keepb HB.out (by simp)) 0 _
end Go.Proofs.Ytnnakiojfpnphaa
