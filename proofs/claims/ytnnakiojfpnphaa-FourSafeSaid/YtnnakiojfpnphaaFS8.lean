/- The document's site: which cells a register of four slots has. -/
import Derived.Test.YtnnakiojfpnphaaFS7
import Derived.Test.YtnnakiojfpnphaaCF3
import Derived.Test.YtnnakiojfpnphaaFlat
import Derived.Test.YtnnakiojfpnphaaEqs
import Derived.Test.YtnnakiojfpnphaaApp
import Derived.Deep.LoopGhost
set_option linter.unusedVariables false
set_option linter.unusedSimpArgs false
namespace Go.Proofs.Ytnnakiojfpnphaa
open Go.RowKit
def tri (x : Int × Int × Int) : List Value := [.int .i64 x.1, .int .i64 x.2.1, .int .i64 x.2.2]
theorem tri_len (x : Int × Int × Int) : (tri x).length = 3 := rfl
def rowP (i : Nat) (w : Nat) : List (Int × Int × Int) := (List.range w).map fun (k : Nat) => ((3 : Int), (i : Int), (k : Int))
def rowsP (wd : Nat) : Nat → List (Int × Int × Int)
  | 0 => []
  | i + 1 => rowsP wd i ++ rowP i wd
def parts4 (wd : Nat) : List (Int × Int × Int) := [(4, 0, 0), (5, 0, 0), (6, 0, 0), (6, 1, 0)] ++ rowsP wd 4
theorem rowP_succ (i w : Nat) : rowP i (w + 1) = rowP i w ++ [(3, (i : Int), (w : Int))] := by simp [rowP, List.range_succ]
theorem rowP_len (i w : Nat) : (rowP i w).length = w := by simp [rowP]
theorem rowsP_len (wd : Nat) : ∀ i, (rowsP wd i).length = i * wd
  | 0 => by simp [rowsP]
  | i + 1 => by rw [rowsP, List.length_append, rowsP_len wd i, rowP_len, Nat.add_mul, Nat.one_mul]
theorem parts4_len (wd : Nat) : (parts4 wd).length = 4 + 4 * wd := by
  unfold parts4
  rw [List.length_append, rowsP_len]
  rfl
theorem info_part : (Try.prog.info? 108).map (fun i => (i.zero, i.size, i.bytes)) = some (some (.agg #[.int .i64 0, .int .i64 0, .int .i64 0]), 3, 24) := by kernel_rfl
set_option maxRecDepth 100000 in
set_option maxHeartbeats 4000000 in
theorem parts4_c (wd : Nat) (W : World) (hw : 1 ≤ wd ∧ wd ≤ 4) : Calls Try.prog 52 #[.agg #[.int .i64 2, .int .i64 0, .int .i64 wd, .int .i64 0, .int .i64 0, .int .i64 0, .int .u32 0, .int .u32 0, .int .u32 0, .int .u32 0]] W fun e w' => Upd [] W w' ∧ ∃ va vc, e = .returned (.slice va (parts4 wd).length vc) ∧ Els w' va 3 ((parts4 wd).map tri) := by
  have HR := Lib.hid fun w => rright_any 0 (wd : Int) 0 0 0 0 0 0 0 (w := w) 2
  rw [right4 (wd : Int) (by omega)] at HR
  unfold obA at HR
  obtain ⟨ip, hip, hz0, hz1, hz2⟩ := info_parts info_part
  have HI := Lib.hid (And.intro hip (And.intro hz0 (And.intro hz1 hz2)))
  have HW := Lib.hid hw
  clear hip hz0 hz1 hz2 hw
  go_enter Try.func52, Try.ntmps52
  go_wp2_with (first
    | (go_at_call 70; (with_reducible refine (HR.out _).mono ?_); rintro e w1 ⟨rfl, hu1⟩; obtain ⟨p1, rfl⟩ := hu1.grown; clear hu1)
    | (at_builtin; refine Go.RowKit.Hid.out ?_))
  refine Lib.hid ?_
  refine wpList_append_reads rfl _ _ 104 rfl (W.heap.size + 1) 108 ip _ 3 24 Try.underlying104 HI.out.1 HI.out.2.1 HI.out.2.2.1 HI.out.2.2.2 rfl (by decide) _ 0 [] rfl own_none _ 4 4 ([(4, 0, 0), (5, 0, 0), (6, 0, 0), (6, 1, 0)].flatMap tri) rfl rfl
    (fun _ => ⟨W.heap.size + 1 + p1.os.size, 0, rfl, fun j u hj => by rw [Nat.zero_add]; exact cell_of_list (heap_alloc_at _ (by simp)) _ _ hj⟩) (fun h => by cases h) (fun u hu => by simp [tri] at hu; rcases hu with rfl | rfl | rfl | rfl | rfl | rfl | rfl | rfl | rfl | rfl | rfl | rfl <;> rfl) (by simp [maxLen]) (by simp) ?base ?_
  case base => simp; omega
  intro v' w' ho' hg'
  have HO := Lib.hid ho'
  have HU := Lib.hid (show Upd [] W w' by
    refine Upd.trans ?_ (show Upd [] _ w' from upd_grown hg')
    repeat (first | (with_reducible exact Upd.refl _ _) | (with_reducible apply Upd.drew) | (with_reducible refine Upd.grE ?_ _) | (with_reducible refine Upd.alloc ?_ _)))
  have HB := Lib.hid (show w'.heap[W.heap.size]? = some (.cells #[.int .i64 2, .int .i64 0, .int .i64 wd, .int .i64 0, .int .i64 0, .int .i64 0, .int .u32 0, .int .u32 0, .int .u32 0, .int .u32 0] 56 (0, 0)) by
    rw [hg'.block _ (by simp) (by intro e; cases e)]
    repeat (first | ((with_reducible refine heap_alloc_at _ ?_); (first | rfl | (simp; done))) | (with_reducible apply heap_drewE) | (with_reducible apply heap_grE) | (with_reducible apply heap_alloc')))
  clear ho' hg'
  go_wp2
  go_loopg [3, 5] 4 (fun n s3 s5 wr => ∃ i : Nat, n + i = 4 ∧ s5 = .int .i64 i ∧ wr.ownsRow (W.heap.size + 1) 108 3 s3 (4 + i * wd) (([(4, 0, 0), (5, 0, 0), (6, 0, 0), (6, 1, 0)] ++ rowsP wd i).flatMap tri) ∧ wr.heap[W.heap.size]? = some (.cells #[.int .i64 2, .int .i64 0, .int .i64 wd, .int .i64 0, .int .i64 0, .int .i64 0, .int .u32 0, .int .u32 0, .int .u32 0, .int .u32 0] 56 (0, 0)) ∧ Upd [] W wr)
  case atStart => exact ⟨0, by omega, rfl, by simpa [rowsP] using HO.out, HB.out, HU.out⟩
  case round =>
    obtain ⟨i, hi, rfl, ho, hb, hu⟩ := hrel
    have HI2 := Lib.hid hi
    have HO2 := Lib.hid ho
    have HB2 := Lib.hid hb
    have HU2 := Lib.hid hu
    clear hi ho hb hu
    by_cases hlt : i < 4
    · have HLT := Lib.hid hlt
      have i2 : (i : Int) < 4 := by omega
      have HWI := Lib.hid (show wrap64 ((i : Int) + 1) = ((i + 1 : Nat) : Int) from wrap_next (l := 4) (by omega) hlt)
      clear hlt
      go_wp2
      go_loopg [3, 6] wd (fun n s3 s6 wr => ∃ k : Nat, n + k = wd ∧ s6 = .int .i64 k ∧ wr.ownsRow (W.heap.size + 1) 108 3 s3 (4 + i * wd + k) (([(4, 0, 0), (5, 0, 0), (6, 0, 0), (6, 1, 0)] ++ rowsP wd i ++ rowP i k).flatMap tri) ∧ wr.heap[W.heap.size]? = some (.cells #[.int .i64 2, .int .i64 0, .int .i64 wd, .int .i64 0, .int .i64 0, .int .i64 0, .int .u32 0, .int .u32 0, .int .u32 0, .int .u32 0] 56 (0, 0)) ∧ Upd [] W wr)
      case atStart => exact ⟨0, by omega, rfl, by simpa [rowP] using HO2.out, HB2.out, HU2.out⟩
      case round =>
        obtain ⟨k, hk, rfl, ho, hb, hu⟩ := hrel
        have HK := Lib.hid hk
        have HO3 := Lib.hid ho
        have HB3 := Lib.hid hb
        have HU3 := Lib.hid hu
        obtain ⟨c0, c1, c2, -, -, -, -, -, -, -⟩ := cells10p hb
        have hlb := heap_lt hb
        clear hk ho hb hu
        by_cases hlk : k < wd
        · have HLK := Lib.hid hlk
          have k2 : (k : Int) < (wd : Int) := by omega
          have HWK := Lib.hid (show wrap64 ((k : Int) + 1) = ((k + 1 : Nat) : Int) from wrap_next (l := wd) (by have := HW.out; omega) hlk)
          clear hlk
          go_wp2_with (at_builtin; refine Go.RowKit.Hid.out ?_)
          refine Lib.hid ?_
          refine wpList_push rfl _ _ 104 rfl 108 ip _ 3 24 Try.underlying104 HI.out.1 HI.out.2.1 HI.out.2.2.1 HI.out.2.2.2 rfl (by decide) W wr (W.heap.size + 1) _ (4 + i * wd + k) _ rfl HO3.out ?hur HU3.out (by omega) (by have := heap_lt HB3.out; omega)
            _ (tri (3, i, k)) 108 (0, 0) rfl rfl ?hg (fun u hu => by simp [tri] at hu; rcases hu with rfl | rfl | rfl <;> rfl) ?hn (by decide) ?_
          case hur => repeat (first | (with_reducible exact Upd.refl _ _) | (with_reducible refine Upd.alloc ?_ _))
          case hg => exact heap_alloc_at _ rfl
          case hn =>
            have h1 := HW.out
            have h2 := HLT.out
            have h3 := HLK.out
            have h4 : i * wd ≤ 4 * 4 := Nat.mul_le_mul (by omega) h1.2
            omega
          intro v4 w4 ho4 hu4 hk4
          have hb4 := hk4 _ _ (by omega) (heap_alloc' HB3.out)
          have HO4 := Lib.hid ho4
          have HU4 := Lib.hid hu4
          have HB4 := Lib.hid hb4
          clear ho4 hu4 hk4 hb4
          go_wp2
          go_roundg (wd - (k + 1))
          case rel => exact ⟨k + 1, by have := HLK.out; omega, by first | (rw [HWK.out]; done) | (simp; done), by rw [rowP_succ, ← List.append_assoc, List.flatMap_append, ← Nat.add_assoc]; simpa using HO4.out, HB4.out, HU4.out⟩
          case measure => have := HLK.out; have := HK.out; omega
        · obtain rfl : k = wd := by have := HK.out; omega
          clear hlk
          go_wp2
          go_roundg (4 - (i + 1))
          case rel => exact ⟨i + 1, by have := HLT.out; omega, by first | (rw [HWI.out]; done) | (simp; done), by rw [rowsP, ← List.append_assoc, Nat.add_mul, Nat.one_mul, ← Nat.add_assoc]; exact HO3.out, HB3.out, HU3.out⟩
          case measure => have := HLT.out; have := HI2.out; omega
    · obtain rfl : i = 4 := by have := HI2.out; omega
      clear hlt
      go_wp2
      go_ret
      obtain ⟨a, c, e, _, he⟩ := flat_own tri tri_len HO2.out (by rw [List.length_append, rowsP_len]; rfl)
      refine ⟨HU2.out, a, c, ?_, he⟩
      rw [e]
      rfl
end Go.Proofs.Ytnnakiojfpnphaa
