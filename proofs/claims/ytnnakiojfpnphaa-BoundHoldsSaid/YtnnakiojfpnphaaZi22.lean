/- The walk, part 22: FS7 FS8. -/
import Derived.Test.YtnnakiojfpnphaaZi21
import Derived.Test.YtnnakiojfpnphaaZi17
import Derived.Test.YtnnakiojfpnphaaZi04
import Derived.Test.YtnnakiojfpnphaaZi02
import Derived.Test.YtnnakiojfpnphaaZi01
import Derived.Test.YtnnakiojfpnphaaZi03
import Derived.Deep.LoopGhost
set_option linter.unusedVariables false
set_option linter.unusedSimpArgs false

namespace Go.Proofs.Ytnnakiojfpnphaa
open Go.RowKit
def rdF (wd : Nat) (r : RdS) : FSt := ⟨r.n, r.p, r.i, 0, 0, 0, 0, 0, r.r 0, r.r 1, r.r 2, r.r 3, true, decide ((r.n : Int) < wd + 3)⟩
def wrF (wd : Nat) (w : WrS) : FSt := ⟨w.n, w.q, w.j, w.v 0, w.v 1, w.v 2, w.v 3, 0, 0, 0, 0, 0, true, decide ((w.n : Int) < wd + 4)⟩
def actV (a : Int × Nat × Int) : Value := .agg #[.int .i64 a.1, .int .i64 a.2.1, .int .u32 a.2.2]
theorem fidx_cast (wd x y k : Nat) : ((fidx wd x y k : Nat) : Int) = 0 + 4 + (2 * (x : Int) + y) * wd + k := by
  unfold fidx
  push_cast
  omega
theorem fidx_cast0 (wd x y : Nat) : ((fidx wd x y 0 : Nat) : Int) = 0 + 4 + (2 * (x : Int) + y) * wd := by
  rw [fidx_cast]
  omega
theorem rd_on {wd : Nat} {r : RdS} (h : r.n < wd + 3) : (rdF wd r).on = true := by
  show decide ((r.n : Int) < wd + 3) = true
  simp; omega
theorem wr_on {wd : Nat} {w : WrS} (h : w.n < wd + 4) : (wrF wd w).on = true := by
  show decide ((w.n : Int) < wd + 4) = true
  simp; omega
section
variable {wd : Nat} {w : World} {b : Nat}
theorem rd_act (r : RdS) (h : FG 0 wd w b 84 (rdF wd r)) (hw : 1 ≤ wd ∧ wd ≤ 4) (hn : r.n < wd + 3) (hp : r.p < 2) (hi : r.i < 2) :
    Calls Try.prog 11 #[.pointer (some ⟨b, 0, none⟩)] w fun e w' => e = .returned (.tuple #[actV (rAct wd r), .bool true]) ∧ Upd [] w w' := by
  have hon := rd_on hn
  obtain ⟨n, p, i, v⟩ := r
  simp only at hn hp hi
  have hW : (1 : Int) ≤ wd ∧ (wd : Int) ≤ 4 := by omega
  have hA : (0 : Int) ≤ 0 ∧ (0 : Int) < 1000000 := by omega
  have hP : (0 : Int) ≤ (p : Int) ∧ (p : Int) ≤ 1 := by omega
  have hI : (0 : Int) ≤ (i : Int) ∧ (i : Int) ≤ 1 := by omega
  have hc : n = 0 ∨ n = 1 ∨ n = 2 ∨ n = 3 ∨ n = 4 ∨ n = 5 ∨ n = 6 := by omega
  rcases hc with rfl | rfl | rfl | rfl | rfl | rfl | rfl
  · exact fr_act0 0 wd h hW hA rfl hon
  · exact fr_act1 0 wd h hW hA rfl hon hP
  · have := fr_act2 0 wd h hW hA rfl hon hP
    have e : (0 : Int) + 2 + (rdF wd ⟨2, p, i, v⟩).p = ((2 + p : Nat) : Int) := by show (0 : Int) + 2 + (p : Int) = _; omega
    rw [e] at this
    exact this
  · have := fr_actd0 0 wd h hW hA rfl hon hP hI (by omega)
    have e := fidx_cast0 wd p i
    change Calls Try.prog 11 #[.pointer (some ⟨b, 0, none⟩)] w fun e w' => e = .returned (.tuple #[.agg #[.int .i64 1, .int .i64 (0 + 4 + (2 * (p : Int) + i) * wd), .int .u32 0], .bool true]) ∧ Upd [] w w' at this
    rw [← e] at this
    exact this
  · have := fr_actd1 0 wd h hW hA rfl hon hP hI (by omega)
    have e := fidx_cast wd p i 1
    change Calls Try.prog 11 #[.pointer (some ⟨b, 0, none⟩)] w fun e w' => e = .returned (.tuple #[.agg #[.int .i64 1, .int .i64 (0 + 4 + (2 * (p : Int) + i) * wd + ((1 : Nat) : Int)), .int .u32 0], .bool true]) ∧ Upd [] w w' at this
    rw [← e] at this
    exact this
  · have := fr_actd2 0 wd h hW hA rfl hon hP hI (by omega)
    have e := fidx_cast wd p i 2
    change Calls Try.prog 11 #[.pointer (some ⟨b, 0, none⟩)] w fun e w' => e = .returned (.tuple #[.agg #[.int .i64 1, .int .i64 (0 + 4 + (2 * (p : Int) + i) * wd + ((2 : Nat) : Int)), .int .u32 0], .bool true]) ∧ Upd [] w w' at this
    rw [← e] at this
    exact this
  · have := fr_actd3 0 wd h hW hA rfl hon hP hI (by omega)
    have e := fidx_cast wd p i 3
    change Calls Try.prog 11 #[.pointer (some ⟨b, 0, none⟩)] w fun e w' => e = .returned (.tuple #[.agg #[.int .i64 1, .int .i64 (0 + 4 + (2 * (p : Int) + i) * wd + ((3 : Nat) : Int)), .int .u32 0], .bool true]) ∧ Upd [] w w' at this
    rw [← e] at this
    exact this
theorem bitN_cast (g : Int) : ((bitN g : Nat) : Int) = bits .and .u32 g 1 := by
  rw [and1]
  unfold bitN
  omega
theorem rd_take (r : RdS) (g : Int) (h : FG 0 wd w b 84 (rdF wd r)) (hw : 1 ≤ wd ∧ wd ≤ 4) (hn : r.n < wd + 3) :
    Calls Try.prog 14 #[.pointer (some ⟨b, 0, none⟩), .int .u32 g] w fun e w' => e = .returned (.tuple #[]) ∧ FG 0 wd w' b 84 (rdF wd (rTake r g)) ∧ Upd [b] w w' := by
  have hon := rd_on hn
  obtain ⟨n, p, i, v⟩ := r
  simp only at hn
  have hW : (1 : Int) ≤ wd ∧ (wd : Int) ≤ 4 := by omega
  have hc : n = 0 ∨ n = 1 ∨ n = 2 ∨ n = 3 ∨ n = 4 ∨ n = 5 ∨ n = 6 := by omega
  have hb := bitN_cast g
  rcases hc with rfl | rfl | rfl | rfl | rfl | rfl | rfl
  · have := fr_take0 0 wd g h hW rfl hon
    rw [← hb] at this
    exact this
  · exact fr_take1 0 wd g h hW rfl hon
  · have := fr_take2 0 wd g h hW rfl hon
    rw [← hb] at this
    exact this
  · exact fr_taked0 0 wd g h hW rfl hon
  · exact fr_taked1 0 wd g h hW rfl hon
  · exact fr_taked2 0 wd g h hW rfl hon
  · exact fr_taked3 0 wd g h hW rfl hon
theorem wr_act (x : WrS) (h : FG 0 wd w b 95 (wrF wd x)) (hw : 1 ≤ wd ∧ wd ≤ 4) (hn : x.n < wd + 4) (hq : x.q < 2) (hj : x.j < 2) :
    Calls Try.prog 16 #[.pointer (some ⟨b, 0, none⟩)] w fun e w' => e = .returned (.tuple #[actV (wAct wd x), .bool true]) ∧ Upd [] w w' := by
  have hon := wr_on hn
  obtain ⟨n, p, i, v⟩ := x
  simp only at hn hq hj
  have hW : (1 : Int) ≤ wd ∧ (wd : Int) ≤ 4 := by omega
  have hA : (0 : Int) ≤ 0 ∧ (0 : Int) < 1000000 := by omega
  have hP : (0 : Int) ≤ (p : Int) ∧ (p : Int) ≤ 1 := by omega
  have hI : (0 : Int) ≤ (i : Int) ∧ (i : Int) ≤ 1 := by omega
  by_cases h0 : n = 0
  · subst h0
    exact fw_act0 0 wd h hW hA rfl hon
  by_cases h1 : n = 1
  · subst h1
    have := fw_act1 0 wd h hW hA rfl hon hP
    have e : (0 : Int) + 2 + (wrF wd ⟨1, p, i, v⟩).p = ((2 + p : Nat) : Int) := by show (0 : Int) + 2 + (p : Int) = _; omega
    rw [e] at this
    exact this
  by_cases h2 : n < wd + 2
  · have hk : n = 2 ∨ n = 3 ∨ n = 4 ∨ n = 5 := by omega
    rcases hk with rfl | rfl | rfl | rfl
    · have := fw_actd0 0 wd h hW hA rfl hon hP hI (by omega)
      have e := fidx_cast0 wd p i
      change Calls Try.prog 16 #[.pointer (some ⟨b, 0, none⟩)] w fun e w' => e = .returned (.tuple #[.agg #[.int .i64 2, .int .i64 (0 + 4 + (2 * (p : Int) + i) * wd), .int .u32 (v 0)], .bool true]) ∧ Upd [] w w' at this
      rw [← e] at this
      simp only [wAct, if_pos h2, if_neg h0, if_neg h1]
      exact this
    · have := fw_actd1 0 wd h hW hA rfl hon hP hI (by omega)
      have e := fidx_cast wd p i 1
      change Calls Try.prog 16 #[.pointer (some ⟨b, 0, none⟩)] w fun e w' => e = .returned (.tuple #[.agg #[.int .i64 2, .int .i64 (0 + 4 + (2 * (p : Int) + i) * wd + ((1 : Nat) : Int)), .int .u32 (v 1)], .bool true]) ∧ Upd [] w w' at this
      rw [← e] at this
      simp only [wAct, if_pos h2, if_neg h0, if_neg h1]
      exact this
    · have := fw_actd2 0 wd h hW hA rfl hon hP hI (by omega)
      have e := fidx_cast wd p i 2
      change Calls Try.prog 16 #[.pointer (some ⟨b, 0, none⟩)] w fun e w' => e = .returned (.tuple #[.agg #[.int .i64 2, .int .i64 (0 + 4 + (2 * (p : Int) + i) * wd + ((2 : Nat) : Int)), .int .u32 (v 2)], .bool true]) ∧ Upd [] w w' at this
      rw [← e] at this
      simp only [wAct, if_pos h2, if_neg h0, if_neg h1]
      exact this
    · have := fw_actd3 0 wd h hW hA rfl hon hP hI (by omega)
      have e := fidx_cast wd p i 3
      change Calls Try.prog 16 #[.pointer (some ⟨b, 0, none⟩)] w fun e w' => e = .returned (.tuple #[.agg #[.int .i64 2, .int .i64 (0 + 4 + (2 * (p : Int) + i) * wd + ((3 : Nat) : Int)), .int .u32 (v 3)], .bool true]) ∧ Upd [] w w' at this
      rw [← e] at this
      simp only [wAct, if_pos h2, if_neg h0, if_neg h1]
      exact this
  by_cases h3 : n = wd + 2
  · have := fw_acts 0 wd h hW hA (by show (n : Int) = _; omega) hon hP hI
    have e : (0 : Int) + 2 + (wrF wd ⟨n, p, i, v⟩).p = ((2 + p : Nat) : Int) := by show (0 : Int) + 2 + (p : Int) = _; omega
    rw [e] at this
    simp only [wAct, if_neg h2, if_neg h0, if_neg h1, if_pos h3]
    exact this
  · have := fw_actl 0 wd h hW hA (by show (n : Int) = _; omega) hon hP
    simp only [wAct, if_neg h2, if_neg h0, if_neg h1, if_neg h3]
    exact this
theorem wr_take (x : WrS) (g : Int) (h : FG 0 wd w b 95 (wrF wd x)) (hw : 1 ≤ wd ∧ wd ≤ 4) (hn : x.n < wd + 4) :
    Calls Try.prog 18 #[.pointer (some ⟨b, 0, none⟩), .int .u32 g] w fun e w' => e = .returned (.tuple #[]) ∧ FG 0 wd w' b 95 (wrF wd (wTake x g)) ∧ Upd [b] w w' := by
  have hon := wr_on hn
  obtain ⟨n, p, i, v⟩ := x
  simp only at hn
  have hW : (1 : Int) ≤ wd ∧ (wd : Int) ≤ 4 := by omega
  have hb : (((1 - bitN g : Nat)) : Int) = 1 - bits .and .u32 g 1 := by
    have h1 := bitN_cast g
    have h2 := bitN_lt g
    omega
  by_cases h0 : n = 0
  · subst h0
    have := fw_take0 0 wd g h hW rfl hon
    rw [← hb] at this
    exact this
  by_cases h1 : n = 1
  · subst h1
    have := fw_take1 0 wd g h hW rfl hon
    rw [← hb] at this
    exact this
  · have := fw_take2 0 wd g n (by omega) h hW rfl hon
    simp only [wTake, if_neg h0, if_neg h1]
    exact this
/-- What an act does to the words. -/
theorem do_words {xs : List Int} {o : Int} {c : Nat} {v : Int} (hc : c < xs.length) (h : o = 1 ∧ v = 0 ∨ o = 2) :
    ∃ xs', doC o c v xs = some ((memDo (fun k => xs.getD k 0) (o, c, v)).1, xs') ∧ xs'.length = xs.length ∧ (fun k => xs'.getD k 0) = (memDo (fun k => xs.getD k 0) (o, c, v)).2 := by
  rcases h with ⟨rfl, rfl⟩ | rfl
  · refine ⟨xs, ?_, rfl, rfl⟩
    simp [doC, memDo, hc, List.getD_eq_getElem?_getD, List.getElem?_eq_getElem hc]
  · refine ⟨xs.set c v, ?_, by simp, ?_⟩
    · simp [doC, memDo, hc]
    · funext k
      simp only [memDo, show ((2 : Int) = 1) = False by decide, if_false, upM, List.getD_eq_getElem?_getD, List.getElem?_set]
      by_cases e : k = c
      · subst e; simp [hc]
      · rw [if_neg e, if_neg (fun h => e h.symm)]
end
end Go.Proofs.Ytnnakiojfpnphaa
namespace Go.Proofs.Ytnnakiojfpnphaa
open Go.RowKit
def tri (x : Int × Int × Int) : List Value := [.int .i64 x.1, .int .i64 x.2.1, .int .i64 x.2.2]
theorem tri_len (x : Int × Int × Int) : (tri x).length = 3 := rfl
def rowP (i : Nat) (w : Nat) : List (Int × Int × Int) := (List.range w).map fun (k : Nat) => ((3 : Int), (i : Int), (k : Int))
def rowsP (wd : Nat) : Nat → List (Int × Int × Int)
  | 0 => []
  | i + 1 => rowsP wd i ++ rowP i wd
def parts4 (wd : Nat) : List (Int × Int × Int) := [(4, 0, 0), (5, 0, 0), (6, 0, 0), (6, 1, 0)] ++ rowsP wd 4
theorem rowP_succ (i w : Nat) : rowP i (w + 1) = rowP i w ++ [(3, (i : Int), (w : Int))] := by simp [rowP, List.range_succ]
theorem rowP_len (i w : Nat) : (rowP i w).length = w := by simp [rowP]
theorem rowsP_len (wd : Nat) : ∀ i, (rowsP wd i).length = i * wd
  | 0 => by simp [rowsP]
  | i + 1 => by rw [rowsP, List.length_append, rowsP_len wd i, rowP_len, Nat.add_mul, Nat.one_mul]
theorem parts4_len (wd : Nat) : (parts4 wd).length = 4 + 4 * wd := by
  unfold parts4
  rw [List.length_append, rowsP_len]
  rfl
theorem info_part : (Try.prog.info? 108).map (fun i => (i.zero, i.size, i.bytes)) = some (some (.agg #[.int .i64 0, .int .i64 0, .int .i64 0]), 3, 24) := by kernel_rfl
set_option maxRecDepth 100000 in
set_option maxHeartbeats 4000000 in
theorem parts4_c (wd : Nat) (W : World) (hw : 1 ≤ wd ∧ wd ≤ 4) : Calls Try.prog 52 #[.agg #[.int .i64 2, .int .i64 0, .int .i64 wd, .int .i64 0, .int .i64 0, .int .i64 0, .int .u32 0, .int .u32 0, .int .u32 0, .int .u32 0]] W fun e w' => Upd [] W w' ∧ ∃ va vc, e = .returned (.slice va (parts4 wd).length vc) ∧ Els w' va 3 ((parts4 wd).map tri) := by
  have HR := Lib.hid fun w => rright_any 0 (wd : Int) 0 0 0 0 0 0 0 (w := w) 2
  rw [right4 (wd : Int) (by omega)] at HR
  unfold obA at HR
  obtain ⟨ip, hip, hz0, hz1, hz2⟩ := info_parts info_part
  have HI := Lib.hid (And.intro hip (And.intro hz0 (And.intro hz1 hz2)))
  have HW := Lib.hid hw
  clear hip hz0 hz1 hz2 hw
  go_enter Try.func52, Try.ntmps52
  go_wp2_with (first
    | (go_at_call 70; (with_reducible refine (HR.out _).mono ?_); rintro e w1 ⟨rfl, hu1⟩; obtain ⟨p1, rfl⟩ := hu1.grown; clear hu1)
    | (at_builtin; refine Go.RowKit.Hid.out ?_))
  refine Lib.hid ?_
  refine wpList_append_reads rfl _ _ 104 rfl (W.heap.size + 1) 108 ip _ 3 24 Try.underlying104 HI.out.1 HI.out.2.1 HI.out.2.2.1 HI.out.2.2.2 rfl (by decide) _ 0 [] rfl own_none _ 4 4 ([(4, 0, 0), (5, 0, 0), (6, 0, 0), (6, 1, 0)].flatMap tri) rfl rfl
    (fun _ => ⟨W.heap.size + 1 + p1.os.size, 0, rfl, fun j u hj => by rw [Nat.zero_add]; exact cell_of_list (heap_alloc_at _ (by simp)) _ _ hj⟩) (fun h => by cases h) (fun u hu => by simp [tri] at hu; rcases hu with rfl | rfl | rfl | rfl | rfl | rfl | rfl | rfl | rfl | rfl | rfl | rfl <;> rfl) (by simp [maxLen]) (by simp) ?base ?_
  case base => simp; omega
  intro v' w' ho' hg'
  have HO := Lib.hid ho'
  have HU := Lib.hid (show Upd [] W w' by
    refine Upd.trans ?_ (show Upd [] _ w' from upd_grown hg')
    repeat (first | (with_reducible exact Upd.refl _ _) | (with_reducible apply Upd.drew) | (with_reducible refine Upd.grE ?_ _) | (with_reducible refine Upd.alloc ?_ _)))
  have HB := Lib.hid (show w'.heap[W.heap.size]? = some (.cells #[.int .i64 2, .int .i64 0, .int .i64 wd, .int .i64 0, .int .i64 0, .int .i64 0, .int .u32 0, .int .u32 0, .int .u32 0, .int .u32 0] 56 (0, 0)) by
    rw [hg'.block _ (by simp) (by intro e; cases e)]
    repeat (first | ((with_reducible refine heap_alloc_at _ ?_); (first | rfl | (simp; done))) | (with_reducible apply heap_drewE) | (with_reducible apply heap_grE) | (with_reducible apply heap_alloc')))
  clear ho' hg'
  go_wp2
  go_loopg [3, 5] 4 (fun n s3 s5 wr => ∃ i : Nat, n + i = 4 ∧ s5 = .int .i64 i ∧ wr.ownsRow (W.heap.size + 1) 108 3 s3 (4 + i * wd) (([(4, 0, 0), (5, 0, 0), (6, 0, 0), (6, 1, 0)] ++ rowsP wd i).flatMap tri) ∧ wr.heap[W.heap.size]? = some (.cells #[.int .i64 2, .int .i64 0, .int .i64 wd, .int .i64 0, .int .i64 0, .int .i64 0, .int .u32 0, .int .u32 0, .int .u32 0, .int .u32 0] 56 (0, 0)) ∧ Upd [] W wr)
  case atStart => exact ⟨0, by omega, rfl, by simpa [rowsP] using HO.out, HB.out, HU.out⟩
  case round =>
    obtain ⟨i, hi, rfl, ho, hb, hu⟩ := hrel
    have HI2 := Lib.hid hi
    have HO2 := Lib.hid ho
    have HB2 := Lib.hid hb
    have HU2 := Lib.hid hu
    clear hi ho hb hu
    by_cases hlt : i < 4
    · have HLT := Lib.hid hlt
      have i2 : (i : Int) < 4 := by omega
      have HWI := Lib.hid (show wrap64 ((i : Int) + 1) = ((i + 1 : Nat) : Int) from wrap_next (l := 4) (by omega) hlt)
      clear hlt
      go_wp2
      go_loopg [3, 6] wd (fun n s3 s6 wr => ∃ k : Nat, n + k = wd ∧ s6 = .int .i64 k ∧ wr.ownsRow (W.heap.size + 1) 108 3 s3 (4 + i * wd + k) (([(4, 0, 0), (5, 0, 0), (6, 0, 0), (6, 1, 0)] ++ rowsP wd i ++ rowP i k).flatMap tri) ∧ wr.heap[W.heap.size]? = some (.cells #[.int .i64 2, .int .i64 0, .int .i64 wd, .int .i64 0, .int .i64 0, .int .i64 0, .int .u32 0, .int .u32 0, .int .u32 0, .int .u32 0] 56 (0, 0)) ∧ Upd [] W wr)
      case atStart => exact ⟨0, by omega, rfl, by simpa [rowP] using HO2.out, HB2.out, HU2.out⟩
      case round =>
        obtain ⟨k, hk, rfl, ho, hb, hu⟩ := hrel
        have HK := Lib.hid hk
        have HO3 := Lib.hid ho
        have HB3 := Lib.hid hb
        have HU3 := Lib.hid hu
        obtain ⟨c0, c1, c2, -, -, -, -, -, -, -⟩ := cells10p hb
        have hlb := heap_lt hb
        clear hk ho hb hu
        by_cases hlk : k < wd
        · have HLK := Lib.hid hlk
          have k2 : (k : Int) < (wd : Int) := by omega
          have HWK := Lib.hid (show wrap64 ((k : Int) + 1) = ((k + 1 : Nat) : Int) from wrap_next (l := wd) (by have := HW.out; omega) hlk)
          clear hlk
          go_wp2_with (at_builtin; refine Go.RowKit.Hid.out ?_)
          refine Lib.hid ?_
          refine wpList_push rfl _ _ 104 rfl 108 ip _ 3 24 Try.underlying104 HI.out.1 HI.out.2.1 HI.out.2.2.1 HI.out.2.2.2 rfl (by decide) W wr (W.heap.size + 1) _ (4 + i * wd + k) _ rfl HO3.out ?hur HU3.out (by omega) (by have := heap_lt HB3.out; omega)
            _ (tri (3, i, k)) 108 (0, 0) rfl rfl ?hg (fun u hu => by simp [tri] at hu; rcases hu with rfl | rfl | rfl <;> rfl) ?hn (by decide) ?_
          case hur => repeat (first | (with_reducible exact Upd.refl _ _) | (with_reducible refine Upd.alloc ?_ _))
          case hg => exact heap_alloc_at _ rfl
          case hn =>
            have h1 := HW.out
            have h2 := HLT.out
            have h3 := HLK.out
            have h4 : i * wd ≤ 4 * 4 := Nat.mul_le_mul (by omega) h1.2
            omega
          intro v4 w4 ho4 hu4 hk4
          have hb4 := hk4 _ _ (by omega) (heap_alloc' HB3.out)
          have HO4 := Lib.hid ho4
          have HU4 := Lib.hid hu4
          have HB4 := Lib.hid hb4
          clear ho4 hu4 hk4 hb4
          go_wp2
          go_roundg (wd - (k + 1))
          case rel => exact ⟨k + 1, by have := HLK.out; omega, by first | (rw [HWK.out]; done) | (simp; done), by rw [rowP_succ, ← List.append_assoc, List.flatMap_append, ← Nat.add_assoc]; simpa using HO4.out, HB4.out, HU4.out⟩
          case measure => have := HLK.out; have := HK.out; omega
        · obtain rfl : k = wd := by have := HK.out; omega
          clear hlk
          go_wp2
          go_roundg (4 - (i + 1))
          case rel => exact ⟨i + 1, by have := HLT.out; omega, by first | (rw [HWI.out]; done) | (simp; done), by rw [rowsP, ← List.append_assoc, Nat.add_mul, Nat.one_mul, ← Nat.add_assoc]; exact HO3.out, HB3.out, HU3.out⟩
          case measure => have := HLT.out; have := HI2.out; omega
    · obtain rfl : i = 4 := by have := HI2.out; omega
      clear hlt
      go_wp2
      go_ret
      obtain ⟨a, c, e, _, he⟩ := flat_own tri tri_len HO2.out (by rw [List.length_append, rowsP_len]; rfl)
      refine ⟨HU2.out, a, c, ?_, he⟩
      rw [e]
      rfl
end Go.Proofs.Ytnnakiojfpnphaa
