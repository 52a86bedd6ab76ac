/- Package four: a reader and a writer, as the words' model has them. -/
import Derived.Test.YtnnakiojfpnphaaFS6
import Derived.Test.YtnnakiojfpnphaaFP1
import Derived.Test.YtnnakiojfpnphaaDo
set_option linter.unusedVariables false
set_option linter.unusedSimpArgs false
namespace Go.Proofs.Ytnnakiojfpnphaa
open Go.RowKit
def rdF (wd : Nat) (r : RdS) : FSt := ⟨r.n, r.p, r.i, 0, 0, 0, 0, 0, r.r 0, r.r 1, r.r 2, r.r 3, true, decide ((r.n : Int) < wd + 3)⟩
def wrF (wd : Nat) (w : WrS) : FSt := ⟨w.n, w.q, w.j, w.v 0, w.v 1, w.v 2, w.v 3, 0, 0, 0, 0, 0, true, decide ((w.n : Int) < wd + 4)⟩
def actV (a : Int × Nat × Int) : Value := .agg #[.int .i64 a.1, .int .i64 a.2.1, .int .u32 a.2.2]
theorem fidx_cast (wd x y k : Nat) : ((fidx wd x y k : Nat) : Int) = 0 + 4 + (2 * (x : Int) + y) * wd + k := by
  unfold fidx
  push_cast
  omega
theorem fidx_cast0 (wd x y : Nat) : ((fidx wd x y 0 : Nat) : Int) = 0 + 4 + (2 * (x : Int) + y) * wd := by
  rw [fidx_cast]
  omega
theorem rd_on {wd : Nat} {r : RdS} (h : r.n < wd + 3) : (rdF wd r).on = true := by
  show decide ((r.n : Int) < wd + 3) = true
  simp; omega
theorem wr_on {wd : Nat} {w : WrS} (h : w.n < wd + 4) : (wrF wd w).on = true := by
  show decide ((w.n : Int) < wd + 4) = true
  simp; omega
section
variable {wd : Nat} {w : World} {b : Nat}
theorem rd_act (r : RdS) (h : FG 0 wd w b 84 (rdF wd r)) (hw : 1 ≤ wd ∧ wd ≤ 4) (hn : r.n < wd + 3) (hp : r.p < 2) (hi : r.i < 2) :
    Calls Try.prog 11 #[.pointer (some ⟨b, 0, none⟩)] w fun e w' => e = .returned (.tuple #[actV (rAct wd r), .bool true]) ∧ Upd [] w w' := by
  have hon := rd_on hn
  obtain ⟨n, p, i, v⟩ := r
  simp only at hn hp hi
  have hW : (1 : Int) ≤ wd ∧ (wd : Int) ≤ 4 := by omega
  have hA : (0 : Int) ≤ 0 ∧ (0 : Int) < 1000000 := by omega
  have hP : (0 : Int) ≤ (p : Int) ∧ (p : Int) ≤ 1 := by omega
  have hI : (0 : Int) ≤ (i : Int) ∧ (i : Int) ≤ 1 := by omega
  have hc : n = 0 ∨ n = 1 ∨ n = 2 ∨ n = 3 ∨ n = 4 ∨ n = 5 ∨ n = 6 := by omega
  rcases hc with rfl | rfl | rfl | rfl | rfl | rfl | rfl
  · exact fr_act0 0 wd h hW hA rfl hon
  · exact fr_act1 0 wd h hW hA rfl hon hP
  · have := fr_act2 0 wd h hW hA rfl hon hP
    have e : (0 : Int) + 2 + (rdF wd ⟨2, p, i, v⟩).p = ((2 + p : Nat) : Int) := by show (0 : Int) + 2 + (p : Int) = _; omega
    rw [e] at this
    exact this
  · have := fr_actd0 0 wd h hW hA rfl hon hP hI (by omega)
    have e := fidx_cast0 wd p i
    change Calls Try.prog 11 #[.pointer (some ⟨b, 0, none⟩)] w fun e w' => e = .returned (.tuple #[.agg #[.int .i64 1, .int .i64 (0 + 4 + (2 * (p : Int) + i) * wd), .int .u32 0], .bool true]) ∧ Upd [] w w' at this
    rw [← e] at this
    exact this
  · have := fr_actd1 0 wd h hW hA rfl hon hP hI (by omega)
    have e := fidx_cast wd p i 1
    change Calls Try.prog 11 #[.pointer (some ⟨b, 0, none⟩)] w fun e w' => e = .returned (.tuple #[.agg #[.int .i64 1, .int .i64 (0 + 4 + (2 * (p : Int) + i) * wd + ((1 : Nat) : Int)), .int .u32 0], .bool true]) ∧ Upd [] w w' at this
    rw [← e] at this
    exact this
  · have := fr_actd2 0 wd h hW hA rfl hon hP hI (by omega)
    have e := fidx_cast wd p i 2
    change Calls Try.prog 11 #[.pointer (some ⟨b, 0, none⟩)] w fun e w' => e = .returned (.tuple #[.agg #[.int .i64 1, .int .i64 (0 + 4 + (2 * (p : Int) + i) * wd + ((2 : Nat) : Int)), .int .u32 0], .bool true]) ∧ Upd [] w w' at this
    rw [← e] at this
    exact this
  · have := fr_actd3 0 wd h hW hA rfl hon hP hI (by omega)
    have e := fidx_cast wd p i 3
    change Calls Try.prog 11 #[.pointer (some ⟨b, 0, none⟩)] w fun e w' => e = .returned (.tuple #[.agg #[.int .i64 1, .int .i64 (0 + 4 + (2 * (p : Int) + i) * wd + ((3 : Nat) : Int)), .int .u32 0], .bool true]) ∧ Upd [] w w' at this
    rw [← e] at this
    exact this
theorem bitN_cast (g : Int) : ((bitN g : Nat) : Int) = bits .and .u32 g 1 := by
  rw [and1]
  unfold bitN
  omega
theorem rd_take (r : RdS) (g : Int) (h : FG 0 wd w b 84 (rdF wd r)) (hw : 1 ≤ wd ∧ wd ≤ 4) (hn : r.n < wd + 3) :
    Calls Try.prog 14 #[.pointer (some ⟨b, 0, none⟩), .int .u32 g] w fun e w' => e = .returned (.tuple #[]) ∧ FG 0 wd w' b 84 (rdF wd (rTake r g)) ∧ Upd [b] w w' := by
  have hon := rd_on hn
  obtain ⟨n, p, i, v⟩ := r
  simp only at hn
  have hW : (1 : Int) ≤ wd ∧ (wd : Int) ≤ 4 := by omega
  have hc : n = 0 ∨ n = 1 ∨ n = 2 ∨ n = 3 ∨ n = 4 ∨ n = 5 ∨ n = 6 := by omega
  have hb := bitN_cast g
  rcases hc with rfl | rfl | rfl | rfl | rfl | rfl | rfl
  · have := fr_take0 0 wd g h hW rfl hon
    rw [← hb] at this
    exact this
  · exact fr_take1 0 wd g h hW rfl hon
  · have := fr_take2 0 wd g h hW rfl hon
    rw [← hb] at this
    exact this
  · exact fr_taked0 0 wd g h hW rfl hon
  · exact fr_taked1 0 wd g h hW rfl hon
  · exact fr_taked2 0 wd g h hW rfl hon
  · exact fr_taked3 0 wd g h hW rfl hon
theorem wr_act (x : WrS) (h : FG 0 wd w b 95 (wrF wd x)) (hw : 1 ≤ wd ∧ wd ≤ 4) (hn : x.n < wd + 4) (hq : x.q < 2) (hj : x.j < 2) :
    Calls Try.prog 16 #[.pointer (some ⟨b, 0, none⟩)] w fun e w' => e = .returned (.tuple #[actV (wAct wd x), .bool true]) ∧ Upd [] w w' := by
  have hon := wr_on hn
  obtain ⟨n, p, i, v⟩ := x
  simp only at hn hq hj
  have hW : (1 : Int) ≤ wd ∧ (wd : Int) ≤ 4 := by omega
  have hA : (0 : Int) ≤ 0 ∧ (0 : Int) < 1000000 := by omega
  have hP : (0 : Int) ≤ (p : Int) ∧ (p : Int) ≤ 1 := by omega
  have hI : (0 : Int) ≤ (i : Int) ∧ (i : Int) ≤ 1 := by omega
  by_cases h0 : n = 0
  · subst h0
    exact fw_act0 0 wd h hW hA rfl hon
  by_cases h1 : n = 1
  · subst h1
    have := fw_act1 0 wd h hW hA rfl hon hP
    have e : (0 : Int) + 2 + (wrF wd ⟨1, p, i, v⟩).p = ((2 + p : Nat) : Int) := by show (0 : Int) + 2 + (p : Int) = _; omega
    rw [e] at this
    exact this
  by_cases h2 : n < wd + 2
  · have hk : n = 2 ∨ n = 3 ∨ n = 4 ∨ n = 5 := by omega
    rcases hk with rfl | rfl | rfl | rfl
    · have := fw_actd0 0 wd h hW hA rfl hon hP hI (by omega)
      have e := fidx_cast0 wd p i
      change Calls Try.prog 16 #[.pointer (some ⟨b, 0, none⟩)] w fun e w' => e = .returned (.tuple #[.agg #[.int .i64 2, .int .i64 (0 + 4 + (2 * (p : Int) + i) * wd), .int .u32 (v 0)], .bool true]) ∧ Upd [] w w' at this
      rw [← e] at this
      simp only [wAct, if_pos h2, if_neg h0, if_neg h1]
      exact this
    · have := fw_actd1 0 wd h hW hA rfl hon hP hI (by omega)
      have e := fidx_cast wd p i 1
      change Calls Try.prog 16 #[.pointer (some ⟨b, 0, none⟩)] w fun e w' => e = .returned (.tuple #[.agg #[.int .i64 2, .int .i64 (0 + 4 + (2 * (p : Int) + i) * wd + ((1 : Nat) : Int)), .int .u32 (v 1)], .bool true]) ∧ Upd [] w w' at this
      rw [← e] at this
      simp only [wAct, if_pos h2, if_neg h0, if_neg h1]
      exact this
    · have := fw_actd2 0 wd h hW hA rfl hon hP hI (by omega)
      have e := fidx_cast wd p i 2
      change Calls Try.prog 16 #[.pointer (some ⟨b, 0, none⟩)] w fun e w' => e = .returned (.tuple #[.agg #[.int .i64 2, .int .i64 (0 + 4 + (2 * (p : Int) + i) * wd + ((2 : Nat) : Int)), .int .u32 (v 2)], .bool true]) ∧ Upd [] w w' at this
      rw [← e] at this
      simp only [wAct, if_pos h2, if_neg h0, if_neg h1]
      exact this
    · have := fw_actd3 0 wd h hW hA rfl hon hP hI (by omega)
      have e := fidx_cast wd p i 3
      change Calls Try.prog 16 #[.pointer (some ⟨b, 0, none⟩)] w fun e w' => e = .returned (.tuple #[.agg #[.int .i64 2, .int .i64 (0 + 4 + (2 * (p : Int) + i) * wd + ((3 : Nat) : Int)), .int .u32 (v 3)], .bool true]) ∧ Upd [] w w' at this
      rw [← e] at this
      simp only [wAct, if_pos h2, if_neg h0, if_neg h1]
      exact this
  by_cases h3 : n = wd + 2
  · have := fw_acts 0 wd h hW hA (by show (n : Int) = _; omega) hon hP hI
    have e : (0 : Int) + 2 + (wrF wd ⟨n, p, i, v⟩).p = ((2 + p : Nat) : Int) := by show (0 : Int) + 2 + (p : Int) = _; omega
    rw [e] at this
    simp only [wAct, if_neg h2, if_neg h0, if_neg h1, if_pos h3]
    exact this
  · have := fw_actl 0 wd h hW hA (by show (n : Int) = _; omega) hon hP
    simp only [wAct, if_neg h2, if_neg h0, if_neg h1, if_neg h3]
    exact this
theorem wr_take (x : WrS) (g : Int) (h : FG 0 wd w b 95 (wrF wd x)) (hw : 1 ≤ wd ∧ wd ≤ 4) (hn : x.n < wd + 4) :
    Calls Try.prog 18 #[.pointer (some ⟨b, 0, none⟩), .int .u32 g] w fun e w' => e = .returned (.tuple #[]) ∧ FG 0 wd w' b 95 (wrF wd (wTake x g)) ∧ Upd [b] w w' := by
  have hon := wr_on hn
  obtain ⟨n, p, i, v⟩ := x
  simp only at hn
  have hW : (1 : Int) ≤ wd ∧ (wd : Int) ≤ 4 := by omega
  have hb : (((1 - bitN g : Nat)) : Int) = 1 - bits .and .u32 g 1 := by
    have h1 := bitN_cast g
    have h2 := bitN_lt g
    omega
  by_cases h0 : n = 0
  · subst h0
    have := fw_take0 0 wd g h hW rfl hon
    rw [← hb] at this
    exact this
  by_cases h1 : n = 1
  · subst h1
    have := fw_take1 0 wd g h hW rfl hon
    rw [← hb] at this
    exact this
  · have := fw_take2 0 wd g n (by omega) h hW rfl hon
    simp only [wTake, if_neg h0, if_neg h1]
    exact this
/-- What an act does to the words. -/
theorem do_words {xs : List Int} {o : Int} {c : Nat} {v : Int} (hc : c < xs.length) (h : o = 1 ∧ v = 0 ∨ o = 2) :
    ∃ xs', doC o c v xs = some ((memDo (fun k => xs.getD k 0) (o, c, v)).1, xs') ∧ xs'.length = xs.length ∧ (fun k => xs'.getD k 0) = (memDo (fun k => xs.getD k 0) (o, c, v)).2 := by
  rcases h with ⟨rfl, rfl⟩ | rfl
  · refine ⟨xs, ?_, rfl, rfl⟩
    simp [doC, memDo, hc, List.getD_eq_getElem?_getD, List.getElem?_eq_getElem hc]
  · refine ⟨xs.set c v, ?_, by simp, ?_⟩
    · simp [doC, memDo, hc]
    · funext k
      simp only [memDo, show ((2 : Int) = 1) = False by decide, if_false, upM, List.getD_eq_getElem?_getD, List.getElem?_set]
      by_cases e : k = c
      · subst e; simp [hc]
      · rw [if_neg e, if_neg (fun h => e h.symm)]
end
end Go.Proofs.Ytnnakiojfpnphaa
