/- The law FourSafe, walked. (printed by genct.py out of FS13.base) -/
import Derived.Test.YtnnakiojfpnphaaFS12
import Derived.Deep.CutRange
import Derived.Deep.LoopGhost
set_option linter.unusedVariables false
set_option linter.unusedSimpArgs false
namespace Go.Proofs.Ytnnakiojfpnphaa
open Go.RowKit
def valC (f : V4F) : List Value := [.int .u32 (f 0), .int .u32 (f 1), .int .u32 (f 2), .int .u32 (f 3)]
theorem valC_len (f : V4F) : (valC f).length = 4 := rfl
def wrV : Option Nat → Value
  | none => .pointer none
  | some b => .pointer (some ⟨b, 0, none⟩)
theorem eq_val (w : World) (a b c d a' b' c' d' : Int) : (binOp .eql 34 (.agg #[.int .u32 a, .int .u32 b, .int .u32 c, .int .u32 d]) (.agg #[.int .u32 a', .int .u32 b', .int .u32 c', .int .u32 d'])).run Try.prog w = .ok (.bool (a == a' && (b == b' && (c == c' && d == d')))) w := eql_struct (eq_value 9998 w a b c d a' b' c' d')
theorem info_val : (Try.prog.info? 34).map (fun i => (i.zero, i.size, i.bytes)) = some (some (.agg #[.int .u32 0, .int .u32 0, .int .u32 0, .int .u32 0]), 4, 16) := by kernel_rfl
theorem rTake_n {r : RdS} {g : Int} : (rTake r g).n = r.n + 1 := by
  unfold rTake
  by_cases h0 : r.n = 0
  · rw [if_pos h0]; simp only; omega
  by_cases h1 : r.n = 1
  · rw [if_neg h0, if_pos h1]; simp only; omega
  by_cases h2 : r.n = 2
  · rw [if_neg h0, if_neg h1, if_pos h2]; simp only; omega
  · rw [if_neg h0, if_neg h1, if_neg h2]
theorem rd_start (wd : Nat) : rdF wd ⟨0, 0, 0, fun _ => 0⟩ = f0 0 0 0 0 := by
  have h : decide (((0 : Nat) : Int) < (wd : Int) + 3) = true := by simp; omega
  unfold rdF f0
  simp only [h]
  rfl
theorem wr_start (wd : Nat) (v : V4F) : wrF wd ⟨0, 0, 0, v⟩ = f0 (v 0) (v 1) (v 2) (v 3) := by
  have h : decide (((0 : Nat) : Int) < (wd : Int) + 4) = true := by simp; omega
  unfold wrF f0
  simp only [h]
  rfl
theorem rAct_ok (wd : Nat) (r : RdS) (hn : r.n < wd + 3) (hp : r.p < 2) (hi : r.i < 2) : ((rAct wd r).1 = 1 ∧ (rAct wd r).2.2 = 0 ∨ (rAct wd r).1 = 2) ∧ (rAct wd r).2.1 < 4 + 4 * wd := by
  unfold rAct
  by_cases h0 : r.n = 0
  · rw [if_pos h0]; exact ⟨.inl ⟨rfl, rfl⟩, by simp only; omega⟩
  by_cases h1 : r.n = 1
  · rw [if_neg h0, if_pos h1]; exact ⟨.inr rfl, by simp only; omega⟩
  by_cases h2 : r.n = 2
  · rw [if_neg h0, if_neg h1, if_pos h2]; exact ⟨.inl ⟨rfl, rfl⟩, by simp only; omega⟩
  · rw [if_neg h0, if_neg h1, if_neg h2]
    exact ⟨.inl ⟨rfl, rfl⟩, fidx_lt hp hi (by omega)⟩
theorem wAct_ok (wd : Nat) (r : WrS) (hn : r.n < wd + 4) (hp : r.q < 2) (hi : r.j < 2) : ((wAct wd r).1 = 1 ∧ (wAct wd r).2.2 = 0 ∨ (wAct wd r).1 = 2) ∧ (wAct wd r).2.1 < 4 + 4 * wd := by
  unfold wAct
  by_cases h0 : r.n = 0
  · rw [if_pos h0]; exact ⟨.inl ⟨rfl, rfl⟩, by simp only; omega⟩
  by_cases h1 : r.n = 1
  · rw [if_neg h0, if_pos h1]; exact ⟨.inl ⟨rfl, rfl⟩, by simp only; omega⟩
  by_cases h2 : r.n < wd + 2
  · rw [if_neg h0, if_neg h1, if_pos h2]
    exact ⟨.inr rfl, fidx_lt hp hi (by omega)⟩
  by_cases h3 : r.n = wd + 2
  · rw [if_neg h0, if_neg h1, if_neg h2, if_pos h3]; exact ⟨.inr rfl, by simp only; omega⟩
  · rw [if_neg h0, if_neg h1, if_neg h2, if_neg h3]; exact ⟨.inr rfl, by simp only; omega⟩
/-- What holds at each pass: of the memory, the reader, the writer, and the values. -/
structure FSL (wd : Nat) (W0 : World) (mb mg : Nat) (wr : World) (i : Nat) (xs : List Int) (l : List V4F) (r : RdS) (wo : Option WrS) (rb : Nat) (wb : Option Nat) (av : Value) : Prop where
  mem : MemX wr mb mg i xs
  len : xs.length = 4 + 4 * wd
  inv : FInv wd (fun k => xs.getD k 0) l r wo
  rd : FG 0 wd wr rb 84 (rdF wd r)
  rlo : W0.heap.size ≤ rb
  wsome : ∀ b, wb = some b → ∃ x, wo = some x ∧ FG 0 wd wr b 95 (wrF wd x) ∧ W0.heap.size ≤ b
  wnone : wb = none → wo = none
  own : wr.ownsRow W0.heap.size 34 4 av l.length (l.flatMap valC)
  upd : Upd [mb, mg] W0 wr
theorem MemX.types {w : World} {b g c : Nat} {xs : List Int} (h : MemX w b g c xs) : (∃ cs, w.heap[b]? = some (.cells cs 76 (0, 0))) ∧ ∃ cs, w.heap[g]? = some (.cells cs 32 (0, 0)) := by
  obtain ⟨lo, st, -, -, -, -, hm⟩ := h
  exact ⟨⟨_, hm.hb⟩, ⟨_, hm.hg⟩⟩
/-- A value that is zero from a place on, up to another. -/
def vcut (wd : Nat) (f : V4F) (k : Nat) (j : Nat) : Int := if wd ≤ j ∧ j < k then 0 else f j
theorem vcut_start (wd : Nat) (f : V4F) : vcut wd f wd = f := by
  funext j
  unfold vcut
  rw [if_neg (by omega)]
theorem vcut_succ {wd k : Nat} {f : V4F} (h : wd ≤ k) : vcut wd f (k + 1) = fun j => if j = k then 0 else vcut wd f k j := by
  funext j
  unfold vcut
  by_cases e : j = k
  · subst e
    rw [if_pos (by omega), if_pos rfl]
  · rw [if_neg e]
    by_cases h2 : wd ≤ j ∧ j < k
    · rw [if_pos (by omega), if_pos h2]
    · rw [if_neg (by omega), if_neg h2]
def eq4B (f g : V4F) : Bool := f 0 == g 0 && (f 1 == g 1 && (f 2 == g 2 && f 3 == g 3))
theorem eq4B_of {f g : V4F} (h : eq4 g f) : eq4B f g = true := by
  obtain ⟨h0, h1, h2, h3⟩ := h
  simp [eq4B, h0, h1, h2, h3]
def anyEq (l : List V4F) (g : V4F) (k : Nat) : Bool := (l.take k).any fun f => eq4B f g
theorem anyEq_succ (l : List V4F) (g : V4F) (k : Nat) (h : k < l.length) : anyEq l g (k + 1) = (anyEq l g k || eq4B l[k] g) := by
  unfold anyEq
  rw [List.take_succ_eq_append_getElem h, List.any_append]
  simp
theorem anyEq_all {l : List V4F} {g : V4F} (h : isIn g l) : anyEq l g l.length = true := by
  obtain ⟨b, hb, he⟩ := h
  unfold anyEq
  rw [List.take_length, List.any_eq_true]
  exact ⟨b, hb, eq4B_of he⟩
section
variable {W : World} {fa wa pa : Option Addr}
set_option maxRecDepth 100000 in
set_option maxHeartbeats 16000000 in
theorem fs_main (wd fc wc pc : Nat) (from_ : List Int) (writes : List V4F) (picks : List Bool) (hw : 1 ≤ wd ∧ wd ≤ 4) (h1 : writes.length ≤ 12) (h2 : picks.length ≤ 150) (hn : from_.length = 4 + 4 * wd)
    (hf : Reads W fa from_.length (u32s from_)) (hfp : ∀ x ∈ from_, 0 ≤ x) (hwr : Els W wa 4 (writes.map valC)) (hpk : Reads W pa picks.length (picks.map Value.bool)) :
    Calls Try.prog 3 #[.int .i64 wd, .slice fa from_.length fc, .slice wa writes.length wc, .slice pa picks.length pc] W fun e w' => e = .returned (.bool true) ∧ Upd [] W w' := by
  have HW := Lib.hid hw
  have HLW := Lib.hid h1
  have HLP := Lib.hid h2
  have HN := Lib.hid hn
  have HF := Lib.hid hf
  have HFP := Lib.hid hfp
  have HWR := Lib.hid hwr
  have HPK := Lib.hid hpk
  have HP := Lib.hid fun (w : World) => place13 wd hw w
  have HNR := Lib.hid fun (w : World) => fr_new 0 (wd : Int) (by omega) w
  have HNOW := Lib.hid fun (w : World) (hu : Upd [] W w) => rnow_c wd fa fc from_ w hw hn (hf.upd hu (by simp)) hfp
  have q1 : decide ((wd : Int) < 1) = false := by simp; omega
  have q2 : decide ((4 : Int) < (wd : Int)) = false := by simp; omega
  have q3 : decide ((12 : Int) < (writes.length : Int)) = false := by simp; omega
  have q4 : decide ((150 : Int) < (picks.length : Int)) = false := by simp; omega
  have q5 : ((from_.length : Int) != ((4 + 4 * wd : Nat) : Int)) = false := by simp; omega
  have q6 : (from_.length != 4 + 4 * wd) = false := by simpa using hn
  have qe := eq_val
  generalize hNN : 4 + 4 * wd = NN at q5 q6 HP
  clear hw h1 h2 hn hf hfp hwr hpk hNN
  go_enter Try.func3, Try.ntmps3
  go_wp2_with (first
    | (go_at_call 7; (with_reducible refine (HP.out _).mono ?_); rintro e w1 ⟨rfl, hu1⟩; obtain ⟨p1, rfl⟩ := hu1.grown; clear hu1)
    | (go_at_call 8; refine Go.RowKit.Hid.out ?_))
  refine Lib.hid ?_
  refine (of_any fa fc from_ _ (by rw [HN.out]; have := HW.out; omega) (HF.out.upd (((upd_gr W p1)).alloc _) (by simp))).mono ?_
  rintro e w2 ⟨mb, mg, rfl, hmb, hmg, hm, hu2⟩
  have HM := Lib.hid hm
  have hmb' : W.heap.size + p1.os.size < mb ∧ W.heap.size + p1.os.size < mg := by simp at hmb hmg; omega
  have HMB := Lib.hid hmb'
  have HPB := Lib.hid (hu2.keepb (k := W.heap.size + p1.os.size) (o := .cells #[.int .i64 2, .int .i64 0, .int .i64 0, .int .i64 wd, .int .i64 0] 27 (0, 0)) (heap_alloc_at _ (by simp)) (by simp))
  have HU2 := Lib.hid (((upd_gr W p1).alloc (.cells #[.int .i64 2, .int .i64 0, .int .i64 0, .int .i64 wd, .int .i64 0] 27)).trans hu2)
  generalize hpb : W.heap.size + p1.os.size = pb at *
  have HPLO := Lib.hid (show W.heap.size ≤ pb by omega)
  obtain ⟨g0, g1, g2, g3, g4⟩ := cells5p HPB.out
  clear hm hmb hmg hmb' hu2 hpb
  go_wp2_with (go_at_call 9; refine Go.RowKit.Hid.out ?_)
  refine Lib.hid ?_
  refine (HNOW.out _ HU2.out).mono ?_
  rintro e w3 ⟨rfl, hu3⟩
  have HU3 := Lib.hid hu3
  have HM3 := Lib.hid (HM.out.keep hu3 (by simp) (by simp))
  have HPB3 := Lib.hid (hu3.keepb HPB.out (by simp))
  clear hu3 g0 g1 g2 g3 g4
  obtain ⟨g0, g1, g2, g3, g4⟩ := cells5p HPB3.out
  have pl3 := heap_lt HPB3.out
  have HNV := Lib.hid (show ∀ k, nowV wd from_ k = slotV wd (fun k => from_.getD k 0) (bitN (from_.getD 0 0)) (sBit (fun k => from_.getD k 0) (bitN (from_.getD 0 0))) k from fun k => rfl)
  unfold val4
  generalize nowV wd from_ = nv at *
  go_wp2_with (go_at_call 10; refine Go.RowKit.Hid.out ?_)
  refine Lib.hid ?_
  have HWS := Lib.hid (show Upd [] w3 ((w3.alloc (.cells #[.int .u32 (nv 0), .int .u32 (nv 1), .int .u32 (nv 2), .int .u32 (nv 3)] 34)).alloc (.cells #[.int .u32 (nv 0), .int .u32 (nv 1), .int .u32 (nv 2), .int .u32 (nv 3)] 34)) from ((Upd.refl _ _).alloc _).alloc _)
  have HG0 := Lib.hid (show ((w3.alloc (.cells #[.int .u32 (nv 0), .int .u32 (nv 1), .int .u32 (nv 2), .int .u32 (nv 3)] 34)).alloc (.cells #[.int .u32 (nv 0), .int .u32 (nv 1), .int .u32 (nv 2), .int .u32 (nv 3)] 34)).heap[w3.heap.size + 1]? = some (.cells #[.int .u32 (nv 0), .int .u32 (nv 1), .int .u32 (nv 2), .int .u32 (nv 3)] 34 (0, 0)) from heap_alloc_at _ (by simp))
  refine (HNR.out _).mono ?_
  rintro e w4 ⟨rb0, rfl, hrb, hfr, hu4⟩
  have HL0 := Lib.hid (show FSL wd w3 mb mg w4 0 from_ [nv] ⟨0, 0, 0, fun _ => 0⟩ none rb0 none (.slice (some ⟨w3.heap.size + 1, 0, none⟩) 1 1) from {
    mem := ⟨0, 0, by omega, by omega, by omega, by omega, HM3.out.keep (HWS.out.trans hu4) (by simp) (by simp)⟩
    len := HN.out
    inv := ⟨⟨nv, by simp, eq4_of fun k _ => (HNV.out k).symm⟩, rd0 _ _ _, (fun x hx => nomatch hx), (fun x hx => nomatch hx)⟩
    rd := by rw [rd_start]; exact hfr
    rlo := by simp at hrb; omega
    wsome := fun b hb => by cases hb
    wnone := fun _ => rfl
    own := ⟨by simp [valC], .inr ⟨w3.heap.size + 1, 1, #[.int .u32 (nv 0), .int .u32 (nv 1), .int .u32 (nv 2), .int .u32 (nv 3)], rfl, Nat.le_succ _, hu4.keepb HG0.out (by simp), Nat.le_refl _, by simp [maxLen], by simp, by simp [valC]⟩⟩
    upd := (HWS.out.trans hu4).mono (by simp) })
  have HPB4 := Lib.hid ((HWS.out.trans hu4).keepb HPB3.out (by simp))
  clear hrb hfr hu4 g0 g1 g2 g3 g4 pl3
  have HBW := Lib.hid (show pb < w3.heap.size ∧ mb < w3.heap.size ∧ mg < w3.heap.size from ⟨heap_lt HPB3.out, heap_lt HM3.out.hb, heap_lt HM3.out.hg⟩)
  have HUW3 := Lib.hid (HU2.out.trans HU3.out)
  go_wp2
  go_loopg [13, 14, 15, 16, 17] picks.length (fun n s13 s14 s15 s16 s17 wr => ∃ (i : Nat) (xs : List Int) (l : List V4F) (r : RdS) (wo : Option WrS) (rb : Nat) (wb : Option Nat), n + i = picks.length ∧ s17 = .int .i64 i ∧ s16 = .int .i64 r.n ∧ s15 = .pointer (some ⟨rb, 0, none⟩) ∧ s14 = wrV wb ∧ l.length ≤ writes.length + 1 ∧ FSL wd w3 mb mg wr i xs l r wo rb wb s13)
  case atStart => exact ⟨0, from_, [nv], ⟨0, 0, 0, fun _ => 0⟩, none, rb0, none, by omega, rfl, rfl, rfl, rfl, by simp, HL0.out⟩
  case round =>
    obtain ⟨i, xs, l, r, wo, rb, wb, hi, rfl, rfl, rfl, rfl, hll, hL⟩ := hrel
    rename World => wo1
    have HI := Lib.hid hi
    have HLL := Lib.hid hll
    have HL := Lib.hid hL
    clear hi hll hL
    by_cases hlt : i < picks.length
    · have HLT := Lib.hid hlt
      obtain ⟨kb, ko, rfl, hkb, hkc⟩ := HPK.out.2 (by omega)
      have i1 : (0 : Int) ≤ (i : Int) := by omega
      have i2 : (i : Int) < (picks.length : Int) := by omega
      have HWI := Lib.hid (show wrap64 ((i : Int) + 1) = ((i + 1 : Nat) : Int) from wrap_next (l := picks.length) (by have := HLP.out; omega) hlt)
      have hkk : kb ∉ [mb, mg] := by have := HMB.out; have := HPLO.out; simp; omega
      have hk3 : kb < w3.heap.size := Nat.lt_of_lt_of_le hkb HUW3.out.size
      have k0 : wo1.cell? ⟨kb, ko + i, none⟩ = some (.bool picks[i]) := (HL.out.upd.cell (p := ⟨kb, ko + i, none⟩) hk3 hkk).trans ((HUW3.out.cell (p := ⟨kb, ko + i, none⟩) hkb (by simp)).trans (hkc i _ (by rw [List.getElem?_map, List.getElem?_eq_getElem hlt]; rfl)))
      have hkr : kb < wo1.heap.size := Nat.lt_of_lt_of_le hk3 HL.out.upd.size
      generalize picks[i] = pk at *
      clear hlt hkc hkk hk3 hkb
      have hrp := HL.out.inv.ro.p
      have hri := HL.out.inv.ro.i
      cases pk with
      | true =>
        by_cases hrn : r.n < wd + 3
        · have HRA := Lib.hid (rd_act r HL.out.rd HW.out hrn hrp hri)
          have hok := rAct_ok wd r hrn hrp hri
          have HOK := Lib.hid hok
          have HRN := Lib.hid hrn
          unfold actV at HRA
          generalize hact : rAct wd r = act at *
          obtain ⟨o, c, v⟩ := act
          simp only at hok HRA HOK
          clear hrn hok
          go_wp2_with (go_at_call 11; refine Go.RowKit.Hid.out ?_)
          refine Lib.hid ?_
          refine HRA.out.mono ?_
          rintro e w5 ⟨rfl, hu5⟩
          go_wp2_with (go_at_call 13; refine Go.RowKit.Hid.out ?_)
          refine Lib.hid ?_
          have HU5 := Lib.hid (show Upd [] wo1 (w5.alloc (.cells #[.int .i64 o, .int .i64 c, .int .u32 v] 41)) from hu5.alloc _)
          generalize w5.alloc (.cells #[.int .i64 o, .int .i64 c, .int .u32 v] 41) = w6 at *
          clear hu5
          obtain ⟨xs', hdo, hxl, hxm⟩ := do_words (xs := xs) (c := c) (v := v) (by rw [HL.out.len]; exact HOK.out.2) HOK.out.1
          obtain ⟨got, hgot⟩ : ∃ got, got = (memDo (fun k => xs.getD k 0) (o, c, v)).1 := ⟨_, rfl⟩
          rw [← hgot] at hdo
          have HGOT := Lib.hid hgot
          have HXL := Lib.hid hxl
          have HXM := Lib.hid hxm
          have HDO := Lib.hid hdo
          clear hxl hxm hdo hgot
          refine (do_any o c v got xs' (HL.out.mem.keep HU5.out (by simp) (by simp)) (by have := HLT.out; have := HLP.out; omega) HDO.out).mono ?_
          unfold DoPost
          rintro e w7 ⟨rfl, hm7, hu7⟩
          have HM7 := Lib.hid hm7
          have HU7 := Lib.hid (show Upd [mb, mg] wo1 w7 from (HU5.out.mono (by simp)).trans hu7)
          clear hm7 hu7
          go_wp2_with (go_at_call 14; refine Go.RowKit.Hid.out ?_)
          refine Lib.hid ?_
          have hrbl := HL.out.rlo
          have hbw := HBW.out
          have hrd7 := HL.out.rd.keep HU7.out (by simp; omega)
          refine (rd_take r got hrd7 HW.out HRN.out).mono ?_
          rintro e w8 ⟨rfl, hrd8, hu8⟩
          have HRD8 := Lib.hid hrd8
          have HU8 := Lib.hid hu8
          clear hrd8 hu8 hrd7
          go_wp2
          go_roundg (picks.length - (i + 1))
          case rel =>
            refine ⟨i + 1, xs', l, rTake r got, wo, rb, wb, by have := HLT.out; omega, by first | (rw [HWI.out]; done) | (simp; done), by rw [rTake_n]; first | rfl | (simp; done) | (refine congrArg (Value.int .i64) ?_; unfold wrap64; have := HRN.out; have := HW.out; omega), rfl, rfl, HLL.out, ?_⟩
            have hty := HM7.out.types
            exact {
              mem := HM7.out.keep HU8.out (by simp; omega) (by simp; omega)
              len := by rw [HXL.out]; exact HL.out.len
              inv := by
                have hst := reader_step HL.out.inv HRN.out
                rw [hact] at hst
                rw [HXM.out, HGOT.out]
                exact hst
              rd := HRD8.out
              rlo := hrbl
              wsome := fun b hb => by
                obtain ⟨x, hx, hf, hlo⟩ := HL.out.wsome b hb
                have hf7 := hf.keep HU7.out (by simp; omega)
                refine ⟨x, hx, hf7.keep HU8.out ?_, hlo⟩
                simp
                intro e
                subst e
                have h1 := hf.h
                rw [HL.out.rd.h] at h1
                simp at h1
              wnone := HL.out.wnone
              own := own_upd (own_upd HL.out.own HU7.out (fun k hk hm => by have := own_base HL.out.own k hk; simp at hm; omega)) HU8.out (fun k hk hm => by
                simp at hm
                subst hm
                exact own_ne HL.out.own HL.out.rd.h (by decide) hk)
              upd := (HL.out.upd.trans HU7.out).then HU8.out (fun k hk => .inr (by simp at hk; omega)) }
          case measure => have := HLT.out; have := HI.out; omega
        · have hoff := rd_off hrn
          have hrn2 : r.n = wd + 3 := by have := HL.out.inv.ro.n; omega
          have HIN := Lib.hid (read_whole HL.out.inv hrn2)
          have HRA := Lib.hid (fr_done 0 wd HL.out.rd hoff)
          have HRR := Lib.hid (fun (w1 : World) (hu : Upd [] wo1 w1) => fr_result 0 wd (HL.out.rd.keep hu (by simp)) hoff rfl)
          unfold rdF at HRR
          simp only at HRR
          obtain ⟨aa, ac, eav, -, hels⟩ := flat_own valC valC_len HL.out.own rfl
          have HEL := Lib.hid hels
          clear hoff hrn hrn2 hels
          have HL2 := HL
          rw [eav]
          go_wp2_with fail
          refine HRA.out.mono ?_
          rintro e w5 ⟨rfl, hu5⟩
          have HU5 := Lib.hid (hu5.alloc (.cells #[.int .i64 0, .int .i64 0, .int .u32 0] 41))
          clear hu5
          go_wp2_with fail
          refine (HRR.out _ HU5.out).mono ?_
          rintro e w6 ⟨rfl, hu6⟩
          have HU6 := Lib.hid ((HU5.out.trans hu6).alloc (.cells #[.int .i64 0, .int .u32 (r.r 0), .int .u32 (r.r 1), .int .u32 (r.r 2), .int .u32 (r.r 3)] 46))
          have HRB := Lib.hid (heap_alloc_new w6 (.cells #[.int .i64 0, .int .u32 (r.r 0), .int .u32 (r.r 1), .int .u32 (r.r 2), .int .u32 (r.r 3)] 46))
          clear hu6
          go_wp2
          go_loopg [22, 23] l.length (fun n s22 s23 wr => ∃ k : Nat, n + k = l.length ∧ s23 = .int .i64 k ∧ s22 = .bool (anyEq l r.r k) ∧ Upd [] (w6.alloc (.cells #[.int .i64 0, .int .u32 (r.r 0), .int .u32 (r.r 1), .int .u32 (r.r 2), .int .u32 (r.r 3)] 46)) wr)
          case atStart => exact ⟨0, by omega, rfl, rfl, Upd.refl _ _⟩
          case round =>
            obtain ⟨k, hk, rfl, rfl, hu⟩ := hrel
            have HK := Lib.hid hk
            have HU := Lib.hid hu
            clear hk hu
            by_cases hlk : k < l.length
            · have HLK := Lib.hid hlk
              obtain ⟨ab, ao, rfl, hab, hac⟩ := els_at HEL.out hlk
              have hsu := anyEq_succ l r.r k hlk
              have HSU := Lib.hid hsu
              have j1 : (0 : Int) ≤ (k : Int) := by omega
              have j2 : (k : Int) < (l.length : Int) := by omega
              have HWK := Lib.hid (show wrap64 ((k : Int) + 1) = ((k + 1 : Nat) : Int) from wrap_next (l := l.length) (by have := HLL.out; have := HLW.out; omega) hlk)
              have HUW := Lib.hid (HU6.out.trans HU.out)
              have habr : ab < wr.heap.size := Nat.lt_of_lt_of_le hab HUW.out.size
              have G := fun m v hm => (HUW.out.cell (p := ⟨ab, ao + k * 4 + m, none⟩) hab (by simp)).trans (hac m v hm)
              have g0 := G 0 _ rfl
              have g1 := G 1 _ rfl
              have g2 := G 2 _ rfl
              have g3 := G 3 _ rfl
              rw [Nat.add_zero] at g0
              have HEQ := Lib.hid (show eq4B l[k] r.r = (l[k] 0 == r.r 0 && (l[k] 1 == r.r 1 && (l[k] 2 == r.r 2 && l[k] 3 == r.r 3))) from rfl)
              have hres := HU.out.keepb HRB.out (by simp)
              have rl := heap_lt hres
              have r1 : wr.cell? ⟨w6.heap.size, 1, none⟩ = some (.int .u32 (r.r 0)) := by rw [cell_of_heap hres]; rfl
              have r2 : wr.cell? ⟨w6.heap.size, 2, none⟩ = some (.int .u32 (r.r 1)) := by rw [cell_of_heap hres]; rfl
              have r3 : wr.cell? ⟨w6.heap.size, 3, none⟩ = some (.int .u32 (r.r 2)) := by rw [cell_of_heap hres]; rfl
              have r4 : wr.cell? ⟨w6.heap.size, 4, none⟩ = some (.int .u32 (r.r 3)) := by rw [cell_of_heap hres]; rfl
              generalize l[k] 0 = y0 at *
              generalize l[k] 1 = y1 at *
              generalize l[k] 2 = y2 at *
              generalize l[k] 3 = y3 at *
              generalize eq4B l[k] r.r = eb at *
              generalize r.r 0 = z0 at *
              generalize r.r 1 = z1 at *
              generalize r.r 2 = z2 at *
              generalize r.r 3 = z3 at *
              have R0 : ∀ w1 : World, Upd [] wr w1 → w1.cell? ⟨ab, ao + k * 4, none⟩ = some (.int .u32 y0) := fun w1 h => (h.cell (p := ⟨ab, ao + k * 4, none⟩) habr (by simp)).trans g0
              have R1 : ∀ w1 : World, Upd [] wr w1 → w1.cell? ⟨ab, ao + k * 4 + 1, none⟩ = some (.int .u32 y1) := fun w1 h => (h.cell (p := ⟨ab, ao + k * 4 + 1, none⟩) habr (by simp)).trans g1
              have R2 : ∀ w1 : World, Upd [] wr w1 → w1.cell? ⟨ab, ao + k * 4 + 2, none⟩ = some (.int .u32 y2) := fun w1 h => (h.cell (p := ⟨ab, ao + k * 4 + 2, none⟩) habr (by simp)).trans g2
              have R3 : ∀ w1 : World, Upd [] wr w1 → w1.cell? ⟨ab, ao + k * 4 + 3, none⟩ = some (.int .u32 y3) := fun w1 h => (h.cell (p := ⟨ab, ao + k * 4 + 3, none⟩) habr (by simp)).trans g3
              have R4 : ∀ w1 : World, Upd [] wr w1 → w1.cell? ⟨w6.heap.size, 1, none⟩ = some (.int .u32 z0) := fun w1 h => (h.cell (p := ⟨w6.heap.size, 1, none⟩) rl (by simp)).trans r1
              have R5 : ∀ w1 : World, Upd [] wr w1 → w1.cell? ⟨w6.heap.size, 2, none⟩ = some (.int .u32 z1) := fun w1 h => (h.cell (p := ⟨w6.heap.size, 2, none⟩) rl (by simp)).trans r2
              have R6 : ∀ w1 : World, Upd [] wr w1 → w1.cell? ⟨w6.heap.size, 3, none⟩ = some (.int .u32 z2) := fun w1 h => (h.cell (p := ⟨w6.heap.size, 3, none⟩) rl (by simp)).trans r3
              have R7 : ∀ w1 : World, Upd [] wr w1 → w1.cell? ⟨w6.heap.size, 4, none⟩ = some (.int .u32 z3) := fun w1 h => (h.cell (p := ⟨w6.heap.size, 4, none⟩) rl (by simp)).trans r4
              clear g0 g1 g2 g3 r1 r2 r3 r4 hres G hac hlk hsu
              generalize anyEq l r.r k = ak at *
              cases ak with
              | true =>
                go_upto_region 23 with (fail)
                refine wp_region_held_drew (S := fun w1 => Upd [] wr w1) (by kernel_rfl) ?_ (fun hHeld => ?_)
                · exact (Upd.refl _ wr).drew
                apply wpAnyH_take (i := 0) (oi := { dst := some 98, op := Op.move (Operand.tmp 22), type := 4, pos := "law.go:96", after := #[], guard := none }) rfl (by kernel_rfl) (by kernel_rfl) (by kernel_rfl) (fun _ _ _ h => h) (Or.inl ⟨by rfl, ?_⟩) hHeld ?_
                rotate_left 1
                · intro w1 hSw
                  (try dsimp only at hSw)
                  go_simp
                  rfl
                (try simp only [Act.put, List.setIfInBounds_toArray, List.set_cons_zero, List.set_cons_succ])
                apply wpAnyH_take (i := 1) (oi := { dst := some 99, op := Op.move (Operand.tmp 98), type := 4, pos := "law.go:96", after := #[{ on := 0, ground := Ground.data }], guard := none }) rfl (by kernel_rfl) (by kernel_rfl) (by kernel_rfl) (fun _ _ _ h => h) (Or.inl ⟨by rfl, ?_⟩) hHeld ?_
                rotate_left 1
                · intro w1 hSw
                  (try dsimp only at hSw)
                  go_simp
                  rfl
                (try simp only [Act.put, List.setIfInBounds_toArray, List.set_cons_zero, List.set_cons_succ])
                refine wpAnyH_take (i := 2) (oi := { dst := some 100, op := Op.move (Operand.tmp 13), type := 23, pos := "law.go:96", after := #[{ on := 1, ground := Ground.guard }], guard := some (1, false) }) (v := undef) rfl (by kernel_rfl) (by kernel_rfl) (by kernel_rfl) (fun _ _ _ h => h) (Or.inr ⟨by rfl, rfl⟩) hHeld ?_
                (try simp only [Act.put, List.setIfInBounds_toArray, List.set_cons_zero, List.set_cons_succ])
                refine wpAnyH_take (i := 3) (oi := { dst := some 101, op := Op.move (Operand.tmp 23), type := 3, pos := "law.go:96", after := #[{ on := 1, ground := Ground.guard }], guard := some (1, false) }) (v := undef) rfl (by kernel_rfl) (by kernel_rfl) (by kernel_rfl) (fun _ _ _ h => h) (Or.inr ⟨by rfl, rfl⟩) hHeld ?_
                (try simp only [Act.put, List.setIfInBounds_toArray, List.set_cons_zero, List.set_cons_succ])
                refine wpAnyH_take (i := 4) (oi := { dst := some 102, op := Op.indexAddr 23 (Operand.tmp 100) (Operand.tmp 101), type := 0, pos := "law.go:96", after := #[{ on := 2, ground := Ground.data }, { on := 3, ground := Ground.data }, { on := 1, ground := Ground.guard }], guard := some (1, false) }) (v := undef) rfl (by kernel_rfl) (by kernel_rfl) (by kernel_rfl) (fun _ _ _ h => h) (Or.inr ⟨by rfl, rfl⟩) hHeld ?_
                (try simp only [Act.put, List.setIfInBounds_toArray, List.set_cons_zero, List.set_cons_succ])
                refine wpAnyH_take (i := 5) (oi := { dst := some 103, op := Op.load 34 (Operand.tmp 102), type := 34, pos := "law.go:96", after := #[{ on := 4, ground := Ground.data }, { on := 1, ground := Ground.guard }], guard := some (1, false) }) (v := undef) rfl (by kernel_rfl) (by kernel_rfl) (by kernel_rfl) (fun _ _ _ h => h) (Or.inr ⟨by rfl, rfl⟩) hHeld ?_
                (try simp only [Act.put, List.setIfInBounds_toArray, List.set_cons_zero, List.set_cons_succ])
                refine wpAnyH_take (i := 6) (oi := { dst := some 104, op := Op.fieldAddr 46 (Operand.tmp 20) 1, type := 0, pos := "law.go:96", after := #[{ on := 1, ground := Ground.guard }], guard := some (1, false) }) (v := undef) rfl (by kernel_rfl) (by kernel_rfl) (by kernel_rfl) (fun _ _ _ h => h) (Or.inr ⟨by rfl, rfl⟩) hHeld ?_
                (try simp only [Act.put, List.setIfInBounds_toArray, List.set_cons_zero, List.set_cons_succ])
                refine wpAnyH_take (i := 7) (oi := { dst := some 105, op := Op.load 34 (Operand.tmp 104), type := 34, pos := "law.go:96", after := #[{ on := 6, ground := Ground.data }, { on := 1, ground := Ground.guard }], guard := some (1, false) }) (v := undef) rfl (by kernel_rfl) (by kernel_rfl) (by kernel_rfl) (fun _ _ _ h => h) (Or.inr ⟨by rfl, rfl⟩) hHeld ?_
                (try simp only [Act.put, List.setIfInBounds_toArray, List.set_cons_zero, List.set_cons_succ])
                refine wpAnyH_take (i := 8) (oi := { dst := some 106, op := Op.binOp BinOp.eql 34 (Operand.tmp 103) (Operand.tmp 105) 34, type := 4, pos := "law.go:96", after := #[{ on := 5, ground := Ground.data }, { on := 7, ground := Ground.data }, { on := 1, ground := Ground.guard }], guard := some (1, false) }) (v := undef) rfl (by kernel_rfl) (by kernel_rfl) (by kernel_rfl) (fun _ _ _ h => h) (Or.inr ⟨by rfl, rfl⟩) hHeld ?_
                (try simp only [Act.put, List.setIfInBounds_toArray, List.set_cons_zero, List.set_cons_succ])
                apply wpAnyH_take (i := 9) (oi := { dst := some 107, op := Op.pick (Operand.tmp 99) (Operand.const (Value.bool true)) (Operand.tmp 106), type := 4, pos := "law.go:96", after := #[{ on := 1, ground := Ground.data }, { on := 8, ground := Ground.data }], guard := none }) rfl (by kernel_rfl) (by kernel_rfl) (by kernel_rfl) (fun _ _ _ h => h) (Or.inl ⟨by rfl, ?_⟩) hHeld ?_
                rotate_left 1
                · intro w1 hSw
                  (try dsimp only at hSw)
                  go_simp
                  rfl
                (try simp only [Act.put, List.setIfInBounds_toArray, List.set_cons_zero, List.set_cons_succ])
                apply wpAnyH_take (i := 10) (oi := { dst := some 22, op := Op.assign (Operand.tmp 107), type := 4, pos := "law.go:96", after := #[{ on := 9, ground := Ground.data }, { on := 1, ground := Ground.chain }, { on := 0, ground := Ground.phase }, { on := 1, ground := Ground.phase }, { on := 2, ground := Ground.phase }, { on := 3, ground := Ground.phase }, { on := 4, ground := Ground.phase }, { on := 5, ground := Ground.phase }, { on := 6, ground := Ground.phase }, { on := 7, ground := Ground.phase }, { on := 8, ground := Ground.phase }, { on := 9, ground := Ground.phase }], guard := none }) rfl (by kernel_rfl) (by kernel_rfl) (by kernel_rfl) (fun _ _ _ h => h) (Or.inl ⟨by rfl, ?_⟩) hHeld ?_
                rotate_left 1
                · intro w1 hSw
                  (try dsimp only at hSw)
                  go_simp
                  rfl
                (try simp only [Act.put, List.setIfInBounds_toArray, List.set_cons_zero, List.set_cons_succ])
                refine wpAnyH_done (by kernel_rfl) ?_ _
                clear R0 R1 R2 R3 R4 R5 R6 R7
                go_wp2
                go_roundg (l.length - (k + 1))
                case rel => exact ⟨k + 1, by have := HLK.out; omega, by first | (rw [HWK.out]; done) | (simp; done), by rw [HSU.out]; simp, by repeat (first | (with_reducible exact HU.out) | (with_reducible apply Upd.drew))⟩
                case measure => have := HLK.out; have := HK.out; omega
              | false =>
                go_upto_region 23 with (fail)
                refine wp_region_held_drew (S := fun w1 => Upd [] wr w1) (by kernel_rfl) ?_ (fun hHeld => ?_)
                · exact (Upd.refl _ wr).drew
                apply wpAnyH_take (i := 0) (oi := { dst := some 98, op := Op.move (Operand.tmp 22), type := 4, pos := "law.go:96", after := #[], guard := none }) rfl (by kernel_rfl) (by kernel_rfl) (by kernel_rfl) (fun _ _ _ h => h) (Or.inl ⟨by rfl, ?_⟩) hHeld ?_
                rotate_left 1
                · intro w1 hSw
                  (try dsimp only at hSw)
                  go_simp
                  rfl
                (try simp only [Act.put, List.setIfInBounds_toArray, List.set_cons_zero, List.set_cons_succ])
                apply wpAnyH_take (i := 1) (oi := { dst := some 99, op := Op.move (Operand.tmp 98), type := 4, pos := "law.go:96", after := #[{ on := 0, ground := Ground.data }], guard := none }) rfl (by kernel_rfl) (by kernel_rfl) (by kernel_rfl) (fun _ _ _ h => h) (Or.inl ⟨by rfl, ?_⟩) hHeld ?_
                rotate_left 1
                · intro w1 hSw
                  (try dsimp only at hSw)
                  go_simp
                  rfl
                (try simp only [Act.put, List.setIfInBounds_toArray, List.set_cons_zero, List.set_cons_succ])
                apply wpAnyH_take (i := 2) (oi := { dst := some 100, op := Op.move (Operand.tmp 13), type := 23, pos := "law.go:96", after := #[{ on := 1, ground := Ground.guard }], guard := some (1, false) }) rfl (by kernel_rfl) (by kernel_rfl) (by kernel_rfl) (fun _ _ _ h => h) (Or.inl ⟨by rfl, ?_⟩) hHeld ?_
                rotate_left 1
                · intro w1 hSw
                  (try dsimp only at hSw)
                  go_simp
                  rfl
                (try simp only [Act.put, List.setIfInBounds_toArray, List.set_cons_zero, List.set_cons_succ])
                apply wpAnyH_take (i := 3) (oi := { dst := some 101, op := Op.move (Operand.tmp 23), type := 3, pos := "law.go:96", after := #[{ on := 1, ground := Ground.guard }], guard := some (1, false) }) rfl (by kernel_rfl) (by kernel_rfl) (by kernel_rfl) (fun _ _ _ h => h) (Or.inl ⟨by rfl, ?_⟩) hHeld ?_
                rotate_left 1
                · intro w1 hSw
                  (try dsimp only at hSw)
                  go_simp
                  rfl
                (try simp only [Act.put, List.setIfInBounds_toArray, List.set_cons_zero, List.set_cons_succ])
                apply wpAnyH_take (i := 4) (oi := { dst := some 102, op := Op.indexAddr 23 (Operand.tmp 100) (Operand.tmp 101), type := 0, pos := "law.go:96", after := #[{ on := 2, ground := Ground.data }, { on := 3, ground := Ground.data }, { on := 1, ground := Ground.guard }], guard := some (1, false) }) rfl (by kernel_rfl) (by kernel_rfl) (by kernel_rfl) (fun _ _ _ h => h) (Or.inl ⟨by rfl, ?_⟩) hHeld ?_
                rotate_left 1
                · intro w1 hSw
                  (try dsimp only at hSw)
                  go_simp
                  rfl
                (try simp only [Act.put, List.setIfInBounds_toArray, List.set_cons_zero, List.set_cons_succ])
                apply wpAnyH_take (i := 5) (oi := { dst := some 103, op := Op.load 34 (Operand.tmp 102), type := 34, pos := "law.go:96", after := #[{ on := 4, ground := Ground.data }, { on := 1, ground := Ground.guard }], guard := some (1, false) }) rfl (by kernel_rfl) (by kernel_rfl) (by kernel_rfl) (fun _ _ _ h => h) (Or.inl ⟨by rfl, ?_⟩) hHeld ?_
                rotate_left 1
                · intro w1 hSw
                  (try dsimp only at hSw)
                  go_simp
                  rfl
                (try simp only [Act.put, List.setIfInBounds_toArray, List.set_cons_zero, List.set_cons_succ])
                apply wpAnyH_take (i := 6) (oi := { dst := some 104, op := Op.fieldAddr 46 (Operand.tmp 20) 1, type := 0, pos := "law.go:96", after := #[{ on := 1, ground := Ground.guard }], guard := some (1, false) }) rfl (by kernel_rfl) (by kernel_rfl) (by kernel_rfl) (fun _ _ _ h => h) (Or.inl ⟨by rfl, ?_⟩) hHeld ?_
                rotate_left 1
                · intro w1 hSw
                  (try dsimp only at hSw)
                  go_simp
                  rfl
                (try simp only [Act.put, List.setIfInBounds_toArray, List.set_cons_zero, List.set_cons_succ])
                apply wpAnyH_take (i := 7) (oi := { dst := some 105, op := Op.load 34 (Operand.tmp 104), type := 34, pos := "law.go:96", after := #[{ on := 6, ground := Ground.data }, { on := 1, ground := Ground.guard }], guard := some (1, false) }) rfl (by kernel_rfl) (by kernel_rfl) (by kernel_rfl) (fun _ _ _ h => h) (Or.inl ⟨by rfl, ?_⟩) hHeld ?_
                rotate_left 1
                · intro w1 hSw
                  (try dsimp only at hSw)
                  go_simp
                  rfl
                (try simp only [Act.put, List.setIfInBounds_toArray, List.set_cons_zero, List.set_cons_succ])
                apply wpAnyH_take (i := 8) (oi := { dst := some 106, op := Op.binOp BinOp.eql 34 (Operand.tmp 103) (Operand.tmp 105) 34, type := 4, pos := "law.go:96", after := #[{ on := 5, ground := Ground.data }, { on := 7, ground := Ground.data }, { on := 1, ground := Ground.guard }], guard := some (1, false) }) rfl (by kernel_rfl) (by kernel_rfl) (by kernel_rfl) (fun _ _ _ h => h) (Or.inl ⟨by rfl, ?_⟩) hHeld ?_
                rotate_left 1
                · intro w1 hSw
                  (try dsimp only at hSw)
                  go_simp
                  rfl
                (try simp only [Act.put, List.setIfInBounds_toArray, List.set_cons_zero, List.set_cons_succ])
                apply wpAnyH_take (i := 9) (oi := { dst := some 107, op := Op.pick (Operand.tmp 99) (Operand.const (Value.bool true)) (Operand.tmp 106), type := 4, pos := "law.go:96", after := #[{ on := 1, ground := Ground.data }, { on := 8, ground := Ground.data }], guard := none }) rfl (by kernel_rfl) (by kernel_rfl) (by kernel_rfl) (fun _ _ _ h => h) (Or.inl ⟨by rfl, ?_⟩) hHeld ?_
                rotate_left 1
                · intro w1 hSw
                  (try dsimp only at hSw)
                  go_simp
                  rfl
                (try simp only [Act.put, List.setIfInBounds_toArray, List.set_cons_zero, List.set_cons_succ])
                apply wpAnyH_take (i := 10) (oi := { dst := some 22, op := Op.assign (Operand.tmp 107), type := 4, pos := "law.go:96", after := #[{ on := 9, ground := Ground.data }, { on := 1, ground := Ground.chain }, { on := 0, ground := Ground.phase }, { on := 1, ground := Ground.phase }, { on := 2, ground := Ground.phase }, { on := 3, ground := Ground.phase }, { on := 4, ground := Ground.phase }, { on := 5, ground := Ground.phase }, { on := 6, ground := Ground.phase }, { on := 7, ground := Ground.phase }, { on := 8, ground := Ground.phase }, { on := 9, ground := Ground.phase }], guard := none }) rfl (by kernel_rfl) (by kernel_rfl) (by kernel_rfl) (fun _ _ _ h => h) (Or.inl ⟨by rfl, ?_⟩) hHeld ?_
                rotate_left 1
                · intro w1 hSw
                  (try dsimp only at hSw)
                  go_simp
                  rfl
                (try simp only [Act.put, List.setIfInBounds_toArray, List.set_cons_zero, List.set_cons_succ])
                refine wpAnyH_done (by kernel_rfl) ?_ _
                clear R0 R1 R2 R3 R4 R5 R6 R7
                go_wp2
                go_roundg (l.length - (k + 1))
                case rel => exact ⟨k + 1, by have := HLK.out; omega, by first | (rw [HWK.out]; done) | (simp; done), by rw [HSU.out, HEQ.out]; simp, by repeat (first | (with_reducible exact HU.out) | (with_reducible apply Upd.drew))⟩
                case measure => have := HLK.out; have := HK.out; omega
            · obtain rfl : k = l.length := by have := HK.out; omega
              rw [anyEq_all HIN.out]
              have HUW := Lib.hid (HU6.out.trans HU.out)
              have hpb9 := HUW.out.keepb (HL.out.upd.keepb HPB3.out (by have := HMB.out; simp; omega)) (by simp)
              obtain ⟨p0, p1', p2, p3, p4⟩ := cells5p hpb9
              clear hlk hpb9
              go_wp2_with (go_at_call 10; refine Go.RowKit.Hid.out ?_)
              refine Lib.hid ?_
              refine (HNR.out _).mono ?_
              rintro e w8 ⟨b8, rfl, hb8, hf8, hu8⟩
              have HF8 := Lib.hid hf8
              have HU8 := Lib.hid (HUW.out.trans hu8)
              have HB8 := Lib.hid (Nat.le_trans HUW.out.size hb8)
              clear hf8 hu8 hb8
              go_wp2
              go_roundg (picks.length - (i + 1))
              case rel =>
                refine ⟨i + 1, xs, l, ⟨0, 0, 0, fun _ => 0⟩, wo, b8, wb, by have := HLT.out; omega, by first | (rw [HWI.out]; done) | (simp; done), rfl, rfl, rfl, HLL.out, ?_⟩
                exact {
                  mem := (HL.out.mem.keep HU8.out (by simp) (by simp)).mono (by omega)
                  len := HL.out.len
                  inv := inv_read HL.out.inv
                  rd := by rw [rd_start]; exact HF8.out
                  rlo := Nat.le_trans HL.out.upd.size HB8.out
                  wsome := fun b hb => by
                    obtain ⟨x, hx, hf, hlo⟩ := HL.out.wsome b hb
                    exact ⟨x, hx, hf.keep HU8.out (by simp), hlo⟩
                  wnone := HL.out.wnone
                  own := by
                    have h9 := own_upd HL.out.own HU8.out (by simp)
                    rw [eav] at h9
                    exact h9
                  upd := HL.out.upd.trans (HU8.out.mono (by simp)) }
              case measure => have := HLT.out; have := HI.out; omega
      | false =>
        cases wb with
        | some b =>
          obtain ⟨x, rfl, hfx, hxlo⟩ := HL.out.wsome b rfl
          have HLX := HL
          have HFX := Lib.hid hfx
          have HXLO := Lib.hid hxlo
          clear hfx hxlo
          unfold wrV
          (
                      have hxo := HLX.out.inv.wo x rfl
                      by_cases hxn : x.n < wd + 4
                      · have HXN := Lib.hid hxn
                        have HWA := Lib.hid (wr_act x HFX.out HW.out hxn hxo.q hxo.j)
                        have hok := wAct_ok wd x hxn hxo.q hxo.j
                        have hncl := fun h3 h4 => no_clash HLX.out.inv h3 h4 hxn
                        unfold actV at HWA
                        generalize hact : wAct wd x = act at *
                        have HACT := Lib.hid hact
                        obtain ⟨o, c, v⟩ := act
                        simp only at hok HWA hncl
                        have HOK := Lib.hid hok
                        have HNC := Lib.hid hncl
                        obtain ⟨xs', hdo, hxl, hxm⟩ := do_words (xs := xs) (c := c) (v := v) (by rw [HLX.out.len]; exact HOK.out.2) HOK.out.1
                        obtain ⟨got, hgot⟩ : ∃ got, got = (memDo (fun k => xs.getD k 0) (o, c, v)).1 := ⟨_, rfl⟩
                        rw [← hgot] at hdo
                        have HGOT := Lib.hid hgot
                        have HXL := Lib.hid hxl
                        have HXM := Lib.hid hxm
                        have HDO := Lib.hid hdo
                        clear hxn hok hncl hact hdo hxl hxm hgot hxo
                        go_wp2_with (go_at_call 16; refine Go.RowKit.Hid.out ?_)
                        refine Lib.hid ?_
                        refine HWA.out.mono ?_
                        rintro e w5 ⟨rfl, hu5⟩
                        obtain ⟨p5, rfl⟩ := hu5.grown
                        clear hu5
                        have hc65 : c < 65536 := by have := HOK.out.2; have := HW.out; omega
                        by_cases hrn : r.n < wd + 3
                        · have hokr := rAct_ok wd r hrn hrp hri
                          have HRA := Lib.hid (fun (w1 : World) (hu : Upd [] wo1 w1) => rd_act r (HLX.out.rd.keep hu (by simp)) HW.out hrn hrp hri)
                          have hncl := fun h3 => HNC.out h3 hrn
                          unfold actV at HRA
                          generalize rAct wd r = act2 at *
                          obtain ⟨o2, c2, v2⟩ := act2
                          simp only at hokr HRA hncl
                          have hc65' : c2 < 65536 := by have := hokr.2; have := HW.out; omega
                          by_cases h3 : 3 ≤ r.n
                          · have HCL := Lib.hid (fun (w : World) => clash_c o v o2 v2 c c2 hc65 hc65' (hncl h3) w HOK.out.1 hokr.1)
                            have q3 : decide ((3 : Int) ≤ (r.n : Int)) = true := by simp; omega
                            have q3' : decide (3 ≤ r.n) = true := by simpa using h3
                            clear hncl hokr h3 hrn hc65 hc65'
                            go_wp2_with (first
                              | (go_at_call 11; (refine (HRA.out _ (by repeat (first | (with_reducible exact Upd.refl _ _) | (with_reducible apply Upd.drew) | (with_reducible refine Upd.grE ?_ _) | (with_reducible refine Upd.alloc ?_ _)))).mono ?_); rintro e w6 ⟨rfl, hu6⟩; obtain ⟨p6, rfl⟩ := hu6.grown; clear hu6)
                              | (go_at_call 17; (refine (HCL.out _).mono ?_); rintro e w6 ⟨rfl, hu6⟩; obtain ⟨p7, rfl⟩ := hu6.grown; clear hu6)
                              | (go_at_call 13; refine Go.RowKit.Hid.out ?_))
                            (
                                        refine Lib.hid ?_
                                        refine (do_any o c v got xs' (HLX.out.mem.keep (show Upd [] wo1 _ from (by repeat (first | (with_reducible exact Upd.refl _ _) | (with_reducible apply Upd.drew) | (with_reducible refine Upd.grE ?_ _) | (with_reducible refine Upd.alloc ?_ _)))) (by simp) (by simp)) (by have := HLT.out; have := HLP.out; omega) HDO.out).mono ?_
                                        unfold DoPost
                                        rintro e w7 ⟨rfl, hm7, hu7⟩
                                        have HM7 := Lib.hid hm7
                                        have HU7 := Lib.hid (show Upd [mb, mg] wo1 w7 from Upd.trans (show Upd [mb, mg] wo1 _ from (by repeat (first | (with_reducible exact Upd.refl _ _) | (with_reducible apply Upd.drew) | (with_reducible refine Upd.grE ?_ _) | (with_reducible refine Upd.alloc ?_ _)))) hu7)
                                        clear hm7 hu7
                                        go_wp2_with (go_at_call 18; refine Go.RowKit.Hid.out ?_)
                                        refine Lib.hid ?_
                                        have hxlo := HXLO.out
                                        have hbw := HBW.out
                                        have hrlo := HLX.out.rlo
                                        refine (wr_take x got (HFX.out.keep HU7.out (by simp; omega)) HW.out HXN.out).mono ?_
                                        rintro e w8 ⟨rfl, hwr8, hu8⟩
                                        have HWR8 := Lib.hid hwr8
                                        have HU8 := Lib.hid hu8
                                        clear hwr8 hu8
                                        go_wp2
                                        go_roundg (picks.length - (i + 1))
                                        case rel =>
                                          refine ⟨i + 1, xs', l, r, some (wTake x got), rb, some b, by have := HLT.out; omega, by first | (rw [HWI.out]; done) | (simp; done), rfl, rfl, rfl, HLL.out, ?_⟩
                                          exact {
                                            mem := HM7.out.keep HU8.out (by simp; omega) (by simp; omega)
                                            len := by rw [HXL.out]; exact HLX.out.len
                                            inv := by
                                              have hst := writer_step HLX.out.inv HXN.out
                                              rw [HACT.out] at hst
                                              rw [HXM.out, HGOT.out]
                                              exact hst
                                            rd := (HLX.out.rd.keep HU7.out (by simp; omega)).keep HU8.out (by
                                              simp
                                              intro e
                                              subst e
                                              have h1 := HLX.out.rd.h
                                              rw [HFX.out.h] at h1
                                              simp at h1)
                                            rlo := hrlo
                                            wsome := fun b' hb' => by
                                              obtain rfl := Option.some.inj hb'
                                              exact ⟨_, rfl, HWR8.out, hxlo⟩
                                            wnone := fun h => by cases h
                                            own := own_upd (own_upd HLX.out.own HU7.out (fun k hk hm => by have := own_base HLX.out.own k hk; simp at hm; omega)) HU8.out (fun k hk hm => by
                                              simp at hm
                                              subst hm
                                              exact own_ne HLX.out.own HFX.out.h (by decide) hk)
                                            upd := (HLX.out.upd.trans HU7.out).then HU8.out (fun k hk => .inr (by simp at hk; omega)) }
                                        case measure => have := HLT.out; have := HI.out; omega)
                          · have q3 : decide ((3 : Int) ≤ (r.n : Int)) = false := by simp; omega
                            have q3' : decide (3 ≤ r.n) = false := by simpa using h3
                            clear hncl hokr h3 hrn hc65 hc65'
                            go_wp2_with (first
                              | (go_at_call 11; (refine (HRA.out _ (by repeat (first | (with_reducible exact Upd.refl _ _) | (with_reducible apply Upd.drew) | (with_reducible refine Upd.grE ?_ _) | (with_reducible refine Upd.alloc ?_ _)))).mono ?_); rintro e w6 ⟨rfl, hu6⟩; obtain ⟨p6, rfl⟩ := hu6.grown; clear hu6)
                              | (go_at_call 13; refine Go.RowKit.Hid.out ?_))
                            (
                                        refine Lib.hid ?_
                                        refine (do_any o c v got xs' (HLX.out.mem.keep (show Upd [] wo1 _ from (by repeat (first | (with_reducible exact Upd.refl _ _) | (with_reducible apply Upd.drew) | (with_reducible refine Upd.grE ?_ _) | (with_reducible refine Upd.alloc ?_ _)))) (by simp) (by simp)) (by have := HLT.out; have := HLP.out; omega) HDO.out).mono ?_
                                        unfold DoPost
                                        rintro e w7 ⟨rfl, hm7, hu7⟩
                                        have HM7 := Lib.hid hm7
                                        have HU7 := Lib.hid (show Upd [mb, mg] wo1 w7 from Upd.trans (show Upd [mb, mg] wo1 _ from (by repeat (first | (with_reducible exact Upd.refl _ _) | (with_reducible apply Upd.drew) | (with_reducible refine Upd.grE ?_ _) | (with_reducible refine Upd.alloc ?_ _)))) hu7)
                                        clear hm7 hu7
                                        go_wp2_with (go_at_call 18; refine Go.RowKit.Hid.out ?_)
                                        refine Lib.hid ?_
                                        have hxlo := HXLO.out
                                        have hbw := HBW.out
                                        have hrlo := HLX.out.rlo
                                        refine (wr_take x got (HFX.out.keep HU7.out (by simp; omega)) HW.out HXN.out).mono ?_
                                        rintro e w8 ⟨rfl, hwr8, hu8⟩
                                        have HWR8 := Lib.hid hwr8
                                        have HU8 := Lib.hid hu8
                                        clear hwr8 hu8
                                        go_wp2
                                        go_roundg (picks.length - (i + 1))
                                        case rel =>
                                          refine ⟨i + 1, xs', l, r, some (wTake x got), rb, some b, by have := HLT.out; omega, by first | (rw [HWI.out]; done) | (simp; done), rfl, rfl, rfl, HLL.out, ?_⟩
                                          exact {
                                            mem := HM7.out.keep HU8.out (by simp; omega) (by simp; omega)
                                            len := by rw [HXL.out]; exact HLX.out.len
                                            inv := by
                                              have hst := writer_step HLX.out.inv HXN.out
                                              rw [HACT.out] at hst
                                              rw [HXM.out, HGOT.out]
                                              exact hst
                                            rd := (HLX.out.rd.keep HU7.out (by simp; omega)).keep HU8.out (by
                                              simp
                                              intro e
                                              subst e
                                              have h1 := HLX.out.rd.h
                                              rw [HFX.out.h] at h1
                                              simp at h1)
                                            rlo := hrlo
                                            wsome := fun b' hb' => by
                                              obtain rfl := Option.some.inj hb'
                                              exact ⟨_, rfl, HWR8.out, hxlo⟩
                                            wnone := fun h => by cases h
                                            own := own_upd (own_upd HLX.out.own HU7.out (fun k hk hm => by have := own_base HLX.out.own k hk; simp at hm; omega)) HU8.out (fun k hk hm => by
                                              simp at hm
                                              subst hm
                                              exact own_ne HLX.out.own HFX.out.h (by decide) hk)
                                            upd := (HLX.out.upd.trans HU7.out).then HU8.out (fun k hk => .inr (by simp at hk; omega)) }
                                        case measure => have := HLT.out; have := HI.out; omega)
                        · have HRA := Lib.hid (fun (w1 : World) (hu : Upd [] wo1 w1) => fr_done 0 wd (HLX.out.rd.keep hu (by simp)) (rd_off hrn))
                          have q3 : decide ((3 : Int) ≤ (r.n : Int)) = true := by simp; omega
                          have q3' : decide (3 ≤ r.n) = true := by simp; omega
                          clear hrn hc65
                          go_wp2_with (first
                            | (go_at_call 11; (refine (HRA.out _ (by repeat (first | (with_reducible exact Upd.refl _ _) | (with_reducible apply Upd.drew) | (with_reducible refine Upd.grE ?_ _) | (with_reducible refine Upd.alloc ?_ _)))).mono ?_); rintro e w6 ⟨rfl, hu6⟩; obtain ⟨p6, rfl⟩ := hu6.grown; clear hu6)
                            | (go_at_call 13; refine Go.RowKit.Hid.out ?_))
                          (
                                      refine Lib.hid ?_
                                      refine (do_any o c v got xs' (HLX.out.mem.keep (show Upd [] wo1 _ from (by repeat (first | (with_reducible exact Upd.refl _ _) | (with_reducible apply Upd.drew) | (with_reducible refine Upd.grE ?_ _) | (with_reducible refine Upd.alloc ?_ _)))) (by simp) (by simp)) (by have := HLT.out; have := HLP.out; omega) HDO.out).mono ?_
                                      unfold DoPost
                                      rintro e w7 ⟨rfl, hm7, hu7⟩
                                      have HM7 := Lib.hid hm7
                                      have HU7 := Lib.hid (show Upd [mb, mg] wo1 w7 from Upd.trans (show Upd [mb, mg] wo1 _ from (by repeat (first | (with_reducible exact Upd.refl _ _) | (with_reducible apply Upd.drew) | (with_reducible refine Upd.grE ?_ _) | (with_reducible refine Upd.alloc ?_ _)))) hu7)
                                      clear hm7 hu7
                                      go_wp2_with (go_at_call 18; refine Go.RowKit.Hid.out ?_)
                                      refine Lib.hid ?_
                                      have hxlo := HXLO.out
                                      have hbw := HBW.out
                                      have hrlo := HLX.out.rlo
                                      refine (wr_take x got (HFX.out.keep HU7.out (by simp; omega)) HW.out HXN.out).mono ?_
                                      rintro e w8 ⟨rfl, hwr8, hu8⟩
                                      have HWR8 := Lib.hid hwr8
                                      have HU8 := Lib.hid hu8
                                      clear hwr8 hu8
                                      go_wp2
                                      go_roundg (picks.length - (i + 1))
                                      case rel =>
                                        refine ⟨i + 1, xs', l, r, some (wTake x got), rb, some b, by have := HLT.out; omega, by first | (rw [HWI.out]; done) | (simp; done), rfl, rfl, rfl, HLL.out, ?_⟩
                                        exact {
                                          mem := HM7.out.keep HU8.out (by simp; omega) (by simp; omega)
                                          len := by rw [HXL.out]; exact HLX.out.len
                                          inv := by
                                            have hst := writer_step HLX.out.inv HXN.out
                                            rw [HACT.out] at hst
                                            rw [HXM.out, HGOT.out]
                                            exact hst
                                          rd := (HLX.out.rd.keep HU7.out (by simp; omega)).keep HU8.out (by
                                            simp
                                            intro e
                                            subst e
                                            have h1 := HLX.out.rd.h
                                            rw [HFX.out.h] at h1
                                            simp at h1)
                                          rlo := hrlo
                                          wsome := fun b' hb' => by
                                            obtain rfl := Option.some.inj hb'
                                            exact ⟨_, rfl, HWR8.out, hxlo⟩
                                          wnone := fun h => by cases h
                                          own := own_upd (own_upd HLX.out.own HU7.out (fun k hk hm => by have := own_base HLX.out.own k hk; simp at hm; omega)) HU8.out (fun k hk hm => by
                                            simp at hm
                                            subst hm
                                            exact own_ne HLX.out.own HFX.out.h (by decide) hk)
                                          upd := (HLX.out.upd.trans HU7.out).then HU8.out (fun k hk => .inr (by simp at hk; omega)) }
                                      case measure => have := HLT.out; have := HI.out; omega)
                      · have HWA := Lib.hid (fw_done 0 wd HFX.out (wr_off hxn))
                        clear hxn hxo
                        go_wp2_with (go_at_call 16; refine Go.RowKit.Hid.out ?_)
                        refine Lib.hid ?_
                        refine HWA.out.mono ?_
                        rintro e w5 ⟨rfl, hu5⟩
                        have HU5 := Lib.hid (hu5.alloc (.cells #[.int .i64 0, .int .i64 0, .int .u32 0] 41))
                        clear hu5
                        go_wp2
                        go_roundg (picks.length - (i + 1))
                        case rel =>
                          refine ⟨i + 1, xs, l, r, none, rb, none, by have := HLT.out; omega, by first | (rw [HWI.out]; done) | (simp; done), rfl, rfl, rfl, HLL.out, ?_⟩
                          exact {
                            mem := (HLX.out.mem.keep HU5.out (by simp) (by simp)).mono (by omega)
                            len := HLX.out.len
                            inv := inv_done HLX.out.inv
                            rd := HLX.out.rd.keep HU5.out (by simp)
                            rlo := HLX.out.rlo
                            wsome := fun b hb => by cases hb
                            wnone := fun _ => rfl
                            own := own_upd HLX.out.own HU5.out (by simp)
                            upd := HLX.out.upd.trans (HU5.out.mono (by simp)) }
                        case measure => have := HLT.out; have := HI.out; omega)
        | none =>
          obtain rfl : wo = none := HL.out.wnone rfl
          unfold wrV
          have hl1 : 1 ≤ l.length := by
            obtain ⟨b, hb, -⟩ := HL.out.inv.last
            exact List.length_pos_of_mem hb
          obtain ⟨aa, ac, eav, haz, -⟩ := flat_own valC valC_len HL.out.own rfl
          have HOWN := Lib.hid HL.out.own
          rw [eav] at HOWN
          have HAZ := Lib.hid haz
          rw [eav]
          clear haz
          by_cases hgt : writes.length < l.length
          · have q7 : decide ((writes.length : Int) < (l.length : Int)) = true := by simp; omega
            have q7' : decide (writes.length < l.length) = true := by simpa using hgt
            clear hgt hl1
            go_wp2
            go_roundg (picks.length - (i + 1))
            case rel =>
              refine ⟨i + 1, xs, l, r, none, rb, none, by have := HLT.out; omega, by first | (rw [HWI.out]; done) | (simp; done), rfl, rfl, rfl, HLL.out, ?_⟩
              exact {
                mem := HL.out.mem.mono (by omega)
                len := HL.out.len
                inv := HL.out.inv
                rd := HL.out.rd
                rlo := HL.out.rlo
                wsome := HL.out.wsome
                wnone := HL.out.wnone
                own := HOWN.out
                upd := HL.out.upd }
            case measure => have := HLT.out; have := HI.out; omega
          · have q7 : decide ((writes.length : Int) < (l.length : Int)) = false := by simp; omega
            have q7' : decide (writes.length < l.length) = false := by simpa using hgt
            have hix : l.length - 1 < writes.length := by omega
            obtain ⟨vb, vo, rfl, hvb, hvc⟩ := els_at HWR.out hix
            have j1 : wrap64 ((l.length : Int) - 1) = ((l.length - 1 : Nat) : Int) := by unfold wrap64; have := HLW.out; omega
            have j2 : (0 : Int) ≤ ((l.length - 1 : Nat) : Int) := by omega
            have j3 : ((l.length - 1 : Nat) : Int) < (writes.length : Int) := by omega
            have hvk : vb ∉ [mb, mg] := by have := HMB.out; have := HPLO.out; simp; omega
            have hv3 : vb < w3.heap.size := Nat.lt_of_lt_of_le hvb HUW3.out.size
            have hvr : vb < wo1.heap.size := Nat.lt_of_lt_of_le hv3 HL.out.upd.size
            generalize writes[l.length - 1] = fw at *
            have G := fun m u hm => (HL.out.upd.cell (p := ⟨vb, vo + (l.length - 1) * 4 + m, none⟩) hv3 hvk).trans ((HUW3.out.cell (p := ⟨vb, vo + (l.length - 1) * 4 + m, none⟩) hvb (by simp)).trans (hvc m u hm))
            have g0 := G 0 _ rfl
            have g1 := G 1 _ rfl
            have g2 := G 2 _ rfl
            have g3 := G 3 _ rfl
            rw [Nat.add_zero] at g0
            have HGT := Lib.hid hgt
            have HL1 := Lib.hid hl1
            generalize l.length - 1 = ix at *
            clear hgt hl1 hix hvc G hvk hv3
            go_wp2
            have HV0 := Lib.hid (show (wo1.alloc (.cells #[.int .u32 (fw 0), .int .u32 (fw 1), .int .u32 (fw 2), .int .u32 (fw 3)] 34)).heap[wo1.heap.size]? = some (.cells #[.int .u32 (vcut wd fw wd 0), .int .u32 (vcut wd fw wd 1), .int .u32 (vcut wd fw wd 2), .int .u32 (vcut wd fw wd 3)] 34 (0, 0)) by rw [vcut_start]; exact heap_alloc_new _ _)
            have HUX := Lib.hid (show Upd [] wo1 (wo1.alloc (.cells #[.int .u32 (fw 0), .int .u32 (fw 1), .int .u32 (fw 2), .int .u32 (fw 3)] 34)) from (Upd.refl _ _).alloc _)
            generalize wo1.alloc (.cells #[.int .u32 (fw 0), .int .u32 (fw 1), .int .u32 (fw 2), .int .u32 (fw 3)] 34) = wx at *
            go_loopg [27] (4 - wd) (fun n s27 wr => ∃ k : Nat, n + k = 4 ∧ wd ≤ k ∧ s27 = .int .i64 k ∧ wr.heap[wo1.heap.size]? = some (.cells #[.int .u32 (vcut wd fw k 0), .int .u32 (vcut wd fw k 1), .int .u32 (vcut wd fw k 2), .int .u32 (vcut wd fw k 3)] 34 (0, 0)) ∧ Upd [wo1.heap.size] wx wr)
            case atStart => exact ⟨wd, by have := HW.out; omega, Nat.le_refl _, rfl, HV0.out, Upd.refl _ _⟩
            case round =>
              obtain ⟨k, hk, hkw, rfl, hv, hu⟩ := hrel
              have HK2 := Lib.hid hk
              have HKW := Lib.hid hkw
              have HV2 := Lib.hid hv
              have HU2x := Lib.hid hu
              have lv := heap_lt hv
              have vf := frozen_of_heap hv
              have v0 : wr.cell? ⟨wo1.heap.size, 0, none⟩ = some (.int .u32 (vcut wd fw k 0)) := by rw [cell_of_heap hv]; rfl
              have v1 : wr.cell? ⟨wo1.heap.size, 1, none⟩ = some (.int .u32 (vcut wd fw k 1)) := by rw [cell_of_heap hv]; rfl
              have v2 : wr.cell? ⟨wo1.heap.size, 2, none⟩ = some (.int .u32 (vcut wd fw k 2)) := by rw [cell_of_heap hv]; rfl
              have v3 : wr.cell? ⟨wo1.heap.size, 3, none⟩ = some (.int .u32 (vcut wd fw k 3)) := by rw [cell_of_heap hv]; rfl
              have hkc : k = 1 ∨ k = 2 ∨ k = 3 ∨ k = 4 := by have := HW.out; omega
              clear hk hkw hv hu
              rcases hkc with rfl | rfl | rfl | rfl
              · go_wp2
                go_roundg (4 - (1 + 1))
                case rel => exact ⟨1 + 1, by omega, by have := HKW.out; omega, rfl, by rw [show vcut wd fw (1 + 1) = fun j => if j = 1 then 0 else vcut wd fw 1 j from vcut_succ (by have := HKW.out; omega)]; exact heap_set2c HV2.out rfl, (HU2x.out).setB (.inl (by simp))⟩
                case measure => have := HK2.out; omega
              · go_wp2
                go_roundg (4 - (2 + 1))
                case rel => exact ⟨2 + 1, by omega, by have := HKW.out; omega, rfl, by rw [show vcut wd fw (2 + 1) = fun j => if j = 2 then 0 else vcut wd fw 2 j from vcut_succ (by have := HKW.out; omega)]; exact heap_set2c HV2.out rfl, (HU2x.out).setB (.inl (by simp))⟩
                case measure => have := HK2.out; omega
              · go_wp2
                go_roundg (4 - (3 + 1))
                case rel => exact ⟨3 + 1, by omega, by have := HKW.out; omega, rfl, by rw [show vcut wd fw (3 + 1) = fun j => if j = 3 then 0 else vcut wd fw 3 j from vcut_succ (by have := HKW.out; omega)]; exact heap_set2c HV2.out rfl, (HU2x.out).setB (.inl (by simp))⟩
                case measure => have := HK2.out; omega
              · obtain ⟨vv, hvv⟩ : ∃ vv : V4F, vv = fun j => if wd ≤ j then 0 else fw j := ⟨_, rfl⟩
                have hve : ∀ j, j < 4 → vcut wd fw 4 j = vv j := fun j hj => by
                  rw [hvv]
                  unfold vcut
                  by_cases e : wd ≤ j
                  · rw [if_pos ⟨e, hj⟩]
                    simp only
                    rw [if_pos e]
                  · rw [if_neg (fun h => e h.1)]
                    simp only
                    rw [if_neg e]
                have hvp : ∀ k, wd ≤ k → vv k = 0 := fun k hk => by rw [hvv]; simp only; rw [if_pos hk]
                have HVP := Lib.hid hvp
                rw [hve 0 (by omega)] at HV2 v0
                rw [hve 1 (by omega)] at HV2 v1
                rw [hve 2 (by omega)] at HV2 v2
                rw [hve 3 (by omega)] at HV2 v3
                have HUV := Lib.hid (show Upd [] wo1 wr from HUX.out.then HU2x.out (by simp))
                have HOR := Lib.hid (own_upd HOWN.out HUV.out (by simp))
                have hnv : ∀ q, (Value.slice aa l.length ac).ownBlock = some q → q ≠ wo1.heap.size := fun q hq => by have := (HOWN.out.lt q hq).2; omega
                have HNV := Lib.hid hnv
                have HBR := Lib.hid (show w3.heap.size ≤ wr.heap.size from Nat.le_trans HL.out.upd.size HUV.out.size)
                obtain ⟨iv, hiv, hy0, hy1, hy2⟩ := info_parts info_val
                have HIV := Lib.hid (And.intro hiv (And.intro hy0 (And.intro hy1 hy2)))
                have HNW := Lib.hid fun (w : World) => fw_new 0 (wd : Int) (vv 0) (vv 1) (vv 2) (vv 3) (by have := HW.out; omega) w
                have HPR := Lib.hid ((HL.out.upd.keepb HPB3.out (by have := HMB.out; simp; omega)))
                have HPR2 := Lib.hid (HUV.out.keepb HPR.out (by simp))
                clear hve hvv hvp hnv hiv hy0 hy1 hy2
                go_wp2_with (at_builtin; refine Go.RowKit.Hid.out ?_)
                refine Lib.hid ?_
                refine wpList_append_reads rfl _ _ 23 rfl w3.heap.size 34 iv _ 4 16 Try.underlying23 HIV.out.1 HIV.out.2.1 HIV.out.2.2.1 HIV.out.2.2.2 rfl (by decide) _ l.length (l.flatMap valC) rfl (own_upd (S := []) HOR.out (by repeat (first | (with_reducible exact Upd.refl _ _) | (with_reducible apply Upd.drew) | (with_reducible refine Upd.grE ?_ _) | (with_reducible refine Upd.alloc ?_ _))) (by simp)) (some ⟨wr.heap.size, 0, none⟩) 1 1 (valC vv) rfl rfl
                  (fun _ => ⟨wr.heap.size, 0, rfl, fun j u hj => by rw [Nat.zero_add]; exact cell_of_list (heap_alloc_at _ rfl) _ _ hj⟩) (fun h => by cases h) (fun u hu => by simp [valC] at hu; rcases hu with rfl | rfl | rfl | rfl <;> rfl) (by have := HLL.out; have := HLW.out; simp only [maxLen]; omega) (by have := HLL.out; have := HLW.out; omega) ?base ?_
                case base => have := HBR.out; simp; omega
                intro v' w8 ho8 hg8
                have hug := upd_grown hg8
                have HUG := Lib.hid (show Upd (Value.slice aa l.length ac).ownBlock.toList wr w8 from Upd.trans (show Upd (Value.slice aa l.length ac).ownBlock.toList wr _ from (by repeat (first | (with_reducible exact Upd.refl _ _) | (with_reducible apply Upd.drew) | (with_reducible refine Upd.grE ?_ _) | (with_reducible refine Upd.alloc ?_ _)))) hug)
                have HO8 := Lib.hid ho8
                have hV8 := HUG.out.keepb HV2.out (fun hm => HNV.out _ (by simpa using hm) rfl)
                have hP8 := HUG.out.keepb HPR2.out (fun hm => by have := own_base HOWN.out _ (by simpa using hm); have := HBW.out; omega)
                obtain ⟨p0, p1', p2, p3, p4⟩ := cells5p hP8
                have t0 : w8.cell? ⟨wo1.heap.size, 0, none⟩ = some (.int .u32 (vv 0)) := by rw [cell_of_heap hV8]; rfl
                have t1 : w8.cell? ⟨wo1.heap.size, 1, none⟩ = some (.int .u32 (vv 1)) := by rw [cell_of_heap hV8]; rfl
                have t2 : w8.cell? ⟨wo1.heap.size, 2, none⟩ = some (.int .u32 (vv 2)) := by rw [cell_of_heap hV8]; rfl
                have t3 : w8.cell? ⟨wo1.heap.size, 3, none⟩ = some (.int .u32 (vv 3)) := by rw [cell_of_heap hV8]; rfl
                clear ho8 hg8 hug hV8 hP8 lv vf v0 v1 v2 v3
                go_wp2_with (go_at_call 15; refine Go.RowKit.Hid.out ?_)
                refine Lib.hid ?_
                refine (HNW.out _).mono ?_
                rintro e w9 ⟨b, rfl, hb9, hf9, hu9⟩
                have HU9 := Lib.hid hu9
                obtain ⟨x, hx⟩ : ∃ x : WrS, x = ⟨0, 0, 0, vv⟩ := ⟨_, rfl⟩
                have HFX := Lib.hid (show FG 0 wd w9 b 95 (wrF wd x) by rw [hx, wr_start]; exact hf9)
                have HXLO := Lib.hid (show w3.heap.size ≤ b from Nat.le_trans HBR.out (Nat.le_trans HUG.out.size hb9))
                have hob := fun q hq => own_base HOWN.out q hq
                have HUT := Lib.hid (show Upd (Value.slice aa l.length ac).ownBlock.toList wo1 w9 from (HUV.out.mono (by simp)).trans (HUG.out.trans (HU9.out.mono (by simp))))
                have HLX := Lib.hid (show FSL wd w3 mb mg w9 i xs (l ++ [vv]) r (some x) rb (some b) v' from {
                  mem := HL.out.mem.keep HUT.out (fun hm => by have := hob _ (by simpa using hm); have := HBW.out; omega) (fun hm => by have := hob _ (by simpa using hm); have := HBW.out; omega)
                  len := HL.out.len
                  inv := by rw [hx]; exact inv_write vv HVP.out HL.out.inv
                  rd := HL.out.rd.keep HUT.out (fun hm => own_ne HOWN.out HL.out.rd.h (by decide) (by simpa using hm))
                  rlo := HL.out.rlo
                  wsome := fun b' hb' => by
                    obtain rfl := Option.some.inj hb'
                    exact ⟨x, rfl, HFX.out, HXLO.out⟩
                  wnone := fun h => by cases h
                  own := by
                    have h9 := own_upd HO8.out HU9.out (by simp)
                    rw [List.length_append, List.flatMap_append]
                    simpa using h9
                  upd := HL.out.upd.then HUT.out (fun k hk => .inr (hob k (by simpa using hk))) })
                have HLL := Lib.hid (show (l ++ [vv]).length ≤ writes.length + 1 by have := HGT.out; simp; omega)
                have hrp := HLX.out.inv.ro.p
                have hri := HLX.out.inv.ro.i
                generalize l ++ [vv] = l2 at *
                clear hb9 hf9 hu9 hx hob t0 t1 t2 t3 p0 p1' p2 p3 p4
                (
                            have hxo := HLX.out.inv.wo x rfl
                            by_cases hxn : x.n < wd + 4
                            · have HXN := Lib.hid hxn
                              have HWA := Lib.hid (wr_act x HFX.out HW.out hxn hxo.q hxo.j)
                              have hok := wAct_ok wd x hxn hxo.q hxo.j
                              have hncl := fun h3 h4 => no_clash HLX.out.inv h3 h4 hxn
                              unfold actV at HWA
                              generalize hact : wAct wd x = act at *
                              have HACT := Lib.hid hact
                              obtain ⟨o, c, v⟩ := act
                              simp only at hok HWA hncl
                              have HOK := Lib.hid hok
                              have HNC := Lib.hid hncl
                              obtain ⟨xs', hdo, hxl, hxm⟩ := do_words (xs := xs) (c := c) (v := v) (by rw [HLX.out.len]; exact HOK.out.2) HOK.out.1
                              obtain ⟨got, hgot⟩ : ∃ got, got = (memDo (fun k => xs.getD k 0) (o, c, v)).1 := ⟨_, rfl⟩
                              rw [← hgot] at hdo
                              have HGOT := Lib.hid hgot
                              have HXL := Lib.hid hxl
                              have HXM := Lib.hid hxm
                              have HDO := Lib.hid hdo
                              clear hxn hok hncl hact hdo hxl hxm hgot hxo
                              go_wp2_with (go_at_call 16; refine Go.RowKit.Hid.out ?_)
                              refine Lib.hid ?_
                              refine HWA.out.mono ?_
                              rintro e w5 ⟨rfl, hu5⟩
                              obtain ⟨p5, rfl⟩ := hu5.grown
                              clear hu5
                              have hc65 : c < 65536 := by have := HOK.out.2; have := HW.out; omega
                              by_cases hrn : r.n < wd + 3
                              · have hokr := rAct_ok wd r hrn hrp hri
                                have HRA := Lib.hid (fun (w1 : World) (hu : Upd [] w9 w1) => rd_act r (HLX.out.rd.keep hu (by simp)) HW.out hrn hrp hri)
                                have hncl := fun h3 => HNC.out h3 hrn
                                unfold actV at HRA
                                generalize rAct wd r = act2 at *
                                obtain ⟨o2, c2, v2⟩ := act2
                                simp only at hokr HRA hncl
                                have hc65' : c2 < 65536 := by have := hokr.2; have := HW.out; omega
                                by_cases h3 : 3 ≤ r.n
                                · have HCL := Lib.hid (fun (w : World) => clash_c o v o2 v2 c c2 hc65 hc65' (hncl h3) w HOK.out.1 hokr.1)
                                  have q3 : decide ((3 : Int) ≤ (r.n : Int)) = true := by simp; omega
                                  have q3' : decide (3 ≤ r.n) = true := by simpa using h3
                                  clear hncl hokr h3 hrn hc65 hc65'
                                  go_wp2_with (first
                                    | (go_at_call 11; (refine (HRA.out _ (by repeat (first | (with_reducible exact Upd.refl _ _) | (with_reducible apply Upd.drew) | (with_reducible refine Upd.grE ?_ _) | (with_reducible refine Upd.alloc ?_ _)))).mono ?_); rintro e w6 ⟨rfl, hu6⟩; obtain ⟨p6, rfl⟩ := hu6.grown; clear hu6)
                                    | (go_at_call 17; (refine (HCL.out _).mono ?_); rintro e w6 ⟨rfl, hu6⟩; obtain ⟨p7, rfl⟩ := hu6.grown; clear hu6)
                                    | (go_at_call 13; refine Go.RowKit.Hid.out ?_))
                                  (
                                              refine Lib.hid ?_
                                              refine (do_any o c v got xs' (HLX.out.mem.keep (show Upd [] w9 _ from (by repeat (first | (with_reducible exact Upd.refl _ _) | (with_reducible apply Upd.drew) | (with_reducible refine Upd.grE ?_ _) | (with_reducible refine Upd.alloc ?_ _)))) (by simp) (by simp)) (by have := HLT.out; have := HLP.out; omega) HDO.out).mono ?_
                                              unfold DoPost
                                              rintro e w7 ⟨rfl, hm7, hu7⟩
                                              have HM7 := Lib.hid hm7
                                              have HU7 := Lib.hid (show Upd [mb, mg] w9 w7 from Upd.trans (show Upd [mb, mg] w9 _ from (by repeat (first | (with_reducible exact Upd.refl _ _) | (with_reducible apply Upd.drew) | (with_reducible refine Upd.grE ?_ _) | (with_reducible refine Upd.alloc ?_ _)))) hu7)
                                              clear hm7 hu7
                                              go_wp2_with (go_at_call 18; refine Go.RowKit.Hid.out ?_)
                                              refine Lib.hid ?_
                                              have hxlo := HXLO.out
                                              have hbw := HBW.out
                                              have hrlo := HLX.out.rlo
                                              refine (wr_take x got (HFX.out.keep HU7.out (by simp; omega)) HW.out HXN.out).mono ?_
                                              rintro e w8 ⟨rfl, hwr8, hu8⟩
                                              have HWR8 := Lib.hid hwr8
                                              have HU8 := Lib.hid hu8
                                              clear hwr8 hu8
                                              go_wp2
                                              go_roundg (picks.length - (i + 1))
                                              case rel =>
                                                refine ⟨i + 1, xs', l2, r, some (wTake x got), rb, some b, by have := HLT.out; omega, by first | (rw [HWI.out]; done) | (simp; done), rfl, rfl, rfl, HLL.out, ?_⟩
                                                exact {
                                                  mem := HM7.out.keep HU8.out (by simp; omega) (by simp; omega)
                                                  len := by rw [HXL.out]; exact HLX.out.len
                                                  inv := by
                                                    have hst := writer_step HLX.out.inv HXN.out
                                                    rw [HACT.out] at hst
                                                    rw [HXM.out, HGOT.out]
                                                    exact hst
                                                  rd := (HLX.out.rd.keep HU7.out (by simp; omega)).keep HU8.out (by
                                                    simp
                                                    intro e
                                                    subst e
                                                    have h1 := HLX.out.rd.h
                                                    rw [HFX.out.h] at h1
                                                    simp at h1)
                                                  rlo := hrlo
                                                  wsome := fun b' hb' => by
                                                    obtain rfl := Option.some.inj hb'
                                                    exact ⟨_, rfl, HWR8.out, hxlo⟩
                                                  wnone := fun h => by cases h
                                                  own := own_upd (own_upd HLX.out.own HU7.out (fun k hk hm => by have := own_base HLX.out.own k hk; simp at hm; omega)) HU8.out (fun k hk hm => by
                                                    simp at hm
                                                    subst hm
                                                    exact own_ne HLX.out.own HFX.out.h (by decide) hk)
                                                  upd := (HLX.out.upd.trans HU7.out).then HU8.out (fun k hk => .inr (by simp at hk; omega)) }
                                              case measure => have := HLT.out; have := HI.out; omega)
                                · have q3 : decide ((3 : Int) ≤ (r.n : Int)) = false := by simp; omega
                                  have q3' : decide (3 ≤ r.n) = false := by simpa using h3
                                  clear hncl hokr h3 hrn hc65 hc65'
                                  go_wp2_with (first
                                    | (go_at_call 11; (refine (HRA.out _ (by repeat (first | (with_reducible exact Upd.refl _ _) | (with_reducible apply Upd.drew) | (with_reducible refine Upd.grE ?_ _) | (with_reducible refine Upd.alloc ?_ _)))).mono ?_); rintro e w6 ⟨rfl, hu6⟩; obtain ⟨p6, rfl⟩ := hu6.grown; clear hu6)
                                    | (go_at_call 13; refine Go.RowKit.Hid.out ?_))
                                  (
                                              refine Lib.hid ?_
                                              refine (do_any o c v got xs' (HLX.out.mem.keep (show Upd [] w9 _ from (by repeat (first | (with_reducible exact Upd.refl _ _) | (with_reducible apply Upd.drew) | (with_reducible refine Upd.grE ?_ _) | (with_reducible refine Upd.alloc ?_ _)))) (by simp) (by simp)) (by have := HLT.out; have := HLP.out; omega) HDO.out).mono ?_
                                              unfold DoPost
                                              rintro e w7 ⟨rfl, hm7, hu7⟩
                                              have HM7 := Lib.hid hm7
                                              have HU7 := Lib.hid (show Upd [mb, mg] w9 w7 from Upd.trans (show Upd [mb, mg] w9 _ from (by repeat (first | (with_reducible exact Upd.refl _ _) | (with_reducible apply Upd.drew) | (with_reducible refine Upd.grE ?_ _) | (with_reducible refine Upd.alloc ?_ _)))) hu7)
                                              clear hm7 hu7
                                              go_wp2_with (go_at_call 18; refine Go.RowKit.Hid.out ?_)
                                              refine Lib.hid ?_
                                              have hxlo := HXLO.out
                                              have hbw := HBW.out
                                              have hrlo := HLX.out.rlo
                                              refine (wr_take x got (HFX.out.keep HU7.out (by simp; omega)) HW.out HXN.out).mono ?_
                                              rintro e w8 ⟨rfl, hwr8, hu8⟩
                                              have HWR8 := Lib.hid hwr8
                                              have HU8 := Lib.hid hu8
                                              clear hwr8 hu8
                                              go_wp2
                                              go_roundg (picks.length - (i + 1))
                                              case rel =>
                                                refine ⟨i + 1, xs', l2, r, some (wTake x got), rb, some b, by have := HLT.out; omega, by first | (rw [HWI.out]; done) | (simp; done), rfl, rfl, rfl, HLL.out, ?_⟩
                                                exact {
                                                  mem := HM7.out.keep HU8.out (by simp; omega) (by simp; omega)
                                                  len := by rw [HXL.out]; exact HLX.out.len
                                                  inv := by
                                                    have hst := writer_step HLX.out.inv HXN.out
                                                    rw [HACT.out] at hst
                                                    rw [HXM.out, HGOT.out]
                                                    exact hst
                                                  rd := (HLX.out.rd.keep HU7.out (by simp; omega)).keep HU8.out (by
                                                    simp
                                                    intro e
                                                    subst e
                                                    have h1 := HLX.out.rd.h
                                                    rw [HFX.out.h] at h1
                                                    simp at h1)
                                                  rlo := hrlo
                                                  wsome := fun b' hb' => by
                                                    obtain rfl := Option.some.inj hb'
                                                    exact ⟨_, rfl, HWR8.out, hxlo⟩
                                                  wnone := fun h => by cases h
                                                  own := own_upd (own_upd HLX.out.own HU7.out (fun k hk hm => by have := own_base HLX.out.own k hk; simp at hm; omega)) HU8.out (fun k hk hm => by
                                                    simp at hm
                                                    subst hm
                                                    exact own_ne HLX.out.own HFX.out.h (by decide) hk)
                                                  upd := (HLX.out.upd.trans HU7.out).then HU8.out (fun k hk => .inr (by simp at hk; omega)) }
                                              case measure => have := HLT.out; have := HI.out; omega)
                              · have HRA := Lib.hid (fun (w1 : World) (hu : Upd [] w9 w1) => fr_done 0 wd (HLX.out.rd.keep hu (by simp)) (rd_off hrn))
                                have q3 : decide ((3 : Int) ≤ (r.n : Int)) = true := by simp; omega
                                have q3' : decide (3 ≤ r.n) = true := by simp; omega
                                clear hrn hc65
                                go_wp2_with (first
                                  | (go_at_call 11; (refine (HRA.out _ (by repeat (first | (with_reducible exact Upd.refl _ _) | (with_reducible apply Upd.drew) | (with_reducible refine Upd.grE ?_ _) | (with_reducible refine Upd.alloc ?_ _)))).mono ?_); rintro e w6 ⟨rfl, hu6⟩; obtain ⟨p6, rfl⟩ := hu6.grown; clear hu6)
                                  | (go_at_call 13; refine Go.RowKit.Hid.out ?_))
                                (
                                            refine Lib.hid ?_
                                            refine (do_any o c v got xs' (HLX.out.mem.keep (show Upd [] w9 _ from (by repeat (first | (with_reducible exact Upd.refl _ _) | (with_reducible apply Upd.drew) | (with_reducible refine Upd.grE ?_ _) | (with_reducible refine Upd.alloc ?_ _)))) (by simp) (by simp)) (by have := HLT.out; have := HLP.out; omega) HDO.out).mono ?_
                                            unfold DoPost
                                            rintro e w7 ⟨rfl, hm7, hu7⟩
                                            have HM7 := Lib.hid hm7
                                            have HU7 := Lib.hid (show Upd [mb, mg] w9 w7 from Upd.trans (show Upd [mb, mg] w9 _ from (by repeat (first | (with_reducible exact Upd.refl _ _) | (with_reducible apply Upd.drew) | (with_reducible refine Upd.grE ?_ _) | (with_reducible refine Upd.alloc ?_ _)))) hu7)
                                            clear hm7 hu7
                                            go_wp2_with (go_at_call 18; refine Go.RowKit.Hid.out ?_)
                                            refine Lib.hid ?_
                                            have hxlo := HXLO.out
                                            have hbw := HBW.out
                                            have hrlo := HLX.out.rlo
                                            refine (wr_take x got (HFX.out.keep HU7.out (by simp; omega)) HW.out HXN.out).mono ?_
                                            rintro e w8 ⟨rfl, hwr8, hu8⟩
                                            have HWR8 := Lib.hid hwr8
                                            have HU8 := Lib.hid hu8
                                            clear hwr8 hu8
                                            go_wp2
                                            go_roundg (picks.length - (i + 1))
                                            case rel =>
                                              refine ⟨i + 1, xs', l2, r, some (wTake x got), rb, some b, by have := HLT.out; omega, by first | (rw [HWI.out]; done) | (simp; done), rfl, rfl, rfl, HLL.out, ?_⟩
                                              exact {
                                                mem := HM7.out.keep HU8.out (by simp; omega) (by simp; omega)
                                                len := by rw [HXL.out]; exact HLX.out.len
                                                inv := by
                                                  have hst := writer_step HLX.out.inv HXN.out
                                                  rw [HACT.out] at hst
                                                  rw [HXM.out, HGOT.out]
                                                  exact hst
                                                rd := (HLX.out.rd.keep HU7.out (by simp; omega)).keep HU8.out (by
                                                  simp
                                                  intro e
                                                  subst e
                                                  have h1 := HLX.out.rd.h
                                                  rw [HFX.out.h] at h1
                                                  simp at h1)
                                                rlo := hrlo
                                                wsome := fun b' hb' => by
                                                  obtain rfl := Option.some.inj hb'
                                                  exact ⟨_, rfl, HWR8.out, hxlo⟩
                                                wnone := fun h => by cases h
                                                own := own_upd (own_upd HLX.out.own HU7.out (fun k hk hm => by have := own_base HLX.out.own k hk; simp at hm; omega)) HU8.out (fun k hk hm => by
                                                  simp at hm
                                                  subst hm
                                                  exact own_ne HLX.out.own HFX.out.h (by decide) hk)
                                                upd := (HLX.out.upd.trans HU7.out).then HU8.out (fun k hk => .inr (by simp at hk; omega)) }
                                            case measure => have := HLT.out; have := HI.out; omega)
                            · have HWA := Lib.hid (fw_done 0 wd HFX.out (wr_off hxn))
                              clear hxn hxo
                              go_wp2_with (go_at_call 16; refine Go.RowKit.Hid.out ?_)
                              refine Lib.hid ?_
                              refine HWA.out.mono ?_
                              rintro e w5 ⟨rfl, hu5⟩
                              have HU5 := Lib.hid (hu5.alloc (.cells #[.int .i64 0, .int .i64 0, .int .u32 0] 41))
                              clear hu5
                              go_wp2
                              go_roundg (picks.length - (i + 1))
                              case rel =>
                                refine ⟨i + 1, xs, l2, r, none, rb, none, by have := HLT.out; omega, by first | (rw [HWI.out]; done) | (simp; done), rfl, rfl, rfl, HLL.out, ?_⟩
                                exact {
                                  mem := (HLX.out.mem.keep HU5.out (by simp) (by simp)).mono (by omega)
                                  len := HLX.out.len
                                  inv := inv_done HLX.out.inv
                                  rd := HLX.out.rd.keep HU5.out (by simp)
                                  rlo := HLX.out.rlo
                                  wsome := fun b hb => by cases hb
                                  wnone := fun _ => rfl
                                  own := own_upd HLX.out.own HU5.out (by simp)
                                  upd := HLX.out.upd.trans (HU5.out.mono (by simp)) }
                              case measure => have := HLT.out; have := HI.out; omega)
    · obtain rfl : i = picks.length := by have := HI.out; omega
      clear hlt
      go_wp2_with (go_at_call 6; refine Go.RowKit.Hid.out ?_)
      refine Lib.hid ?_
      refine (alive13 _).mono ?_
      rintro e w5 ⟨rfl, hu5⟩
      have HU5 := Lib.hid (HL.out.upd.trans (hu5.mono (by simp)))
      clear hu5
      go_wp2
      go_ret
      exact ⟨rfl, HUW3.out.then HU5.out (fun k hk => .inr (by have := HMB.out; have := HPLO.out; simp at hk; omega))⟩
end
end Go.Proofs.Ytnnakiojfpnphaa
