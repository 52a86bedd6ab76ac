/- Package queue: going over all links: the iterator's contract. -/
import Derived.RangeFuncBox
import Derived.RangeFuncNested
import Derived.RangeFuncBound
import Derived.RangeFuncCalls
import Derived.RangeFuncLeaves
import Derived.Shelf.Abstract
import Derived.Shelf.RegionOpen
import Derived.WalkKit
import Derived.OwnWalkIn
import Derived.TacticsInMore
import Derived.LoopNIn
import Derived.LoopIn
import Derived.Maps.AppendAt
import Derived.LaidEqlPtr
import Derived.Test.YtdbgnnkbcebpcaaProg
import Derived.Test.YtdbgnnkbcebpcaaQ1
set_option linter.unusedVariables false
set_option linter.unusedSimpArgs false
namespace Go.Proofs.Ytdbgnnkbcebpcaa
open Go.RowKit Go.Shelf
attribute [local go_sem] Oper.semAt_some

/-- How many links are still to come. -/
def qleft (xs : List QN) (v : Value) : Nat := match v with | .pointer (some a) => (xs.dropWhile (fun x => x.b != a.block)).length | _ => 0
theorem qleft_at {q : Nat} {pre rest : List QN} (h : (q :: (pre ++ rest).map QN.b).Nodup) : qleft (pre ++ rest) (qptr (qhd q rest)) = rest.length := by
  unfold qleft qptr
  simp only
  have hne : ∀ x ∈ pre, (x.b != qhd q rest) = true := by
    intro x hx
    simp only [bne_iff_ne, ne_eq]
    intro e
    simp only [List.map_append, List.nodup_cons, List.mem_append, List.nodup_append, List.mem_map] at h
    cases rest with
    | nil => exact h.1 (.inl ⟨x, hx, e⟩)
    | cons y ys => exact h.2.2.2 x.b ⟨x, hx, rfl⟩ y.b ⟨y, by simp, rfl⟩ e
  rw [List.dropWhile_append_of_pos hne]
  cases rest with
  | nil => rfl
  | cons y ys => rw [List.dropWhile_cons_of_neg (by simp [qhd])]
abbrev QE (xs : List QN) := { x : QN // x ∈ xs }
def QE.v {xs : List QN} (l : List (QE xs)) : List QN := l.map Subtype.val
theorem QE.v_snoc {xs : List QN} (l : List (QE xs)) (x : QE xs) : QE.v (l ++ [x]) = QE.v l ++ [x.1] := by simp [QE.v]
theorem QL.below {n₀ : Nat} {A B : World} {q : Nat} {xs : List QN} (h : QL A q xs) (hb : Below n₀ A B) (hn : ∀ k ∈ q :: xs.map QN.b, k < n₀) : QL B q xs :=
  h.frame fun k hk => hb.block k (hn k hk)
theorem below_upd {w w' : World} (h : Below w.heap.size w w') : Upd [] w w' := Upd.of_below h []
theorem cellsQ {w : World} {k : Nat} {a b c d e f : Value} {t : TypeId} {fr : Nat × Nat} (hh : w.heap[k]? = some (.cells #[a, b, c, d, e, f] t fr)) :
    w.cell? ⟨k, 0, none⟩ = some a ∧ w.cell? ⟨k, 1, none⟩ = some b ∧ w.cell? ⟨k, 2, none⟩ = some c ∧ w.cell? ⟨k, 3, none⟩ = some d ∧ w.cell? ⟨k, 4, none⟩ = some e ∧ w.cell? ⟨k, 5, none⟩ = some f :=
  ⟨by rw [cell_of_heap hh]; rfl, by rw [cell_of_heap hh]; rfl, by rw [cell_of_heap hh]; rfl, by rw [cell_of_heap hh]; rfl, by rw [cell_of_heap hh]; rfl, by rw [cell_of_heap hh]; rfl⟩
theorem cells7 {w : World} {k : Nat} {a b c d e f g : Value} {t : TypeId} {fr : Nat × Nat} (hh : w.heap[k]? = some (.cells #[a, b, c, d, e, f, g] t fr)) :
    w.cell? ⟨k, 0, none⟩ = some a ∧ w.cell? ⟨k, 1, none⟩ = some b ∧ w.cell? ⟨k, 2, none⟩ = some c ∧ w.cell? ⟨k, 3, none⟩ = some d ∧ w.cell? ⟨k, 4, none⟩ = some e ∧ w.cell? ⟨k, 5, none⟩ = some f ∧ w.cell? ⟨k, 6, none⟩ = some g :=
  ⟨by rw [cell_of_heap hh]; rfl, by rw [cell_of_heap hh]; rfl, by rw [cell_of_heap hh]; rfl, by rw [cell_of_heap hh]; rfl, by rw [cell_of_heap hh]; rfl, by rw [cell_of_heap hh]; rfl, by rw [cell_of_heap hh]; rfl⟩
theorem QSeg.at {w : World} {nx p : Nat} {pre rest : List QN} {x : QN} (h : QSeg w nx p (pre ++ x :: rest)) :
    w.heap[x.b]? = some (.cells #[.int .i64 x.w.t, .int .i64 x.w.k, .int .i64 x.w.o, .int .u32 x.w.m, qptr (qlast p pre), qptr (qhd nx rest)] 54) := (QSeg.split.1 h).2.1

theorem info_link : (Try.prog.info? 54).map (·.size) = some 6 := by kernel_rfl
/-- A link is compared with another one. -/
theorem neq_link_same (w : World) (a : Addr) : (binOp .neq 52 (.pointer (some a)) (.pointer (some a))).run Try.prog w = .ok (.bool false) w := by
  have hi := info_link
  obtain ⟨j, hj, hs⟩ := Option.map_eq_some_iff.1 hi
  have hp := Try.underlying52
  have h : ∀ d : Nat, (Op.equalIn (d + 1) 52 (.pointer (some a)) (.pointer (some a))).run Try.prog w = .ok true w := fun d => by
    simp [Op.equalIn, run_underlying hp, sizeOf, typeInfo, hj, run_sameAddr_same]
  simp only [binOp]
  simp [Op.equal, Op.maxDepth, h 9999]
theorem neq_link_other (w : World) {a b : Addr} {ca cb : Array Value} {ta tb : TypeId} (hne : a ≠ b) (ha : w.heap[a.block]? = some (.cells ca ta (0, 0))) (hb : w.heap[b.block]? = some (.cells cb tb (0, 0))) :
    (binOp .neq 52 (.pointer (some a)) (.pointer (some b))).run Try.prog w = .ok (.bool true) w := by
  have hi := info_link
  obtain ⟨j, hj, hs⟩ := Option.map_eq_some_iff.1 hi
  have hp := Try.underlying52
  have h : ∀ d : Nat, (Op.equalIn (d + 1) 52 (.pointer (some a)) (.pointer (some b))).run Try.prog w = .ok false w := fun d => by
    simp [Op.equalIn, run_underlying hp, sizeOf, typeInfo, hj, hs, run_sameAddr_other w hne ha hb]
  simp only [binOp]
  simp [Op.equal, Op.maxDepth, h 9999]
/-- What a round keeps: the ring, and the variable that the iterator has captured. -/
def KpQ (n₀ Bn : Nat) (A B : World) : Prop := Below n₀ A B ∧ B.cell? ⟨Bn, 0, none⟩ = A.cell? ⟨Bn, 0, none⟩
theorem KpQ.trans {n₀ Bn : Nat} {A B C : World} (h : KpQ n₀ Bn A B) (k : KpQ n₀ Bn B C) : KpQ n₀ Bn A C := ⟨h.1.trans k.1, k.2.trans h.2⟩
theorem KpQ.refl (n₀ Bn : Nat) (A : World) : KpQ n₀ Bn A A := ⟨Below.refl _ _, rfl⟩
theorem kpQ_b {n₀ Bn : Nat} {w : World} (hn : n₀ ≤ w.heap.size) (hB : Bn < w.heap.size) (W : World) (l : Nat) (o o' : Obj) (hl : w.heap.size ≤ l) (h : W.heap[l]? = some o) (h1 : o.isCells = false) (h2 : o.isWalk = false) : KpQ n₀ Bn W (W.putObj l o') :=
  ⟨belowK_b hn W l o o' hl h h1 h2, (belowK_b (n₀ := Bn + 1) hB W l o o' hl h h1 h2).cell (p := ⟨Bn, 0, none⟩) (Nat.lt_succ_self _)⟩

set_option maxRecDepth 100000 in
set_option maxHeartbeats 2000000 in
theorem qall1_in (F : Fence) (n : Nat) (h6 : F.fn 76) (hro : F.round = none) (hn : 1 ≤ n) (l Bn n₀ : Nat) (q : Nat) (xs : List QN) (J Jx : List (QE xs) → World → Prop)
    (hY : ∀ pre x W, J pre W → pre.length < xs.length → YieldAt F (n - 1) Try.prog l #[qptr x.1.b] W fun e W' =>
      (e = .returned (.bool true) ∧ J (pre ++ [x]) W' ∧ KpQ n₀ Bn W W') ∨ (e = .returned (.bool false) ∧ Jx (pre ++ [x]) W'))
    (W : World) (hBn : W.cell? ⟨Bn, 0, none⟩ = some (qptr q)) (hL : QL W q xs) (hlt : ∀ k ∈ q :: xs.map QN.b, k < n₀) (h0 : J [] W) (hlen : xs.length ≤ 1000000) :
    CallsIn F n Try.prog 76 #[.func (.yield l) #[] #[], .pointer (some ⟨Bn, 0, none⟩)] W fun e W' => (∃ v, e = .returned v) ∧
      ((∃ ys, QE.v ys = xs ∧ J ys W') ∨ (∃ pre, QE.v pre <+: xs ∧ Jx pre W')) := by
  refine callsIn_of_wp Try.func76 rfl h6 ?_ hro
  simp only [Try.ntmps76, List.size_toArray, List.length_cons, List.length_nil, Nat.reduceAdd, Nat.reduceSub, Array.replicate_succ, Array.replicate_zero, List.push_toArray, List.append_toArray, List.nil_append, List.cons_append]
  obtain ⟨va, vn, hh, he⟩ := hL.hd
  obtain ⟨c0, c1, c2, c3, c4, c5, c6⟩ := cells7 hh
  have HL := Lib.hid hL
  have HLT := Lib.hid hlt
  have HE := Lib.hid he
  have HN := Lib.hid hlen
  clear hlt hL hh he
  unfold qptr at hBn
  rcases xs with _ | ⟨x1, xr⟩
  · simp only [List.length_nil] at c6
    gi_wp2
    refine bodyPost_ret (results_none rfl _ _ _) rfl ?_
    exact ⟨⟨_, rfl⟩, .inl ⟨[], rfl, h0⟩⟩
  obtain ⟨rfl, rfl⟩ := HE.out (by simp)
  generalize hx0 : x1 :: xr = xs at *
  have hz : (((xs.length : Nat) : Int) == 0) = false := by rw [← hx0]; simp; omega
  have hz' : ¬ (((xs.length : Nat) : Int) = 0) := by rw [← hx0]; simp; omega
  unfold qptr at c4 c5
  generalize hq1 : qhd q xs = b1 at c5
  have HQ1 := Lib.hid hq1
  clear hq1 c4
  have HNE := Lib.hid hx0
  clear hx0
  gi_wp2
  gi_loopw [3] (fun p wr => ∃ (pre : List (QE xs)) (rest : List QN), p = qptr (qhd q rest) ∧ xs = QE.v pre ++ rest ∧ KpQ n₀ Bn W wr ∧ J pre wr)
    (fun p wr => qleft xs p)
  case atStart =>
    exact ⟨[], xs, by rw [HQ1.out]; rfl, rfl, KpQ.refl _ _ _, h0⟩
  case round =>
    obtain ⟨pre, rest, rfl, hx, hbw, hJs⟩ := hrel
    have hq0 := HLT.out q (by simp)
    have hL' := HL.out.below hbw.1 HLT.out
    have hcB : wr.cell? ⟨Bn, 0, none⟩ = some (.pointer (some ⟨q, 0, none⟩)) := hbw.2.trans hBn
    have HJ := Lib.hid hJs
    have HBW := Lib.hid hbw
    have HX := Lib.hid hx
    have HY := Lib.hid hY
    clear hJs hbw hx hY
    cases rest with
    | nil =>
      have e0 : qhd q [] = q := rfl
      have hsm := neq_link_same wr ⟨q, 0, none⟩
      rw [e0]
      unfold qptr
      clear e0 HY hL'
      gi_wp2
      go_end0
      exact ⟨⟨_, rfl⟩, .inl ⟨pre, by have := HX.out; simpa using this.symm, HJ.out⟩⟩
    | cons x rest =>
      have hseg := hL'.seg
      have hmem : x ∈ xs := by rw [HX.out]; simp
      obtain ⟨fn, tmps, assign, body, hy, hR⟩ := HY.out pre ⟨x, hmem⟩ wr HJ.out (by have := congrArg List.length HX.out; simp [QE.v] at this; omega)
      have hnq : x.b ≠ q := by
        have := HL.out.nodup
        rw [HX.out] at this
        simp at this
        intro e
        exact this.1.2.1 e.symm
      have hnq' : (Addr.mk x.b 0 none == Addr.mk q 0 none) = false := by simp [hnq]
      have hat := QSeg.at (pre := QE.v pre) (x := x) (rest := rest) (by have h1 := hseg; rw [HX.out] at h1; exact h1)
      obtain ⟨d0, d1, d2, d3, d4, d5⟩ := cellsQ hat
      unfold qptr at d4 d5 hy
      have e0 : qhd q (x :: rest) = x.b := rfl
      obtain ⟨va', vn', hh', _⟩ := hL'.hd
      have hsm := neq_link_other wr (a := ⟨x.b, 0, none⟩) (b := ⟨q, 0, none⟩) (fun e => hnq (congrArg Addr.block e)) hat hh'
      clear hat hseg hL' hh' hnq hnq' HY
      rw [e0]
      generalize hq2 : qhd q rest = b2 at d5
      have HQ2 := Lib.hid hq2
      clear hq2 e0
      unfold qptr
      dsimp only at hy
      gi_wp2
      refine hR.mono ?_
      rintro e W3 (⟨rfl, hJ3, hk3⟩ | ⟨rfl, hJx3⟩)
      · gi_wp2
        go_roundw
        case rel => exact ⟨pre ++ [⟨x, hmem⟩], rest, by rw [HQ2.out], HX.out.trans (by rw [QE.v_snoc]; simp), HBW.out.trans hk3, hJ3⟩
        case measure =>
          have hnd := HL.out.nodup
          rw [HX.out] at hnd
          have e1 := qleft_at hnd
          have hnd2 : (q :: ((QE.v pre ++ [x]) ++ rest).map QN.b).Nodup := by simpa using hnd
          have e2 := qleft_at hnd2
          rw [← HX.out] at e1
          have : QE.v pre ++ [x] ++ rest = xs := (HX.out.trans (by simp)).symm
          rw [this] at e2
          rw [← HQ2.out]
          show qleft xs (qptr (qhd q rest)) < qleft xs (qptr (qhd q (x :: rest)))
          rw [e1, e2]
          simp
      · gi_wp2
        refine bodyPost_ret (results_none rfl _ _ _) rfl ?_
        exact ⟨⟨_, rfl⟩, .inr ⟨pre ++ [⟨x, hmem⟩], ⟨rest, (HX.out.trans (by rw [QE.v_snoc]; simp)).symm⟩, hJx3⟩⟩

set_option maxHeartbeats 1000000 in
theorem qall_in (F : Fence) (n : Nat) (h5 : F.fn 55) (hro : F.round = none) (v : Value) (p0 : Option Addr) (hv : v = .pointer p0) (w : World) :
    CallsIn F n Try.prog 55 #[v] w fun e w' => e = .returned (.func (.func 76) #[] #[.pointer (some ⟨w.heap.size, 0, none⟩)]) ∧ w' = w.alloc (.cells #[v] 49) := by
  subst hv
  refine callsIn_of_wp Try.func55 rfl h5 ?_ hro
  simp only [Try.ntmps55, List.size_toArray, List.length_cons, List.length_nil, Nat.reduceAdd, Nat.reduceSub, Array.replicate_succ, Array.replicate_zero, List.push_toArray, List.append_toArray, List.nil_append, List.cons_append]
  gi_wp2
  go_ret
  exact ⟨rfl, rfl⟩

theorem qall_stops (F : Fence) (n : Nat) (h6 : F.fn 76) (hro : F.round = none) (hn : 1 ≤ n) (Bn n₀ : Nat) (q : Nat) (xs : List QN) (w : World) (hBn : Bn < w.heap.size) (hn₀ : n₀ ≤ w.heap.size)
    (hc : w.cell? ⟨Bn, 0, none⟩ = some (qptr q)) (hL : QL w q xs) (hlt : ∀ k ∈ q :: xs.map QN.b, k < n₀) (hlen : xs.length ≤ 1000000) :
    SeqStopsK F n Try.prog 76 #[.pointer (some ⟨Bn, 0, none⟩)] (fun x : QE xs => #[qptr x.1.b]) (KpQ n₀ Bn) (fun ys => QE.v ys = xs) (fun pre => QE.v pre <+: xs) xs.length w := fun l J Jx W hW _ _ hY h0 =>
  qall1_in F n h6 hro hn l Bn n₀ q xs J Jx hY W ((hW.cell (p := ⟨Bn, 0, none⟩) hBn).trans hc) (hL.below (hW.mono hn₀) hlt) hlt h0 hlen
end Go.Proofs.Ytdbgnnkbcebpcaa
