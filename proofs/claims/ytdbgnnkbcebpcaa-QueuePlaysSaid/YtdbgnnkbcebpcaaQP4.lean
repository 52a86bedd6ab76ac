/- The law QueuePlays: its walk. -/
import Derived.Test.YtdbgnnkbcebpcaaQP3
import Derived.Test.YtdbgnnkbcebpcaaShape
import Derived.Deep.Cut
set_option linter.unusedVariables false
set_option linter.unusedSimpArgs false
namespace Go.Proofs.Ytdbgnnkbcebpcaa
open Go.RowKit Go.ChangeShapes Go.WideShapes

/-- A step of the law. -/
structure QS where
  g : Bool
  w : QW
def QS.cells (x : QS) : List Value := [.bool x.g, .int .i64 x.w.t, .int .i64 x.w.k, .int .i64 x.w.o, .int .u32 x.w.m]
theorem steps_okV {W : World} {v : Value} (h : Sh.okV W (.slice (.st (.cons (.bool) (.cons (.st (.cons (.int .i64) (.cons (.int .i64) (.cons (.int .i64) (.cons (.int .u32) (.nil)))))) (.nil))))) v) :
    ∃ (a : Option Addr) (cap : Nat) (l : List QS), v = .slice a l.length cap ∧ l.length ≤ maxLen ∧ (0 < l.length → ∃ b off, a = some ⟨b, off, none⟩ ∧ b < W.heap.size ∧ ∀ i (hi : i < l.length) j u, l[i].cells[j]? = some u → W.cell? ⟨b, off + i * 5 + j, none⟩ = some u) := by
  obtain ⟨a, len, cap, hv, hlc, hcm, f, hf, hm, h0⟩ : (Sh.slice (.st (.cons (.bool) (.cons (.st (.cons (.int .i64) (.cons (.int .i64) (.cons (.int .i64) (.cons (.int .u32) (.nil)))))) (.nil))))).ok W [v] := h
  obtain rfl : v = .slice a len cap := by simpa using hv
  obtain ⟨l, hl, hx⟩ := list_of len (fun i (x : QS) => f i = x.cells) (fun i hi => by
    obtain ⟨x, y, e1, ⟨b, rfl⟩, x2, y2, e2, ⟨x3, y3, e3, ⟨n1, rfl, _⟩, x4, y4, e4, ⟨n2, rfl, _⟩, x5, y5, e5, ⟨n3, rfl, _⟩, x6, y6, e6, ⟨n4, rfl, _⟩, rfl⟩, rfl⟩ := (hf i hi).1
    subst e6 e5 e4 e3
    exact ⟨⟨b, ⟨n1, n2, n3, n4⟩⟩, by rw [e1, e2]; simp [QS.cells]⟩)
  subst hl
  refine ⟨a, cap, l, rfl, by omega, fun h1 => ?_⟩
  obtain ⟨b, off, rfl, hb, hc⟩ := hm h1
  exact ⟨b, off, rfl, hb, fun i hi j u hu => hc i hi j u (by rw [hx i hi]; exact hu)⟩

set_option maxRecDepth 100000 in
set_option maxHeartbeats 8000000 in
theorem queuePlays_walk (W : World) (v0 v1 v2 : Value) (h0 : Sh.okV W (.slice (.st (.cons (.bool) (.cons (.st (.cons (.int .i64) (.cons (.int .i64) (.cons (.int .i64) (.cons (.int .u32) (.nil)))))) (.nil))))) v0) (h1 : Sh.okV W (.int .i64) v1) (h2 : Sh.okV W (.int .i64) v2) :
    Calls Try.prog 4 #[v0, v1, v2] W fun e w' => e = .returned (.bool true) ∧ Upd [] W w' := by
  obtain ⟨a, cap, l, rfl, hmax, hR⟩ := steps_okV h0
  obtain ⟨task, e1, hwt⟩ : ∃ n, [v1] = [Value.int .i64 n] ∧ (Lit.int .i64 n).wf = true := h1
  obtain ⟨obj, e2, hwo⟩ : ∃ n, [v2] = [Value.int .i64 n] ∧ (Lit.int .i64 n).wf = true := h2
  obtain rfl : v1 = .int .i64 task := by simpa using e1
  obtain rfl : v2 = .int .i64 obj := by simpa using e2
  have HR := Lib.hid hR
  have HAL := Lib.hid alive25
  clear hwt hwo hR
  by_cases hn : 100 < l.length
  · have hd : (100 : Int) < (l.length : Int) := by omega
    go_enter Try.func4, Try.ntmps4
    go_wp2_with (go_at_call 16; refine (HAL.out _).mono ?_; rintro e w1 ⟨rfl, hu⟩)
    go_ret
    exact ⟨rfl, hu⟩
  · have hd : ¬ (100 : Int) < (l.length : Int) := by omega
    have HN := Lib.hid hn
    clear hn
    go_enter Try.func4, Try.ntmps4
    go_wp2
    have HU0 := Lib.hid (show UPQ W (W.alloc (.cells #[.int .i64 0, .int .i64 0, .int .i64 0, .int .u32 0, .pointer none, .pointer none, .int .i64 0] 56)) W.heap.size [] from ⟨(Upd.refl [] W).alloc _, ql_new (heap_alloc_new W _), by simp⟩)
    go_loopg [8, 9] l.length (fun n s8 s9 wr => ∃ (j : Nat) (xs : List QN) (L : List QW), n + j = l.length ∧ s9 = .int .i64 j ∧ UPQ W wr W.heap.size xs ∧ xs.map QN.w = L ∧ L.length ≤ j ∧ RQ 58 wr s8 L)
    case atStart => exact ⟨0, [], [], by omega, rfl, HU0.out, rfl, by simp, RQ.nil⟩
    case round =>
      obtain ⟨j, xs, L, hj, rfl, hq, hm, hlj, hx⟩ := hrel
      by_cases hlt : j < l.length
      · obtain ⟨b, off, rfl, hb, hc⟩ := HR.out (by omega)
        have g := fun u v hu => (hq.1.cell (p := ⟨b, off + j * 5 + u, none⟩) hb (by simp)).trans (hc j hlt u v hu)
        have HL100 := Lib.hid (show L.length ≤ 100 by have := HN.out; omega)
        have HREM := Lib.hid (upq_remove l[j].w.t L hq hm (by have := HL100.out; omega))
        have HADD := Lib.hid (upq_add l[j].w L hq hm (by have := HL100.out; omega))
        have HC2 := Lib.hid (fun (w1 : World) (h : Upd [] W w1) u v hu => (h.cell (p := ⟨b, off + j * 5 + u, none⟩) hb (by simp)).trans (hc j hlt u v hu))
        have hbr : b < wr.heap.size := Nat.lt_of_lt_of_le hb hq.1.size
        have b1 : (0 : Int) ≤ (j : Int) := by omega
        have b2 : (j : Int) < (l.length : Int) := by omega
        have HW := Lib.hid (show wrap64 ((j : Int) + 1) = ((j + 1 : Nat) : Int) by have := HN.out; unfold wrap64; omega)
        have HQ := Lib.hid hq
        have HM := Lib.hid hm
        have HX := Lib.hid hx
        have HJ := Lib.hid hj
        have HLJ := Lib.hid hlj
        have HLT := Lib.hid hlt
        have HB := Lib.hid hb
        obtain ⟨xa, xc, rfl, _⟩ := hx.shape
        generalize l[j] = z at *
        obtain ⟨zg, ⟨z0, z1, z2, z3⟩⟩ := z
        have c0 := g 0 _ rfl
        have c1 := g 1 _ rfl
        have c2 := g 2 _ rfl
        have c3 := g 3 _ rfl
        have c4 := g 4 _ rfl
        rw [Nat.add_zero] at c0
        simp only at c0 c1 c2 c3 c4 HREM HADD
        have hqr := neq_rwait
        clear g hc hq hm hx hj hlj hlt hb
        cases zg
        · unfold QW.A at HADD
          (try simp only at HADD)
          go_upto_region 19 with (first
            | (go_at_call 19; (with_reducible refine HADD.out.mono ?_); rintro e w1 ⟨rfl, xs1, hq1, hm1, hr1⟩; have G := HC2.out w1 hq1.1; have k0 := G 0 _ rfl; have k1 := G 1 _ rfl; have k2 := G 2 _ rfl; have k3 := G 3 _ rfl; have k4 := G 4 _ rfl; clear G; have hbr1 : b < w1.heap.size := Nat.lt_of_lt_of_le HB.out hq1.1.size; have HQ1 := Lib.hid hq1; have HM1 := Lib.hid hm1; have HX1 := Lib.hid (hr1 _ _ HX.out); clear hq1 hm1 hr1; have HRA := Lib.hid (fun (w2 : World) (hu : Upd [] w1 w2) => rqadd_g ⟨z0, z1, z2, z3⟩ (HX1.out.upd hu) (by have := HL100.out; omega)); unfold QW.A at HRA)
            | (go_at_call 20; (with_reducible refine (HRA.out _ (by repeat (first | (with_reducible exact Upd.refl _ _) | (with_reducible apply Upd.drew) | (with_reducible refine Upd.grE ?_ _) | (with_reducible refine Upd.alloc ?_ _)))).mono ?_); rintro e w2 ⟨⟨v2, rfl, hr2⟩, hu2⟩; obtain ⟨p2, rfl⟩ := hu2.grown; clear hu2; have HX2 := Lib.hid hr2; obtain ⟨xa2, xc2, rfl, _⟩ := hr2.shape; clear hr2))
          rename_i KK hKK
          refine qtail _ (aL ⟨z0, z1, z2, z3⟩ L) _ _ _ j _ _ _ _ _ _ _ _ _ _ _ _ _ _ _ _ _ _ _ _ _ _ _ _ _ _ _ _ _ _ _ _ _ _ _ _ _ _ _ _ _ _ _ _ _ _ _ _ _ _ _ _ _ _ _ _ _ _ _ _ _ _ _ _ _ _ _ _ _ _ _ _ _ _ _ _ _ _ _ _ _ _ _ _ _ _ _ _ _ _ _ _ _ _ _ _ _ _ _ _ _ _ _ _ _ _ _ _ _ _ _ _ _ _ _ _ _ _ _ _ _ _ _ _ _ _ _ _ _ _ _ _ _ _ _ _ _ _ _ _ _ _ _ _ _ _ _ _ _ _ _ _ _ _ _ _ _ _ _ _ _ _ _ _ _ _ _ _ _ _ _ _ _  _ _ hKK (fun _ _ d _ _ h => by cases d <;> exact h) (QL.upd (S := []) HQ1.out.2.1 (by repeat (first | (with_reducible exact Upd.refl _ _) | (with_reducible apply Upd.drew) | (with_reducible refine Upd.grE ?_ _) | (with_reducible refine Upd.alloc ?_ _))) (by simp)) HM1.out (by have := aL_len ⟨z0, z1, z2, z3⟩ L; have := HL100.out; omega) (HX2.out.upd (by repeat (first | (with_reducible exact Upd.refl _ _) | (with_reducible apply Upd.drew) | (with_reducible refine Upd.grE ?_ _) | (with_reducible refine Upd.alloc ?_ _)))) ?_
          intro x18 x19 x20 x21 x22 x23 x24 x95 x96 x97 x98 x99 x100 x101 x102 x103 x104 x105 x106 x107 x108 x109 x110 x111 x112 x113 x114 x115 x116 x117 x118 x119 x120 x121 x122 x123 x124 x125 x126 x127 x128 x129 x130 x131 x132 x133 x134 x135 x136 x137 x138 x139 x140 x141 x142 x143 x144 x145 x146 x147 x148 x149 x150 x151 x152 x153 x154 x155 x156 x157 x158 x159 x160 x161 x162 x163 x164 x165 x166 x167 x168 x169 x170 x171 x172 x173 x174 x175 w9 hu9
          have HU9 := Lib.hid (show Upd [] w1 w9 from Upd.trans (by repeat (first | (with_reducible exact Upd.refl _ _) | (with_reducible apply Upd.drew) | (with_reducible refine Upd.grE ?_ _) | (with_reducible refine Upd.alloc ?_ _))) hu9)
          have HX9 := Lib.hid (RQ.upd (RQ.upd HX2.out (by repeat (first | (with_reducible exact Upd.refl _ _) | (with_reducible apply Upd.drew) | (with_reducible refine Upd.grE ?_ _) | (with_reducible refine Upd.alloc ?_ _)))) hu9)
          clear hu9
          go_wp2
          go_roundg (l.length - (j + 1))
          case rel => exact ⟨j + 1, xs1, _, by have := HLT.out; omega, by first | (rw [HW.out]; done) | (simp; done) | rfl, HQ1.out.upd HU9.out, HM1.out, by have := aL_len ⟨z0, z1, z2, z3⟩ L; have := HLJ.out; omega, HX9.out⟩
          case measure => have := HJ.out; have := HLT.out; omega
        · unfold QW.A at HREM
          have hrf : qeq ⟨(fA z0 L).t, (fA z0 L).k, (fA z0 L).o, (fA z0 L).m⟩ ⟨(fA z0 L).t, (fA z0 L).k, (fA z0 L).o, (fA z0 L).m⟩ = true := qeq_refl _
          (try simp only at HREM)
          go_upto_region 19 with (first
            | (go_at_call 17; (with_reducible refine HREM.out.mono ?_); rintro e w1 ⟨rfl, xs1, hq1, hm1, hr1⟩; have G := HC2.out w1 hq1.1; have k0 := G 0 _ rfl; have k1 := G 1 _ rfl; have k2 := G 2 _ rfl; have k3 := G 3 _ rfl; have k4 := G 4 _ rfl; clear G; have hbr1 : b < w1.heap.size := Nat.lt_of_lt_of_le HB.out hq1.1.size; have HQ1 := Lib.hid hq1; have HM1 := Lib.hid hm1; have HX1 := Lib.hid (hr1 _ _ HX.out); clear hq1 hm1 hr1; have HRA := Lib.hid (fun (w2 : World) (hu : Upd [] w1 w2) => rqremove_g z0 (HX1.out.upd hu) (by have := HL100.out; omega)); unfold QW.A at HRA)
            | (go_at_call 18; (with_reducible refine (HRA.out _ (by repeat (first | (with_reducible exact Upd.refl _ _) | (with_reducible apply Upd.drew) | (with_reducible refine Upd.grE ?_ _) | (with_reducible refine Upd.alloc ?_ _)))).mono ?_); rintro e w2 ⟨⟨v2, rfl, hr2⟩, hu2⟩; obtain ⟨p2, rfl⟩ := hu2.grown; clear hu2; have HX2 := Lib.hid hr2; obtain ⟨xa2, xc2, rfl, _⟩ := hr2.shape; clear hr2))
          rename_i KK hKK
          refine qtail _ (rL z0 L) _ _ _ j _ _ _ _ _ _ _ _ _ _ _ _ _ _ _ _ _ _ _ _ _ _ _ _ _ _ _ _ _ _ _ _ _ _ _ _ _ _ _ _ _ _ _ _ _ _ _ _ _ _ _ _ _ _ _ _ _ _ _ _ _ _ _ _ _ _ _ _ _ _ _ _ _ _ _ _ _ _ _ _ _ _ _ _ _ _ _ _ _ _ _ _ _ _ _ _ _ _ _ _ _ _ _ _ _ _ _ _ _ _ _ _ _ _ _ _ _ _ _ _ _ _ _ _ _ _ _ _ _ _ _ _ _ _ _ _ _ _ _ _ _ _ _ _ _ _ _ _ _ _ _ _ _ _ _ _ _ _ _ _ _ _ _ _ _ _ _ _ _ _ _ _ _  _ _ hKK (fun _ _ d _ _ h => by cases d <;> exact h) (QL.upd (S := []) HQ1.out.2.1 (by repeat (first | (with_reducible exact Upd.refl _ _) | (with_reducible apply Upd.drew) | (with_reducible refine Upd.grE ?_ _) | (with_reducible refine Upd.alloc ?_ _))) (by simp)) HM1.out (by have := qpl_len_rL z0 L; have := HL100.out; omega) (HX2.out.upd (by repeat (first | (with_reducible exact Upd.refl _ _) | (with_reducible apply Upd.drew) | (with_reducible refine Upd.grE ?_ _) | (with_reducible refine Upd.alloc ?_ _)))) ?_
          intro x18 x19 x20 x21 x22 x23 x24 x95 x96 x97 x98 x99 x100 x101 x102 x103 x104 x105 x106 x107 x108 x109 x110 x111 x112 x113 x114 x115 x116 x117 x118 x119 x120 x121 x122 x123 x124 x125 x126 x127 x128 x129 x130 x131 x132 x133 x134 x135 x136 x137 x138 x139 x140 x141 x142 x143 x144 x145 x146 x147 x148 x149 x150 x151 x152 x153 x154 x155 x156 x157 x158 x159 x160 x161 x162 x163 x164 x165 x166 x167 x168 x169 x170 x171 x172 x173 x174 x175 w9 hu9
          have HU9 := Lib.hid (show Upd [] w1 w9 from Upd.trans (by repeat (first | (with_reducible exact Upd.refl _ _) | (with_reducible apply Upd.drew) | (with_reducible refine Upd.grE ?_ _) | (with_reducible refine Upd.alloc ?_ _))) hu9)
          have HX9 := Lib.hid (RQ.upd (RQ.upd HX2.out (by repeat (first | (with_reducible exact Upd.refl _ _) | (with_reducible apply Upd.drew) | (with_reducible refine Upd.grE ?_ _) | (with_reducible refine Upd.alloc ?_ _)))) hu9)
          clear hu9
          go_wp2
          go_roundg (l.length - (j + 1))
          case rel => exact ⟨j + 1, xs1, _, by have := HLT.out; omega, by first | (rw [HW.out]; done) | (simp; done) | rfl, HQ1.out.upd HU9.out, HM1.out, by have := qpl_len_rL z0 L; have := HLJ.out; omega, HX9.out⟩
          case measure => have := HJ.out; have := HLT.out; omega
      · obtain rfl : j = l.length := by omega
        have hd2 : decide ((l.length : Int) < (l.length : Int)) = false := by simp
        have HQ := Lib.hid hq
        clear hx
        go_wp2_with (go_at_call 16; refine (HAL.out _).mono ?_; rintro e w1 ⟨rfl, hu⟩)
        go_ret
        exact ⟨rfl, HQ.out.1.trans hu⟩
end Go.Proofs.Ytdbgnnkbcebpcaa
