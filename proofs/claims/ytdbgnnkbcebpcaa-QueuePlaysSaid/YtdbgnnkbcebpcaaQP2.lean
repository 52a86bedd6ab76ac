/- The law on queues: the end of a round (printed by genqp.py). -/
import Derived.Test.YtdbgnnkbcebpcaaQP1
import Derived.Deep.RegionHeld3
set_option linter.unusedVariables false
set_option linter.unusedSimpArgs false
namespace Go.Proofs.Ytdbgnnkbcebpcaa
open Go.RowKit

section
variable {w : World} {q : Nat} {xs : List QN}
set_option maxRecDepth 100000 in
set_option maxHeartbeats 8000000 in
theorem qtail (xv : Value) (L : List QW) (la : Option Addr) (ln lc j : Nat) (task obj : Int) (u3 u4 u5 u6 u10 u11 u12 u13 u14 u15 u16 u17 u18 u19 u20 u21 u22 u23 u24 u25 u26 u27 u28 u29 u30 u31 u32 u33 u34 u35 u36 u37 u38 u39 u40 u41 u42 u43 u44 u45 u46 u47 u48 u49 u50 u51 u52 u53 u54 u55 u56 u57 u58 u59 u60 u61 u62 u63 u64 u65 u66 u67 u68 u69 u70 u71 u72 u73 u74 u75 u76 u77 u78 u79 u80 u81 u82 u83 u84 u85 u86 u87 u88 u89 u90 u91 u92 u93 u94 u95 u96 u97 u98 u99 u100 u101 u102 u103 u104 u105 u106 u107 u108 u109 u110 u111 u112 u113 u114 u115 u116 u117 u118 u119 u120 u121 u122 u123 u124 u125 u126 u127 u128 u129 u130 u131 u132 u133 u134 u135 u136 u137 u138 u139 u140 u141 u142 u143 u144 u145 u146 u147 u148 u149 u150 u151 u152 u153 u154 u155 u156 u157 u158 u159 u160 u161 u162 u163 u164 u165 u166 u167 u168 u169 u170 u171 u172 u173 u174 u175 u176 : Value) (Q : Exit → Act → World → Prop) (K : Act → World → Prop) (hK : ∀ a w1, (navq (Try.f4.body.getD .skip) [1, 1, 1, 1, 0, 1, 0, 0, 1, 0, 0, 1, 1]).wp Try.prog Q a w1 → K a w1)
    (hpan : ∀ (c : List PanicEntry) (a : Act) (d : Option Tmp) (v : Value) (w1 : World), Q (.panic c) (a.put d v) w1 → Q (.panic c) a w1) (h : QL w q xs) (hL : xs.map QN.w = L) (hn : L.length ≤ 200) (hx : RQ 58 w xv L)
    (hQ : ∀ (x18 x19 x20 x21 x22 x23 x24 x95 x96 x97 x98 x99 x100 x101 x102 x103 x104 x105 x106 x107 x108 x109 x110 x111 x112 x113 x114 x115 x116 x117 x118 x119 x120 x121 x122 x123 x124 x125 x126 x127 x128 x129 x130 x131 x132 x133 x134 x135 x136 x137 x138 x139 x140 x141 x142 x143 x144 x145 x146 x147 x148 x149 x150 x151 x152 x153 x154 x155 x156 x157 x158 x159 x160 x161 x162 x163 x164 x165 x166 x167 x168 x169 x170 x171 x172 x173 x174 x175 : Value) (w1 : World), Upd [] w w1 → Q .normal { tmps := #[.slice la ln lc, .int .i64 task, .int .i64 obj, u3, u4, u5, u6, .pointer (some ⟨q, 0, none⟩), xv, .int .i64 j, u10, u11, u12, u13, u14, u15, u16, u17, x18, x19, x20, x21, x22, x23, x24, u25, u26, u27, u28, u29, u30, u31, u32, u33, u34, u35, u36, u37, u38, u39, u40, u41, u42, u43, u44, u45, u46, u47, u48, u49, u50, u51, u52, u53, u54, u55, u56, u57, u58, u59, u60, u61, u62, u63, u64, u65, u66, u67, u68, u69, u70, u71, u72, u73, u74, u75, u76, u77, u78, u79, u80, u81, u82, u83, u84, u85, u86, u87, u88, u89, u90, u91, u92, u93, u94, x95, x96, x97, x98, x99, x100, x101, x102, x103, x104, x105, x106, x107, x108, x109, x110, x111, x112, x113, x114, x115, x116, x117, x118, x119, x120, x121, x122, x123, x124, x125, x126, x127, x128, x129, x130, x131, x132, x133, x134, x135, x136, x137, x138, x139, x140, x141, x142, x143, x144, x145, x146, x147, x148, x149, x150, x151, x152, x153, x154, x155, x156, x157, x158, x159, x160, x161, x162, x163, x164, x165, x166, x167, x168, x169, x170, x171, x172, x173, x174, x175, u176], defers := [] } w1) :
    (navq (Try.f4.body.getD .skip) [1, 1, 1, 1, 0, 1, 0, 0, 1, 0, 0, 1, 0]).wp Try.prog (Exit.then K Q) { tmps := #[.slice la ln lc, .int .i64 task, .int .i64 obj, u3, u4, u5, u6, .pointer (some ⟨q, 0, none⟩), xv, .int .i64 j, u10, u11, u12, u13, u14, u15, u16, u17, u18, u19, u20, u21, u22, u23, u24, u25, u26, u27, u28, u29, u30, u31, u32, u33, u34, u35, u36, u37, u38, u39, u40, u41, u42, u43, u44, u45, u46, u47, u48, u49, u50, u51, u52, u53, u54, u55, u56, u57, u58, u59, u60, u61, u62, u63, u64, u65, u66, u67, u68, u69, u70, u71, u72, u73, u74, u75, u76, u77, u78, u79, u80, u81, u82, u83, u84, u85, u86, u87, u88, u89, u90, u91, u92, u93, u94, u95, u96, u97, u98, u99, u100, u101, u102, u103, u104, u105, u106, u107, u108, u109, u110, u111, u112, u113, u114, u115, u116, u117, u118, u119, u120, u121, u122, u123, u124, u125, u126, u127, u128, u129, u130, u131, u132, u133, u134, u135, u136, u137, u138, u139, u140, u141, u142, u143, u144, u145, u146, u147, u148, u149, u150, u151, u152, u153, u154, u155, u156, u157, u158, u159, u160, u161, u162, u163, u164, u165, u166, u167, u168, u169, u170, u171, u172, u173, u174, u175, u176], defers := [] } w := by
  have hxn : xs.length ≤ 1000 := by have := congrArg List.length hL; simp at this; omega
  have HQ := Lib.hid hQ
  have HNX := Lib.hid (fun (w1 : World) (hu : Upd [] w w1) => by have := qnext_g task (h.upd hu (by simp)) (by omega); rw [hL] at this; exact this)
  have HRN := Lib.hid (fun (w1 : World) (hu : Upd [] w w1) => rqnext_c task (hx.upd hu) (by omega))
  have HFD := Lib.hid (fun (w1 : World) (hu : Upd [] w w1) => by have := qFind_g task (h.upd hu (by simp)) (by omega); rw [hL] at this; exact this)
  have HPL := Lib.hid (fun (w1 : World) (hu : Upd [] w w1) => rqplace_c task (hx.upd hu) (by omega))
  have HLIST0 := Lib.hid (fun (w1 : World) (hu : Upd [] w w1) => by have := qlist_g (h.upd hu (by simp)) hxn; rw [hL] at this; exact this)
  have HOF0 := Lib.hid (fun (w1 : World) (hu : Upd [] w w1) => by have := qof_g obj (h.upd hu (by simp)) hxn; rw [hL] at this; exact this)
  have HLN0 := Lib.hid (fun (w1 : World) (hu : Upd [] w w1) => by have h1 := qlen_c (h.upd hu (by simp)); rw [show xs.length = L.length by rw [← hL]; simp] at h1; exact h1)
  have HX0 := Lib.hid hx
  have HLEN := Lib.hid (show L.length ≤ 1000 by omega)
  have HLEN2 := Lib.hid (show (qofL obj L).length ≤ 1000 by have : (qofL obj L).length ≤ L.length := List.length_filter_le _ _; omega)
  obtain ⟨xa, xc, rfl, _⟩ := hx.shape
  have hfd : (fB task L = true ∧ ∃ ki : Nat, qpl task 0 L = ki ∧ ∃ hk : ki < L.length, fA task L = L[ki]) ∨ (fB task L = false ∧ qpl task 0 L = -1 ∧ fA task L = .zero) := by
    unfold fB fA
    rcases qpl_bounds task L 0 with h1 | ⟨h1, h2⟩
    · rw [h1]; exact .inr ⟨rfl, rfl, rfl⟩
    · refine .inl ⟨by simpa using h1, (qpl task 0 L).toNat, by omega, by omega, ?_⟩
      rw [if_pos (by omega), List.getElem?_eq_getElem (by omega)]
      rfl
  generalize hnx : (qnx task L).getD .zero = n at *
  generalize hs : (qnx task L).isSome = s at *
  generalize hfa : fA task L = f at *
  generalize hfb : fB task L = fb at *
  have HRF := Lib.hid (And.intro (qeq_refl n) (qeq_refl f))
  obtain ⟨n0, n1, n2, n3⟩ := n
  obtain ⟨f0, f1, f2, f3⟩ := f
  have hqr := neq_rwait
  have hqw := neq_wait
  have hrf1 := HRF.out.1
  have hrf2 := HRF.out.2
  unfold QW.A at HNX HRN HFD
  simp only at HNX HRN HFD
  clear hQ h hx hn hxn hnx hs hfa hfb
  simp only [navq, Try.f4, Option.getD_some, if_true, if_false, Nat.one_ne_zero, reduceIte] at hK ⊢
  rcases hfd with ⟨rfl, ki, hk, hkl, hke⟩ | ⟨rfl, hk, hke⟩
  · have hat := HX0.out.at hkl
    obtain ⟨xb, xc', hv, hcl, hxb, hcx⟩ := hat
    simp only [Value.slice.injEq, true_and] at hv
    obtain ⟨rfl, rfl⟩ := hv
    rw [← hke] at hcx
    rw [hk] at HPL
    have b1 : (0 : Int) ≤ (ki : Int) := by omega
    have b2 : (ki : Int) < (L.length : Int) := by omega
    have HCX := Lib.hid hcx
    have HXB := Lib.hid hxb
    clear hk hke hcx hkl hcl
    go_wp2_with (first
      | (go_at_call 21; (with_reducible refine (HNX.out _ (by repeat (first | (with_reducible exact Upd.refl _ _) | (with_reducible apply Upd.drew) | (with_reducible refine Upd.grE ?_ _) | (with_reducible refine Upd.alloc ?_ _)))).mono ?_); rintro e w1 ⟨rfl, hu1⟩; obtain ⟨p1, rfl⟩ := hu1.grown; clear hu1)
      | (go_at_call 22; (with_reducible refine (HRN.out _ (by repeat (first | (with_reducible exact Upd.refl _ _) | (with_reducible apply Upd.drew) | (with_reducible refine Upd.grE ?_ _) | (with_reducible refine Upd.alloc ?_ _)))).mono ?_); rintro e w2 ⟨rfl, hu2⟩; obtain ⟨p2, rfl⟩ := hu2.grown; clear hu2)
      | (go_at_call 23; (with_reducible refine (HFD.out _ (by repeat (first | (with_reducible exact Upd.refl _ _) | (with_reducible apply Upd.drew) | (with_reducible refine Upd.grE ?_ _) | (with_reducible refine Upd.alloc ?_ _)))).mono ?_); rintro e w3 ⟨rfl, hu3⟩; obtain ⟨p3, rfl⟩ := hu3.grown; clear hu3)
      | (go_at_call 24; (with_reducible refine (HPL.out _ (by repeat (first | (with_reducible exact Upd.refl _ _) | (with_reducible apply Upd.drew) | (with_reducible refine Upd.grE ?_ _) | (with_reducible refine Upd.alloc ?_ _)))).mono ?_); rintro e w4 ⟨rfl, hu4⟩; obtain ⟨p4, rfl⟩ := hu4.grown; clear hu4))
    generalize hX : gr ((gr ((gr ((gr w p1).alloc (.cells #[.int .i64 n0, .int .i64 n1, .int .i64 n2, .int .u32 n3] 51)) p2).alloc (.cells #[.int .i64 n0, .int .i64 n1, .int .i64 n2, .int .u32 n3] 58)) p3).alloc (.cells #[.int .i64 f0, .int .i64 f1, .int .i64 f2, .int .u32 f3] 51)) p4 = X
    have hX1 : X.heap[w.heap.size + p1.os.size]? = some (.cells [.int .i64 n0, .int .i64 n1, .int .i64 n2, .int .u32 n3].toArray 51) := by rw [← hX]; apply heap_grE; apply heap_alloc'; apply heap_grE; apply heap_alloc'; apply heap_grE; exact heap_alloc_at _ (by simp)
    have hX2 : X.heap[w.heap.size + p1.os.size + 1 + p2.os.size]? = some (.cells [.int .i64 n0, .int .i64 n1, .int .i64 n2, .int .u32 n3].toArray 58) := by rw [← hX]; apply heap_grE; apply heap_alloc'; apply heap_grE; exact heap_alloc_at _ (by simp)
    have hX3 : X.heap[w.heap.size + p1.os.size + 1 + p2.os.size + 1 + p3.os.size]? = some (.cells [.int .i64 f0, .int .i64 f1, .int .i64 f2, .int .u32 f3].toArray 51) := by rw [← hX]; apply heap_grE; exact heap_alloc_at _ (by simp)
    have HUX := Lib.hid (show Upd [] w X by rw [← hX]; repeat (first | (with_reducible exact Upd.refl _ _) | (with_reducible apply Upd.drew) | (with_reducible refine Upd.grE ?_ _) | (with_reducible refine Upd.alloc ?_ _)))
    generalize w.heap.size + p1.os.size + 1 + p2.os.size + 1 + p3.os.size = g3 at hX3 ⊢
    generalize w.heap.size + p1.os.size + 1 + p2.os.size = g2 at hX2 ⊢
    generalize w.heap.size + p1.os.size = g1 at hX1 ⊢
    clear hX HNX HRN HFD HPL
    have T1_0 : ∀ w1 : World, Upd [] X w1 → w1.cell? ⟨g1, 0, none⟩ = some (.int .i64 n0) := fun w1 h => cell_of_list (h.keepb hX1 (by simp)) 0 _ rfl
    have T1_1 : ∀ w1 : World, Upd [] X w1 → w1.cell? ⟨g1, 1, none⟩ = some (.int .i64 n1) := fun w1 h => cell_of_list (h.keepb hX1 (by simp)) 1 _ rfl
    have T1_2 : ∀ w1 : World, Upd [] X w1 → w1.cell? ⟨g1, 2, none⟩ = some (.int .i64 n2) := fun w1 h => cell_of_list (h.keepb hX1 (by simp)) 2 _ rfl
    have T1_3 : ∀ w1 : World, Upd [] X w1 → w1.cell? ⟨g1, 3, none⟩ = some (.int .u32 n3) := fun w1 h => cell_of_list (h.keepb hX1 (by simp)) 3 _ rfl
    have T2_0 : ∀ w1 : World, Upd [] X w1 → w1.cell? ⟨g2, 0, none⟩ = some (.int .i64 n0) := fun w1 h => cell_of_list (h.keepb hX2 (by simp)) 0 _ rfl
    have T2_1 : ∀ w1 : World, Upd [] X w1 → w1.cell? ⟨g2, 1, none⟩ = some (.int .i64 n1) := fun w1 h => cell_of_list (h.keepb hX2 (by simp)) 1 _ rfl
    have T2_2 : ∀ w1 : World, Upd [] X w1 → w1.cell? ⟨g2, 2, none⟩ = some (.int .i64 n2) := fun w1 h => cell_of_list (h.keepb hX2 (by simp)) 2 _ rfl
    have T2_3 : ∀ w1 : World, Upd [] X w1 → w1.cell? ⟨g2, 3, none⟩ = some (.int .u32 n3) := fun w1 h => cell_of_list (h.keepb hX2 (by simp)) 3 _ rfl
    have T3_0 : ∀ w1 : World, Upd [] X w1 → w1.cell? ⟨g3, 0, none⟩ = some (.int .i64 f0) := fun w1 h => cell_of_list (h.keepb hX3 (by simp)) 0 _ rfl
    have T3_1 : ∀ w1 : World, Upd [] X w1 → w1.cell? ⟨g3, 1, none⟩ = some (.int .i64 f1) := fun w1 h => cell_of_list (h.keepb hX3 (by simp)) 1 _ rfl
    have T3_2 : ∀ w1 : World, Upd [] X w1 → w1.cell? ⟨g3, 2, none⟩ = some (.int .i64 f2) := fun w1 h => cell_of_list (h.keepb hX3 (by simp)) 2 _ rfl
    have T3_3 : ∀ w1 : World, Upd [] X w1 → w1.cell? ⟨g3, 3, none⟩ = some (.int .u32 f3) := fun w1 h => cell_of_list (h.keepb hX3 (by simp)) 3 _ rfl
    have T4_0 : ∀ w1 : World, Upd [] X w1 → w1.cell? ⟨xb, ki * 4, none⟩ = some (.int .i64 f0) := fun w1 h => ((HUX.out.trans h).cell (p := ⟨xb, ki * 4 + 0, none⟩) HXB.out (by simp)).trans (HCX.out 0 _ rfl)
    have T4_1 : ∀ w1 : World, Upd [] X w1 → w1.cell? ⟨xb, ki * 4 + 1, none⟩ = some (.int .i64 f1) := fun w1 h => ((HUX.out.trans h).cell (p := ⟨xb, ki * 4 + 1, none⟩) HXB.out (by simp)).trans (HCX.out 1 _ rfl)
    have T4_2 : ∀ w1 : World, Upd [] X w1 → w1.cell? ⟨xb, ki * 4 + 2, none⟩ = some (.int .i64 f2) := fun w1 h => ((HUX.out.trans h).cell (p := ⟨xb, ki * 4 + 2, none⟩) HXB.out (by simp)).trans (HCX.out 2 _ rfl)
    have T4_3 : ∀ w1 : World, Upd [] X w1 → w1.cell? ⟨xb, ki * 4 + 3, none⟩ = some (.int .u32 f3) := fun w1 h => ((HUX.out.trans h).cell (p := ⟨xb, ki * 4 + 3, none⟩) HXB.out (by simp)).trans (HCX.out 3 _ rfl)
    have HX := Lib.hid (HX0.out.upd HUX.out)
    have HLIST := Lib.hid (fun (w1 : World) (hu : Upd [] X w1) => HLIST0.out w1 (HUX.out.trans hu))
    have HOF := Lib.hid (fun (w1 : World) (hu : Upd [] X w1) => HOF0.out w1 (HUX.out.trans hu))
    have HLN := Lib.hid (fun (w1 : World) (hu : Upd [] X w1) => HLN0.out w1 (HUX.out.trans hu))
    clear hX1 hX2 hX3
    refine wp_region_held_drew (S := fun w1 => Upd [] X w1) (by kernel_rfl) ?_ (fun hHeld => ?_)
    · exact (Upd.refl [] X).drew
    refine wpAnyH_take (i := 0) (oi := { dst := some 116, op := Op.load 51 (Operand.tmp 18), type := 51, pos := "law.go:63", after := #[], guard := none }) (v := .agg #[.int .i64 n0, .int .i64 n1, .int .i64 n2, .int .u32 n3]) rfl (by kernel_rfl) (by kernel_rfl) (by kernel_rfl) (fun _ _ _ h => hpan _ _ _ _ _ h) (Or.inl ⟨by rfl, ?_⟩) hHeld ?_
    · intro w1 hSw
      (try dsimp only at hSw)
      go_simp
    (try simp only [Act.put, List.setIfInBounds_toArray, List.set_cons_zero, List.set_cons_succ])
    refine wpAnyH_take (i := 1) (oi := { dst := some 117, op := Op.load 58 (Operand.tmp 20), type := 58, pos := "law.go:63", after := #[], guard := none }) (v := .agg #[.int .i64 n0, .int .i64 n1, .int .i64 n2, .int .u32 n3]) rfl (by kernel_rfl) (by kernel_rfl) (by kernel_rfl) (fun _ _ _ h => hpan _ _ _ _ _ h) (Or.inl ⟨by rfl, ?_⟩) hHeld ?_
    · intro w1 hSw
      (try dsimp only at hSw)
      go_simp
    (try simp only [Act.put, List.setIfInBounds_toArray, List.set_cons_zero, List.set_cons_succ])
    refine wpAnyH_take (i := 2) (oi := { dst := some 118, op := Op.binOp BinOp.neq 58 (Operand.tmp 116) (Operand.tmp 117) 58, type := 4, pos := "law.go:63", after := #[{ on := 0, ground := Ground.data }, { on := 1, ground := Ground.data }], guard := none }) (v := .bool false) rfl (by kernel_rfl) (by kernel_rfl) (by kernel_rfl) (fun _ _ _ h => hpan _ _ _ _ _ h) (Or.inl ⟨by rfl, ?_⟩) hHeld ?_
    · intro w1 hSw
      (try dsimp only at hSw)
      go_simp
    (try simp only [Act.put, List.setIfInBounds_toArray, List.set_cons_zero, List.set_cons_succ])
    refine wpAnyH_take (i := 3) (oi := { dst := some 119, op := Op.move (Operand.tmp 118), type := 4, pos := "law.go:63", after := #[{ on := 2, ground := Ground.data }], guard := none }) (v := .bool false) rfl (by kernel_rfl) (by kernel_rfl) (by kernel_rfl) (fun _ _ _ h => hpan _ _ _ _ _ h) (Or.inl ⟨by rfl, ?_⟩) hHeld ?_
    · intro w1 hSw
      (try dsimp only at hSw)
      go_simp
    (try simp only [Act.put, List.setIfInBounds_toArray, List.set_cons_zero, List.set_cons_succ])
    refine wpAnyH_take (i := 4) (oi := { dst := some 120, op := Op.move (Operand.tmp 19), type := 4, pos := "law.go:63", after := #[{ on := 3, ground := Ground.guard }], guard := some (3, false) }) (v := .bool s) rfl (by kernel_rfl) (by kernel_rfl) (by kernel_rfl) (fun _ _ _ h => hpan _ _ _ _ _ h) (Or.inl ⟨by rfl, ?_⟩) hHeld ?_
    · intro w1 hSw
      (try dsimp only at hSw)
      go_simp
    (try simp only [Act.put, List.setIfInBounds_toArray, List.set_cons_zero, List.set_cons_succ])
    refine wpAnyH_take (i := 5) (oi := { dst := some 121, op := Op.move (Operand.tmp 21), type := 4, pos := "law.go:63", after := #[{ on := 3, ground := Ground.guard }], guard := some (3, false) }) (v := .bool s) rfl (by kernel_rfl) (by kernel_rfl) (by kernel_rfl) (fun _ _ _ h => hpan _ _ _ _ _ h) (Or.inl ⟨by rfl, ?_⟩) hHeld ?_
    · intro w1 hSw
      (try dsimp only at hSw)
      go_simp
    (try simp only [Act.put, List.setIfInBounds_toArray, List.set_cons_zero, List.set_cons_succ])
    refine wpAnyH_take (i := 6) (oi := { dst := some 122, op := Op.binOp BinOp.neq 4 (Operand.tmp 120) (Operand.tmp 121) 4, type := 4, pos := "law.go:63", after := #[{ on := 4, ground := Ground.data }, { on := 5, ground := Ground.data }, { on := 3, ground := Ground.guard }], guard := some (3, false) }) (v := .bool false) rfl (by kernel_rfl) (by kernel_rfl) (by kernel_rfl) (fun _ _ _ h => hpan _ _ _ _ _ h) (Or.inl ⟨by rfl, ?_⟩) hHeld ?_
    · intro w1 hSw
      (try dsimp only at hSw)
      go_simp
      (try (cases s <;> rfl))
    (try simp only [Act.put, List.setIfInBounds_toArray, List.set_cons_zero, List.set_cons_succ])
    refine wpAnyH_take (i := 7) (oi := { dst := some 123, op := Op.pick (Operand.tmp 119) (Operand.const (Value.bool true)) (Operand.tmp 122), type := 4, pos := "law.go:63", after := #[{ on := 3, ground := Ground.data }, { on := 6, ground := Ground.data }], guard := none }) (v := .bool false) rfl (by kernel_rfl) (by kernel_rfl) (by kernel_rfl) (fun _ _ _ h => hpan _ _ _ _ _ h) (Or.inl ⟨by rfl, ?_⟩) hHeld ?_
    · intro w1 hSw
      (try dsimp only at hSw)
      go_simp
    (try simp only [Act.put, List.setIfInBounds_toArray, List.set_cons_zero, List.set_cons_succ])
    refine wpAnyH_take (i := 8) (oi := { dst := some 124, op := Op.move (Operand.tmp 123), type := 4, pos := "law.go:63", after := #[{ on := 7, ground := Ground.data }, { on := 3, ground := Ground.chain }], guard := none }) (v := .bool false) rfl (by kernel_rfl) (by kernel_rfl) (by kernel_rfl) (fun _ _ _ h => hpan _ _ _ _ _ h) (Or.inl ⟨by rfl, ?_⟩) hHeld ?_
    · intro w1 hSw
      (try dsimp only at hSw)
      go_simp
    (try simp only [Act.put, List.setIfInBounds_toArray, List.set_cons_zero, List.set_cons_succ])
    refine wpAnyH_take (i := 9) (oi := { dst := some 125, op := Op.move (Operand.tmp 23), type := 4, pos := "law.go:63", after := #[{ on := 8, ground := Ground.guard }], guard := some (8, false) }) (v := .bool true) rfl (by kernel_rfl) (by kernel_rfl) (by kernel_rfl) (fun _ _ _ h => hpan _ _ _ _ _ h) (Or.inl ⟨by rfl, ?_⟩) hHeld ?_
    · intro w1 hSw
      (try dsimp only at hSw)
      go_simp
    (try simp only [Act.put, List.setIfInBounds_toArray, List.set_cons_zero, List.set_cons_succ])
    refine wpAnyH_take (i := 10) (oi := { dst := some 126, op := Op.move (Operand.tmp 24), type := 3, pos := "law.go:63", after := #[{ on := 8, ground := Ground.guard }], guard := some (8, false) }) (v := .int .i64 ki) rfl (by kernel_rfl) (by kernel_rfl) (by kernel_rfl) (fun _ _ _ h => hpan _ _ _ _ _ h) (Or.inl ⟨by rfl, ?_⟩) hHeld ?_
    · intro w1 hSw
      (try dsimp only at hSw)
      go_simp
    (try simp only [Act.put, List.setIfInBounds_toArray, List.set_cons_zero, List.set_cons_succ])
    refine wpAnyH_take (i := 11) (oi := { dst := some 127, op := Op.binOp BinOp.geq 3 (Operand.tmp 126) (Operand.const (Value.int IntKind.i64 0)) 3, type := 4, pos := "law.go:63", after := #[{ on := 10, ground := Ground.data }, { on := 8, ground := Ground.guard }], guard := some (8, false) }) (v := .bool true) rfl (by kernel_rfl) (by kernel_rfl) (by kernel_rfl) (fun _ _ _ h => hpan _ _ _ _ _ h) (Or.inl ⟨by rfl, ?_⟩) hHeld ?_
    · intro w1 hSw
      (try dsimp only at hSw)
      go_simp
    (try simp only [Act.put, List.setIfInBounds_toArray, List.set_cons_zero, List.set_cons_succ])
    refine wpAnyH_take (i := 12) (oi := { dst := some 128, op := Op.binOp BinOp.neq 4 (Operand.tmp 125) (Operand.tmp 127) 4, type := 4, pos := "law.go:63", after := #[{ on := 9, ground := Ground.data }, { on := 11, ground := Ground.data }, { on := 8, ground := Ground.guard }], guard := some (8, false) }) (v := .bool false) rfl (by kernel_rfl) (by kernel_rfl) (by kernel_rfl) (fun _ _ _ h => hpan _ _ _ _ _ h) (Or.inl ⟨by rfl, ?_⟩) hHeld ?_
    · intro w1 hSw
      (try dsimp only at hSw)
      go_simp
    (try simp only [Act.put, List.setIfInBounds_toArray, List.set_cons_zero, List.set_cons_succ])
    refine wpAnyH_take (i := 13) (oi := { dst := some 129, op := Op.pick (Operand.tmp 124) (Operand.const (Value.bool true)) (Operand.tmp 128), type := 4, pos := "law.go:63", after := #[{ on := 8, ground := Ground.data }, { on := 12, ground := Ground.data }], guard := none }) (v := .bool false) rfl (by kernel_rfl) (by kernel_rfl) (by kernel_rfl) (fun _ _ _ h => hpan _ _ _ _ _ h) (Or.inl ⟨by rfl, ?_⟩) hHeld ?_
    · intro w1 hSw
      (try dsimp only at hSw)
      go_simp
    (try simp only [Act.put, List.setIfInBounds_toArray, List.set_cons_zero, List.set_cons_succ])
    refine wpAnyH_take (i := 14) (oi := { dst := some 130, op := Op.move (Operand.tmp 129), type := 4, pos := "law.go:63", after := #[{ on := 13, ground := Ground.data }, { on := 8, ground := Ground.chain }], guard := none }) (v := .bool false) rfl (by kernel_rfl) (by kernel_rfl) (by kernel_rfl) (fun _ _ _ h => hpan _ _ _ _ _ h) (Or.inl ⟨by rfl, ?_⟩) hHeld ?_
    · intro w1 hSw
      (try dsimp only at hSw)
      go_simp
    (try simp only [Act.put, List.setIfInBounds_toArray, List.set_cons_zero, List.set_cons_succ])
    refine wpAnyH_take (i := 15) (oi := { dst := some 131, op := Op.move (Operand.tmp 23), type := 4, pos := "law.go:63", after := #[{ on := 14, ground := Ground.guard }], guard := some (14, false) }) (v := .bool true) rfl (by kernel_rfl) (by kernel_rfl) (by kernel_rfl) (fun _ _ _ h => hpan _ _ _ _ _ h) (Or.inl ⟨by rfl, ?_⟩) hHeld ?_
    · intro w1 hSw
      (try dsimp only at hSw)
      go_simp
    (try simp only [Act.put, List.setIfInBounds_toArray, List.set_cons_zero, List.set_cons_succ])
    refine wpAnyH_take (i := 16) (oi := { dst := some 132, op := Op.move (Operand.tmp 131), type := 4, pos := "law.go:63", after := #[{ on := 15, ground := Ground.data }, { on := 14, ground := Ground.chain }, { on := 14, ground := Ground.guard }], guard := some (14, false) }) (v := .bool true) rfl (by kernel_rfl) (by kernel_rfl) (by kernel_rfl) (fun _ _ _ h => hpan _ _ _ _ _ h) (Or.inl ⟨by rfl, ?_⟩) hHeld ?_
    · intro w1 hSw
      (try dsimp only at hSw)
      go_simp
    (try simp only [Act.put, List.setIfInBounds_toArray, List.set_cons_zero, List.set_cons_succ])
    refine wpAnyH_take (i := 17) (oi := { dst := some 133, op := Op.load 51 (Operand.tmp 22), type := 51, pos := "law.go:63", after := #[{ on := 16, ground := Ground.guard }], guard := some (16, true) }) (v := .agg #[.int .i64 f0, .int .i64 f1, .int .i64 f2, .int .u32 f3]) rfl (by kernel_rfl) (by kernel_rfl) (by kernel_rfl) (fun _ _ _ h => hpan _ _ _ _ _ h) (Or.inl ⟨by rfl, ?_⟩) hHeld ?_
    · intro w1 hSw
      (try dsimp only at hSw)
      go_simp
    (try simp only [Act.put, List.setIfInBounds_toArray, List.set_cons_zero, List.set_cons_succ])
    refine wpAnyH_take (i := 18) (oi := { dst := some 134, op := Op.move (Operand.tmp 8), type := 57, pos := "law.go:63", after := #[{ on := 16, ground := Ground.guard }], guard := some (16, true) }) (v := .slice (some ⟨xb, 0, none⟩) L.length xc) rfl (by kernel_rfl) (by kernel_rfl) (by kernel_rfl) (fun _ _ _ h => hpan _ _ _ _ _ h) (Or.inl ⟨by rfl, ?_⟩) hHeld ?_
    · intro w1 hSw
      (try dsimp only at hSw)
      go_simp
    (try simp only [Act.put, List.setIfInBounds_toArray, List.set_cons_zero, List.set_cons_succ])
    refine wpAnyH_take (i := 19) (oi := { dst := some 135, op := Op.move (Operand.tmp 24), type := 3, pos := "law.go:63", after := #[{ on := 16, ground := Ground.guard }], guard := some (16, true) }) (v := .int .i64 ki) rfl (by kernel_rfl) (by kernel_rfl) (by kernel_rfl) (fun _ _ _ h => hpan _ _ _ _ _ h) (Or.inl ⟨by rfl, ?_⟩) hHeld ?_
    · intro w1 hSw
      (try dsimp only at hSw)
      go_simp
    (try simp only [Act.put, List.setIfInBounds_toArray, List.set_cons_zero, List.set_cons_succ])
    refine wpAnyH_take (i := 20) (oi := { dst := some 136, op := Op.indexAddr 57 (Operand.tmp 134) (Operand.tmp 135), type := 0, pos := "law.go:63", after := #[{ on := 18, ground := Ground.data }, { on := 19, ground := Ground.data }, { on := 16, ground := Ground.guard }], guard := some (16, true) }) (v := .pointer (some ⟨xb, ki * 4, none⟩)) rfl (by kernel_rfl) (by kernel_rfl) (by kernel_rfl) (fun _ _ _ h => hpan _ _ _ _ _ h) (Or.inl ⟨by rfl, ?_⟩) hHeld ?_
    · intro w1 hSw
      (try dsimp only at hSw)
      go_simp
    (try simp only [Act.put, List.setIfInBounds_toArray, List.set_cons_zero, List.set_cons_succ])
    refine wpAnyH_take (i := 21) (oi := { dst := some 137, op := Op.load 58 (Operand.tmp 136), type := 58, pos := "law.go:63", after := #[{ on := 20, ground := Ground.data }, { on := 16, ground := Ground.guard }], guard := some (16, true) }) (v := .agg #[.int .i64 f0, .int .i64 f1, .int .i64 f2, .int .u32 f3]) rfl (by kernel_rfl) (by kernel_rfl) (by kernel_rfl) (fun _ _ _ h => hpan _ _ _ _ _ h) (Or.inl ⟨by rfl, ?_⟩) hHeld ?_
    · intro w1 hSw
      (try dsimp only at hSw)
      go_simp
    (try simp only [Act.put, List.setIfInBounds_toArray, List.set_cons_zero, List.set_cons_succ])
    refine wpAnyH_take (i := 22) (oi := { dst := some 138, op := Op.binOp BinOp.neq 58 (Operand.tmp 133) (Operand.tmp 137) 58, type := 4, pos := "law.go:63", after := #[{ on := 17, ground := Ground.data }, { on := 21, ground := Ground.data }, { on := 16, ground := Ground.guard }], guard := some (16, true) }) (v := .bool false) rfl (by kernel_rfl) (by kernel_rfl) (by kernel_rfl) (fun _ _ _ h => hpan _ _ _ _ _ h) (Or.inl ⟨by rfl, ?_⟩) hHeld ?_
    · intro w1 hSw
      (try dsimp only at hSw)
      go_simp
    (try simp only [Act.put, List.setIfInBounds_toArray, List.set_cons_zero, List.set_cons_succ])
    refine wpAnyH_take (i := 23) (oi := { dst := some 139, op := Op.pick (Operand.tmp 132) (Operand.tmp 138) (Operand.const (Value.bool false)), type := 4, pos := "law.go:63", after := #[{ on := 16, ground := Ground.data }, { on := 22, ground := Ground.data }, { on := 14, ground := Ground.guard }], guard := some (14, false) }) (v := .bool false) rfl (by kernel_rfl) (by kernel_rfl) (by kernel_rfl) (fun _ _ _ h => hpan _ _ _ _ _ h) (Or.inl ⟨by rfl, ?_⟩) hHeld ?_
    · intro w1 hSw
      (try dsimp only at hSw)
      go_simp
    (try simp only [Act.put, List.setIfInBounds_toArray, List.set_cons_zero, List.set_cons_succ])
    refine wpAnyH_take (i := 24) (oi := { dst := some 140, op := Op.pick (Operand.tmp 130) (Operand.const (Value.bool true)) (Operand.tmp 139), type := 4, pos := "law.go:63", after := #[{ on := 14, ground := Ground.data }, { on := 23, ground := Ground.data }], guard := none }) (v := .bool false) rfl (by kernel_rfl) (by kernel_rfl) (by kernel_rfl) (fun _ _ _ h => hpan _ _ _ _ _ h) (Or.inl ⟨by rfl, ?_⟩) hHeld ?_
    · intro w1 hSw
      (try dsimp only at hSw)
      go_simp
    (try simp only [Act.put, List.setIfInBounds_toArray, List.set_cons_zero, List.set_cons_succ])
    refine wpAnyH_take (i := 25) (oi := { dst := some 141, op := Op.move (Operand.tmp 140), type := 4, pos := "law.go:63", after := #[{ on := 24, ground := Ground.data }, { on := 16, ground := Ground.chain }], guard := none }) (v := .bool false) rfl (by kernel_rfl) (by kernel_rfl) (by kernel_rfl) (fun _ _ _ h => hpan _ _ _ _ _ h) (Or.inl ⟨by rfl, ?_⟩) hHeld ?_
    · intro w1 hSw
      (try dsimp only at hSw)
      go_simp
    (try simp only [Act.put, List.setIfInBounds_toArray, List.set_cons_zero, List.set_cons_succ])
    refine wpAnyH_take (i := 26) (oi := { dst := some 142, op := Op.move (Operand.tmp 23), type := 4, pos := "law.go:63", after := #[{ on := 25, ground := Ground.guard }], guard := some (25, false) }) (v := .bool true) rfl (by kernel_rfl) (by kernel_rfl) (by kernel_rfl) (fun _ _ _ h => hpan _ _ _ _ _ h) (Or.inl ⟨by rfl, ?_⟩) hHeld ?_
    · intro w1 hSw
      (try dsimp only at hSw)
      go_simp
    (try simp only [Act.put, List.setIfInBounds_toArray, List.set_cons_zero, List.set_cons_succ])
    refine wpAnyH_take (i := 27) (oi := { dst := some 143, op := Op.unOp UnOp.not 4 (Operand.tmp 142), type := 4, pos := "law.go:63", after := #[{ on := 26, ground := Ground.data }, { on := 25, ground := Ground.guard }], guard := some (25, false) }) (v := .bool false) rfl (by kernel_rfl) (by kernel_rfl) (by kernel_rfl) (fun _ _ _ h => hpan _ _ _ _ _ h) (Or.inl ⟨by rfl, ?_⟩) hHeld ?_
    · intro w1 hSw
      (try dsimp only at hSw)
      go_simp
    (try simp only [Act.put, List.setIfInBounds_toArray, List.set_cons_zero, List.set_cons_succ])
    refine wpAnyH_take (i := 28) (oi := { dst := some 144, op := Op.move (Operand.tmp 143), type := 4, pos := "law.go:63", after := #[{ on := 27, ground := Ground.data }, { on := 25, ground := Ground.chain }, { on := 25, ground := Ground.guard }], guard := some (25, false) }) (v := .bool false) rfl (by kernel_rfl) (by kernel_rfl) (by kernel_rfl) (fun _ _ _ h => hpan _ _ _ _ _ h) (Or.inl ⟨by rfl, ?_⟩) hHeld ?_
    · intro w1 hSw
      (try dsimp only at hSw)
      go_simp
    (try simp only [Act.put, List.setIfInBounds_toArray, List.set_cons_zero, List.set_cons_succ])
    refine wpAnyH_take (i := 29) (oi := { dst := some 145, op := Op.load 51 (Operand.tmp 22), type := 51, pos := "law.go:63", after := #[{ on := 28, ground := Ground.guard }], guard := some (28, true) }) (v := undef) rfl (by kernel_rfl) (by kernel_rfl) (by kernel_rfl) (fun _ _ _ h => hpan _ _ _ _ _ h) (Or.inr ⟨by rfl, rfl⟩) hHeld ?_
    (try simp only [Act.put, List.setIfInBounds_toArray, List.set_cons_zero, List.set_cons_succ])
    refine wpAnyH_take (i := 30) (oi := { dst := some 146, op := Op.build 51 #[], type := 51, pos := "law.go:63", after := #[{ on := 28, ground := Ground.guard }], guard := some (28, true) }) (v := undef) rfl (by kernel_rfl) (by kernel_rfl) (by kernel_rfl) (fun _ _ _ h => hpan _ _ _ _ _ h) (Or.inr ⟨by rfl, rfl⟩) hHeld ?_
    (try simp only [Act.put, List.setIfInBounds_toArray, List.set_cons_zero, List.set_cons_succ])
    refine wpAnyH_take (i := 31) (oi := { dst := some 147, op := Op.binOp BinOp.neq 51 (Operand.tmp 145) (Operand.tmp 146) 51, type := 4, pos := "law.go:63", after := #[{ on := 29, ground := Ground.data }, { on := 30, ground := Ground.data }, { on := 28, ground := Ground.guard }], guard := some (28, true) }) (v := undef) rfl (by kernel_rfl) (by kernel_rfl) (by kernel_rfl) (fun _ _ _ h => hpan _ _ _ _ _ h) (Or.inr ⟨by rfl, rfl⟩) hHeld ?_
    (try simp only [Act.put, List.setIfInBounds_toArray, List.set_cons_zero, List.set_cons_succ])
    refine wpAnyH_take (i := 32) (oi := { dst := some 148, op := Op.pick (Operand.tmp 144) (Operand.tmp 147) (Operand.const (Value.bool false)), type := 4, pos := "law.go:63", after := #[{ on := 28, ground := Ground.data }, { on := 31, ground := Ground.data }, { on := 25, ground := Ground.guard }], guard := some (25, false) }) (v := .bool false) rfl (by kernel_rfl) (by kernel_rfl) (by kernel_rfl) (fun _ _ _ h => hpan _ _ _ _ _ h) (Or.inl ⟨by rfl, ?_⟩) hHeld ?_
    · intro w1 hSw
      (try dsimp only at hSw)
      go_simp
    (try simp only [Act.put, List.setIfInBounds_toArray, List.set_cons_zero, List.set_cons_succ])
    refine wpAnyH_take (i := 33) (oi := { dst := some 149, op := Op.pick (Operand.tmp 141) (Operand.const (Value.bool true)) (Operand.tmp 148), type := 4, pos := "law.go:63", after := #[{ on := 25, ground := Ground.data }, { on := 32, ground := Ground.data }], guard := none }) (v := .bool false) rfl (by kernel_rfl) (by kernel_rfl) (by kernel_rfl) (fun _ _ _ h => hpan _ _ _ _ _ h) (Or.inl ⟨by rfl, ?_⟩) hHeld ?_
    · intro w1 hSw
      (try dsimp only at hSw)
      go_simp
    (try simp only [Act.put, List.setIfInBounds_toArray, List.set_cons_zero, List.set_cons_succ])
    refine wpAnyH_take (i := 34) (oi := { dst := some 150, op := Op.move (Operand.tmp 149), type := 4, pos := "law.go:63", after := #[{ on := 33, ground := Ground.data }, { on := 28, ground := Ground.chain }], guard := none }) (v := .bool false) rfl (by kernel_rfl) (by kernel_rfl) (by kernel_rfl) (fun _ _ _ h => hpan _ _ _ _ _ h) (Or.inl ⟨by rfl, ?_⟩) hHeld ?_
    · intro w1 hSw
      (try dsimp only at hSw)
      go_simp
    (try simp only [Act.put, List.setIfInBounds_toArray, List.set_cons_zero, List.set_cons_succ])
    refine wpAnyH_take (i := 35) (oi := { dst := some 151, op := Op.move (Operand.tmp 7), type := 49, pos := "law.go:63", after := #[{ on := 34, ground := Ground.guard }], guard := some (34, false) }) (v := .pointer (some ⟨q, 0, none⟩)) rfl (by kernel_rfl) (by kernel_rfl) (by kernel_rfl) (fun _ _ _ h => hpan _ _ _ _ _ h) (Or.inl ⟨by rfl, ?_⟩) hHeld ?_
    · intro w1 hSw
      (try dsimp only at hSw)
      go_simp
    (try simp only [Act.put, List.setIfInBounds_toArray, List.set_cons_zero, List.set_cons_succ])
    refine wpAnyH_take (i := 38) (oi := { dst := some 154, op := Op.move (Operand.tmp 8), type := 57, pos := "law.go:63", after := #[{ on := 34, ground := Ground.guard }], guard := some (34, false) }) (v := .slice (some ⟨xb, 0, none⟩) L.length xc) rfl (by kernel_rfl) (by kernel_rfl) (by kernel_rfl) (fun _ _ _ h => hpan _ _ _ _ _ h) (Or.inl ⟨by rfl, ?_⟩) hHeld ?_
    · intro w1 hSw
      (try dsimp only at hSw)
      go_simp
    (try simp only [Act.put, List.setIfInBounds_toArray, List.set_cons_zero, List.set_cons_succ])
    refine wpAnyH_ready (rs := [36]) (by kernel_rfl) (by simp) ?_
    refine AllReadyH.cons (o := { dst := some 152, op := Op.call { callee := Callee.value (Operand.func 27), args := #[Operand.tmp 151], argTypes := #[49] }, type := 73, pos := "law.go:63", after := #[{ on := 35, ground := Ground.data }, { on := 34, ground := Ground.chain }, { on := 34, ground := Ground.guard }], guard := some (34, false) }) rfl (fun K hK => ?_) AllReadyH.nil
    go_simp
    refine (HLIST.out _ hHeld).mono ?_
    rintro e w3 ⟨⟨v3, rfl, hr3⟩, hu3⟩
    have HR3 := Lib.hid hr3
    obtain ⟨a3, c3, rfl, _⟩ := hr3.shape
    clear hr3
    refine hK.out _ _ (hHeld.trans hu3) (fun hHeld => ?_)
    clear hK K
    (try simp only [Act.put, List.setIfInBounds_toArray, List.set_cons_zero, List.set_cons_succ])
    refine wpAnyH_ready (rs := [37]) (by kernel_rfl) (by simp) ?_
    refine AllReadyH.cons (o := { dst := some 153, op := Op.call { callee := Callee.value (Operand.func 26), args := #[Operand.tmp 152], argTypes := #[73] }, type := 57, pos := "law.go:63", after := #[{ on := 36, ground := Ground.data }, { on := 36, ground := Ground.chain }, { on := 34, ground := Ground.guard }], guard := some (34, false) }) rfl (fun K hK => ?_) AllReadyH.nil
    go_simp
    refine (qback_c HR3.out HLEN.out).mono ?_
    rintro e w4 ⟨⟨v4, rfl, hr4⟩, hu4⟩
    have HR4 := Lib.hid hr4
    have HX4 := Lib.hid (HX.out.upd (hHeld.trans hu4))
    obtain ⟨a4, c4, rfl, _⟩ := hr4.shape
    clear hr4
    refine hK.out _ _ (hHeld.trans hu4) (fun hHeld => ?_)
    clear hK K
    (try simp only [Act.put, List.setIfInBounds_toArray, List.set_cons_zero, List.set_cons_succ])
    refine wpAnyH_ready (rs := [39]) (by kernel_rfl) (by simp) ?_
    refine AllReadyH.cons (o := { dst := some 155, op := Op.call { callee := Callee.value (Operand.func 25), args := #[Operand.tmp 153, Operand.tmp 154], argTypes := #[57, 57] }, type := 4, pos := "law.go:63", after := #[{ on := 37, ground := Ground.data }, { on := 38, ground := Ground.data }, { on := 37, ground := Ground.chain }, { on := 34, ground := Ground.guard }], guard := some (34, false) }) rfl (fun K hK => ?_) AllReadyH.nil
    go_simp
    refine (rqsame_c HR4.out HX4.out HLEN.out).mono ?_
    rintro e w5 ⟨rfl, hu5⟩
    refine hK.out _ _ (hHeld.trans hu5) (fun hHeld => ?_)
    clear hK K
    (try simp only [Act.put, List.setIfInBounds_toArray, List.set_cons_zero, List.set_cons_succ])
    refine wpAnyH_take (i := 40) (oi := { dst := some 156, op := Op.unOp UnOp.not 4 (Operand.tmp 155), type := 4, pos := "law.go:63", after := #[{ on := 39, ground := Ground.data }, { on := 34, ground := Ground.guard }], guard := some (34, false) }) (v := .bool false) rfl (by kernel_rfl) (by kernel_rfl) (by kernel_rfl) (fun _ _ _ h => hpan _ _ _ _ _ h) (Or.inl ⟨by rfl, ?_⟩) hHeld ?_
    · intro w1 hSw
      (try dsimp only at hSw)
      go_simp
    (try simp only [Act.put, List.setIfInBounds_toArray, List.set_cons_zero, List.set_cons_succ])
    refine wpAnyH_take (i := 41) (oi := { dst := some 157, op := Op.pick (Operand.tmp 150) (Operand.const (Value.bool true)) (Operand.tmp 156), type := 4, pos := "law.go:63", after := #[{ on := 34, ground := Ground.data }, { on := 40, ground := Ground.data }], guard := none }) (v := .bool false) rfl (by kernel_rfl) (by kernel_rfl) (by kernel_rfl) (fun _ _ _ h => hpan _ _ _ _ _ h) (Or.inl ⟨by rfl, ?_⟩) hHeld ?_
    · intro w1 hSw
      (try dsimp only at hSw)
      go_simp
    (try simp only [Act.put, List.setIfInBounds_toArray, List.set_cons_zero, List.set_cons_succ])
    refine wpAnyH_take (i := 42) (oi := { dst := some 158, op := Op.move (Operand.tmp 157), type := 4, pos := "law.go:63", after := #[{ on := 41, ground := Ground.data }, { on := 39, ground := Ground.chain }], guard := none }) (v := .bool false) rfl (by kernel_rfl) (by kernel_rfl) (by kernel_rfl) (fun _ _ _ h => hpan _ _ _ _ _ h) (Or.inl ⟨by rfl, ?_⟩) hHeld ?_
    · intro w1 hSw
      (try dsimp only at hSw)
      go_simp
    (try simp only [Act.put, List.setIfInBounds_toArray, List.set_cons_zero, List.set_cons_succ])
    refine wpAnyH_take (i := 43) (oi := { dst := some 159, op := Op.move (Operand.tmp 7), type := 49, pos := "law.go:63", after := #[{ on := 42, ground := Ground.guard }], guard := some (42, false) }) (v := .pointer (some ⟨q, 0, none⟩)) rfl (by kernel_rfl) (by kernel_rfl) (by kernel_rfl) (fun _ _ _ h => hpan _ _ _ _ _ h) (Or.inl ⟨by rfl, ?_⟩) hHeld ?_
    · intro w1 hSw
      (try dsimp only at hSw)
      go_simp
    (try simp only [Act.put, List.setIfInBounds_toArray, List.set_cons_zero, List.set_cons_succ])
    refine wpAnyH_take (i := 44) (oi := { dst := some 160, op := Op.move (Operand.tmp 2), type := 3, pos := "law.go:63", after := #[{ on := 42, ground := Ground.guard }], guard := some (42, false) }) (v := .int .i64 obj) rfl (by kernel_rfl) (by kernel_rfl) (by kernel_rfl) (fun _ _ _ h => hpan _ _ _ _ _ h) (Or.inl ⟨by rfl, ?_⟩) hHeld ?_
    · intro w1 hSw
      (try dsimp only at hSw)
      go_simp
    (try simp only [Act.put, List.setIfInBounds_toArray, List.set_cons_zero, List.set_cons_succ])
    refine wpAnyH_take (i := 47) (oi := { dst := some 163, op := Op.move (Operand.tmp 8), type := 57, pos := "law.go:63", after := #[{ on := 42, ground := Ground.guard }], guard := some (42, false) }) (v := .slice (some ⟨xb, 0, none⟩) L.length xc) rfl (by kernel_rfl) (by kernel_rfl) (by kernel_rfl) (fun _ _ _ h => hpan _ _ _ _ _ h) (Or.inl ⟨by rfl, ?_⟩) hHeld ?_
    · intro w1 hSw
      (try dsimp only at hSw)
      go_simp
    (try simp only [Act.put, List.setIfInBounds_toArray, List.set_cons_zero, List.set_cons_succ])
    refine wpAnyH_take (i := 48) (oi := { dst := some 164, op := Op.move (Operand.tmp 2), type := 3, pos := "law.go:63", after := #[{ on := 42, ground := Ground.guard }], guard := some (42, false) }) (v := .int .i64 obj) rfl (by kernel_rfl) (by kernel_rfl) (by kernel_rfl) (fun _ _ _ h => hpan _ _ _ _ _ h) (Or.inl ⟨by rfl, ?_⟩) hHeld ?_
    · intro w1 hSw
      (try dsimp only at hSw)
      go_simp
    (try simp only [Act.put, List.setIfInBounds_toArray, List.set_cons_zero, List.set_cons_succ])
    refine wpAnyH_ready (rs := [45]) (by kernel_rfl) (by simp) ?_
    refine AllReadyH.cons (o := { dst := some 161, op := Op.call { callee := Callee.value (Operand.func 28), args := #[Operand.tmp 159, Operand.tmp 160], argTypes := #[49, 3] }, type := 73, pos := "law.go:63", after := #[{ on := 43, ground := Ground.data }, { on := 44, ground := Ground.data }, { on := 42, ground := Ground.chain }, { on := 42, ground := Ground.guard }], guard := some (42, false) }) rfl (fun K hK => ?_) AllReadyH.nil
    go_simp
    refine (HOF.out _ hHeld).mono ?_
    rintro e w6 ⟨⟨v6, rfl, hr6⟩, hu6⟩
    have HR6 := Lib.hid hr6
    obtain ⟨a6, c6, rfl, _⟩ := hr6.shape
    clear hr6
    refine hK.out _ _ (hHeld.trans hu6) (fun hHeld => ?_)
    clear hK K
    (try simp only [Act.put, List.setIfInBounds_toArray, List.set_cons_zero, List.set_cons_succ])
    refine wpAnyH_ready (rs := [46]) (by kernel_rfl) (by simp) ?_
    refine AllReadyH.cons (o := { dst := some 162, op := Op.call { callee := Callee.value (Operand.func 26), args := #[Operand.tmp 161], argTypes := #[73] }, type := 57, pos := "law.go:63", after := #[{ on := 45, ground := Ground.data }, { on := 45, ground := Ground.chain }, { on := 42, ground := Ground.guard }], guard := some (42, false) }) rfl (fun K hK => ?_) AllReadyH.nil
    go_simp
    refine (qback_c HR6.out HLEN2.out).mono ?_
    rintro e w7 ⟨⟨v7, rfl, hr7⟩, hu7⟩
    have HR7 := Lib.hid hr7
    have HX7 := Lib.hid (HX.out.upd (hHeld.trans hu7))
    obtain ⟨a7, c7, rfl, _⟩ := hr7.shape
    clear hr7
    refine hK.out _ _ (hHeld.trans hu7) (fun hHeld => ?_)
    clear hK K
    (try simp only [Act.put, List.setIfInBounds_toArray, List.set_cons_zero, List.set_cons_succ])
    refine wpAnyH_ready (rs := [49]) (by kernel_rfl) (by simp) ?_
    refine AllReadyH.cons (o := { dst := some 165, op := Op.call { callee := Callee.value (Operand.func 29), args := #[Operand.tmp 163, Operand.tmp 164], argTypes := #[57, 3] }, type := 57, pos := "law.go:63", after := #[{ on := 47, ground := Ground.data }, { on := 48, ground := Ground.data }, { on := 46, ground := Ground.chain }, { on := 42, ground := Ground.guard }], guard := some (42, false) }) rfl (fun K hK => ?_) AllReadyH.nil
    go_simp
    refine (rqof_c obj HX7.out HLEN.out).mono ?_
    rintro e w8 ⟨⟨v8, rfl, hr8⟩, hu8⟩
    have HR8 := Lib.hid hr8
    have HR78 := Lib.hid (HR7.out.upd hu8)
    obtain ⟨a8, c8, rfl, _⟩ := hr8.shape
    clear hr8
    refine hK.out _ _ (hHeld.trans hu8) (fun hHeld => ?_)
    clear hK K
    (try simp only [Act.put, List.setIfInBounds_toArray, List.set_cons_zero, List.set_cons_succ])
    refine wpAnyH_ready (rs := [50]) (by kernel_rfl) (by simp) ?_
    refine AllReadyH.cons (o := { dst := some 166, op := Op.call { callee := Callee.value (Operand.func 25), args := #[Operand.tmp 162, Operand.tmp 165], argTypes := #[57, 57] }, type := 4, pos := "law.go:63", after := #[{ on := 46, ground := Ground.data }, { on := 49, ground := Ground.data }, { on := 49, ground := Ground.chain }, { on := 42, ground := Ground.guard }], guard := some (42, false) }) rfl (fun K hK => ?_) AllReadyH.nil
    go_simp
    refine (rqsame_c HR78.out HR8.out HLEN2.out).mono ?_
    rintro e w9 ⟨rfl, hu9⟩
    refine hK.out _ _ (hHeld.trans hu9) (fun hHeld => ?_)
    clear hK K
    (try simp only [Act.put, List.setIfInBounds_toArray, List.set_cons_zero, List.set_cons_succ])
    refine wpAnyH_take (i := 51) (oi := { dst := some 167, op := Op.unOp UnOp.not 4 (Operand.tmp 166), type := 4, pos := "law.go:63", after := #[{ on := 50, ground := Ground.data }, { on := 42, ground := Ground.guard }], guard := some (42, false) }) (v := .bool false) rfl (by kernel_rfl) (by kernel_rfl) (by kernel_rfl) (fun _ _ _ h => hpan _ _ _ _ _ h) (Or.inl ⟨by rfl, ?_⟩) hHeld ?_
    · intro w1 hSw
      (try dsimp only at hSw)
      go_simp
    (try simp only [Act.put, List.setIfInBounds_toArray, List.set_cons_zero, List.set_cons_succ])
    refine wpAnyH_take (i := 52) (oi := { dst := some 168, op := Op.pick (Operand.tmp 158) (Operand.const (Value.bool true)) (Operand.tmp 167), type := 4, pos := "law.go:63", after := #[{ on := 42, ground := Ground.data }, { on := 51, ground := Ground.data }], guard := none }) (v := .bool false) rfl (by kernel_rfl) (by kernel_rfl) (by kernel_rfl) (fun _ _ _ h => hpan _ _ _ _ _ h) (Or.inl ⟨by rfl, ?_⟩) hHeld ?_
    · intro w1 hSw
      (try dsimp only at hSw)
      go_simp
    (try simp only [Act.put, List.setIfInBounds_toArray, List.set_cons_zero, List.set_cons_succ])
    refine wpAnyH_take (i := 53) (oi := { dst := some 169, op := Op.move (Operand.tmp 168), type := 4, pos := "law.go:63", after := #[{ on := 52, ground := Ground.data }, { on := 50, ground := Ground.chain }], guard := none }) (v := .bool false) rfl (by kernel_rfl) (by kernel_rfl) (by kernel_rfl) (fun _ _ _ h => hpan _ _ _ _ _ h) (Or.inl ⟨by rfl, ?_⟩) hHeld ?_
    · intro w1 hSw
      (try dsimp only at hSw)
      go_simp
    (try simp only [Act.put, List.setIfInBounds_toArray, List.set_cons_zero, List.set_cons_succ])
    refine wpAnyH_take (i := 54) (oi := { dst := some 170, op := Op.move (Operand.tmp 7), type := 49, pos := "law.go:63", after := #[{ on := 53, ground := Ground.guard }], guard := some (53, false) }) (v := .pointer (some ⟨q, 0, none⟩)) rfl (by kernel_rfl) (by kernel_rfl) (by kernel_rfl) (fun _ _ _ h => hpan _ _ _ _ _ h) (Or.inl ⟨by rfl, ?_⟩) hHeld ?_
    · intro w1 hSw
      (try dsimp only at hSw)
      go_simp
    (try simp only [Act.put, List.setIfInBounds_toArray, List.set_cons_zero, List.set_cons_succ])
    refine wpAnyH_take (i := 56) (oi := { dst := some 172, op := Op.move (Operand.tmp 8), type := 57, pos := "law.go:63", after := #[{ on := 53, ground := Ground.guard }], guard := some (53, false) }) (v := .slice (some ⟨xb, 0, none⟩) L.length xc) rfl (by kernel_rfl) (by kernel_rfl) (by kernel_rfl) (fun _ _ _ h => hpan _ _ _ _ _ h) (Or.inl ⟨by rfl, ?_⟩) hHeld ?_
    · intro w1 hSw
      (try dsimp only at hSw)
      go_simp
    (try simp only [Act.put, List.setIfInBounds_toArray, List.set_cons_zero, List.set_cons_succ])
    refine wpAnyH_take (i := 57) (oi := { dst := some 173, op := Op.call { callee := Callee.builtin Builtin.len, args := #[Operand.tmp 172], argTypes := #[57] }, type := 3, pos := "law.go:63", after := #[{ on := 56, ground := Ground.data }, { on := 53, ground := Ground.guard }], guard := some (53, false) }) (v := .int .i64 L.length) rfl (by kernel_rfl) (by kernel_rfl) (by kernel_rfl) (fun _ _ _ h => hpan _ _ _ _ _ h) (Or.inl ⟨by rfl, ?_⟩) hHeld ?_
    · intro w1 hSw
      (try dsimp only at hSw)
      go_simp
    (try simp only [Act.put, List.setIfInBounds_toArray, List.set_cons_zero, List.set_cons_succ])
    refine wpAnyH_ready (rs := [55]) (by kernel_rfl) (by simp) ?_
    refine AllReadyH.cons (o := { dst := some 171, op := Op.call { callee := Callee.value (Operand.func 30), args := #[Operand.tmp 170], argTypes := #[49] }, type := 3, pos := "law.go:63", after := #[{ on := 54, ground := Ground.data }, { on := 53, ground := Ground.chain }, { on := 53, ground := Ground.guard }], guard := some (53, false) }) rfl (fun K hK => ?_) AllReadyH.nil
    go_simp
    refine (HLN.out _ hHeld).mono ?_
    rintro e w10 ⟨rfl, rfl⟩
    refine hK.out _ _ (hHeld) (fun hHeld => ?_)
    clear hK K
    (try simp only [Act.put, List.setIfInBounds_toArray, List.set_cons_zero, List.set_cons_succ])
    refine wpAnyH_take (i := 58) (oi := { dst := some 174, op := Op.binOp BinOp.neq 3 (Operand.tmp 171) (Operand.tmp 173) 3, type := 4, pos := "law.go:63", after := #[{ on := 55, ground := Ground.data }, { on := 57, ground := Ground.data }, { on := 53, ground := Ground.guard }], guard := some (53, false) }) (v := .bool false) rfl (by kernel_rfl) (by kernel_rfl) (by kernel_rfl) (fun _ _ _ h => hpan _ _ _ _ _ h) (Or.inl ⟨by rfl, ?_⟩) hHeld ?_
    · intro w1 hSw
      (try dsimp only at hSw)
      go_simp
    (try simp only [Act.put, List.setIfInBounds_toArray, List.set_cons_zero, List.set_cons_succ])
    refine wpAnyH_take (i := 59) (oi := { dst := some 175, op := Op.pick (Operand.tmp 169) (Operand.const (Value.bool true)) (Operand.tmp 174), type := 4, pos := "law.go:63", after := #[{ on := 53, ground := Ground.data }, { on := 58, ground := Ground.data }], guard := none }) (v := .bool false) rfl (by kernel_rfl) (by kernel_rfl) (by kernel_rfl) (fun _ _ _ h => hpan _ _ _ _ _ h) (Or.inl ⟨by rfl, ?_⟩) hHeld ?_
    · intro w1 hSw
      (try dsimp only at hSw)
      go_simp
    (try simp only [Act.put, List.setIfInBounds_toArray, List.set_cons_zero, List.set_cons_succ])
    refine wpAnyH_done (by kernel_rfl) ?_ _
    have HHE := Lib.hid hHeld
    clear hHeld
    go_wp2
    exact HQ.out _ _ _ _ _ _ _ _ _ _ _ _ _ _ _ _ _ _ _ _ _ _ _ _ _ _ _ _ _ _ _ _ _ _ _ _ _ _ _ _ _ _ _ _ _ _ _ _ _ _ _ _ _ _ _ _ _ _ _ _ _ _ _ _ _ _ _ _ _ _ _ _ _ _ _ _ _ _ _ _ _ _ _ _ _ _ _ _ _ (HUX.out.trans HHE.out)
  · injection hke with e1 e2 e3 e4
    subst e1 e2 e3 e4
    rw [hk] at HPL
    have k := hk
    clear hk k
    go_wp2_with (first
      | (go_at_call 21; (with_reducible refine (HNX.out _ (by repeat (first | (with_reducible exact Upd.refl _ _) | (with_reducible apply Upd.drew) | (with_reducible refine Upd.grE ?_ _) | (with_reducible refine Upd.alloc ?_ _)))).mono ?_); rintro e w1 ⟨rfl, hu1⟩; obtain ⟨p1, rfl⟩ := hu1.grown; clear hu1)
      | (go_at_call 22; (with_reducible refine (HRN.out _ (by repeat (first | (with_reducible exact Upd.refl _ _) | (with_reducible apply Upd.drew) | (with_reducible refine Upd.grE ?_ _) | (with_reducible refine Upd.alloc ?_ _)))).mono ?_); rintro e w2 ⟨rfl, hu2⟩; obtain ⟨p2, rfl⟩ := hu2.grown; clear hu2)
      | (go_at_call 23; (with_reducible refine (HFD.out _ (by repeat (first | (with_reducible exact Upd.refl _ _) | (with_reducible apply Upd.drew) | (with_reducible refine Upd.grE ?_ _) | (with_reducible refine Upd.alloc ?_ _)))).mono ?_); rintro e w3 ⟨rfl, hu3⟩; obtain ⟨p3, rfl⟩ := hu3.grown; clear hu3)
      | (go_at_call 24; (with_reducible refine (HPL.out _ (by repeat (first | (with_reducible exact Upd.refl _ _) | (with_reducible apply Upd.drew) | (with_reducible refine Upd.grE ?_ _) | (with_reducible refine Upd.alloc ?_ _)))).mono ?_); rintro e w4 ⟨rfl, hu4⟩; obtain ⟨p4, rfl⟩ := hu4.grown; clear hu4))
    generalize hX : gr ((gr ((gr ((gr w p1).alloc (.cells #[.int .i64 n0, .int .i64 n1, .int .i64 n2, .int .u32 n3] 51)) p2).alloc (.cells #[.int .i64 n0, .int .i64 n1, .int .i64 n2, .int .u32 n3] 58)) p3).alloc (.cells #[.int .i64 0, .int .i64 0, .int .i64 0, .int .u32 0] 51)) p4 = X
    have hX1 : X.heap[w.heap.size + p1.os.size]? = some (.cells [.int .i64 n0, .int .i64 n1, .int .i64 n2, .int .u32 n3].toArray 51) := by rw [← hX]; apply heap_grE; apply heap_alloc'; apply heap_grE; apply heap_alloc'; apply heap_grE; exact heap_alloc_at _ (by simp)
    have hX2 : X.heap[w.heap.size + p1.os.size + 1 + p2.os.size]? = some (.cells [.int .i64 n0, .int .i64 n1, .int .i64 n2, .int .u32 n3].toArray 58) := by rw [← hX]; apply heap_grE; apply heap_alloc'; apply heap_grE; exact heap_alloc_at _ (by simp)
    have hX3 : X.heap[w.heap.size + p1.os.size + 1 + p2.os.size + 1 + p3.os.size]? = some (.cells [.int .i64 0, .int .i64 0, .int .i64 0, .int .u32 0].toArray 51) := by rw [← hX]; apply heap_grE; exact heap_alloc_at _ (by simp)
    have HUX := Lib.hid (show Upd [] w X by rw [← hX]; repeat (first | (with_reducible exact Upd.refl _ _) | (with_reducible apply Upd.drew) | (with_reducible refine Upd.grE ?_ _) | (with_reducible refine Upd.alloc ?_ _)))
    generalize w.heap.size + p1.os.size + 1 + p2.os.size + 1 + p3.os.size = g3 at hX3 ⊢
    generalize w.heap.size + p1.os.size + 1 + p2.os.size = g2 at hX2 ⊢
    generalize w.heap.size + p1.os.size = g1 at hX1 ⊢
    clear hX HNX HRN HFD HPL
    have T1_0 : ∀ w1 : World, Upd [] X w1 → w1.cell? ⟨g1, 0, none⟩ = some (.int .i64 n0) := fun w1 h => cell_of_list (h.keepb hX1 (by simp)) 0 _ rfl
    have T1_1 : ∀ w1 : World, Upd [] X w1 → w1.cell? ⟨g1, 1, none⟩ = some (.int .i64 n1) := fun w1 h => cell_of_list (h.keepb hX1 (by simp)) 1 _ rfl
    have T1_2 : ∀ w1 : World, Upd [] X w1 → w1.cell? ⟨g1, 2, none⟩ = some (.int .i64 n2) := fun w1 h => cell_of_list (h.keepb hX1 (by simp)) 2 _ rfl
    have T1_3 : ∀ w1 : World, Upd [] X w1 → w1.cell? ⟨g1, 3, none⟩ = some (.int .u32 n3) := fun w1 h => cell_of_list (h.keepb hX1 (by simp)) 3 _ rfl
    have T2_0 : ∀ w1 : World, Upd [] X w1 → w1.cell? ⟨g2, 0, none⟩ = some (.int .i64 n0) := fun w1 h => cell_of_list (h.keepb hX2 (by simp)) 0 _ rfl
    have T2_1 : ∀ w1 : World, Upd [] X w1 → w1.cell? ⟨g2, 1, none⟩ = some (.int .i64 n1) := fun w1 h => cell_of_list (h.keepb hX2 (by simp)) 1 _ rfl
    have T2_2 : ∀ w1 : World, Upd [] X w1 → w1.cell? ⟨g2, 2, none⟩ = some (.int .i64 n2) := fun w1 h => cell_of_list (h.keepb hX2 (by simp)) 2 _ rfl
    have T2_3 : ∀ w1 : World, Upd [] X w1 → w1.cell? ⟨g2, 3, none⟩ = some (.int .u32 n3) := fun w1 h => cell_of_list (h.keepb hX2 (by simp)) 3 _ rfl
    have T3_0 : ∀ w1 : World, Upd [] X w1 → w1.cell? ⟨g3, 0, none⟩ = some (.int .i64 0) := fun w1 h => cell_of_list (h.keepb hX3 (by simp)) 0 _ rfl
    have T3_1 : ∀ w1 : World, Upd [] X w1 → w1.cell? ⟨g3, 1, none⟩ = some (.int .i64 0) := fun w1 h => cell_of_list (h.keepb hX3 (by simp)) 1 _ rfl
    have T3_2 : ∀ w1 : World, Upd [] X w1 → w1.cell? ⟨g3, 2, none⟩ = some (.int .i64 0) := fun w1 h => cell_of_list (h.keepb hX3 (by simp)) 2 _ rfl
    have T3_3 : ∀ w1 : World, Upd [] X w1 → w1.cell? ⟨g3, 3, none⟩ = some (.int .u32 0) := fun w1 h => cell_of_list (h.keepb hX3 (by simp)) 3 _ rfl
    have HX := Lib.hid (HX0.out.upd HUX.out)
    have HLIST := Lib.hid (fun (w1 : World) (hu : Upd [] X w1) => HLIST0.out w1 (HUX.out.trans hu))
    have HOF := Lib.hid (fun (w1 : World) (hu : Upd [] X w1) => HOF0.out w1 (HUX.out.trans hu))
    have HLN := Lib.hid (fun (w1 : World) (hu : Upd [] X w1) => HLN0.out w1 (HUX.out.trans hu))
    clear hX1 hX2 hX3
    refine wp_region_held_drew (S := fun w1 => Upd [] X w1) (by kernel_rfl) ?_ (fun hHeld => ?_)
    · exact (Upd.refl [] X).drew
    refine wpAnyH_take (i := 0) (oi := { dst := some 116, op := Op.load 51 (Operand.tmp 18), type := 51, pos := "law.go:63", after := #[], guard := none }) (v := .agg #[.int .i64 n0, .int .i64 n1, .int .i64 n2, .int .u32 n3]) rfl (by kernel_rfl) (by kernel_rfl) (by kernel_rfl) (fun _ _ _ h => hpan _ _ _ _ _ h) (Or.inl ⟨by rfl, ?_⟩) hHeld ?_
    · intro w1 hSw
      (try dsimp only at hSw)
      go_simp
    (try simp only [Act.put, List.setIfInBounds_toArray, List.set_cons_zero, List.set_cons_succ])
    refine wpAnyH_take (i := 1) (oi := { dst := some 117, op := Op.load 58 (Operand.tmp 20), type := 58, pos := "law.go:63", after := #[], guard := none }) (v := .agg #[.int .i64 n0, .int .i64 n1, .int .i64 n2, .int .u32 n3]) rfl (by kernel_rfl) (by kernel_rfl) (by kernel_rfl) (fun _ _ _ h => hpan _ _ _ _ _ h) (Or.inl ⟨by rfl, ?_⟩) hHeld ?_
    · intro w1 hSw
      (try dsimp only at hSw)
      go_simp
    (try simp only [Act.put, List.setIfInBounds_toArray, List.set_cons_zero, List.set_cons_succ])
    refine wpAnyH_take (i := 2) (oi := { dst := some 118, op := Op.binOp BinOp.neq 58 (Operand.tmp 116) (Operand.tmp 117) 58, type := 4, pos := "law.go:63", after := #[{ on := 0, ground := Ground.data }, { on := 1, ground := Ground.data }], guard := none }) (v := .bool false) rfl (by kernel_rfl) (by kernel_rfl) (by kernel_rfl) (fun _ _ _ h => hpan _ _ _ _ _ h) (Or.inl ⟨by rfl, ?_⟩) hHeld ?_
    · intro w1 hSw
      (try dsimp only at hSw)
      go_simp
    (try simp only [Act.put, List.setIfInBounds_toArray, List.set_cons_zero, List.set_cons_succ])
    refine wpAnyH_take (i := 3) (oi := { dst := some 119, op := Op.move (Operand.tmp 118), type := 4, pos := "law.go:63", after := #[{ on := 2, ground := Ground.data }], guard := none }) (v := .bool false) rfl (by kernel_rfl) (by kernel_rfl) (by kernel_rfl) (fun _ _ _ h => hpan _ _ _ _ _ h) (Or.inl ⟨by rfl, ?_⟩) hHeld ?_
    · intro w1 hSw
      (try dsimp only at hSw)
      go_simp
    (try simp only [Act.put, List.setIfInBounds_toArray, List.set_cons_zero, List.set_cons_succ])
    refine wpAnyH_take (i := 4) (oi := { dst := some 120, op := Op.move (Operand.tmp 19), type := 4, pos := "law.go:63", after := #[{ on := 3, ground := Ground.guard }], guard := some (3, false) }) (v := .bool s) rfl (by kernel_rfl) (by kernel_rfl) (by kernel_rfl) (fun _ _ _ h => hpan _ _ _ _ _ h) (Or.inl ⟨by rfl, ?_⟩) hHeld ?_
    · intro w1 hSw
      (try dsimp only at hSw)
      go_simp
    (try simp only [Act.put, List.setIfInBounds_toArray, List.set_cons_zero, List.set_cons_succ])
    refine wpAnyH_take (i := 5) (oi := { dst := some 121, op := Op.move (Operand.tmp 21), type := 4, pos := "law.go:63", after := #[{ on := 3, ground := Ground.guard }], guard := some (3, false) }) (v := .bool s) rfl (by kernel_rfl) (by kernel_rfl) (by kernel_rfl) (fun _ _ _ h => hpan _ _ _ _ _ h) (Or.inl ⟨by rfl, ?_⟩) hHeld ?_
    · intro w1 hSw
      (try dsimp only at hSw)
      go_simp
    (try simp only [Act.put, List.setIfInBounds_toArray, List.set_cons_zero, List.set_cons_succ])
    refine wpAnyH_take (i := 6) (oi := { dst := some 122, op := Op.binOp BinOp.neq 4 (Operand.tmp 120) (Operand.tmp 121) 4, type := 4, pos := "law.go:63", after := #[{ on := 4, ground := Ground.data }, { on := 5, ground := Ground.data }, { on := 3, ground := Ground.guard }], guard := some (3, false) }) (v := .bool false) rfl (by kernel_rfl) (by kernel_rfl) (by kernel_rfl) (fun _ _ _ h => hpan _ _ _ _ _ h) (Or.inl ⟨by rfl, ?_⟩) hHeld ?_
    · intro w1 hSw
      (try dsimp only at hSw)
      go_simp
      (try (cases s <;> rfl))
    (try simp only [Act.put, List.setIfInBounds_toArray, List.set_cons_zero, List.set_cons_succ])
    refine wpAnyH_take (i := 7) (oi := { dst := some 123, op := Op.pick (Operand.tmp 119) (Operand.const (Value.bool true)) (Operand.tmp 122), type := 4, pos := "law.go:63", after := #[{ on := 3, ground := Ground.data }, { on := 6, ground := Ground.data }], guard := none }) (v := .bool false) rfl (by kernel_rfl) (by kernel_rfl) (by kernel_rfl) (fun _ _ _ h => hpan _ _ _ _ _ h) (Or.inl ⟨by rfl, ?_⟩) hHeld ?_
    · intro w1 hSw
      (try dsimp only at hSw)
      go_simp
    (try simp only [Act.put, List.setIfInBounds_toArray, List.set_cons_zero, List.set_cons_succ])
    refine wpAnyH_take (i := 8) (oi := { dst := some 124, op := Op.move (Operand.tmp 123), type := 4, pos := "law.go:63", after := #[{ on := 7, ground := Ground.data }, { on := 3, ground := Ground.chain }], guard := none }) (v := .bool false) rfl (by kernel_rfl) (by kernel_rfl) (by kernel_rfl) (fun _ _ _ h => hpan _ _ _ _ _ h) (Or.inl ⟨by rfl, ?_⟩) hHeld ?_
    · intro w1 hSw
      (try dsimp only at hSw)
      go_simp
    (try simp only [Act.put, List.setIfInBounds_toArray, List.set_cons_zero, List.set_cons_succ])
    refine wpAnyH_take (i := 9) (oi := { dst := some 125, op := Op.move (Operand.tmp 23), type := 4, pos := "law.go:63", after := #[{ on := 8, ground := Ground.guard }], guard := some (8, false) }) (v := .bool false) rfl (by kernel_rfl) (by kernel_rfl) (by kernel_rfl) (fun _ _ _ h => hpan _ _ _ _ _ h) (Or.inl ⟨by rfl, ?_⟩) hHeld ?_
    · intro w1 hSw
      (try dsimp only at hSw)
      go_simp
    (try simp only [Act.put, List.setIfInBounds_toArray, List.set_cons_zero, List.set_cons_succ])
    refine wpAnyH_take (i := 10) (oi := { dst := some 126, op := Op.move (Operand.tmp 24), type := 3, pos := "law.go:63", after := #[{ on := 8, ground := Ground.guard }], guard := some (8, false) }) (v := .int .i64 (-1)) rfl (by kernel_rfl) (by kernel_rfl) (by kernel_rfl) (fun _ _ _ h => hpan _ _ _ _ _ h) (Or.inl ⟨by rfl, ?_⟩) hHeld ?_
    · intro w1 hSw
      (try dsimp only at hSw)
      go_simp
    (try simp only [Act.put, List.setIfInBounds_toArray, List.set_cons_zero, List.set_cons_succ])
    refine wpAnyH_take (i := 11) (oi := { dst := some 127, op := Op.binOp BinOp.geq 3 (Operand.tmp 126) (Operand.const (Value.int IntKind.i64 0)) 3, type := 4, pos := "law.go:63", after := #[{ on := 10, ground := Ground.data }, { on := 8, ground := Ground.guard }], guard := some (8, false) }) (v := .bool false) rfl (by kernel_rfl) (by kernel_rfl) (by kernel_rfl) (fun _ _ _ h => hpan _ _ _ _ _ h) (Or.inl ⟨by rfl, ?_⟩) hHeld ?_
    · intro w1 hSw
      (try dsimp only at hSw)
      go_simp
    (try simp only [Act.put, List.setIfInBounds_toArray, List.set_cons_zero, List.set_cons_succ])
    refine wpAnyH_take (i := 12) (oi := { dst := some 128, op := Op.binOp BinOp.neq 4 (Operand.tmp 125) (Operand.tmp 127) 4, type := 4, pos := "law.go:63", after := #[{ on := 9, ground := Ground.data }, { on := 11, ground := Ground.data }, { on := 8, ground := Ground.guard }], guard := some (8, false) }) (v := .bool false) rfl (by kernel_rfl) (by kernel_rfl) (by kernel_rfl) (fun _ _ _ h => hpan _ _ _ _ _ h) (Or.inl ⟨by rfl, ?_⟩) hHeld ?_
    · intro w1 hSw
      (try dsimp only at hSw)
      go_simp
    (try simp only [Act.put, List.setIfInBounds_toArray, List.set_cons_zero, List.set_cons_succ])
    refine wpAnyH_take (i := 13) (oi := { dst := some 129, op := Op.pick (Operand.tmp 124) (Operand.const (Value.bool true)) (Operand.tmp 128), type := 4, pos := "law.go:63", after := #[{ on := 8, ground := Ground.data }, { on := 12, ground := Ground.data }], guard := none }) (v := .bool false) rfl (by kernel_rfl) (by kernel_rfl) (by kernel_rfl) (fun _ _ _ h => hpan _ _ _ _ _ h) (Or.inl ⟨by rfl, ?_⟩) hHeld ?_
    · intro w1 hSw
      (try dsimp only at hSw)
      go_simp
    (try simp only [Act.put, List.setIfInBounds_toArray, List.set_cons_zero, List.set_cons_succ])
    refine wpAnyH_take (i := 14) (oi := { dst := some 130, op := Op.move (Operand.tmp 129), type := 4, pos := "law.go:63", after := #[{ on := 13, ground := Ground.data }, { on := 8, ground := Ground.chain }], guard := none }) (v := .bool false) rfl (by kernel_rfl) (by kernel_rfl) (by kernel_rfl) (fun _ _ _ h => hpan _ _ _ _ _ h) (Or.inl ⟨by rfl, ?_⟩) hHeld ?_
    · intro w1 hSw
      (try dsimp only at hSw)
      go_simp
    (try simp only [Act.put, List.setIfInBounds_toArray, List.set_cons_zero, List.set_cons_succ])
    refine wpAnyH_take (i := 15) (oi := { dst := some 131, op := Op.move (Operand.tmp 23), type := 4, pos := "law.go:63", after := #[{ on := 14, ground := Ground.guard }], guard := some (14, false) }) (v := .bool false) rfl (by kernel_rfl) (by kernel_rfl) (by kernel_rfl) (fun _ _ _ h => hpan _ _ _ _ _ h) (Or.inl ⟨by rfl, ?_⟩) hHeld ?_
    · intro w1 hSw
      (try dsimp only at hSw)
      go_simp
    (try simp only [Act.put, List.setIfInBounds_toArray, List.set_cons_zero, List.set_cons_succ])
    refine wpAnyH_take (i := 16) (oi := { dst := some 132, op := Op.move (Operand.tmp 131), type := 4, pos := "law.go:63", after := #[{ on := 15, ground := Ground.data }, { on := 14, ground := Ground.chain }, { on := 14, ground := Ground.guard }], guard := some (14, false) }) (v := .bool false) rfl (by kernel_rfl) (by kernel_rfl) (by kernel_rfl) (fun _ _ _ h => hpan _ _ _ _ _ h) (Or.inl ⟨by rfl, ?_⟩) hHeld ?_
    · intro w1 hSw
      (try dsimp only at hSw)
      go_simp
    (try simp only [Act.put, List.setIfInBounds_toArray, List.set_cons_zero, List.set_cons_succ])
    refine wpAnyH_take (i := 17) (oi := { dst := some 133, op := Op.load 51 (Operand.tmp 22), type := 51, pos := "law.go:63", after := #[{ on := 16, ground := Ground.guard }], guard := some (16, true) }) (v := undef) rfl (by kernel_rfl) (by kernel_rfl) (by kernel_rfl) (fun _ _ _ h => hpan _ _ _ _ _ h) (Or.inr ⟨by rfl, rfl⟩) hHeld ?_
    (try simp only [Act.put, List.setIfInBounds_toArray, List.set_cons_zero, List.set_cons_succ])
    refine wpAnyH_take (i := 18) (oi := { dst := some 134, op := Op.move (Operand.tmp 8), type := 57, pos := "law.go:63", after := #[{ on := 16, ground := Ground.guard }], guard := some (16, true) }) (v := undef) rfl (by kernel_rfl) (by kernel_rfl) (by kernel_rfl) (fun _ _ _ h => hpan _ _ _ _ _ h) (Or.inr ⟨by rfl, rfl⟩) hHeld ?_
    (try simp only [Act.put, List.setIfInBounds_toArray, List.set_cons_zero, List.set_cons_succ])
    refine wpAnyH_take (i := 19) (oi := { dst := some 135, op := Op.move (Operand.tmp 24), type := 3, pos := "law.go:63", after := #[{ on := 16, ground := Ground.guard }], guard := some (16, true) }) (v := undef) rfl (by kernel_rfl) (by kernel_rfl) (by kernel_rfl) (fun _ _ _ h => hpan _ _ _ _ _ h) (Or.inr ⟨by rfl, rfl⟩) hHeld ?_
    (try simp only [Act.put, List.setIfInBounds_toArray, List.set_cons_zero, List.set_cons_succ])
    refine wpAnyH_take (i := 20) (oi := { dst := some 136, op := Op.indexAddr 57 (Operand.tmp 134) (Operand.tmp 135), type := 0, pos := "law.go:63", after := #[{ on := 18, ground := Ground.data }, { on := 19, ground := Ground.data }, { on := 16, ground := Ground.guard }], guard := some (16, true) }) (v := undef) rfl (by kernel_rfl) (by kernel_rfl) (by kernel_rfl) (fun _ _ _ h => hpan _ _ _ _ _ h) (Or.inr ⟨by rfl, rfl⟩) hHeld ?_
    (try simp only [Act.put, List.setIfInBounds_toArray, List.set_cons_zero, List.set_cons_succ])
    refine wpAnyH_take (i := 21) (oi := { dst := some 137, op := Op.load 58 (Operand.tmp 136), type := 58, pos := "law.go:63", after := #[{ on := 20, ground := Ground.data }, { on := 16, ground := Ground.guard }], guard := some (16, true) }) (v := undef) rfl (by kernel_rfl) (by kernel_rfl) (by kernel_rfl) (fun _ _ _ h => hpan _ _ _ _ _ h) (Or.inr ⟨by rfl, rfl⟩) hHeld ?_
    (try simp only [Act.put, List.setIfInBounds_toArray, List.set_cons_zero, List.set_cons_succ])
    refine wpAnyH_take (i := 22) (oi := { dst := some 138, op := Op.binOp BinOp.neq 58 (Operand.tmp 133) (Operand.tmp 137) 58, type := 4, pos := "law.go:63", after := #[{ on := 17, ground := Ground.data }, { on := 21, ground := Ground.data }, { on := 16, ground := Ground.guard }], guard := some (16, true) }) (v := undef) rfl (by kernel_rfl) (by kernel_rfl) (by kernel_rfl) (fun _ _ _ h => hpan _ _ _ _ _ h) (Or.inr ⟨by rfl, rfl⟩) hHeld ?_
    (try simp only [Act.put, List.setIfInBounds_toArray, List.set_cons_zero, List.set_cons_succ])
    refine wpAnyH_take (i := 23) (oi := { dst := some 139, op := Op.pick (Operand.tmp 132) (Operand.tmp 138) (Operand.const (Value.bool false)), type := 4, pos := "law.go:63", after := #[{ on := 16, ground := Ground.data }, { on := 22, ground := Ground.data }, { on := 14, ground := Ground.guard }], guard := some (14, false) }) (v := .bool false) rfl (by kernel_rfl) (by kernel_rfl) (by kernel_rfl) (fun _ _ _ h => hpan _ _ _ _ _ h) (Or.inl ⟨by rfl, ?_⟩) hHeld ?_
    · intro w1 hSw
      (try dsimp only at hSw)
      go_simp
    (try simp only [Act.put, List.setIfInBounds_toArray, List.set_cons_zero, List.set_cons_succ])
    refine wpAnyH_take (i := 24) (oi := { dst := some 140, op := Op.pick (Operand.tmp 130) (Operand.const (Value.bool true)) (Operand.tmp 139), type := 4, pos := "law.go:63", after := #[{ on := 14, ground := Ground.data }, { on := 23, ground := Ground.data }], guard := none }) (v := .bool false) rfl (by kernel_rfl) (by kernel_rfl) (by kernel_rfl) (fun _ _ _ h => hpan _ _ _ _ _ h) (Or.inl ⟨by rfl, ?_⟩) hHeld ?_
    · intro w1 hSw
      (try dsimp only at hSw)
      go_simp
    (try simp only [Act.put, List.setIfInBounds_toArray, List.set_cons_zero, List.set_cons_succ])
    refine wpAnyH_take (i := 25) (oi := { dst := some 141, op := Op.move (Operand.tmp 140), type := 4, pos := "law.go:63", after := #[{ on := 24, ground := Ground.data }, { on := 16, ground := Ground.chain }], guard := none }) (v := .bool false) rfl (by kernel_rfl) (by kernel_rfl) (by kernel_rfl) (fun _ _ _ h => hpan _ _ _ _ _ h) (Or.inl ⟨by rfl, ?_⟩) hHeld ?_
    · intro w1 hSw
      (try dsimp only at hSw)
      go_simp
    (try simp only [Act.put, List.setIfInBounds_toArray, List.set_cons_zero, List.set_cons_succ])
    refine wpAnyH_take (i := 26) (oi := { dst := some 142, op := Op.move (Operand.tmp 23), type := 4, pos := "law.go:63", after := #[{ on := 25, ground := Ground.guard }], guard := some (25, false) }) (v := .bool false) rfl (by kernel_rfl) (by kernel_rfl) (by kernel_rfl) (fun _ _ _ h => hpan _ _ _ _ _ h) (Or.inl ⟨by rfl, ?_⟩) hHeld ?_
    · intro w1 hSw
      (try dsimp only at hSw)
      go_simp
    (try simp only [Act.put, List.setIfInBounds_toArray, List.set_cons_zero, List.set_cons_succ])
    refine wpAnyH_take (i := 27) (oi := { dst := some 143, op := Op.unOp UnOp.not 4 (Operand.tmp 142), type := 4, pos := "law.go:63", after := #[{ on := 26, ground := Ground.data }, { on := 25, ground := Ground.guard }], guard := some (25, false) }) (v := .bool true) rfl (by kernel_rfl) (by kernel_rfl) (by kernel_rfl) (fun _ _ _ h => hpan _ _ _ _ _ h) (Or.inl ⟨by rfl, ?_⟩) hHeld ?_
    · intro w1 hSw
      (try dsimp only at hSw)
      go_simp
    (try simp only [Act.put, List.setIfInBounds_toArray, List.set_cons_zero, List.set_cons_succ])
    refine wpAnyH_take (i := 28) (oi := { dst := some 144, op := Op.move (Operand.tmp 143), type := 4, pos := "law.go:63", after := #[{ on := 27, ground := Ground.data }, { on := 25, ground := Ground.chain }, { on := 25, ground := Ground.guard }], guard := some (25, false) }) (v := .bool true) rfl (by kernel_rfl) (by kernel_rfl) (by kernel_rfl) (fun _ _ _ h => hpan _ _ _ _ _ h) (Or.inl ⟨by rfl, ?_⟩) hHeld ?_
    · intro w1 hSw
      (try dsimp only at hSw)
      go_simp
    (try simp only [Act.put, List.setIfInBounds_toArray, List.set_cons_zero, List.set_cons_succ])
    refine wpAnyH_take (i := 29) (oi := { dst := some 145, op := Op.load 51 (Operand.tmp 22), type := 51, pos := "law.go:63", after := #[{ on := 28, ground := Ground.guard }], guard := some (28, true) }) (v := .agg #[.int .i64 0, .int .i64 0, .int .i64 0, .int .u32 0]) rfl (by kernel_rfl) (by kernel_rfl) (by kernel_rfl) (fun _ _ _ h => hpan _ _ _ _ _ h) (Or.inl ⟨by rfl, ?_⟩) hHeld ?_
    · intro w1 hSw
      (try dsimp only at hSw)
      go_simp
    (try simp only [Act.put, List.setIfInBounds_toArray, List.set_cons_zero, List.set_cons_succ])
    refine wpAnyH_take (i := 30) (oi := { dst := some 146, op := Op.build 51 #[], type := 51, pos := "law.go:63", after := #[{ on := 28, ground := Ground.guard }], guard := some (28, true) }) (v := .agg #[.int .i64 0, .int .i64 0, .int .i64 0, .int .u32 0]) rfl (by kernel_rfl) (by kernel_rfl) (by kernel_rfl) (fun _ _ _ h => hpan _ _ _ _ _ h) (Or.inl ⟨by rfl, ?_⟩) hHeld ?_
    · intro w1 hSw
      (try dsimp only at hSw)
      go_simp
    (try simp only [Act.put, List.setIfInBounds_toArray, List.set_cons_zero, List.set_cons_succ])
    refine wpAnyH_take (i := 31) (oi := { dst := some 147, op := Op.binOp BinOp.neq 51 (Operand.tmp 145) (Operand.tmp 146) 51, type := 4, pos := "law.go:63", after := #[{ on := 29, ground := Ground.data }, { on := 30, ground := Ground.data }, { on := 28, ground := Ground.guard }], guard := some (28, true) }) (v := .bool false) rfl (by kernel_rfl) (by kernel_rfl) (by kernel_rfl) (fun _ _ _ h => hpan _ _ _ _ _ h) (Or.inl ⟨by rfl, ?_⟩) hHeld ?_
    · intro w1 hSw
      (try dsimp only at hSw)
      go_simp
    (try simp only [Act.put, List.setIfInBounds_toArray, List.set_cons_zero, List.set_cons_succ])
    refine wpAnyH_take (i := 32) (oi := { dst := some 148, op := Op.pick (Operand.tmp 144) (Operand.tmp 147) (Operand.const (Value.bool false)), type := 4, pos := "law.go:63", after := #[{ on := 28, ground := Ground.data }, { on := 31, ground := Ground.data }, { on := 25, ground := Ground.guard }], guard := some (25, false) }) (v := .bool false) rfl (by kernel_rfl) (by kernel_rfl) (by kernel_rfl) (fun _ _ _ h => hpan _ _ _ _ _ h) (Or.inl ⟨by rfl, ?_⟩) hHeld ?_
    · intro w1 hSw
      (try dsimp only at hSw)
      go_simp
    (try simp only [Act.put, List.setIfInBounds_toArray, List.set_cons_zero, List.set_cons_succ])
    refine wpAnyH_take (i := 33) (oi := { dst := some 149, op := Op.pick (Operand.tmp 141) (Operand.const (Value.bool true)) (Operand.tmp 148), type := 4, pos := "law.go:63", after := #[{ on := 25, ground := Ground.data }, { on := 32, ground := Ground.data }], guard := none }) (v := .bool false) rfl (by kernel_rfl) (by kernel_rfl) (by kernel_rfl) (fun _ _ _ h => hpan _ _ _ _ _ h) (Or.inl ⟨by rfl, ?_⟩) hHeld ?_
    · intro w1 hSw
      (try dsimp only at hSw)
      go_simp
    (try simp only [Act.put, List.setIfInBounds_toArray, List.set_cons_zero, List.set_cons_succ])
    refine wpAnyH_take (i := 34) (oi := { dst := some 150, op := Op.move (Operand.tmp 149), type := 4, pos := "law.go:63", after := #[{ on := 33, ground := Ground.data }, { on := 28, ground := Ground.chain }], guard := none }) (v := .bool false) rfl (by kernel_rfl) (by kernel_rfl) (by kernel_rfl) (fun _ _ _ h => hpan _ _ _ _ _ h) (Or.inl ⟨by rfl, ?_⟩) hHeld ?_
    · intro w1 hSw
      (try dsimp only at hSw)
      go_simp
    (try simp only [Act.put, List.setIfInBounds_toArray, List.set_cons_zero, List.set_cons_succ])
    refine wpAnyH_take (i := 35) (oi := { dst := some 151, op := Op.move (Operand.tmp 7), type := 49, pos := "law.go:63", after := #[{ on := 34, ground := Ground.guard }], guard := some (34, false) }) (v := .pointer (some ⟨q, 0, none⟩)) rfl (by kernel_rfl) (by kernel_rfl) (by kernel_rfl) (fun _ _ _ h => hpan _ _ _ _ _ h) (Or.inl ⟨by rfl, ?_⟩) hHeld ?_
    · intro w1 hSw
      (try dsimp only at hSw)
      go_simp
    (try simp only [Act.put, List.setIfInBounds_toArray, List.set_cons_zero, List.set_cons_succ])
    refine wpAnyH_take (i := 38) (oi := { dst := some 154, op := Op.move (Operand.tmp 8), type := 57, pos := "law.go:63", after := #[{ on := 34, ground := Ground.guard }], guard := some (34, false) }) (v := .slice xa L.length xc) rfl (by kernel_rfl) (by kernel_rfl) (by kernel_rfl) (fun _ _ _ h => hpan _ _ _ _ _ h) (Or.inl ⟨by rfl, ?_⟩) hHeld ?_
    · intro w1 hSw
      (try dsimp only at hSw)
      go_simp
    (try simp only [Act.put, List.setIfInBounds_toArray, List.set_cons_zero, List.set_cons_succ])
    refine wpAnyH_ready (rs := [36]) (by kernel_rfl) (by simp) ?_
    refine AllReadyH.cons (o := { dst := some 152, op := Op.call { callee := Callee.value (Operand.func 27), args := #[Operand.tmp 151], argTypes := #[49] }, type := 73, pos := "law.go:63", after := #[{ on := 35, ground := Ground.data }, { on := 34, ground := Ground.chain }, { on := 34, ground := Ground.guard }], guard := some (34, false) }) rfl (fun K hK => ?_) AllReadyH.nil
    go_simp
    refine (HLIST.out _ hHeld).mono ?_
    rintro e w3 ⟨⟨v3, rfl, hr3⟩, hu3⟩
    have HR3 := Lib.hid hr3
    obtain ⟨a3, c3, rfl, _⟩ := hr3.shape
    clear hr3
    refine hK.out _ _ (hHeld.trans hu3) (fun hHeld => ?_)
    clear hK K
    (try simp only [Act.put, List.setIfInBounds_toArray, List.set_cons_zero, List.set_cons_succ])
    refine wpAnyH_ready (rs := [37]) (by kernel_rfl) (by simp) ?_
    refine AllReadyH.cons (o := { dst := some 153, op := Op.call { callee := Callee.value (Operand.func 26), args := #[Operand.tmp 152], argTypes := #[73] }, type := 57, pos := "law.go:63", after := #[{ on := 36, ground := Ground.data }, { on := 36, ground := Ground.chain }, { on := 34, ground := Ground.guard }], guard := some (34, false) }) rfl (fun K hK => ?_) AllReadyH.nil
    go_simp
    refine (qback_c HR3.out HLEN.out).mono ?_
    rintro e w4 ⟨⟨v4, rfl, hr4⟩, hu4⟩
    have HR4 := Lib.hid hr4
    have HX4 := Lib.hid (HX.out.upd (hHeld.trans hu4))
    obtain ⟨a4, c4, rfl, _⟩ := hr4.shape
    clear hr4
    refine hK.out _ _ (hHeld.trans hu4) (fun hHeld => ?_)
    clear hK K
    (try simp only [Act.put, List.setIfInBounds_toArray, List.set_cons_zero, List.set_cons_succ])
    refine wpAnyH_ready (rs := [39]) (by kernel_rfl) (by simp) ?_
    refine AllReadyH.cons (o := { dst := some 155, op := Op.call { callee := Callee.value (Operand.func 25), args := #[Operand.tmp 153, Operand.tmp 154], argTypes := #[57, 57] }, type := 4, pos := "law.go:63", after := #[{ on := 37, ground := Ground.data }, { on := 38, ground := Ground.data }, { on := 37, ground := Ground.chain }, { on := 34, ground := Ground.guard }], guard := some (34, false) }) rfl (fun K hK => ?_) AllReadyH.nil
    go_simp
    refine (rqsame_c HR4.out HX4.out HLEN.out).mono ?_
    rintro e w5 ⟨rfl, hu5⟩
    refine hK.out _ _ (hHeld.trans hu5) (fun hHeld => ?_)
    clear hK K
    (try simp only [Act.put, List.setIfInBounds_toArray, List.set_cons_zero, List.set_cons_succ])
    refine wpAnyH_take (i := 40) (oi := { dst := some 156, op := Op.unOp UnOp.not 4 (Operand.tmp 155), type := 4, pos := "law.go:63", after := #[{ on := 39, ground := Ground.data }, { on := 34, ground := Ground.guard }], guard := some (34, false) }) (v := .bool false) rfl (by kernel_rfl) (by kernel_rfl) (by kernel_rfl) (fun _ _ _ h => hpan _ _ _ _ _ h) (Or.inl ⟨by rfl, ?_⟩) hHeld ?_
    · intro w1 hSw
      (try dsimp only at hSw)
      go_simp
    (try simp only [Act.put, List.setIfInBounds_toArray, List.set_cons_zero, List.set_cons_succ])
    refine wpAnyH_take (i := 41) (oi := { dst := some 157, op := Op.pick (Operand.tmp 150) (Operand.const (Value.bool true)) (Operand.tmp 156), type := 4, pos := "law.go:63", after := #[{ on := 34, ground := Ground.data }, { on := 40, ground := Ground.data }], guard := none }) (v := .bool false) rfl (by kernel_rfl) (by kernel_rfl) (by kernel_rfl) (fun _ _ _ h => hpan _ _ _ _ _ h) (Or.inl ⟨by rfl, ?_⟩) hHeld ?_
    · intro w1 hSw
      (try dsimp only at hSw)
      go_simp
    (try simp only [Act.put, List.setIfInBounds_toArray, List.set_cons_zero, List.set_cons_succ])
    refine wpAnyH_take (i := 42) (oi := { dst := some 158, op := Op.move (Operand.tmp 157), type := 4, pos := "law.go:63", after := #[{ on := 41, ground := Ground.data }, { on := 39, ground := Ground.chain }], guard := none }) (v := .bool false) rfl (by kernel_rfl) (by kernel_rfl) (by kernel_rfl) (fun _ _ _ h => hpan _ _ _ _ _ h) (Or.inl ⟨by rfl, ?_⟩) hHeld ?_
    · intro w1 hSw
      (try dsimp only at hSw)
      go_simp
    (try simp only [Act.put, List.setIfInBounds_toArray, List.set_cons_zero, List.set_cons_succ])
    refine wpAnyH_take (i := 43) (oi := { dst := some 159, op := Op.move (Operand.tmp 7), type := 49, pos := "law.go:63", after := #[{ on := 42, ground := Ground.guard }], guard := some (42, false) }) (v := .pointer (some ⟨q, 0, none⟩)) rfl (by kernel_rfl) (by kernel_rfl) (by kernel_rfl) (fun _ _ _ h => hpan _ _ _ _ _ h) (Or.inl ⟨by rfl, ?_⟩) hHeld ?_
    · intro w1 hSw
      (try dsimp only at hSw)
      go_simp
    (try simp only [Act.put, List.setIfInBounds_toArray, List.set_cons_zero, List.set_cons_succ])
    refine wpAnyH_take (i := 44) (oi := { dst := some 160, op := Op.move (Operand.tmp 2), type := 3, pos := "law.go:63", after := #[{ on := 42, ground := Ground.guard }], guard := some (42, false) }) (v := .int .i64 obj) rfl (by kernel_rfl) (by kernel_rfl) (by kernel_rfl) (fun _ _ _ h => hpan _ _ _ _ _ h) (Or.inl ⟨by rfl, ?_⟩) hHeld ?_
    · intro w1 hSw
      (try dsimp only at hSw)
      go_simp
    (try simp only [Act.put, List.setIfInBounds_toArray, List.set_cons_zero, List.set_cons_succ])
    refine wpAnyH_take (i := 47) (oi := { dst := some 163, op := Op.move (Operand.tmp 8), type := 57, pos := "law.go:63", after := #[{ on := 42, ground := Ground.guard }], guard := some (42, false) }) (v := .slice xa L.length xc) rfl (by kernel_rfl) (by kernel_rfl) (by kernel_rfl) (fun _ _ _ h => hpan _ _ _ _ _ h) (Or.inl ⟨by rfl, ?_⟩) hHeld ?_
    · intro w1 hSw
      (try dsimp only at hSw)
      go_simp
    (try simp only [Act.put, List.setIfInBounds_toArray, List.set_cons_zero, List.set_cons_succ])
    refine wpAnyH_take (i := 48) (oi := { dst := some 164, op := Op.move (Operand.tmp 2), type := 3, pos := "law.go:63", after := #[{ on := 42, ground := Ground.guard }], guard := some (42, false) }) (v := .int .i64 obj) rfl (by kernel_rfl) (by kernel_rfl) (by kernel_rfl) (fun _ _ _ h => hpan _ _ _ _ _ h) (Or.inl ⟨by rfl, ?_⟩) hHeld ?_
    · intro w1 hSw
      (try dsimp only at hSw)
      go_simp
    (try simp only [Act.put, List.setIfInBounds_toArray, List.set_cons_zero, List.set_cons_succ])
    refine wpAnyH_ready (rs := [45]) (by kernel_rfl) (by simp) ?_
    refine AllReadyH.cons (o := { dst := some 161, op := Op.call { callee := Callee.value (Operand.func 28), args := #[Operand.tmp 159, Operand.tmp 160], argTypes := #[49, 3] }, type := 73, pos := "law.go:63", after := #[{ on := 43, ground := Ground.data }, { on := 44, ground := Ground.data }, { on := 42, ground := Ground.chain }, { on := 42, ground := Ground.guard }], guard := some (42, false) }) rfl (fun K hK => ?_) AllReadyH.nil
    go_simp
    refine (HOF.out _ hHeld).mono ?_
    rintro e w6 ⟨⟨v6, rfl, hr6⟩, hu6⟩
    have HR6 := Lib.hid hr6
    obtain ⟨a6, c6, rfl, _⟩ := hr6.shape
    clear hr6
    refine hK.out _ _ (hHeld.trans hu6) (fun hHeld => ?_)
    clear hK K
    (try simp only [Act.put, List.setIfInBounds_toArray, List.set_cons_zero, List.set_cons_succ])
    refine wpAnyH_ready (rs := [46]) (by kernel_rfl) (by simp) ?_
    refine AllReadyH.cons (o := { dst := some 162, op := Op.call { callee := Callee.value (Operand.func 26), args := #[Operand.tmp 161], argTypes := #[73] }, type := 57, pos := "law.go:63", after := #[{ on := 45, ground := Ground.data }, { on := 45, ground := Ground.chain }, { on := 42, ground := Ground.guard }], guard := some (42, false) }) rfl (fun K hK => ?_) AllReadyH.nil
    go_simp
    refine (qback_c HR6.out HLEN2.out).mono ?_
    rintro e w7 ⟨⟨v7, rfl, hr7⟩, hu7⟩
    have HR7 := Lib.hid hr7
    have HX7 := Lib.hid (HX.out.upd (hHeld.trans hu7))
    obtain ⟨a7, c7, rfl, _⟩ := hr7.shape
    clear hr7
    refine hK.out _ _ (hHeld.trans hu7) (fun hHeld => ?_)
    clear hK K
    (try simp only [Act.put, List.setIfInBounds_toArray, List.set_cons_zero, List.set_cons_succ])
    refine wpAnyH_ready (rs := [49]) (by kernel_rfl) (by simp) ?_
    refine AllReadyH.cons (o := { dst := some 165, op := Op.call { callee := Callee.value (Operand.func 29), args := #[Operand.tmp 163, Operand.tmp 164], argTypes := #[57, 3] }, type := 57, pos := "law.go:63", after := #[{ on := 47, ground := Ground.data }, { on := 48, ground := Ground.data }, { on := 46, ground := Ground.chain }, { on := 42, ground := Ground.guard }], guard := some (42, false) }) rfl (fun K hK => ?_) AllReadyH.nil
    go_simp
    refine (rqof_c obj HX7.out HLEN.out).mono ?_
    rintro e w8 ⟨⟨v8, rfl, hr8⟩, hu8⟩
    have HR8 := Lib.hid hr8
    have HR78 := Lib.hid (HR7.out.upd hu8)
    obtain ⟨a8, c8, rfl, _⟩ := hr8.shape
    clear hr8
    refine hK.out _ _ (hHeld.trans hu8) (fun hHeld => ?_)
    clear hK K
    (try simp only [Act.put, List.setIfInBounds_toArray, List.set_cons_zero, List.set_cons_succ])
    refine wpAnyH_ready (rs := [50]) (by kernel_rfl) (by simp) ?_
    refine AllReadyH.cons (o := { dst := some 166, op := Op.call { callee := Callee.value (Operand.func 25), args := #[Operand.tmp 162, Operand.tmp 165], argTypes := #[57, 57] }, type := 4, pos := "law.go:63", after := #[{ on := 46, ground := Ground.data }, { on := 49, ground := Ground.data }, { on := 49, ground := Ground.chain }, { on := 42, ground := Ground.guard }], guard := some (42, false) }) rfl (fun K hK => ?_) AllReadyH.nil
    go_simp
    refine (rqsame_c HR78.out HR8.out HLEN2.out).mono ?_
    rintro e w9 ⟨rfl, hu9⟩
    refine hK.out _ _ (hHeld.trans hu9) (fun hHeld => ?_)
    clear hK K
    (try simp only [Act.put, List.setIfInBounds_toArray, List.set_cons_zero, List.set_cons_succ])
    refine wpAnyH_take (i := 51) (oi := { dst := some 167, op := Op.unOp UnOp.not 4 (Operand.tmp 166), type := 4, pos := "law.go:63", after := #[{ on := 50, ground := Ground.data }, { on := 42, ground := Ground.guard }], guard := some (42, false) }) (v := .bool false) rfl (by kernel_rfl) (by kernel_rfl) (by kernel_rfl) (fun _ _ _ h => hpan _ _ _ _ _ h) (Or.inl ⟨by rfl, ?_⟩) hHeld ?_
    · intro w1 hSw
      (try dsimp only at hSw)
      go_simp
    (try simp only [Act.put, List.setIfInBounds_toArray, List.set_cons_zero, List.set_cons_succ])
    refine wpAnyH_take (i := 52) (oi := { dst := some 168, op := Op.pick (Operand.tmp 158) (Operand.const (Value.bool true)) (Operand.tmp 167), type := 4, pos := "law.go:63", after := #[{ on := 42, ground := Ground.data }, { on := 51, ground := Ground.data }], guard := none }) (v := .bool false) rfl (by kernel_rfl) (by kernel_rfl) (by kernel_rfl) (fun _ _ _ h => hpan _ _ _ _ _ h) (Or.inl ⟨by rfl, ?_⟩) hHeld ?_
    · intro w1 hSw
      (try dsimp only at hSw)
      go_simp
    (try simp only [Act.put, List.setIfInBounds_toArray, List.set_cons_zero, List.set_cons_succ])
    refine wpAnyH_take (i := 53) (oi := { dst := some 169, op := Op.move (Operand.tmp 168), type := 4, pos := "law.go:63", after := #[{ on := 52, ground := Ground.data }, { on := 50, ground := Ground.chain }], guard := none }) (v := .bool false) rfl (by kernel_rfl) (by kernel_rfl) (by kernel_rfl) (fun _ _ _ h => hpan _ _ _ _ _ h) (Or.inl ⟨by rfl, ?_⟩) hHeld ?_
    · intro w1 hSw
      (try dsimp only at hSw)
      go_simp
    (try simp only [Act.put, List.setIfInBounds_toArray, List.set_cons_zero, List.set_cons_succ])
    refine wpAnyH_take (i := 54) (oi := { dst := some 170, op := Op.move (Operand.tmp 7), type := 49, pos := "law.go:63", after := #[{ on := 53, ground := Ground.guard }], guard := some (53, false) }) (v := .pointer (some ⟨q, 0, none⟩)) rfl (by kernel_rfl) (by kernel_rfl) (by kernel_rfl) (fun _ _ _ h => hpan _ _ _ _ _ h) (Or.inl ⟨by rfl, ?_⟩) hHeld ?_
    · intro w1 hSw
      (try dsimp only at hSw)
      go_simp
    (try simp only [Act.put, List.setIfInBounds_toArray, List.set_cons_zero, List.set_cons_succ])
    refine wpAnyH_take (i := 56) (oi := { dst := some 172, op := Op.move (Operand.tmp 8), type := 57, pos := "law.go:63", after := #[{ on := 53, ground := Ground.guard }], guard := some (53, false) }) (v := .slice xa L.length xc) rfl (by kernel_rfl) (by kernel_rfl) (by kernel_rfl) (fun _ _ _ h => hpan _ _ _ _ _ h) (Or.inl ⟨by rfl, ?_⟩) hHeld ?_
    · intro w1 hSw
      (try dsimp only at hSw)
      go_simp
    (try simp only [Act.put, List.setIfInBounds_toArray, List.set_cons_zero, List.set_cons_succ])
    refine wpAnyH_take (i := 57) (oi := { dst := some 173, op := Op.call { callee := Callee.builtin Builtin.len, args := #[Operand.tmp 172], argTypes := #[57] }, type := 3, pos := "law.go:63", after := #[{ on := 56, ground := Ground.data }, { on := 53, ground := Ground.guard }], guard := some (53, false) }) (v := .int .i64 L.length) rfl (by kernel_rfl) (by kernel_rfl) (by kernel_rfl) (fun _ _ _ h => hpan _ _ _ _ _ h) (Or.inl ⟨by rfl, ?_⟩) hHeld ?_
    · intro w1 hSw
      (try dsimp only at hSw)
      go_simp
    (try simp only [Act.put, List.setIfInBounds_toArray, List.set_cons_zero, List.set_cons_succ])
    refine wpAnyH_ready (rs := [55]) (by kernel_rfl) (by simp) ?_
    refine AllReadyH.cons (o := { dst := some 171, op := Op.call { callee := Callee.value (Operand.func 30), args := #[Operand.tmp 170], argTypes := #[49] }, type := 3, pos := "law.go:63", after := #[{ on := 54, ground := Ground.data }, { on := 53, ground := Ground.chain }, { on := 53, ground := Ground.guard }], guard := some (53, false) }) rfl (fun K hK => ?_) AllReadyH.nil
    go_simp
    refine (HLN.out _ hHeld).mono ?_
    rintro e w10 ⟨rfl, rfl⟩
    refine hK.out _ _ (hHeld) (fun hHeld => ?_)
    clear hK K
    (try simp only [Act.put, List.setIfInBounds_toArray, List.set_cons_zero, List.set_cons_succ])
    refine wpAnyH_take (i := 58) (oi := { dst := some 174, op := Op.binOp BinOp.neq 3 (Operand.tmp 171) (Operand.tmp 173) 3, type := 4, pos := "law.go:63", after := #[{ on := 55, ground := Ground.data }, { on := 57, ground := Ground.data }, { on := 53, ground := Ground.guard }], guard := some (53, false) }) (v := .bool false) rfl (by kernel_rfl) (by kernel_rfl) (by kernel_rfl) (fun _ _ _ h => hpan _ _ _ _ _ h) (Or.inl ⟨by rfl, ?_⟩) hHeld ?_
    · intro w1 hSw
      (try dsimp only at hSw)
      go_simp
    (try simp only [Act.put, List.setIfInBounds_toArray, List.set_cons_zero, List.set_cons_succ])
    refine wpAnyH_take (i := 59) (oi := { dst := some 175, op := Op.pick (Operand.tmp 169) (Operand.const (Value.bool true)) (Operand.tmp 174), type := 4, pos := "law.go:63", after := #[{ on := 53, ground := Ground.data }, { on := 58, ground := Ground.data }], guard := none }) (v := .bool false) rfl (by kernel_rfl) (by kernel_rfl) (by kernel_rfl) (fun _ _ _ h => hpan _ _ _ _ _ h) (Or.inl ⟨by rfl, ?_⟩) hHeld ?_
    · intro w1 hSw
      (try dsimp only at hSw)
      go_simp
    (try simp only [Act.put, List.setIfInBounds_toArray, List.set_cons_zero, List.set_cons_succ])
    refine wpAnyH_done (by kernel_rfl) ?_ _
    have HHE := Lib.hid hHeld
    clear hHeld
    go_wp2
    exact HQ.out _ _ _ _ _ _ _ _ _ _ _ _ _ _ _ _ _ _ _ _ _ _ _ _ _ _ _ _ _ _ _ _ _ _ _ _ _ _ _ _ _ _ _ _ _ _ _ _ _ _ _ _ _ _ _ _ _ _ _ _ _ _ _ _ _ _ _ _ _ _ _ _ _ _ _ _ _ _ _ _ _ _ _ _ _ _ _ _ _ (HUX.out.trans HHE.out)
end
end Go.Proofs.Ytdbgnnkbcebpcaa
