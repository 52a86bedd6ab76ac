/- Package spec: an item behind a call, case by case (printed by gensp4.py). -/
import Derived.Test.YtdbgnnkbcebpcaaSP3
import Derived.ArgAppend
set_option linter.unusedVariables false
set_option linter.unusedSimpArgs false
namespace Go.Proofs.Ytdbgnnkbcebpcaa
open Go.RowKit
theorem step_append_full {P : Program} {w : World} {ops : Array Oper} {o : Oper} {a : Act} {K : Act → World → Prop} {Q : Exit → Act → World → Prop} {E : Prop} (hgd : o.guard = none) (s x : Operand) (t : TypeId)
    (ho : o.op = .call { callee := .builtin .append, args := #[s, x], argTypes := #[t, t] })
    (e : TypeId) (i : TypeInfo) (z : Value) (size bytes : Nat) (ht : P.underlying t = some (.slice e)) (hi : P.info? e = some i) (hz : i.zero = some z) (hsize : i.size = size) (hby : i.bytes = bytes) (hzs : z.cells.size = size)
    (ao : Option Addr) (n : Nat) (olds : List Value) (hs : a.eval s = .slice ao n n) (hnone : ao = none → n = 0) (hlo : olds.length = n * size) (holds : ∀ b, ao = some b → ∀ j u, olds[j]? = some u → w.cell? (b.add j) = some u)
    (ad : Addr) (news : List Value) (hx : a.eval x = .slice (some ad) 1 1) (hn : news.length = size) (hc : ∀ j u, news[j]? = some u → w.cell? (ad.add j) = some u)
    (b1 : n + 1 ≤ maxLen) (b2 : (n + 1) * bytes ≤ 140737488355328)
    (h : ∀ cap cs, n + 1 ≤ cap → cap ≤ maxLen → cs.size = cap * size → cs.toList.take ((n + 1) * size) = olds ++ news → K (a.put o.dst (.slice (some ⟨w.heap.size, 0, none⟩) (n + 1) cap)) (w.drew.alloc (.cells cs e))) :
    if Region.wanted o (yielded ops a.tmps) = true then Oper.wp P o a w K Q else E := by
  have hw : Region.wanted o (yielded ops a.tmps) = true := by simp [Region.wanted, hgd]
  rw [if_pos hw]
  subst hsize
  subst hby
  have hlen : (olds ++ news).length = (n + 1) * i.size := by rw [List.length_append, hlo, hn, Nat.add_mul, Nat.one_mul]
  have hml : n + 1 ≤ 9223372036854775807 := by simp only [maxLen] at b1; omega
  have hge := grownCap_ge w (n + 1) n e
  have hcm : grownCap w (n + 1) n e ≤ maxLen := grownCap_le_maxLen w (n + 1) n e b1
  have hsz : ((olds ++ news).toArray ++ Builtin.zeroCells z.cells (grownCap w (n + 1) n e - (n + 1))).size = grownCap w (n + 1) n e * i.size := by
    simp only [Array.size_append, List.size_toArray, size_zeroCells, hzs, hlen, ← Nat.add_mul]
    congr 1
    omega
  have htk : ((olds ++ news).toArray ++ Builtin.zeroCells z.cells (grownCap w (n + 1) n e - (n + 1))).toList.take ((n + 1) * i.size) = olds ++ news := by
    simp only [Array.toList_append]
    rw [← hlen]
    exact List.take_left
  have hfin := h _ _ hge hcm hsz htk
  cases ao with
  | some b =>
    have hrun := run_append_grow (P := P) w t o.type e i z ht hi hz b n n olds hlo (holds b rfl) ad 1 1 news (by rw [hn, Nat.one_mul]) hc (by omega) (by omega) (growslice_fits (by omega) b2)
    rw [show olds.toArray ++ news.toArray = (olds ++ news).toArray by simp] at hrun
    unfold Oper.wp
    simp [execOp, ho, resolve, invoke, builtin, hs, hx, hrun, Result.andThen]
    exact hfin
  | none =>
    obtain rfl := hnone rfl
    obtain rfl : olds = [] := List.eq_nil_of_length_eq_zero (by simpa using hlo)
    have hrun := run_append_nil (P := P) w t o.type e i z ht hi hz ad 1 1 news (by rw [hn, Nat.one_mul]) hc (by omega) (by omega) (by omega)
    unfold Oper.wp
    simp [execOp, ho, resolve, invoke, builtin, hs, hx, hrun, Result.andThen]
    simp at hfin
    exact hfin
section
variable (k cap wd rt f t i0 i1 i2 i3 : Int) (ra : Option Addr) (rn rc : Nat) (v0 v1 v2 v3 : Int) (ck co c0 c1 c2 c3 cn : Int) (w : World)
set_option maxRecDepth 100000 in
set_option maxHeartbeats 8000000 in
theorem done_send (hk : kindP k cap wd rt = 1) (h1 : 1 ≤ wd) (h4 : wd ≤ 4) (hc : (rn : Int) < cap) (hrc : rn ≤ rc) (hrn : rn ≤ 64) (hnone : ra = none → rn = 0) (olds : List Value) (hlo : olds.length = rn * 4) (holds : ∀ b, ra = some b → ∀ j u, olds[j]? = some u → w.cell? (b.add j) = some u) : Calls Try.prog 48 #[.agg (itA k cap wd rt f t i0 i1 i2 i3 ra rn rc v0 v1 v2 v3), .int .i64 1, .agg (caV ck co c0 c1 c2 c3 cn)] w fun e w' => ∃ g cp cs, e = .returned (.tuple #[.agg (itA k cap wd rt f t i0 i1 i2 i3 (some ⟨g, 0, none⟩) (rn + 1) cp v0 v1 v2 v3), .agg (resA 0 0 0 0 0), .bool true, .bool true]) ∧ Upd [] w w' ∧ w.heap.size ≤ g ∧ rn + 1 ≤ cp ∧ cp ≤ maxLen ∧ w'.heap[g]? = some (.cells cs 26) ∧ cs.toList.take ((rn + 1) * 4) = olds ++ (clipA wd c0 c1 c2 c3).toList := by
  have hmf : ∀ (fn : Fn) (first cap : Array Value) (w : World), (Instr.makeFunc fn first cap).run Try.prog w = .ok (.func fn first cap) w := fun _ _ _ _ => rfl
  have HK := Lib.hid fun w => kind_c k cap wd rt f t i0 i1 i2 i3 ra rn rc v0 v1 v2 v3 w
  rw [hk] at HK
  have hq : decide (cap ≤ (rn : Int)) = false := by simpa using hc
  have HO := Lib.hid holds
  have HLO := Lib.hid hlo
  have HNO := Lib.hid hnone
  clear hc holds hlo hnone
  have HC := Lib.hid fun w => clip_c c0 c1 c2 c3 w wd h1 h4
  unfold clipA v4A at *
  generalize clip1 (decide (0 < wd)) c0 = x0 at HC ⊢
  generalize clip1 (decide (1 < wd)) c1 = x1 at HC ⊢
  generalize clip1 (decide (2 < wd)) c2 = x2 at HC ⊢
  generalize clip1 (decide (3 < wd)) c3 = x3 at HC ⊢
  unfold itA caV resA at *
  have HS := Lib.hid fun (w' : World) (h0 : w'.heap[w.heap.size]? = some (.cells #[.int .i64 k, .int .i64 cap, .int .i64 wd, .int .i64 rt, .int .i64 f, .int .i64 t, .int .u32 i0, .int .u32 i1, .int .u32 i2, .int .u32 i3, .slice ra rn rc, .int .u32 v0, .int .u32 v1, .int .u32 v2, .int .u32 v3] 112)) (h1 : w'.heap[w.heap.size + 1]? = some (.cells #[.int .i64 ck, .int .i64 co, .int .u32 c0, .int .u32 c1, .int .u32 c2, .int .u32 c3, .int .u32 cn] 28)) => (show w'.cell? ⟨w.heap.size, 0, none⟩ = some (.int .i64 k) ∧ w'.cell? ⟨w.heap.size, 1, none⟩ = some (.int .i64 cap) ∧ w'.cell? ⟨w.heap.size, 2, none⟩ = some (.int .i64 wd) ∧ w'.cell? ⟨w.heap.size, 3, none⟩ = some (.int .i64 rt) ∧ w'.cell? ⟨w.heap.size, 4, none⟩ = some (.int .i64 f) ∧ w'.cell? ⟨w.heap.size, 5, none⟩ = some (.int .i64 t) ∧ w'.cell? ⟨w.heap.size, 6, none⟩ = some (.int .u32 i0) ∧ w'.cell? ⟨w.heap.size, 7, none⟩ = some (.int .u32 i1) ∧ w'.cell? ⟨w.heap.size, 8, none⟩ = some (.int .u32 i2) ∧ w'.cell? ⟨w.heap.size, 9, none⟩ = some (.int .u32 i3) ∧ w'.cell? ⟨w.heap.size, 10, none⟩ = some (.slice ra rn rc) ∧ w'.cell? ⟨w.heap.size, 11, none⟩ = some (.int .u32 v0) ∧ w'.cell? ⟨w.heap.size, 12, none⟩ = some (.int .u32 v1) ∧ w'.cell? ⟨w.heap.size, 13, none⟩ = some (.int .u32 v2) ∧ w'.cell? ⟨w.heap.size, 14, none⟩ = some (.int .u32 v3) ∧ w'.cell? ⟨w.heap.size + 1, 0, none⟩ = some (.int .i64 ck) ∧ w'.cell? ⟨w.heap.size + 1, 1, none⟩ = some (.int .i64 co) ∧ w'.cell? ⟨w.heap.size + 1, 2, none⟩ = some (.int .u32 c0) ∧ w'.cell? ⟨w.heap.size + 1, 3, none⟩ = some (.int .u32 c1) ∧ w'.cell? ⟨w.heap.size + 1, 4, none⟩ = some (.int .u32 c2) ∧ w'.cell? ⟨w.heap.size + 1, 5, none⟩ = some (.int .u32 c3) ∧ w'.cell? ⟨w.heap.size + 1, 6, none⟩ = some (.int .u32 cn) from by
    obtain ⟨p0, p1, p2, p3, p4, p5, p6, p7, p8, p9, p10, p11, p12, p13, p14⟩ := cells15 h0
    obtain ⟨q0, q1, q2, q3, q4, q5, q6⟩ := cells7s h1
    exact ⟨p0, p1, p2, p3, p4, p5, p6, p7, p8, p9, p10, p11, p12, p13, p14, q0, q1, q2, q3, q4, q5, q6⟩)
  obtain ⟨ip, hip, hz0, hz1, hz2⟩ : ∃ i, Try.prog.info? 26 = some i ∧ i.zero = some (.agg #[.int .u32 0, .int .u32 0, .int .u32 0, .int .u32 0]) ∧ i.size = 4 ∧ i.bytes = 16 := by
    have h : (Try.prog.info? 26).map (fun i => (i.zero, i.size, i.bytes)) = some (some (.agg #[.int .u32 0, .int .u32 0, .int .u32 0, .int .u32 0]), 4, 16) := by kernel_rfl
    cases hx : Try.prog.info? 26 with
    | none => rw [hx] at h; cases h
    | some i =>
      rw [hx] at h
      simp only [Option.map_some, Option.some.injEq, Prod.mk.injEq] at h
      exact ⟨i, rfl, h.1, h.2.1, h.2.2⟩
  go_enter Try.func48, Try.ntmps48
  go_wp2_with fail
  (with_reducible refine (HK.out _).mono ?_)
  rintro e w2 ⟨rfl, rfl⟩
  go_wp2_with fail
  go_region_held3 (fun w' => w'.cell? ⟨w.heap.size, 0, none⟩ = some (.int .i64 k) ∧ w'.cell? ⟨w.heap.size, 1, none⟩ = some (.int .i64 cap) ∧ w'.cell? ⟨w.heap.size, 2, none⟩ = some (.int .i64 wd) ∧ w'.cell? ⟨w.heap.size, 3, none⟩ = some (.int .i64 rt) ∧ w'.cell? ⟨w.heap.size, 4, none⟩ = some (.int .i64 f) ∧ w'.cell? ⟨w.heap.size, 5, none⟩ = some (.int .i64 t) ∧ w'.cell? ⟨w.heap.size, 6, none⟩ = some (.int .u32 i0) ∧ w'.cell? ⟨w.heap.size, 7, none⟩ = some (.int .u32 i1) ∧ w'.cell? ⟨w.heap.size, 8, none⟩ = some (.int .u32 i2) ∧ w'.cell? ⟨w.heap.size, 9, none⟩ = some (.int .u32 i3) ∧ w'.cell? ⟨w.heap.size, 10, none⟩ = some (.slice ra rn rc) ∧ w'.cell? ⟨w.heap.size, 11, none⟩ = some (.int .u32 v0) ∧ w'.cell? ⟨w.heap.size, 12, none⟩ = some (.int .u32 v1) ∧ w'.cell? ⟨w.heap.size, 13, none⟩ = some (.int .u32 v2) ∧ w'.cell? ⟨w.heap.size, 14, none⟩ = some (.int .u32 v3) ∧ w'.cell? ⟨w.heap.size + 1, 0, none⟩ = some (.int .i64 ck) ∧ w'.cell? ⟨w.heap.size + 1, 1, none⟩ = some (.int .i64 co) ∧ w'.cell? ⟨w.heap.size + 1, 2, none⟩ = some (.int .u32 c0) ∧ w'.cell? ⟨w.heap.size + 1, 3, none⟩ = some (.int .u32 c1) ∧ w'.cell? ⟨w.heap.size + 1, 4, none⟩ = some (.int .u32 c2) ∧ w'.cell? ⟨w.heap.size + 1, 5, none⟩ = some (.int .u32 c3) ∧ w'.cell? ⟨w.heap.size + 1, 6, none⟩ = some (.int .u32 cn))
    (refine HS.out _ ?_ ?_ <;> (repeat (first | ((with_reducible refine heap_alloc_at _ ?_); (simp; done)) | (with_reducible apply heap_drewS) | (with_reducible apply heap_alloc'))))
    (first | (go_at_call 44; (with_reducible refine (HC.out _).mono ?_); rintro e w3 ⟨rfl, rfl⟩) | (refine step_append_full rfl (.tmp 68) (.tmp 75) 110 rfl 26 ip _ 4 16 Try.underlying110 hip hz0 hz1 hz2 rfl ra rn olds rfl HNO.out HLO.out (fun b hb j u hu => ?_) _ [.int .u32 x0, .int .u32 x1, .int .u32 x2, .int .u32 x3] rfl rfl (fun j u hj => ?_) (by simp only [maxLen]; omega) (by omega) ?_; (focus (repeat (first | (with_reducible exact HO.out b hb j u hu) | (with_reducible apply cell_drewE) | (with_reducible apply cell_allocE)))); (focus (rw [Addr.add_mid, Nat.zero_add]; refine (cell_of_heap (heap_alloc_at _ ?_) j).trans ?_ <;> first | (simp; done) | simpa using hj)); intro cp cs a1 a2 a3 a4; have A1 := Lib.hid a1; have A2 := Lib.hid a2; have A4 := Lib.hid a4; clear a1 a2 a3 a4))
  all_goals
    go_wp2
    go_region
    all_goals
      go_wp2
      refine bodyPost_ret (results_done rfl _ _ _ _ 112 31 (#[.int .i64 k, .int .i64 cap, .int .i64 wd, .int .i64 rt, .int .i64 f, .int .i64 t, .int .u32 i0, .int .u32 i1, .int .u32 i2, .int .u32 i3, .slice (some ⟨w.heap.size + 1 + 1 + 1 + 1 + 1 + 1 + 1 + 1 + 1, 0, none⟩) (rn + 1) cp, .int .u32 v0, .int .u32 v1, .int .u32 v2, .int .u32 v3]) (#[.int .i64 0, .int .u32 0, .int .u32 0, .int .u32 0, .int .u32 0]) (0, 0) (0, 0) _ _ _ _ rfl rfl rfl rfl ?hg1 ?hg2 Try.underlying112 rfl (info_it _ _ _ _ _ _ _ _ _ _ _ _ _ _ _) Try.underlying31 rfl (info_res _ _ _ _ _)) rfl ⟨w.heap.size + 1 + 1 + 1 + 1 + 1 + 1 + 1 + 1 + 1, cp, cs, rfl, ?hu, ?hs, A1.out, A2.out, ?hb, A4.out⟩
      case hg1 => (repeat (first | ((with_reducible refine heap_alloc_at _ ?_); (simp; done)) | (with_reducible apply heap_drewS) | (with_reducible apply heap_alloc')))
      case hg2 => (repeat (first | ((with_reducible refine heap_alloc_at _ ?_); (simp; done)) | (with_reducible apply heap_drewS) | (with_reducible apply heap_alloc')))
      case hb => (repeat (first | ((with_reducible refine heap_alloc_at _ ?_); (simp; done)) | (with_reducible apply heap_drewS) | (with_reducible apply heap_alloc')))
      case hs => omega
      case hu => (repeat (first | (with_reducible exact Upd.refl _ _) | (with_reducible refine Upd.drew ?_) | (with_reducible refine Upd.alloc ?_ _)))
end
end Go.Proofs.Ytdbgnnkbcebpcaa
