/- Merged: SP6 SP7 SP8 (merge.py). -/
import Derived.Test.YtdbgnnkbcebpcaaSP5
set_option linter.unusedVariables false
set_option linter.unusedSimpArgs false
namespace Go.Proofs.Ytdbgnnkbcebpcaa
open Go.RowKit

theorem run_copy_wide {P : Program} (w : World) (dT sT ty elem : TypeId) (sz : Nat) (g dLen dCap : Nat) (a : Addr) (sLen sCap : Nat) (cur : Array Value) (t : TypeId) (cs : List Value)
    (hu : P.underlying dT = some (.slice elem)) (hs : (P.info? elem).map (·.size) = some sz)
    (hg : w.heap[g]? = some (.cells cur t (0, 0))) (hn : cs.length = Nat.min sLen dLen * sz)
    (hsrc : ∀ j v, cs[j]? = some v → w.cell? (a.add j) = some v) (hfit : cs.length ≤ cur.size) (h1 : ∀ v ∈ cs, v.oneCell' = true) :
    (Builtin.copy_ #[dT, sT] ty #[.slice (some ⟨g, 0, none⟩) dLen dCap, .slice (some a) sLen sCap]).run P w =
      .ok (goInt (Nat.min sLen dLen : Nat)) (w.setRow g (cs ++ cur.toList.drop cs.length).toArray) := by
  have hl := run_loadCells_list (P := P) w a cs hsrc
  have hst := run_storeCells_at P g 0 t cs 0 cur w hg (by simpa using hfit) h1
  cases hq : P.info? elem with
  | none => simp [hq] at hs
  | some i =>
    have hi : i.size = sz := by simpa [hq] using hs
    rw [hn] at hl
    simp [Builtin.copy_, run_underlying hu, Builtin.lenOf, Builtin.firstCells, sizeOf, typeInfo, hq, hi, hl]
    simp only [Nat.zero_add, Nat.add_zero, List.take_zero, List.nil_append] at hst
    rw [hst]
    simp
theorem wpList_copy_wide {P : Program} {w : World} {ops : Array Oper} {rest : List Oper} {o : Oper} {a : Act} {Q : Exit → Act → World → Prop} (hgd : o.guard = none) (d s : Operand) (dT sT : TypeId)
    (ho : o.op = .call { callee := .builtin .copy, args := #[d, s], argTypes := #[dT, sT] }) (elem : TypeId) (sz : Nat) (hu : P.underlying dT = some (.slice elem)) (hsz : (P.info? elem).map (·.size) = some sz)
    (g dLen dCap : Nat) (ad : Addr) (sLen sCap : Nat) (hd : a.eval d = .slice (some ⟨g, 0, none⟩) dLen dCap) (hs : a.eval s = .slice (some ad) sLen sCap)
    (cur : Array Value) (t : TypeId) (hg : w.heap[g]? = some (.cells cur t (0, 0))) (cs : List Value) (hn : cs.length = Nat.min sLen dLen * sz)
    (hsrc : ∀ j v, cs[j]? = some v → w.cell? (ad.add j) = some v) (hfit : cs.length ≤ cur.size) (h1 : ∀ v ∈ cs, v.oneCell' = true)
    (h : wpList P ops Q rest (a.put o.dst (goInt (Nat.min sLen dLen : Nat))) (w.setRow g (cs ++ cur.toList.drop cs.length).toArray)) : wpList P ops Q (o :: rest) a w := by
  refine wpList_plain hgd fun K hK => ?_
  have hrun := run_copy_wide (P := P) w dT sT o.type elem sz g dLen dCap ad sLen sCap cur t cs hu hsz hg hn hsrc hfit h1
  unfold Oper.wp
  simp only [execOp, ho, resolve, invoke, builtin, hd, hs]
  simp [hd, hs, hrun, Result.andThen]
  exact hK _ _ h
end Go.Proofs.Ytdbgnnkbcebpcaa
namespace Go.Proofs.Ytdbgnnkbcebpcaa
open Go.RowKit
theorem results_tmp_cell {P : Program} {fn : Func} {p q : Tmp} {ty : TypeId} (h : fn.results = #[.tmp q, .cell p ty]) (tmps : Array Value) (w : World) (g : Nat) (t : TypeId) (cs : Array Value) (fr : Nat × Nat) (d : TypeDesc) (v : Value)
    (hp : tmps.getD p undef = .pointer (some ⟨g, 0, none⟩)) (hq : tmps.getD q undef = v) (hg : w.heap[g]? = some (.cells cs t fr))
    (hu : P.underlying ty = some d) (hd : (match d with | .struct _ | .array _ _ => true | _ => false) = true) (hi : (P.info? ty).map (·.size) = some cs.size) :
    (results fn tmps).run P w = .ok (.tuple #[v, .agg cs]) w := by
  have hp' : tmps[p]?.getD undef = .pointer (some ⟨g, 0, none⟩) := by simpa using hp
  have hq' : tmps[q]?.getD undef = v := by simpa using hq
  simp [results, h, hp', hq', asAddr, run_loadVar_row w g t ty cs fr d hg hu hd hi]
section
variable (sa : Option Addr) (sn sc : Nat) (ck co c0 c1 c2 c3 cn : Int) (w : World)
set_option maxRecDepth 100000 in
set_option maxHeartbeats 4000000 in
theorem do_low (h : plainP ck < 1) : Calls Try.prog 10 #[.slice sa sn sc, .agg (caV ck co c0 c1 c2 c3 cn)] w fun e w' => e = .returned (.tuple #[.slice sa sn sc, .agg (resA 1 0 0 0 0)]) ∧ Upd [] w w' := by
  have HP := Lib.hid fun w => splain_c ck w
  have q1 : decide (plainP ck < 1) = true := by simpa using h
  clear h
  unfold caV resA
  generalize plainP ck = kk at HP q1
  go_enter Try.func10, Try.ntmps10
  go_wp2_with (go_at_call 47; (with_reducible refine (HP.out _).mono ?_); rintro e w2 ⟨rfl, rfl⟩)
  refine bodyPost_ret (results_tmp_cell rfl _ _ _ 31 #[.int .i64 1, .int .u32 0, .int .u32 0, .int .u32 0, .int .u32 0] (0, 0) _ _ rfl rfl ?hg Try.underlying31 rfl (info_res _ _ _ _ _)) rfl ⟨rfl, ?_⟩
  case hg => (repeat (first | ((with_reducible refine heap_alloc_at _ ?_); (simp; done)) | (with_reducible apply heap_drewS) | (with_reducible apply heap_alloc')))
  · exact ((Upd.refl _ _).alloc _).alloc _
set_option maxRecDepth 100000 in
set_option maxHeartbeats 4000000 in
theorem do_high (h1 : 9 < plainP ck) (h2 : plainP ck ≠ 16) (h3 : plainP ck ≠ 17) : Calls Try.prog 10 #[.slice sa sn sc, .agg (caV ck co c0 c1 c2 c3 cn)] w fun e w' => e = .returned (.tuple #[.slice sa sn sc, .agg (resA 1 0 0 0 0)]) ∧ Upd [] w w' := by
  have HP := Lib.hid fun w => splain_c ck w
  have q1 : decide (plainP ck < 1) = false := by simp; omega
  have q2 : decide (9 < plainP ck) = true := by simp; omega
  have q3 : (plainP ck != 16) = true := by simp; omega
  have q4 : (plainP ck != 17) = true := by simp; omega
  unfold caV resA
  generalize plainP ck = kk at *
  clear h1 h2 h3
  go_enter Try.func10, Try.ntmps10
  go_wp2_with (go_at_call 47; (with_reducible refine (HP.out _).mono ?_); rintro e w2 ⟨rfl, rfl⟩)
  refine bodyPost_ret (results_tmp_cell rfl _ _ _ 31 #[.int .i64 1, .int .u32 0, .int .u32 0, .int .u32 0, .int .u32 0] (0, 0) _ _ rfl rfl ?hg Try.underlying31 rfl (info_res _ _ _ _ _)) rfl ⟨rfl, ?_⟩
  case hg => (repeat (first | ((with_reducible refine heap_alloc_at _ ?_); (simp; done)) | (with_reducible apply heap_drewS) | (with_reducible apply heap_alloc')))
  · exact ((Upd.refl _ _).alloc _).alloc _
def plainOk (k : Int) : Prop := (1 ≤ k ∧ k ≤ 9) ∨ k = 16 ∨ k = 17
set_option maxRecDepth 100000 in
set_option maxHeartbeats 4000000 in
theorem do_missing (h1 : plainOk (plainP ck)) (h2 : co < 0 ∨ (sn : Int) ≤ co) : Calls Try.prog 10 #[.slice sa sn sc, .agg (caV ck co c0 c1 c2 c3 cn)] w fun e w' => e = .returned (.tuple #[.slice sa sn sc, .agg (resA 4 0 0 0 0)]) ∧ Upd [] w w' := by
  have HP := Lib.hid fun w => splain_c ck w
  unfold caV resA plainOk at *
  generalize plainP ck = kk at *
  rcases h1 with ⟨h1, h1'⟩ | rfl | rfl
  · have q1 : decide (kk < 1) = false := by simp; omega
    have q2 : decide (9 < kk) = false := by simp; omega
    clear h1 h1'
    rcases h2 with h2 | h2
    · have q5 : decide (co < 0) = true := by simpa using h2
      clear h2
      go_enter Try.func10, Try.ntmps10
      go_wp2_with (go_at_call 47; (with_reducible refine (HP.out _).mono ?_); rintro e w2 ⟨rfl, rfl⟩)
      (
          refine bodyPost_ret (results_tmp_cell rfl _ _ _ 31 #[.int .i64 4, .int .u32 0, .int .u32 0, .int .u32 0, .int .u32 0] (0, 0) _ _ rfl rfl ?hg Try.underlying31 rfl (info_res _ _ _ _ _)) rfl ⟨rfl, ?hu⟩
          case hg => (repeat (first | ((with_reducible refine heap_alloc_at _ ?_); (simp; done)) | (with_reducible apply heap_drewS) | (with_reducible apply heap_alloc')))
          case hu => exact ((Upd.refl _ _).alloc _).alloc _)
    · have q5 : decide (co < 0) = false := by simp; omega
      have q6 : decide ((sn : Int) ≤ co) = true := by simpa using h2
      clear h2
      go_enter Try.func10, Try.ntmps10
      go_wp2_with (go_at_call 47; (with_reducible refine (HP.out _).mono ?_); rintro e w2 ⟨rfl, rfl⟩)
      (
          refine bodyPost_ret (results_tmp_cell rfl _ _ _ 31 #[.int .i64 4, .int .u32 0, .int .u32 0, .int .u32 0, .int .u32 0] (0, 0) _ _ rfl rfl ?hg Try.underlying31 rfl (info_res _ _ _ _ _)) rfl ⟨rfl, ?hu⟩
          case hg => (repeat (first | ((with_reducible refine heap_alloc_at _ ?_); (simp; done)) | (with_reducible apply heap_drewS) | (with_reducible apply heap_alloc')))
          case hu => exact ((Upd.refl _ _).alloc _).alloc _)
  all_goals
    rcases h2 with h2 | h2
    · have q5 : decide (co < 0) = true := by simpa using h2
      clear h2
      go_enter Try.func10, Try.ntmps10
      go_wp2_with (go_at_call 47; (with_reducible refine (HP.out _).mono ?_); rintro e w2 ⟨rfl, rfl⟩)
      (
          refine bodyPost_ret (results_tmp_cell rfl _ _ _ 31 #[.int .i64 4, .int .u32 0, .int .u32 0, .int .u32 0, .int .u32 0] (0, 0) _ _ rfl rfl ?hg Try.underlying31 rfl (info_res _ _ _ _ _)) rfl ⟨rfl, ?hu⟩
          case hg => (repeat (first | ((with_reducible refine heap_alloc_at _ ?_); (simp; done)) | (with_reducible apply heap_drewS) | (with_reducible apply heap_alloc')))
          case hu => exact ((Upd.refl _ _).alloc _).alloc _)
    · have q5 : decide (co < 0) = false := by simp; omega
      have q6 : decide ((sn : Int) ≤ co) = true := by simpa using h2
      clear h2
      go_enter Try.func10, Try.ntmps10
      go_wp2_with (go_at_call 47; (with_reducible refine (HP.out _).mono ?_); rintro e w2 ⟨rfl, rfl⟩)
      (
          refine bodyPost_ret (results_tmp_cell rfl _ _ _ 31 #[.int .i64 4, .int .u32 0, .int .u32 0, .int .u32 0, .int .u32 0] (0, 0) _ _ rfl rfl ?hg Try.underlying31 rfl (info_res _ _ _ _ _)) rfl ⟨rfl, ?hu⟩
          case hg => (repeat (first | ((with_reducible refine heap_alloc_at _ ?_); (simp; done)) | (with_reducible apply heap_drewS) | (with_reducible apply heap_alloc')))
          case hu => exact ((Upd.refl _ _).alloc _).alloc _)
end
end Go.Proofs.Ytdbgnnkbcebpcaa
namespace Go.Proofs.Ytdbgnnkbcebpcaa
open Go.RowKit
/-- An item with where its row lies. -/
structure IL where
  x : IT
  ra : Option Addr
  rc : Nat
def IL.cells (i : IL) : List Value := (i.x.A i.ra i.rc).toList
theorem il_len (i : IL) : i.cells.length = 15 := rfl
structure SRel (w : World) (a : Option Addr) (rs : List IL) : Prop where
  els : Els w a 15 (rs.map IL.cells)
  items : ∀ r ∈ rs, ItemR w r.x r.ra r.rc
theorem SRel.upd {w w' : World} {a : Option Addr} {rs : List IL} (h : SRel w a rs) (hu : Upd [] w w') : SRel w' a rs :=
  ⟨h.els.upd hu (by simp), fun r hr => (h.items r hr).upd hu⟩
theorem il_one (i : IL) : ∀ v ∈ i.cells, v.oneCell' = true := by
  intro v hv
  simp [IL.cells, IT.A, itA] at hv
  rcases hv with rfl | rfl | rfl | rfl | rfl | rfl | rfl | rfl | rfl | rfl | rfl | rfl | rfl | rfl | rfl <;> rfl
end Go.Proofs.Ytdbgnnkbcebpcaa
