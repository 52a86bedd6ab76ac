/- Package queue: Next, Add. -/
import Derived.Test.YtdbgnnkbcebpcaaQ7
import Derived.Test.YtdbgnnkbcebpcaaRet
set_option linter.unusedVariables false
set_option linter.unusedSimpArgs false
namespace Go.Proofs.Ytdbgnnkbcebpcaa
open Go.RowKit

theorem eql_link_same (w : World) (a : Addr) : (binOp .eql 52 (.pointer (some a)) (.pointer (some a))).run Try.prog w = .ok (.bool true) w := by
  obtain ⟨j, hj, hs⟩ := Option.map_eq_some_iff.1 info_link
  exact run_eql_ptr_same w a Try.underlying52 hj
theorem eql_link_other (w : World) {a b : Addr} {ca cb : Array Value} {ta tb : TypeId} (hne : a ≠ b) (ha : w.heap[a.block]? = some (.cells ca ta (0, 0))) (hb : w.heap[b.block]? = some (.cells cb tb (0, 0))) :
    (binOp .eql 52 (.pointer (some a)) (.pointer (some b))).run Try.prog w = .ok (.bool false) w := by
  obtain ⟨j, hj, hs⟩ := Option.map_eq_some_iff.1 info_link
  exact run_eql_ptr_other w Try.underlying52 hj (by rw [hs]; decide) hne ha hb
/-- The wait behind that of a task. -/
def qnextN (t : Int) (xs : List QN) : Option QN := match qfindN t xs with
  | none => xs.head?
  | some _ => (xs.dropWhile (fun x => x.w.t != t)).tail.head?
theorem qnextN_some {t : Int} {pre rest : List QN} {x : QN} (hp : ∀ y ∈ pre, y.w.t ≠ t) (hx : x.w.t = t) : qnextN t (pre ++ x :: rest) = rest.head? := by
  have h1 : qfindN t (pre ++ x :: rest) = some x := qfindN_some ⟨rest, by simp⟩ hp hx
  unfold qnextN
  rw [h1]
  simp only
  rw [List.dropWhile_append_of_pos (by intro y hy; simpa using hp y hy), List.dropWhile_cons_of_neg (by simp [hx])]
  rfl
section
variable {w : World} {q : Nat} {xs : List QN}
set_option maxRecDepth 100000 in
set_option maxHeartbeats 4000000 in
theorem qnext_c (task : Int) (h : QL w q xs) (hn : xs.length ≤ 1000000) : Calls Try.prog 21 #[.pointer (some ⟨q, 0, none⟩), .int .i64 task] w fun e w' => 
    e = .returned (.tuple #[.agg (qor ((qnextN task xs).map QN.w)).A, .bool (qnextN task xs).isSome]) ∧ Upd [] w w' := by
  have hF := fun (w' : World) (hu : Upd [] w w') => qfind_c task (h.upd hu (by simp)) hn
  have hG := fun (w' : World) (hu : Upd [] w w') => qlen_c (h.upd hu (by simp))
  have HL := Lib.hid h
  have HF := Lib.hid hF
  have HG := Lib.hid hG
  clear h hF hG
  rcases xs with _ | ⟨z, zs⟩
  · have HF2 := HF
    clear HF
    go_enter Try.func21, Try.ntmps21
    go_wp2
    refine wp_scope_jump1 0 rfl ?_
    intro K HK
    go_wp2_with (first | (go_at_call 30; refine (HG.out _ ((Upd.refl _ _).alloc _)).mono ?_; rintro e w1 ⟨rfl, rfl⟩))
    simp only [Exit.jump]
    refine bodyPost_ret (v := .tuple #[.agg QW.zero.A, .bool false]) (by simp [results, Try.f21, go_sem, QW.zero, QW.A]) rfl ?_
    exact ⟨rfl, (Upd.refl [] w).alloc _⟩
  · obtain ⟨va, vn, hh, he⟩ := HL.out.hd
    obtain ⟨rfl, rfl⟩ := he (by simp)
    obtain ⟨c0, c1, c2, c3, c4, c5, c6⟩ := cells7 hh
    have hlq := HL.out.lt q (by simp)
    have hz : (((z :: zs).length : Int) == 0) = false := by simp; omega
    have hz' : ¬ (((z :: zs).length : Int) = 0) := by simp; omega
    have hlz := HL.out.lt z.b (by simp)
    obtain ⟨f0, f1, f2, f3, f4, f5⟩ := cellsQ (QSeg.at (pre := []) HL.out.seg)
    unfold qptr qhd at c5
    generalize hl0 : (z :: zs).length = n0 at *
    have HN0 := Lib.hid hl0
    clear hh hl0 c4
    rcases hx : qfindN task (z :: zs) with _ | x
    · rw [hx] at HF
      unfold qaddr at HF
      simp only [Option.map] at HF
      have hq : qnextN task (z :: zs) = some z := by unfold qnextN; rw [hx]; rfl
      rw [hq]
      clear hx hq
      go_enter Try.func21, Try.ntmps21
      go_wp2
      refine wp_scope_jump1 0 rfl ?_
      intro K HK
      go_wp2_with (first | (go_at_call 30; refine (HG.out _ ((Upd.refl _ _).alloc _)).mono ?_; rintro e w1 ⟨rfl, rfl⟩) | (go_at_call 54; refine (HF.out _ ((Upd.refl _ _).alloc _)).mono ?_; rintro e w1 ⟨rfl, hu⟩; obtain ⟨p1, rfl⟩ := hu.grown; clear hu))
      go_step3
      refine And.intro rfl (HK.out _ _ ?_)
      clear HK
      go_wp2
      rw [Exit.noGoto_ret]
      refine bodyPost_ret (v := .tuple #[.agg z.w.A, .bool true]) (by simp [results, Try.f21, go_sem, QW.A]) rfl ?_
      exact ⟨rfl, ((Upd.refl [] w).alloc _).grE _⟩
    · obtain ⟨pre, rest, e, hp, ht⟩ := qfindN_split hx
      rw [hx] at HF
      unfold qaddr at HF
      simp only [Option.map] at HF
      have hq : qnextN task (z :: zs) = rest.head? := by rw [e]; exact qnextN_some hp ht
      rw [hq]
      have hL' : QL w q (pre ++ x :: rest) := by rw [← e]; exact HL.out
      have hat := QSeg.at hL'.seg
      obtain ⟨d0, d1, d2, d3, d4, d5⟩ := cellsQ hat
      have hlx := hL'.lt x.b (by simp)
      clear d4 hx hq e hp
      obtain ⟨va', vn', hh', _⟩ := hL'.hd
      cases rest with
      | nil =>
        unfold qptr qhd at d5
        have hsm := eql_link_same
        clear hat hh' hL'
        go_enter Try.func21, Try.ntmps21
        go_wp2
        refine wp_scope_jump1 0 rfl ?_
        intro K HK
        go_wp2_with (first | (go_at_call 30; refine (HG.out _ ((Upd.refl _ _).alloc _)).mono ?_; rintro e w1 ⟨rfl, rfl⟩) | (go_at_call 54; refine (HF.out _ ((Upd.refl _ _).alloc _)).mono ?_; rintro e w1 ⟨rfl, hu⟩; obtain ⟨p1, rfl⟩ := hu.grown; clear hu))
        go_region
        go_wp2
        simp only [Exit.jump]
        refine bodyPost_ret (v := .tuple #[.agg QW.zero.A, .bool false]) (by simp [results, Try.f21, go_sem, QW.zero, QW.A]) rfl ?_
        exact ⟨rfl, ((Upd.refl [] w).alloc _).grE _⟩
      | cons y ys =>
        have hy : w.heap[y.b]? = _ := QSeg.at (pre := pre ++ [x]) (x := y) (rest := ys) (by have := hL'.seg; simpa using this)
        obtain ⟨g0, g1, g2, g3, g4, g5⟩ := cellsQ hy
        have hly := heap_lt hy
        have hne : y.b ≠ q := by
          intro e
          have := (List.nodup_cons.1 hL'.nodup).1
          exact this (by rw [← e]; simp)
        have hsm : ∀ w1, Upd [] w w1 → (binOp .eql 52 (.pointer (some ⟨y.b, 0, none⟩)) (.pointer (some ⟨q, 0, none⟩))).run Try.prog w1 = .ok (.bool false) w1 := fun w1 hu =>
          eql_link_other w1 (by simp [hne]) (hu.keepb hy (by simp)) (hu.keepb hh' (by simp))
        unfold qptr qhd at d5
        have HSM := Lib.hid hsm
        clear hat hh' hL' hy hsm g4 g5 f4 f5
        go_enter Try.func21, Try.ntmps21
        go_wp2
        refine wp_scope_jump1 0 rfl ?_
        intro K HK
        go_wp2_with (first | (go_at_call 30; refine (HG.out _ ((Upd.refl _ _).alloc _)).mono ?_; rintro e w1 ⟨rfl, rfl⟩) | (go_at_call 54; refine (HF.out _ ((Upd.refl _ _).alloc _)).mono ?_; rintro e w1 ⟨rfl, hu⟩; obtain ⟨p1, rfl⟩ := hu.grown; clear hu))
        have hsm := HSM.out _ (((Upd.refl [] w).alloc (.cells #[.int .i64 0, .int .i64 0, .int .i64 0, .int .u32 0] 51)).grE p1).drew
        rw [gr_drew] at hsm
        go_region
        go_wp2
        simp only [Exit.jump]
        refine bodyPost_ret (v := .tuple #[.agg y.w.A, .bool true]) (by simp [results, Try.f21, go_sem, QW.A]) rfl ?_
        exact ⟨rfl, ((Upd.refl [] w).alloc _).grE _⟩
end
end Go.Proofs.Ytdbgnnkbcebpcaa
