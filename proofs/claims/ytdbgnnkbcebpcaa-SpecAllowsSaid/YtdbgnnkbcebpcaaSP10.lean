/- Package spec: Do, where the call may be (printed by gensp10.py out of SP10.base). -/
import Derived.Test.YtdbgnnkbcebpcaaSP9
import Derived.Deep.CutRange
set_option linter.unusedVariables false
set_option linter.unusedSimpArgs false
namespace Go.Proofs.Ytdbgnnkbcebpcaa
open Go.RowKit
theorem info_item15 : (Try.prog.info? 112).map (fun i => (i.zero, i.size, i.bytes)) = some (some (.agg #[.int .i64 0, .int .i64 0, .int .i64 0, .int .i64 0, .int .i64 0, .int .i64 0, .int .u32 0, .int .u32 0, .int .u32 0, .int .u32 0, .slice none 0 0, .int .u32 0, .int .u32 0, .int .u32 0, .int .u32 0]), 15, 104) := by kernel_rfl
/-- What Do hands out: a new state where something has changed, else the old one. -/
def DoEnd (ch : Bool) (old : Value) (n : Nat) (rs : List IL) (r : Array Value) (e : Ending) (w' : World) : Prop :=
  if ch then ∃ g, e = .returned (.tuple #[.slice (some ⟨g, 0, none⟩) n n, .agg r]) ∧ SRel w' (some ⟨g, 0, none⟩) rs else e = .returned (.tuple #[old, .agg r])
theorem do_end {W wc w4 w5 wf : World} {Q gn sn i : Nat} {rs : List IL} {z : IL} {t : TypeId} {old : Value} {r : Array Value} (huf : Upd [Q] w5 wf) (hq : W.heap.size ≤ Q) (hqg : gn ≠ Q) (hu : Upd [] W wc) (hu5 : Upd [] wc w5) (hi : i < rs.length)
    (hit : ∀ r ∈ rs, ItemR W r.x r.ra r.rc) (hz : ItemR wc z.x z.ra z.rc) (hzq : ∀ b, z.ra.map (·.block) = some b → b ≠ Q) (hg4 : w4.heap[gn]? = some (.cells (rs.flatMap IL.cells).toArray t (0, 0))) (hw5 : w4.setCells gn (i * 15) z.cells = w5) :
    Upd [] W wf ∧ DoEnd true old sn (rs.set i z) r (.returned (.tuple #[.slice (some ⟨gn, 0, none⟩) sn sn, .agg r])) wf := by
  have hue := (hu5.mono (S' := [Q]) (by simp)).trans huf
  have huw := hu.then hue (fun k hk => .inr (by simp at hk; omega))
  refine ⟨huw, ⟨_, rfl, srel_turn (t := t) (w4 := w4) hi (fun r hr => (hit r hr).upd huw) (item_move hz hue.size fun b hb => hue.block b (hz.blk b hb) (by have := hzq b hb; simpa using this)) hg4 ?_⟩⟩
  rw [hw5]
  refine huf.block _ ?_ (by simpa using hqg)
  rw [← hw5]
  exact Nat.lt_of_lt_of_le (heap_lt hg4) (upd_setCells _ _ _ _).size
theorem do_end2 {W wc w4 w5 wf : World} {Q gn sn i : Nat} {rs : List IL} {y : IT} {rb : Option Addr} {rd : Nat} {t : TypeId} {old : Value} {r : Array Value} (huf : Upd [Q] w5 wf) (hq : W.heap.size ≤ Q) (hqg : gn ≠ Q) (hu : Upd [] W wc) (hu5 : Upd [] wc w5) (hi : i < rs.length)
    (hit : ∀ r ∈ rs, ItemR W r.x r.ra r.rc) (hz : ItemR wc y rb rd) (hzq : ∀ b, rb.map (·.block) = some b → b ≠ Q) (hg4 : w4.heap[gn]? = some (.cells (rs.flatMap IL.cells).toArray t (0, 0))) (hw5 : w4.setCells gn (i * 15) (IL.mk y rb rd).cells = w5) :
    Upd [] W wf ∧ ∃ rb rd, DoEnd true old sn (rs.set i ⟨y, rb, rd⟩) r (.returned (.tuple #[.slice (some ⟨gn, 0, none⟩) sn sn, .agg r])) wf :=
  have h := do_end (z := ⟨y, rb, rd⟩) (old := old) (r := r) (sn := sn) huf hq hqg hu hu5 hi hit hz hzq hg4 hw5
  ⟨h.1, rb, rd, h.2⟩
section
variable (sb so i sn sc : Nat) (k cap wd rt f t i0 i1 i2 i3 : Int) (ra : Option Addr) (rn rc : Nat) (v0 v1 v2 v3 : Int) (y : IT) (yrow : List V4) (y0 y1 y2 y3 : Int) (rf r0 r1 r2 r3 : Int) (ck c0 c1 c2 c3 cn : Int) (ch is : Bool) (W : World)
set_option maxRecDepth 100000 in
set_option maxHeartbeats 8000000 in
theorem do_go (hb : sb < W.heap.size) (hi : i < sn) (hp : plainOk (plainP ck)) (hcap : sn ≤ 1000) (hra : ∀ b, ra.map (·.block) = some b → b < W.heap.size)
    (hd : ∀ w, Upd [] W w → Calls Try.prog 48 #[.agg #[.int .i64 k, .int .i64 cap, .int .i64 wd, .int .i64 rt, .int .i64 f, .int .i64 t, .int .u32 i0, .int .u32 i1, .int .u32 i2, .int .u32 i3, .slice ra rn rc, .int .u32 v0, .int .u32 v1, .int .u32 v2, .int .u32 v3], .int .i64 (plainP ck), .agg #[.int .i64 ck, .int .i64 (i : Int), .int .u32 c0, .int .u32 c1, .int .u32 c2, .int .u32 c3, .int .u32 cn]] w fun e w' => ∃ rb rd, e = .returned (.tuple #[.agg #[.int .i64 k, .int .i64 cap, .int .i64 wd, .int .i64 rt, .int .i64 f, .int .i64 t, .int .u32 i0, .int .u32 i1, .int .u32 i2, .int .u32 i3, .slice rb yrow.length rd, .int .u32 y0, .int .u32 y1, .int .u32 y2, .int .u32 y3], .agg #[.int .i64 rf, .int .u32 r0, .int .u32 r1, .int .u32 r2, .int .u32 r3], .bool ch, .bool is]) ∧ Upd [] w w' ∧ ItemR w' y rb rd ∧ OwnB w ra rb)
    (e0 : W.cell? ⟨sb, so + i * 15, none⟩ = some (.int .i64 k)) (e1 : W.cell? ⟨sb, so + i * 15 + 1, none⟩ = some (.int .i64 cap)) (e2 : W.cell? ⟨sb, so + i * 15 + 2, none⟩ = some (.int .i64 wd)) (e3 : W.cell? ⟨sb, so + i * 15 + 3, none⟩ = some (.int .i64 rt)) (e4 : W.cell? ⟨sb, so + i * 15 + 4, none⟩ = some (.int .i64 f)) (e5 : W.cell? ⟨sb, so + i * 15 + 5, none⟩ = some (.int .i64 t)) (e6 : W.cell? ⟨sb, so + i * 15 + 6, none⟩ = some (.int .u32 i0)) (e7 : W.cell? ⟨sb, so + i * 15 + 7, none⟩ = some (.int .u32 i1)) (e8 : W.cell? ⟨sb, so + i * 15 + 8, none⟩ = some (.int .u32 i2)) (e9 : W.cell? ⟨sb, so + i * 15 + 9, none⟩ = some (.int .u32 i3)) (e10 : W.cell? ⟨sb, so + i * 15 + 10, none⟩ = some (.slice ra rn rc)) (e11 : W.cell? ⟨sb, so + i * 15 + 11, none⟩ = some (.int .u32 v0)) (e12 : W.cell? ⟨sb, so + i * 15 + 12, none⟩ = some (.int .u32 v1)) (e13 : W.cell? ⟨sb, so + i * 15 + 13, none⟩ = some (.int .u32 v2)) (e14 : W.cell? ⟨sb, so + i * 15 + 14, none⟩ = some (.int .u32 v3))
    (rs : List IL) (hrn : rs.length = sn) (hrs : ∀ j u, (rs.flatMap IL.cells)[j]? = some u → W.cell? ⟨sb, so + j, none⟩ = some u) (hit : ∀ r ∈ rs, ItemR W r.x r.ra r.rc) (hyc : ∀ rb rd, (IL.mk y rb rd).cells = [.int .i64 k, .int .i64 cap, .int .i64 wd, .int .i64 rt, .int .i64 f, .int .i64 t, .int .u32 i0, .int .u32 i1, .int .u32 i2, .int .u32 i3, .slice rb yrow.length rd, .int .u32 y0, .int .u32 y1, .int .u32 y2, .int .u32 y3]) :
    Calls Try.prog 10 #[.slice (some ⟨sb, so, none⟩) sn sc, .agg #[.int .i64 ck, .int .i64 (i : Int), .int .u32 c0, .int .u32 c1, .int .u32 c2, .int .u32 c3, .int .u32 cn]] W fun e w' => Upd [] W w' ∧ ∃ rb rd, DoEnd ch (.slice (some ⟨sb, so, none⟩) sn sc) sn (rs.set i ⟨y, rb, rd⟩) #[.int .i64 rf, .int .u32 r0, .int .u32 r1, .int .u32 r2, .int .u32 r3] e w' := by
  have HP := Lib.hid fun w => splain_c ck w
  have HD := Lib.hid hd
  clear hd
  have E0 := Lib.hid e0
  have E1 := Lib.hid e1
  have E2 := Lib.hid e2
  have E3 := Lib.hid e3
  have E4 := Lib.hid e4
  have E5 := Lib.hid e5
  have E6 := Lib.hid e6
  have E7 := Lib.hid e7
  have E8 := Lib.hid e8
  have E9 := Lib.hid e9
  have E10 := Lib.hid e10
  have E11 := Lib.hid e11
  have E12 := Lib.hid e12
  have E13 := Lib.hid e13
  have E14 := Lib.hid e14
  clear e0 e1 e2 e3 e4 e5 e6 e7 e8 e9 e10 e11 e12 e13 e14
  unfold plainOk at hp
  generalize plainP ck = kk at *
  have q5 : decide ((i : Int) < 0) = false := by simp
  have q6 : decide ((sn : Int) ≤ (i : Int)) = false := by simp; omega
  have b1 : (0 : Int) ≤ (i : Int) := by omega
  have b2 : (i : Int) < (sn : Int) := by omega
  have nb : sb ≠ W.heap.size := by omega
  have nb1 : sb ≠ W.heap.size + 1 := by omega
  have HBL := Lib.hid hb
  have HCAP := Lib.hid hcap
  have HI := Lib.hid hi
  have HRA := Lib.hid hra
  have HRN := Lib.hid hrn
  have HRS := Lib.hid hrs
  have HIT := Lib.hid hit
  have HYC := Lib.hid hyc
  clear hb hcap hi hra hrn hrs hit hyc
  have hq : ∃ a b c, decide (kk < 1) = false ∧ decide (9 < kk) = a ∧ (kk != 16) = b ∧ (kk != 17) = c ∧ (a && b && c) = false := by
    refine ⟨_, _, _, ?_, rfl, rfl, rfl, ?_⟩
    · simp; omega
    · rcases hp with h | rfl | rfl
      · have : ¬ 9 < kk := by omega
        simp [this]
      · rfl
      · rfl
  clear hp
  obtain ⟨a9, a16, a17, q1, q2, q3, q4, qq⟩ := hq
  go_enter Try.func10, Try.ntmps10
  go_upto_if 15 with (go_at_call 47; (with_reducible refine (HP.out _).mono ?_); rintro e w2 ⟨rfl, rfl⟩)
  go_cut [15] from 16 to 27 (fun s15 w' => s15 = .bool false ∧ w' = (W.alloc (.cells #[.int .i64 ck, .int .i64 (i : Int), .int .u32 c0, .int .u32 c1, .int .u32 c2, .int .u32 c3, .int .u32 cn] 28)).alloc (.cells #[.int .i64 0, .int .u32 0, .int .u32 0, .int .u32 0, .int .u32 0] 31))
  case first =>
    go_wp2_with fail
    all_goals
      go_meet
      case rel =>
        refine ⟨?_, rfl⟩
        first | rfl | (simp_all; done) | trace_state
  case rest =>
    obtain ⟨rfl, rfl⟩ := hcut
    clear q1 q2 q3 q4 qq
    go_wp2_with fail
    go_cut [7, 8, 9, 10] from 12 to 55 (fun s7 s8 s9 s10 w' => ∃ gi gq rb rd, s7 = .pointer (some ⟨gi, 0, none⟩) ∧ s8 = .pointer (some ⟨gq, 0, none⟩) ∧ s9 = .bool ch ∧ s10 = .bool is ∧ W.heap.size + 1 < gi ∧ W.heap.size + 1 < gq ∧ w'.heap[gi]? = some (.cells #[.int .i64 k, .int .i64 cap, .int .i64 wd, .int .i64 rt, .int .i64 f, .int .i64 t, .int .u32 i0, .int .u32 i1, .int .u32 i2, .int .u32 i3, .slice rb yrow.length rd, .int .u32 y0, .int .u32 y1, .int .u32 y2, .int .u32 y3] 112) ∧ w'.heap[gq]? = some (.cells #[.int .i64 rf, .int .u32 r0, .int .u32 r1, .int .u32 r2, .int .u32 r3] 31) ∧ w'.heap[W.heap.size]? = some (.cells #[.int .i64 ck, .int .i64 (i : Int), .int .u32 c0, .int .u32 c1, .int .u32 c2, .int .u32 c3, .int .u32 cn] 28) ∧ w'.heap[W.heap.size + 1]? = some (.cells #[.int .i64 0, .int .u32 0, .int .u32 0, .int .u32 0, .int .u32 0] 31) ∧ Upd [] W w' ∧ ItemR w' y rb rd ∧ ∀ b, rb.map (·.block) = some b → b ≠ W.heap.size + 1)
    case first =>
      go_region_held3 (fun w' => w'.cell? ⟨sb, so + i * 15, none⟩ = some (.int .i64 k) ∧ w'.cell? ⟨sb, so + i * 15 + 1, none⟩ = some (.int .i64 cap) ∧ w'.cell? ⟨sb, so + i * 15 + 2, none⟩ = some (.int .i64 wd) ∧ w'.cell? ⟨sb, so + i * 15 + 3, none⟩ = some (.int .i64 rt) ∧ w'.cell? ⟨sb, so + i * 15 + 4, none⟩ = some (.int .i64 f) ∧ w'.cell? ⟨sb, so + i * 15 + 5, none⟩ = some (.int .i64 t) ∧ w'.cell? ⟨sb, so + i * 15 + 6, none⟩ = some (.int .u32 i0) ∧ w'.cell? ⟨sb, so + i * 15 + 7, none⟩ = some (.int .u32 i1) ∧ w'.cell? ⟨sb, so + i * 15 + 8, none⟩ = some (.int .u32 i2) ∧ w'.cell? ⟨sb, so + i * 15 + 9, none⟩ = some (.int .u32 i3) ∧ w'.cell? ⟨sb, so + i * 15 + 10, none⟩ = some (.slice ra rn rc) ∧ w'.cell? ⟨sb, so + i * 15 + 11, none⟩ = some (.int .u32 v0) ∧ w'.cell? ⟨sb, so + i * 15 + 12, none⟩ = some (.int .u32 v1) ∧ w'.cell? ⟨sb, so + i * 15 + 13, none⟩ = some (.int .u32 v2) ∧ w'.cell? ⟨sb, so + i * 15 + 14, none⟩ = some (.int .u32 v3) ∧ w'.cell? ⟨W.heap.size, 0, none⟩ = some (.int .i64 ck) ∧ w'.cell? ⟨W.heap.size, 1, none⟩ = some (.int .i64 (i : Int)) ∧ w'.cell? ⟨W.heap.size, 2, none⟩ = some (.int .u32 c0) ∧ w'.cell? ⟨W.heap.size, 3, none⟩ = some (.int .u32 c1) ∧ w'.cell? ⟨W.heap.size, 4, none⟩ = some (.int .u32 c2) ∧ w'.cell? ⟨W.heap.size, 5, none⟩ = some (.int .u32 c3) ∧ w'.cell? ⟨W.heap.size, 6, none⟩ = some (.int .u32 cn))
        (((try dsimp only); (refine ⟨?_, ?_, ?_, ?_, ?_, ?_, ?_, ?_, ?_, ?_, ?_, ?_, ?_, ?_, ?_, ?_, ?_, ?_, ?_, ?_, ?_, ?_⟩) <;> (repeat (first | (with_reducible exact E0.out) | (with_reducible exact E1.out) | (with_reducible exact E2.out) | (with_reducible exact E3.out) | (with_reducible exact E4.out) | (with_reducible exact E5.out) | (with_reducible exact E6.out) | (with_reducible exact E7.out) | (with_reducible exact E8.out) | (with_reducible exact E9.out) | (with_reducible exact E10.out) | (with_reducible exact E11.out) | (with_reducible exact E12.out) | (with_reducible exact E13.out) | (with_reducible exact E14.out) | (with_reducible refine cell_new_at ?_ ?_ <;> first | rfl | (simp; done)) | (with_reducible apply cell_drewE) | (with_reducible apply cell_grE) | (with_reducible apply cell_allocE)))))
        (first | (go_at_call 48; refine (HD.out _ (by (repeat (first | (with_reducible exact Upd.refl _ _) | (with_reducible apply Upd.drew) | (with_reducible refine Upd.grE ?_ _) | (with_reducible refine Upd.alloc ?_ _))))).mono ?_; rintro e w3 ⟨rb, rd, rfl, hu3, hi3, ho3⟩; obtain ⟨p3, rfl⟩ := hu3.grown; have HI3 := Lib.hid hi3; have HO3 := Lib.hid ho3; have HU3 := Lib.hid hu3; clear hi3 ho3 hu3))
      all_goals
        go_wp2_with fail
        go_meet
        case rel =>
          refine ⟨_, _, rb, rd, rfl, rfl, rfl, rfl, ?_, ?_, ?_, ?_, ?_, ?_, ?_, ?_, ?_⟩
          · simp; try omega
          · simp; try omega
          · (repeat (first | ((with_reducible refine heap_alloc_at _ ?_); (simp; done)) | (with_reducible apply heap_drewS) | (with_reducible apply heap_grE) | (with_reducible apply heap_alloc')))
          · (repeat (first | ((with_reducible refine heap_alloc_at _ ?_); (simp; done)) | (with_reducible apply heap_drewS) | (with_reducible apply heap_grE) | (with_reducible apply heap_alloc')))
          · (repeat (first | ((with_reducible refine heap_alloc_at _ ?_); (simp; done)) | (with_reducible apply heap_drewS) | (with_reducible apply heap_grE) | (with_reducible apply heap_alloc')))
          · (repeat (first | ((with_reducible refine heap_alloc_at _ ?_); (simp; done)) | (with_reducible apply heap_drewS) | (with_reducible apply heap_grE) | (with_reducible apply heap_alloc')))
          · (repeat (first | (with_reducible exact Upd.refl _ _) | (with_reducible apply Upd.drew) | (with_reducible refine Upd.grE ?_ _) | (with_reducible refine Upd.alloc ?_ _)))
          · refine item_move HI3.out (by simp; try omega) (fun b hb => ?_)
            rcases HO3.out with h | h
            · have hbW : b < W.heap.size := HRA.out b (h ▸ hb)
              exact ((show Upd [] W _ from by (repeat (first | (with_reducible exact Upd.refl _ _) | (with_reducible apply Upd.drew) | (with_reducible refine Upd.grE ?_ _) | (with_reducible refine Upd.alloc ?_ _)))).block b hbW (by simp)).trans ((show Upd [] W _ from by (repeat (first | (with_reducible exact Upd.refl _ _) | (with_reducible apply Upd.drew) | (with_reducible refine Upd.grE ?_ _) | (with_reducible refine Upd.alloc ?_ _)))).block b hbW (by simp)).symm
            · have hb3 := HI3.out.blk b hb
              have hbX := h b hb
              first
                | exact gr_same p3 (by simp) hbX
                | exact (heap_alloc_other _ _ (by simpa using hb3)).trans (gr_same p3 (by simp) hbX)
                | exact (heap_alloc_other _ _ (by simp at hb3 ⊢; omega)).trans (heap_alloc_other _ _ hb3)
          · intro b hb
            rcases HO3.out with h | h
            · have hbW : b < W.heap.size := HRA.out b (h ▸ hb)
              omega
            · have hbX := h b hb
              simp at hbX
              omega
    case rest =>
      obtain ⟨gi, gq, rb, rd, rfl, rfl, rfl, rfl, lgi, lgq, hgi, hgq, hca, hrz, hu, hity, hyq⟩ := hcut
      have HYQ := Lib.hid hyq
      clear hyq
      have HGI := Lib.hid hgi
      have HGQ := Lib.hid hgq
      have HCA := Lib.hid hca
      have HRZ := Lib.hid hrz
      have HU := Lib.hid hu
      have HITY := Lib.hid hity
      have LG := Lib.hid (And.intro lgi lgq)
      have nq : gq ≠ W.heap.size + 1 := by omega
      clear HP HD E0 E1 E2 E3 E4 E5 E6 E7 E8 E9 E10 E11 E12 E13 E14
      cases ch
      · obtain ⟨g0, g1, g2, g3, g4⟩ := cells5 hgq
        obtain ⟨z0, z1, z2, z3, z4⟩ := cells5 hrz
        have zf := fun j => frozen_of_heap hrz j
        clear hgi hgq hca hrz hu hity lgi lgq
        go_wp2_with fail
        go_region
        all_goals
          go_wp2
          refine bodyPost_ret (results_tmp_cell rfl _ _ (W.heap.size + 1) 31 #[.int .i64 rf, .int .u32 r0, .int .u32 r1, .int .u32 r2, .int .u32 r3] (0, 0) _ _ rfl rfl ?hg Try.underlying31 rfl (info_res _ _ _ _ _)) rfl ⟨?hp, ?he⟩
          case hg =>
            repeat (first | (with_reducible apply heap_drewS) | (with_reducible apply heap_set2))
            all_goals first | (with_reducible exact HRZ.out) | rfl
          case hp => exact HU.out.then ((Upd.refl [W.heap.size + 1] _).drew.setCell (by simp) _ |>.setCell (by simp) _ |>.setCell (by simp) _ |>.setCell (by simp) _ |>.setCell (by simp) _) (fun k hk => .inr (by simp at hk; omega))
          case he => exact ⟨none, 0, rfl⟩
      · obtain ⟨ii, hii, hz0, hz1, hz2⟩ := info_parts info_item15
        have hib : ii.bytes * sn ≤ 281474976710656 := by rw [hz2]; have := HCAP.out; omega
        have hsl : sn ≤ 9223372036854775807 := by have := HCAP.out; omega
        have c1 : wc.cell? ⟨W.heap.size, 1, none⟩ = some (.int .i64 (i : Int)) := by rw [cell_of_heap hca]; rfl
        have HL := Lib.hid (And.intro hib hsl)
        clear hgi hgq hca hrz hu hity lgi lgq hib hsl
        have lC : W.heap.size < wc.heap.size := heap_lt HCA.out
        have lQ : W.heap.size + 1 < wc.heap.size := heap_lt HRZ.out
        have HNEW := Lib.hid (heap_alloc_new wc (.cells (madeCells #[.int .i64 0, .int .i64 0, .int .i64 0, .int .i64 0, .int .i64 0, .int .i64 0, .int .u32 0, .int .u32 0, .int .u32 0, .int .u32 0, .slice none 0 0, .int .u32 0, .int .u32 0, .int .u32 0, .int .u32 0] (sn * 15)) 112))
        have HN1 := Lib.hid (show (rs.flatMap IL.cells).length = Nat.min sn sn * 15 from by rw [flatIL_len, HRN.out]; simp)
        have HFIT := Lib.hid (show (rs.flatMap IL.cells).length ≤ (madeCells #[.int .i64 0, .int .i64 0, .int .i64 0, .int .i64 0, .int .i64 0, .int .i64 0, .int .u32 0, .int .u32 0, .int .u32 0, .int .u32 0, .slice none 0 0, .int .u32 0, .int .u32 0, .int .u32 0, .int .u32 0] (sn * 15)).size from by rw [flatIL_len, HRN.out, size_madeCells]; exact Nat.le_refl _)
        have HONE := Lib.hid (show ∀ v ∈ rs.flatMap IL.cells, v.oneCell' = true from fun v hv => by
          obtain ⟨r, _, hr⟩ := List.mem_flatMap.1 hv
          exact il_one r v hr)
        have HSRC := Lib.hid (show ∀ j v, (rs.flatMap IL.cells)[j]? = some v → (wc.alloc (.cells (madeCells #[.int .i64 0, .int .i64 0, .int .i64 0, .int .i64 0, .int .i64 0, .int .i64 0, .int .u32 0, .int .u32 0, .int .u32 0, .int .u32 0, .slice none 0 0, .int .u32 0, .int .u32 0, .int .u32 0, .int .u32 0] (sn * 15)) 112)).cell? ((⟨sb, so, none⟩ : Addr).add j) = some v from fun j v hj => by
          rw [Addr.add_mid]
          exact cell_allocE ((HU.out.cell (p := ⟨sb, so + j, none⟩) HBL.out (by simp)).trans (HRS.out j v hj)))
        have HONE2 := Lib.hid (show (#[.int .i64 k, .int .i64 cap, .int .i64 wd, .int .i64 rt, .int .i64 f, .int .i64 t, .int .u32 i0, .int .u32 i1, .int .u32 i2, .int .u32 i3, .slice rb yrow.length rd, .int .u32 y0, .int .u32 y1, .int .u32 y2, .int .u32 y3] : Array Value).all (·.oneCell') = true from by simp [Value.oneCell'])
        have INF := Lib.hid (show (Try.prog.info? 112).map (·.size) = some 15 from by kernel_rfl)
        go_wp2_with (first
          | (refine wpList_make rfl 33 _ _ rfl 112 ii _ Try.underlying33 hii hz0 15 #[.int .i64 0, .int .i64 0, .int .i64 0, .int .i64 0, .int .i64 0, .int .i64 0, .int .u32 0, .int .u32 0, .int .u32 0, .int .u32 0, .slice none 0 0, .int .u32 0, .int .u32 0, .int .u32 0, .int .u32 0] hz1 rfl sn rfl rfl HL.out.1 HL.out.2 ?_)
          | (refine wpList_copy_wide rfl _ _ 33 33 rfl 112 15 Try.underlying33 INF.out wc.heap.size sn sn ⟨sb, so, none⟩ sn sc rfl rfl _ _ HNEW.out _ HN1.out HSRC.out HFIT.out HONE.out ?_
             have hg4 := setRow_heap _ _ _ ((rs.flatMap IL.cells) ++ (madeCells #[.int .i64 0, .int .i64 0, .int .i64 0, .int .i64 0, .int .i64 0, .int .i64 0, .int .u32 0, .int .u32 0, .int .u32 0, .int .u32 0, .slice none 0 0, .int .u32 0, .int .u32 0, .int .u32 0, .int .u32 0] (sn * 15)).toList.drop (rs.flatMap IL.cells).length).toArray _ _ HNEW.out
             have hu4 : Upd [] wc ((wc.alloc (.cells (madeCells #[.int .i64 0, .int .i64 0, .int .i64 0, .int .i64 0, .int .i64 0, .int .i64 0, .int .u32 0, .int .u32 0, .int .u32 0, .int .u32 0, .slice none 0 0, .int .u32 0, .int .u32 0, .int .u32 0, .int .u32 0] (sn * 15)) 112)).setRow wc.heap.size ((rs.flatMap IL.cells) ++ (madeCells #[.int .i64 0, .int .i64 0, .int .i64 0, .int .i64 0, .int .i64 0, .int .i64 0, .int .u32 0, .int .u32 0, .int .u32 0, .int .u32 0, .slice none 0 0, .int .u32 0, .int .u32 0, .int .u32 0, .int .u32 0] (sn * 15)).toList.drop (rs.flatMap IL.cells).length).toArray) := ((Upd.refl [] wc).alloc _).then (upd_setRow _ _ _) (fun k hk => .inr (by simp at hk; omega))
             rw [show (madeCells #[.int .i64 0, .int .i64 0, .int .i64 0, .int .i64 0, .int .i64 0, .int .i64 0, .int .u32 0, .int .u32 0, .int .u32 0, .int .u32 0, .slice none 0 0, .int .u32 0, .int .u32 0, .int .u32 0, .int .u32 0] (sn * 15)).toList.drop (rs.flatMap IL.cells).length = [] from by rw [List.drop_eq_nil_iff, Array.length_toList, size_madeCells, HN1.out]; simp, List.append_nil] at hg4 hu4 ⊢
             generalize (wc.alloc (.cells (madeCells #[.int .i64 0, .int .i64 0, .int .i64 0, .int .i64 0, .int .i64 0, .int .i64 0, .int .u32 0, .int .u32 0, .int .u32 0, .int .u32 0, .slice none 0 0, .int .u32 0, .int .u32 0, .int .u32 0, .int .u32 0] (sn * 15)) 112)).setRow wc.heap.size (rs.flatMap IL.cells).toArray = w4 at hg4 hu4 ⊢
             have c1 := (hu4.cell (p := ⟨W.heap.size, 1, none⟩) lC (by simp)).trans c1
             have HGI4 := Lib.hid (hu4.keepb HGI.out (by simp))
             have HRZ4 := Lib.hid (hu4.keepb HRZ.out (by simp))
             have HGQ4 := Lib.hid (hu4.keepb HGQ.out (by simp))
             have HG4 := Lib.hid hg4
             have HU4 := Lib.hid hu4
             clear hg4 hu4)
          | (refine wpList_load_row rfl 112 _ rfl gi rfl _ _ (0, 0) _ HGI4.out Try.underlying112 rfl (info_it _ _ _ _ _ _ _ _ _ _ _ _ _ _ _) ?_)
          | (refine wpList_store_mid rfl 112 _ _ rfl _ _ _ rfl rfl ?t1 ?t2 ?t3 ?t4; rotate_left 3; refine Hid.out ?_))
        case t1 =>
          refine there_of_heap HG4.out ?_
          show i * 15 + 15 ≤ (rs.flatMap IL.cells).toArray.size
          rw [List.size_toArray, flatIL_len, HRN.out]
          have := HI.out
          omega
        case t2 => exact info_it _ _ _ _ _ _ _ _ _ _ _ _ _ _ _
        case t3 => exact HONE2.out
        refine Lib.hid ?_
        have hu5 := upd_setCells wc.heap.size [.int .i64 k, .int .i64 cap, .int .i64 wd, .int .i64 rt, .int .i64 f, .int .i64 t, .int .u32 i0, .int .u32 i1, .int .u32 i2, .int .u32 i3, .slice rb yrow.length rd, .int .u32 y0, .int .u32 y1, .int .u32 y2, .int .u32 y3] (i * 15) w4
        generalize hw5 : w4.setCells wc.heap.size (i * 15) [.int .i64 k, .int .i64 cap, .int .i64 wd, .int .i64 rt, .int .i64 f, .int .i64 t, .int .u32 i0, .int .u32 i1, .int .u32 i2, .int .u32 i3, .slice rb yrow.length rd, .int .u32 y0, .int .u32 y1, .int .u32 y2, .int .u32 y3] = w5 at hu5 ⊢
        have hrz5 := hu5.keepb HRZ4.out (by simp; omega)
        have hgq5 := hu5.keepb HGQ4.out (by have := heap_lt HGQ.out; simp; omega)
        have HU5 := Lib.hid (HU4.out.then hu5 (fun k hk => .inr (by simp at hk; omega)))
        have HRZ5 := Lib.hid hrz5
        have HW5 := Lib.hid hw5
        obtain ⟨g0, g1, g2, g3, g4⟩ := cells5 hgq5
        obtain ⟨z0, z1, z2, z3, z4⟩ := cells5 hrz5
        have zf := fun j => frozen_of_heap hrz5 j
        clear hu5 hrz5 hgq5 hw5
        go_wp2_with fail
        go_region
        all_goals
          go_wp2
          refine bodyPost_ret (results_tmp_cell rfl _ _ (W.heap.size + 1) 31 #[.int .i64 rf, .int .u32 r0, .int .u32 r1, .int .u32 r2, .int .u32 r3] (0, 0) _ _ rfl rfl ?hg Try.underlying31 rfl (info_res _ _ _ _ _)) rfl ?hp
          case hg =>
            repeat (first | (with_reducible apply heap_drewS) | (with_reducible apply heap_set2))
            all_goals first | (with_reducible exact HRZ5.out) | rfl
          case hp =>
            refine do_end2 (w4 := w4) (w5 := w5) (Q := W.heap.size + 1) (y := y) (rb := rb) (rd := rd) (t := 112) ?hf (by omega) (by omega) HU.out HU5.out (by rw [HRN.out]; exact HI.out) HIT.out HITY.out HYQ.out HG4.out (by rw [HYC.out]; exact HW5.out)
            case hf => repeat (first | (with_reducible exact Upd.refl _ _) | (with_reducible apply Upd.drew) | (with_reducible refine Upd.setB ?_ (by simp)))
end
end Go.Proofs.Ytdbgnnkbcebpcaa
