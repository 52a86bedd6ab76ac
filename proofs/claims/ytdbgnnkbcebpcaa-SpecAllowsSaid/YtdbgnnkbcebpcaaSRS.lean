/- Merged: SR11 SR12 (merge.py). -/
import Derived.Test.YtdbgnnkbcebpcaaSR10
set_option linter.unusedVariables false
set_option linter.unusedSimpArgs false
namespace Go.Proofs.Ytdbgnnkbcebpcaa
open Go.RowKit
theorem info_itL (a b c d e f g h i j k l m n o : Value) : (Try.prog.info? 112).map (·.size) = some ([a, b, c, d, e, f, g, h, i, j, k, l, m, n, o] : List Value).length := by kernel_rfl
section
variable {w : World} {sa : Option Addr} {rs : List IL}
set_option maxRecDepth 100000 in
set_option maxHeartbeats 8000000 in
theorem rback_c (sc : Nat) (h : SRel w sa rs) (hn : rs.length ≤ 1000) :
    Calls Try.prog 15 #[.slice sa rs.length sc] w fun e w' => Upd [] w w' ∧ ∃ va vc, e = .returned (.slice va rs.length vc) ∧ SRel w' va rs := by
  have HE := Lib.hid h
  have HL := Lib.hid hn
  obtain ⟨ii, hii, hz0, hz1, hz2⟩ := info_parts info_ritem
  have HZ := Lib.hid (And.intro hii (And.intro hz0 (And.intro hz1 hz2)))
  clear h hn hii hz0 hz1 hz2
  go_enter Try.func15, Try.ntmps15
  go_wp2
  go_loopg [3, 4] rs.length (fun n s3 s4 wr => ∃ (j : Nat), n + j = rs.length ∧ s4 = .int .i64 j ∧ wr.ownsRow w.heap.size 114 15 s3 j ((rs.take j).flatMap IL.cells) ∧ Upd [] w wr)
  case atStart => exact ⟨0, by omega, rfl, own_none, Upd.refl _ _⟩
  case round =>
    obtain ⟨j, hj, rfl, hown, hu⟩ := hrel
    have HJ := Lib.hid hj
    have HOWN := Lib.hid hown
    have HU := Lib.hid hu
    clear hown hu
    have hl0 := HL.out
    by_cases hlt : j < rs.length
    · obtain ⟨sb, so, rfl, hb, hc⟩ := els_at HE.out.els hlt
      have HLT := Lib.hid hlt
      have htk : (rs.take (j + 1)).flatMap IL.cells = (rs.take j).flatMap IL.cells ++ rs[j].cells := by rw [List.take_succ_eq_append_getElem hlt, List.flatMap_append]; simp; rfl
      have HTK := Lib.hid htk
      have b1 : (0 : Int) ≤ (j : Int) := by omega
      have b2 : (j : Int) < (rs.length : Int) := by omega
      have HW := Lib.hid (show wrap64 ((j : Int) + 1) = ((j + 1 : Nat) : Int) from wrap_next (by omega) hlt)
      generalize hz : rs[j] = z at *
      obtain ⟨⟨⟨k, cap, wd, rt, f, t, i0, i1, i2, i3⟩, row, ⟨v0, v1, v2, v3⟩⟩, ra, rc⟩ := z
      have HRG := Lib.hid (fun (w1 : World) (h1 : Upd [] wr w1) => show w1.rangeAt sb (so + j * 15) [.int .i64 k, .int .i64 cap, .int .i64 wd, .int .i64 rt, .int .i64 f, .int .i64 t, .int .u32 i0, .int .u32 i1, .int .u32 i2, .int .u32 i3, .slice ra row.length rc, .int .u32 v0, .int .u32 v1, .int .u32 v2, .int .u32 v3] from fun m v hm => ((HU.out.trans h1).cell (p := ⟨sb, so + j * 15 + m, none⟩) hb (by simp)).trans (hc m v hm))
      have g0 := HRG.out wr (Upd.refl _ _) 0 _ rfl
      rw [Nat.add_zero] at g0
      have hbr : sb < wr.heap.size := Nat.lt_of_lt_of_le hb HU.out.size
      obtain ⟨va, vc, rfl, _, _⟩ := own_shape HOWN.out
      clear hz hc hj hlt hb htk
      go_wp2_with (first
        | (refine wpList_load_mid rfl 112 _ rfl sb (so + j * 15) rfl _ _ (HRG.out _ (by repeat (first | (with_reducible exact Upd.refl _ _) | (with_reducible apply Upd.drew) | (with_reducible refine Upd.grE ?_ _) | (with_reducible refine Upd.alloc ?_ _)))) Try.underlying112 rfl (info_itL _ _ _ _ _ _ _ _ _ _ _ _ _ _ _) ?_)
        | (at_builtin; refine Hid.out ?_))
      refine Lib.hid ?_
      refine wpList_push rfl _ _ 35 rfl 114 ii _ 15 104 Try.underlying35 HZ.out.1 HZ.out.2.1 HZ.out.2.2.1 HZ.out.2.2.2 rfl (by decide) w wr w.heap.size _ j _ rfl HOWN.out ?hur HU.out (Nat.le_refl _) HU.out.size
        _ [.int .i64 k, .int .i64 cap, .int .i64 wd, .int .i64 rt, .int .i64 f, .int .i64 t, .int .u32 i0, .int .u32 i1, .int .u32 i2, .int .u32 i3, .slice ra row.length rc, .int .u32 v0, .int .u32 v1, .int .u32 v2, .int .u32 v3] 114 (0, 0) rfl rfl ?hg (fun u hu => by have h2 := ritem_one k cap wd rt f t i0 i1 i2 i3 ra row.length rc v0 v1 v2 v3; exact h2 u hu) (by have := HL.out; have := HLT.out; omega) (by decide) ?_
      case hur => repeat (first | (with_reducible exact Upd.refl _ _) | (with_reducible apply Upd.drew) | (with_reducible refine Upd.grE ?_ _) | (with_reducible refine Upd.alloc ?_ _))
      case hg => repeat (first | ((with_reducible refine heap_alloc_at _ ?_); (simp; done)) | (with_reducible apply heap_drewE) | (with_reducible apply heap_grE) | (with_reducible apply heap_alloc'))
      intro v' w' ho' hu' _
      replace ho' : w'.ownsRow w.heap.size 114 15 v' (j + 1) ((rs.take (j + 1)).flatMap IL.cells) := by rw [HTK.out]; exact ho'
      have HO' := Lib.hid ho'
      have HU' := Lib.hid hu'
      clear ho' hu'
      go_wp2
      go_roundg (rs.length - (j + 1))
      case rel => exact ⟨j + 1, by have := HLT.out; omega, by first | (rw [HW.out]; done) | (simp; done), HO'.out, HU'.out⟩
      case measure => have := HLT.out; have := HJ.out; omega
    · have hd : decide ((j : Int) < (rs.length : Int)) = false := by simp; omega
      obtain rfl : j = rs.length := by omega
      go_wp2
      go_ret
      have ho := HOWN.out
      rw [List.take_length] at ho
      obtain ⟨a, c, e, _, he⟩ := flat_own IL.cells il_len ho rfl
      exact ⟨HU.out, a, c, by rw [e]; rfl, he, fun r hr => (HE.out.items r hr).upd HU.out⟩
end
end Go.Proofs.Ytdbgnnkbcebpcaa
namespace Go.Proofs.Ytdbgnnkbcebpcaa
open Go.RowKit
theorem eqFields_same {P : Program} (w : World) (dd : Nat) (xs : Array Value) : ∀ (fs : List Field), (∀ f ∈ fs, ∃ a, (part f.type xs f.offset).run P w = .ok a w ∧ (Op.equalIn dd f.type a a).run P w = .ok true w) → (Op.eqFields dd xs xs fs).run P w = .ok true w
  | [], _ => by simp [Op.eqFields]
  | f :: fs, h => by
    obtain ⟨a, p1, p3⟩ := h f (by simp)
    have ih := eqFields_same w dd xs fs (fun g hg => h g (by simp [hg]))
    by_cases hn : f.name = "_"
    · simp [Op.eqFields, hn, ih]
    · simp [Op.eqFields, hn, Sem.run_bind, p1, p3, Result.andThen_ok, ih]
theorem neq_obj (w : World) (k cap wd rt f t i0 i1 i2 i3 : Int) : (binOp .neq 109 (.agg #[.int .i64 k, .int .i64 cap, .int .i64 wd, .int .i64 rt, .int .i64 f, .int .i64 t, .int .u32 i0, .int .u32 i1, .int .u32 i2, .int .u32 i3]) (.agg #[.int .i64 k, .int .i64 cap, .int .i64 wd, .int .i64 rt, .int .i64 f, .int .i64 t, .int .u32 i0, .int .u32 i1, .int .u32 i2, .int .u32 i3])).run Try.prog w = .ok (.bool false) w := by
  have hu : Try.prog.underlying 109 = some (.struct (Try.prog.fieldsOf 109)) := by kernel_rfl
  have hv := eq_value 9997 w i0 i1 i2 i3 i0 i1 i2 i3
  have hi : ∀ (x : Int), (Op.equalIn 9999 3 (.int .i64 x) (.int .i64 x)).run Try.prog w = .ok true w := fun x => by rw [run_equalIn_int w 9998 _ .i64 .i64 x x Try.underlying3]; simp
  have hf : (Try.prog.fieldsOf 109).toList.map (fun g => (g.type, g.offset)) = [(3, 0), (3, 1), (3, 2), (3, 3), (3, 4), (3, 5), (26, 6)] := by kernel_rfl
  have he := run_equalIn_struct (P := Try.prog) w 9999 109 #[.int .i64 k, .int .i64 cap, .int .i64 wd, .int .i64 rt, .int .i64 f, .int .i64 t, .int .u32 i0, .int .u32 i1, .int .u32 i2, .int .u32 i3] #[.int .i64 k, .int .i64 cap, .int .i64 wd, .int .i64 rt, .int .i64 f, .int .i64 t, .int .u32 i0, .int .u32 i1, .int .u32 i2, .int .u32 i3] hu (by kernel_rfl)
  refine (run_neq_struct w _ _ _).trans ?_
  refine (congrArg (fun r => Result.andThen r _) he).trans ?_
  clear he hu
  have hs := eqFields_same (P := Try.prog) w 9999 #[.int .i64 k, .int .i64 cap, .int .i64 wd, .int .i64 rt, .int .i64 f, .int .i64 t, .int .u32 i0, .int .u32 i1, .int .u32 i2, .int .u32 i3] (Try.prog.fieldsOf 109).toList (fun g hg => by
    have hm : (g.type, g.offset) ∈ [(3, 0), (3, 1), (3, 2), (3, 3), (3, 4), (3, 5), (26, 6)] := by rw [← hf]; exact List.mem_map_of_mem hg
    simp only [List.mem_cons, Prod.mk.injEq, List.not_mem_nil, or_false] at hm
    rcases hm with ⟨e1, e2⟩ | ⟨e1, e2⟩ | ⟨e1, e2⟩ | ⟨e1, e2⟩ | ⟨e1, e2⟩ | ⟨e1, e2⟩ | ⟨e1, e2⟩ <;> rw [e1, e2]
    · exact ⟨.int .i64 k, by kernel_rfl, hi k⟩
    · exact ⟨.int .i64 cap, by kernel_rfl, hi cap⟩
    · exact ⟨.int .i64 wd, by kernel_rfl, hi wd⟩
    · exact ⟨.int .i64 rt, by kernel_rfl, hi rt⟩
    · exact ⟨.int .i64 f, by kernel_rfl, hi f⟩
    · exact ⟨.int .i64 t, by kernel_rfl, hi t⟩
    · exact ⟨.agg #[.int .u32 i0, .int .u32 i1, .int .u32 i2, .int .u32 i3], by kernel_rfl, by rw [hv]; simp⟩)
  refine (congrArg (fun r => Result.andThen r _) hs).trans ?_
  simp [Result.andThen]
theorem neq_val (w : World) (a b c d : Int) : (binOp .neq 26 (.agg #[.int .u32 a, .int .u32 b, .int .u32 c, .int .u32 d]) (.agg #[.int .u32 a, .int .u32 b, .int .u32 c, .int .u32 d])).run Try.prog w = .ok (.bool false) w := by
  refine (run_neq_struct w _ _ _).trans ?_
  rw [eq_value 9998]
  simp [Result.andThen]
section
variable {w : World} {sa ta : Option Addr} {rs rt : List IL}
set_option maxRecDepth 100000 in
set_option maxHeartbeats 8000000 in
theorem rsame_c (sc tc : Nat) (h : SRel w sa rs) (g : SRel w ta rt) (he : rs.map (·.x) = rt.map (·.x)) (hn : rs.length ≤ 1000) (hrw : ∀ r ∈ rs, r.x.row.length ≤ 64) :
    Calls Try.prog 14 #[.slice sa rs.length sc, .slice ta rt.length tc] w fun e w' => Upd [] w w' ∧ e = .returned (.bool true) := by
  have hlen : rt.length = rs.length := by have := congrArg List.length he; simpa using this.symm
  rw [hlen]
  have HLEN := Lib.hid hlen
  have HEQ := Lib.hid (show ∀ (j : Nat) (h1 : j < rs.length) (h2 : j < rt.length), rt[j].x = rs[j].x from fun j h1 h2 => by
    have h3 : (rs.map (·.x))[j]? = (rt.map (·.x))[j]? := by rw [he]
    rw [List.getElem?_map, List.getElem?_map, List.getElem?_eq_getElem h1, List.getElem?_eq_getElem h2] at h3
    simpa using h3.symm)
  have HE := Lib.hid h
  have HF := Lib.hid g
  have HL := Lib.hid hn
  have HRW := Lib.hid hrw
  have qO := fun w k cap wd rt f t i0 i1 i2 i3 => neq_obj w k cap wd rt f t i0 i1 i2 i3
  have qV := fun w a b c d => neq_val w a b c d
  clear h g he hn hrw hlen
  go_enter Try.func14, Try.ntmps14
  go_wp2
  go_loopg [5] rs.length (fun n s5 wr => ∃ (j : Nat), n + j = rs.length ∧ s5 = .int .i64 j ∧ Upd [] w wr)
  case atStart => exact ⟨0, by omega, rfl, Upd.refl _ _⟩
  case round =>
    obtain ⟨j, hj, rfl, hu⟩ := hrel
    have HJ := Lib.hid hj
    have HU := Lib.hid hu
    clear hu
    have hl0 := HL.out
    by_cases hlt : j < rs.length
    · have hlt2 : j < rt.length := by have := HLEN.out; omega
      obtain ⟨sb, so, rfl, hb, hc⟩ := els_at HE.out.els hlt
      obtain ⟨tb, tq, rfl, hb2, hc2⟩ := els_at HF.out.els hlt2
      have HIT := Lib.hid (HE.out.items rs[j] (List.getElem_mem hlt))
      have HIT2 := Lib.hid (HF.out.items rt[j] (List.getElem_mem hlt2))
      have HRL := Lib.hid (HRW.out rs[j] (List.getElem_mem hlt))
      have HLT := Lib.hid hlt
      have hxe := HEQ.out j hlt hlt2
      have b1 : (0 : Int) ≤ (j : Int) := by omega
      have b2 : (j : Int) < (rs.length : Int) := by omega
      have HW := Lib.hid (show wrap64 ((j : Int) + 1) = ((j + 1 : Nat) : Int) from wrap_next (by omega) hlt)
      generalize hz : rs[j] = z at *
      generalize hy : rt[j] = y at *
      obtain ⟨y, ra2, rc2⟩ := y
      obtain ⟨⟨⟨k, cap, wd, rt', f, t, i0, i1, i2, i3⟩, row, ⟨v0, v1, v2, v3⟩⟩, ra, rc⟩ := z
      simp only at hxe
      subst hxe
      have HRG := Lib.hid (fun (w1 : World) (h1 : Upd [] w w1) m v hm => (h1.cell (p := ⟨sb, so + j * 15 + m, none⟩) hb (by simp)).trans (hc m v hm))
      have HRG2 := Lib.hid (fun (w1 : World) (h1 : Upd [] w w1) m v hm => (h1.cell (p := ⟨tb, tq + j * 15 + m, none⟩) hb2 (by simp)).trans (hc2 m v hm))
      have T10 : ∀ w1 : World, Upd [] w w1 → w1.cell? ⟨sb, so + j * 15 + 10, none⟩ = some (.slice ra row.length rc) := fun w1 h1 => HRG.out w1 h1 10 _ rfl
      have Y10 : ∀ w1 : World, Upd [] w w1 → w1.cell? ⟨tb, tq + j * 15 + 10, none⟩ = some (.slice ra2 row.length rc2) := fun w1 h1 => HRG2.out w1 h1 10 _ rfl
      have hbr : sb < wr.heap.size := Nat.lt_of_lt_of_le hb HU.out.size
      have hbr2 : tb < wr.heap.size := Nat.lt_of_lt_of_le hb2 HU.out.size
      clear hz hy hc hc2 hj hlt hb hb2 hlt2
      go_wp2_with fail
      refine wp_region_held_drew (S := fun w1 => Upd [] w w1) (by kernel_rfl) ?_ (fun hHeld => ?_)
      · exact HU.out.drew
      refine wpAnyH_take (i := 0) (oi := { dst := some 18, op := Op.move (Operand.tmp 0), type := 35, pos := "ref.go:127", after := #[], guard := none }) (v := .slice (some ⟨sb, so, none⟩) rs.length sc) rfl (by kernel_rfl) (by kernel_rfl) (by kernel_rfl) (fun _ _ _ h => h) (Or.inl ⟨by rfl, ?_⟩) hHeld ?_
      · intro w1 hSw
        (try dsimp only at hSw)
        go_simp
      (try simp only [Act.put, List.setIfInBounds_toArray, List.set_cons_zero, List.set_cons_succ])
      refine wpAnyH_take (i := 1) (oi := { dst := some 19, op := Op.move (Operand.tmp 5), type := 3, pos := "ref.go:127", after := #[], guard := none }) (v := .int .i64 j) rfl (by kernel_rfl) (by kernel_rfl) (by kernel_rfl) (fun _ _ _ h => h) (Or.inl ⟨by rfl, ?_⟩) hHeld ?_
      · intro w1 hSw
        (try dsimp only at hSw)
        go_simp
      (try simp only [Act.put, List.setIfInBounds_toArray, List.set_cons_zero, List.set_cons_succ])
      refine wpAnyH_take (i := 2) (oi := { dst := some 20, op := Op.indexAddr 35 (Operand.tmp 18) (Operand.tmp 19), type := 0, pos := "ref.go:127", after := #[{ on := 0, ground := Ground.data }, { on := 1, ground := Ground.data }], guard := none }) (v := .pointer (some ⟨sb, so + j * 15, none⟩)) rfl (by kernel_rfl) (by kernel_rfl) (by kernel_rfl) (fun _ _ _ h => h) (Or.inl ⟨by rfl, ?_⟩) hHeld ?_
      · intro w1 hSw
        (try dsimp only at hSw)
        go_simp
      (try simp only [Act.put, List.setIfInBounds_toArray, List.set_cons_zero, List.set_cons_succ])
      refine wpAnyH_take (i := 3) (oi := { dst := some 21, op := Op.fieldAddr 114 (Operand.tmp 20) 0, type := 0, pos := "ref.go:127", after := #[{ on := 2, ground := Ground.data }], guard := none }) (v := .pointer (some ⟨sb, so + j * 15, none⟩)) rfl (by kernel_rfl) (by kernel_rfl) (by kernel_rfl) (fun _ _ _ h => h) (Or.inl ⟨by rfl, ?_⟩) hHeld ?_
      · intro w1 hSw
        (try dsimp only at hSw)
        go_simp
      (try simp only [Act.put, List.setIfInBounds_toArray, List.set_cons_zero, List.set_cons_succ])
      refine wpAnyH_take (i := 4) (oi := { dst := some 22, op := Op.load 109 (Operand.tmp 21), type := 109, pos := "ref.go:127", after := #[{ on := 3, ground := Ground.data }], guard := none }) (v := .agg [.int .i64 k, .int .i64 cap, .int .i64 wd, .int .i64 rt', .int .i64 f, .int .i64 t, .int .u32 i0, .int .u32 i1, .int .u32 i2, .int .u32 i3].toArray) rfl (by kernel_rfl) (by kernel_rfl) (by kernel_rfl) (fun _ _ _ h => h) (yieldsIf_load_mid (by rfl) 109 _ rfl sb (so + j * 15) rfl [.int .i64 k, .int .i64 cap, .int .i64 wd, .int .i64 rt', .int .i64 f, .int .i64 t, .int .u32 i0, .int .u32 i1, .int .u32 i2, .int .u32 i3] _ (fun w1 h m v hm => HRG.out w1 h m v (ten_of_item hm)) Try.underlying109 rfl (info_obj _ _ _ _ _ _ _ _ _ _)) hHeld ?_
      (try simp only [Act.put, List.setIfInBounds_toArray, List.set_cons_zero, List.set_cons_succ])
      refine wpAnyH_take (i := 5) (oi := { dst := some 23, op := Op.move (Operand.tmp 1), type := 35, pos := "ref.go:127", after := #[], guard := none }) (v := .slice (some ⟨tb, tq, none⟩) rs.length tc) rfl (by kernel_rfl) (by kernel_rfl) (by kernel_rfl) (fun _ _ _ h => h) (Or.inl ⟨by rfl, ?_⟩) hHeld ?_
      · intro w1 hSw
        (try dsimp only at hSw)
        go_simp
      (try simp only [Act.put, List.setIfInBounds_toArray, List.set_cons_zero, List.set_cons_succ])
      refine wpAnyH_take (i := 6) (oi := { dst := some 24, op := Op.move (Operand.tmp 5), type := 3, pos := "ref.go:127", after := #[], guard := none }) (v := .int .i64 j) rfl (by kernel_rfl) (by kernel_rfl) (by kernel_rfl) (fun _ _ _ h => h) (Or.inl ⟨by rfl, ?_⟩) hHeld ?_
      · intro w1 hSw
        (try dsimp only at hSw)
        go_simp
      (try simp only [Act.put, List.setIfInBounds_toArray, List.set_cons_zero, List.set_cons_succ])
      refine wpAnyH_take (i := 7) (oi := { dst := some 25, op := Op.indexAddr 35 (Operand.tmp 23) (Operand.tmp 24), type := 0, pos := "ref.go:127", after := #[{ on := 5, ground := Ground.data }, { on := 6, ground := Ground.data }], guard := none }) (v := .pointer (some ⟨tb, tq + j * 15, none⟩)) rfl (by kernel_rfl) (by kernel_rfl) (by kernel_rfl) (fun _ _ _ h => h) (Or.inl ⟨by rfl, ?_⟩) hHeld ?_
      · intro w1 hSw
        (try dsimp only at hSw)
        go_simp
      (try simp only [Act.put, List.setIfInBounds_toArray, List.set_cons_zero, List.set_cons_succ])
      refine wpAnyH_take (i := 8) (oi := { dst := some 26, op := Op.fieldAddr 114 (Operand.tmp 25) 0, type := 0, pos := "ref.go:127", after := #[{ on := 7, ground := Ground.data }], guard := none }) (v := .pointer (some ⟨tb, tq + j * 15, none⟩)) rfl (by kernel_rfl) (by kernel_rfl) (by kernel_rfl) (fun _ _ _ h => h) (Or.inl ⟨by rfl, ?_⟩) hHeld ?_
      · intro w1 hSw
        (try dsimp only at hSw)
        go_simp
      (try simp only [Act.put, List.setIfInBounds_toArray, List.set_cons_zero, List.set_cons_succ])
      refine wpAnyH_take (i := 9) (oi := { dst := some 27, op := Op.load 109 (Operand.tmp 26), type := 109, pos := "ref.go:127", after := #[{ on := 8, ground := Ground.data }], guard := none }) (v := .agg [.int .i64 k, .int .i64 cap, .int .i64 wd, .int .i64 rt', .int .i64 f, .int .i64 t, .int .u32 i0, .int .u32 i1, .int .u32 i2, .int .u32 i3].toArray) rfl (by kernel_rfl) (by kernel_rfl) (by kernel_rfl) (fun _ _ _ h => h) (yieldsIf_load_mid (by rfl) 109 _ rfl tb (tq + j * 15) rfl [.int .i64 k, .int .i64 cap, .int .i64 wd, .int .i64 rt', .int .i64 f, .int .i64 t, .int .u32 i0, .int .u32 i1, .int .u32 i2, .int .u32 i3] _ (fun w1 h m v hm => HRG2.out w1 h m v (ten_of_item hm)) Try.underlying109 rfl (info_obj _ _ _ _ _ _ _ _ _ _)) hHeld ?_
      (try simp only [Act.put, List.setIfInBounds_toArray, List.set_cons_zero, List.set_cons_succ])
      refine wpAnyH_take (i := 10) (oi := { dst := some 28, op := Op.binOp BinOp.neq 109 (Operand.tmp 22) (Operand.tmp 27) 109, type := 4, pos := "ref.go:127", after := #[{ on := 4, ground := Ground.data }, { on := 9, ground := Ground.data }], guard := none }) (v := .bool false) rfl (by kernel_rfl) (by kernel_rfl) (by kernel_rfl) (fun _ _ _ h => h) (Or.inl ⟨by rfl, ?_⟩) hHeld ?_
      · intro w1 hSw
        (try dsimp only at hSw)
        go_simp
      (try simp only [Act.put, List.setIfInBounds_toArray, List.set_cons_zero, List.set_cons_succ])
      refine wpAnyH_take (i := 11) (oi := { dst := some 29, op := Op.move (Operand.tmp 28), type := 4, pos := "ref.go:127", after := #[{ on := 10, ground := Ground.data }], guard := none }) (v := .bool false) rfl (by kernel_rfl) (by kernel_rfl) (by kernel_rfl) (fun _ _ _ h => h) (Or.inl ⟨by rfl, ?_⟩) hHeld ?_
      · intro w1 hSw
        (try dsimp only at hSw)
        go_simp
      (try simp only [Act.put, List.setIfInBounds_toArray, List.set_cons_zero, List.set_cons_succ])
      refine wpAnyH_take (i := 12) (oi := { dst := some 30, op := Op.move (Operand.tmp 0), type := 35, pos := "ref.go:127", after := #[{ on := 11, ground := Ground.guard }], guard := some (11, false) }) (v := .slice (some ⟨sb, so, none⟩) rs.length sc) rfl (by kernel_rfl) (by kernel_rfl) (by kernel_rfl) (fun _ _ _ h => h) (Or.inl ⟨by rfl, ?_⟩) hHeld ?_
      · intro w1 hSw
        (try dsimp only at hSw)
        go_simp
      (try simp only [Act.put, List.setIfInBounds_toArray, List.set_cons_zero, List.set_cons_succ])
      refine wpAnyH_take (i := 13) (oi := { dst := some 31, op := Op.move (Operand.tmp 5), type := 3, pos := "ref.go:127", after := #[{ on := 11, ground := Ground.guard }], guard := some (11, false) }) (v := .int .i64 j) rfl (by kernel_rfl) (by kernel_rfl) (by kernel_rfl) (fun _ _ _ h => h) (Or.inl ⟨by rfl, ?_⟩) hHeld ?_
      · intro w1 hSw
        (try dsimp only at hSw)
        go_simp
      (try simp only [Act.put, List.setIfInBounds_toArray, List.set_cons_zero, List.set_cons_succ])
      refine wpAnyH_take (i := 14) (oi := { dst := some 32, op := Op.indexAddr 35 (Operand.tmp 30) (Operand.tmp 31), type := 0, pos := "ref.go:127", after := #[{ on := 12, ground := Ground.data }, { on := 13, ground := Ground.data }, { on := 11, ground := Ground.guard }], guard := some (11, false) }) (v := .pointer (some ⟨sb, so + j * 15, none⟩)) rfl (by kernel_rfl) (by kernel_rfl) (by kernel_rfl) (fun _ _ _ h => h) (Or.inl ⟨by rfl, ?_⟩) hHeld ?_
      · intro w1 hSw
        (try dsimp only at hSw)
        go_simp
      (try simp only [Act.put, List.setIfInBounds_toArray, List.set_cons_zero, List.set_cons_succ])
      refine wpAnyH_take (i := 15) (oi := { dst := some 33, op := Op.fieldAddr 114 (Operand.tmp 32) 2, type := 0, pos := "ref.go:127", after := #[{ on := 14, ground := Ground.data }, { on := 11, ground := Ground.guard }], guard := some (11, false) }) (v := .pointer (some ⟨sb, so + j * 15 + 11, none⟩)) rfl (by kernel_rfl) (by kernel_rfl) (by kernel_rfl) (fun _ _ _ h => h) (Or.inl ⟨by rfl, ?_⟩) hHeld ?_
      · intro w1 hSw
        (try dsimp only at hSw)
        go_simp
      (try simp only [Act.put, List.setIfInBounds_toArray, List.set_cons_zero, List.set_cons_succ])
      refine wpAnyH_take (i := 16) (oi := { dst := some 34, op := Op.load 26 (Operand.tmp 33), type := 26, pos := "ref.go:127", after := #[{ on := 15, ground := Ground.data }, { on := 11, ground := Ground.guard }], guard := some (11, false) }) (v := .agg [.int .u32 v0, .int .u32 v1, .int .u32 v2, .int .u32 v3].toArray) rfl (by kernel_rfl) (by kernel_rfl) (by kernel_rfl) (fun _ _ _ h => h) (yieldsIf_load_mid (by rfl) 26 _ rfl sb (so + j * 15 + 11) rfl [.int .u32 v0, .int .u32 v1, .int .u32 v2, .int .u32 v3] _ (fun w1 h m v hm => by rw [Nat.add_assoc]; exact HRG.out w1 h (11 + m) v (four_of_item hm)) Try.underlying26 rfl (info_v4L _ _ _ _)) hHeld ?_
      (try simp only [Act.put, List.setIfInBounds_toArray, List.set_cons_zero, List.set_cons_succ])
      refine wpAnyH_take (i := 17) (oi := { dst := some 35, op := Op.move (Operand.tmp 1), type := 35, pos := "ref.go:127", after := #[{ on := 11, ground := Ground.guard }], guard := some (11, false) }) (v := .slice (some ⟨tb, tq, none⟩) rs.length tc) rfl (by kernel_rfl) (by kernel_rfl) (by kernel_rfl) (fun _ _ _ h => h) (Or.inl ⟨by rfl, ?_⟩) hHeld ?_
      · intro w1 hSw
        (try dsimp only at hSw)
        go_simp
      (try simp only [Act.put, List.setIfInBounds_toArray, List.set_cons_zero, List.set_cons_succ])
      refine wpAnyH_take (i := 18) (oi := { dst := some 36, op := Op.move (Operand.tmp 5), type := 3, pos := "ref.go:127", after := #[{ on := 11, ground := Ground.guard }], guard := some (11, false) }) (v := .int .i64 j) rfl (by kernel_rfl) (by kernel_rfl) (by kernel_rfl) (fun _ _ _ h => h) (Or.inl ⟨by rfl, ?_⟩) hHeld ?_
      · intro w1 hSw
        (try dsimp only at hSw)
        go_simp
      (try simp only [Act.put, List.setIfInBounds_toArray, List.set_cons_zero, List.set_cons_succ])
      refine wpAnyH_take (i := 19) (oi := { dst := some 37, op := Op.indexAddr 35 (Operand.tmp 35) (Operand.tmp 36), type := 0, pos := "ref.go:127", after := #[{ on := 17, ground := Ground.data }, { on := 18, ground := Ground.data }, { on := 11, ground := Ground.guard }], guard := some (11, false) }) (v := .pointer (some ⟨tb, tq + j * 15, none⟩)) rfl (by kernel_rfl) (by kernel_rfl) (by kernel_rfl) (fun _ _ _ h => h) (Or.inl ⟨by rfl, ?_⟩) hHeld ?_
      · intro w1 hSw
        (try dsimp only at hSw)
        go_simp
      (try simp only [Act.put, List.setIfInBounds_toArray, List.set_cons_zero, List.set_cons_succ])
      refine wpAnyH_take (i := 20) (oi := { dst := some 38, op := Op.fieldAddr 114 (Operand.tmp 37) 2, type := 0, pos := "ref.go:127", after := #[{ on := 19, ground := Ground.data }, { on := 11, ground := Ground.guard }], guard := some (11, false) }) (v := .pointer (some ⟨tb, tq + j * 15 + 11, none⟩)) rfl (by kernel_rfl) (by kernel_rfl) (by kernel_rfl) (fun _ _ _ h => h) (Or.inl ⟨by rfl, ?_⟩) hHeld ?_
      · intro w1 hSw
        (try dsimp only at hSw)
        go_simp
      (try simp only [Act.put, List.setIfInBounds_toArray, List.set_cons_zero, List.set_cons_succ])
      refine wpAnyH_take (i := 21) (oi := { dst := some 39, op := Op.load 26 (Operand.tmp 38), type := 26, pos := "ref.go:127", after := #[{ on := 20, ground := Ground.data }, { on := 11, ground := Ground.guard }], guard := some (11, false) }) (v := .agg [.int .u32 v0, .int .u32 v1, .int .u32 v2, .int .u32 v3].toArray) rfl (by kernel_rfl) (by kernel_rfl) (by kernel_rfl) (fun _ _ _ h => h) (yieldsIf_load_mid (by rfl) 26 _ rfl tb (tq + j * 15 + 11) rfl [.int .u32 v0, .int .u32 v1, .int .u32 v2, .int .u32 v3] _ (fun w1 h m v hm => by rw [Nat.add_assoc]; exact HRG2.out w1 h (11 + m) v (four_of_item hm)) Try.underlying26 rfl (info_v4L _ _ _ _)) hHeld ?_
      (try simp only [Act.put, List.setIfInBounds_toArray, List.set_cons_zero, List.set_cons_succ])
      refine wpAnyH_take (i := 22) (oi := { dst := some 40, op := Op.binOp BinOp.neq 26 (Operand.tmp 34) (Operand.tmp 39) 26, type := 4, pos := "ref.go:127", after := #[{ on := 16, ground := Ground.data }, { on := 21, ground := Ground.data }, { on := 11, ground := Ground.guard }], guard := some (11, false) }) (v := .bool false) rfl (by kernel_rfl) (by kernel_rfl) (by kernel_rfl) (fun _ _ _ h => h) (Or.inl ⟨by rfl, ?_⟩) hHeld ?_
      · intro w1 hSw
        (try dsimp only at hSw)
        go_simp
      (try simp only [Act.put, List.setIfInBounds_toArray, List.set_cons_zero, List.set_cons_succ])
      refine wpAnyH_take (i := 23) (oi := { dst := some 41, op := Op.pick (Operand.tmp 29) (Operand.const (Value.bool true)) (Operand.tmp 40), type := 4, pos := "ref.go:127", after := #[{ on := 11, ground := Ground.data }, { on := 22, ground := Ground.data }], guard := none }) (v := .bool false) rfl (by kernel_rfl) (by kernel_rfl) (by kernel_rfl) (fun _ _ _ h => h) (Or.inl ⟨by rfl, ?_⟩) hHeld ?_
      · intro w1 hSw
        (try dsimp only at hSw)
        go_simp
      (try simp only [Act.put, List.setIfInBounds_toArray, List.set_cons_zero, List.set_cons_succ])
      refine wpAnyH_take (i := 24) (oi := { dst := some 42, op := Op.move (Operand.tmp 41), type := 4, pos := "ref.go:127", after := #[{ on := 23, ground := Ground.data }, { on := 11, ground := Ground.chain }], guard := none }) (v := .bool false) rfl (by kernel_rfl) (by kernel_rfl) (by kernel_rfl) (fun _ _ _ h => h) (Or.inl ⟨by rfl, ?_⟩) hHeld ?_
      · intro w1 hSw
        (try dsimp only at hSw)
        go_simp
      (try simp only [Act.put, List.setIfInBounds_toArray, List.set_cons_zero, List.set_cons_succ])
      refine wpAnyH_take (i := 25) (oi := { dst := some 43, op := Op.move (Operand.tmp 0), type := 35, pos := "ref.go:127", after := #[{ on := 24, ground := Ground.guard }], guard := some (24, false) }) (v := .slice (some ⟨sb, so, none⟩) rs.length sc) rfl (by kernel_rfl) (by kernel_rfl) (by kernel_rfl) (fun _ _ _ h => h) (Or.inl ⟨by rfl, ?_⟩) hHeld ?_
      · intro w1 hSw
        (try dsimp only at hSw)
        go_simp
      (try simp only [Act.put, List.setIfInBounds_toArray, List.set_cons_zero, List.set_cons_succ])
      refine wpAnyH_take (i := 26) (oi := { dst := some 44, op := Op.move (Operand.tmp 5), type := 3, pos := "ref.go:127", after := #[{ on := 24, ground := Ground.guard }], guard := some (24, false) }) (v := .int .i64 j) rfl (by kernel_rfl) (by kernel_rfl) (by kernel_rfl) (fun _ _ _ h => h) (Or.inl ⟨by rfl, ?_⟩) hHeld ?_
      · intro w1 hSw
        (try dsimp only at hSw)
        go_simp
      (try simp only [Act.put, List.setIfInBounds_toArray, List.set_cons_zero, List.set_cons_succ])
      refine wpAnyH_take (i := 27) (oi := { dst := some 45, op := Op.indexAddr 35 (Operand.tmp 43) (Operand.tmp 44), type := 0, pos := "ref.go:127", after := #[{ on := 25, ground := Ground.data }, { on := 26, ground := Ground.data }, { on := 24, ground := Ground.guard }], guard := some (24, false) }) (v := .pointer (some ⟨sb, so + j * 15, none⟩)) rfl (by kernel_rfl) (by kernel_rfl) (by kernel_rfl) (fun _ _ _ h => h) (Or.inl ⟨by rfl, ?_⟩) hHeld ?_
      · intro w1 hSw
        (try dsimp only at hSw)
        go_simp
      (try simp only [Act.put, List.setIfInBounds_toArray, List.set_cons_zero, List.set_cons_succ])
      refine wpAnyH_take (i := 28) (oi := { dst := some 46, op := Op.fieldAddr 114 (Operand.tmp 45) 1, type := 0, pos := "ref.go:127", after := #[{ on := 27, ground := Ground.data }, { on := 24, ground := Ground.guard }], guard := some (24, false) }) (v := .pointer (some ⟨sb, so + j * 15 + 10, none⟩)) rfl (by kernel_rfl) (by kernel_rfl) (by kernel_rfl) (fun _ _ _ h => h) (Or.inl ⟨by rfl, ?_⟩) hHeld ?_
      · intro w1 hSw
        (try dsimp only at hSw)
        go_simp
      (try simp only [Act.put, List.setIfInBounds_toArray, List.set_cons_zero, List.set_cons_succ])
      refine wpAnyH_take (i := 29) (oi := { dst := some 47, op := Op.load 110 (Operand.tmp 46), type := 110, pos := "ref.go:127", after := #[{ on := 28, ground := Ground.data }, { on := 24, ground := Ground.guard }], guard := some (24, false) }) (v := .slice ra row.length rc) rfl (by kernel_rfl) (by kernel_rfl) (by kernel_rfl) (fun _ _ _ h => h) (Or.inl ⟨by rfl, ?_⟩) hHeld ?_
      · intro w1 hSw
        (try dsimp only at hSw)
        go_simp
      (try simp only [Act.put, List.setIfInBounds_toArray, List.set_cons_zero, List.set_cons_succ])
      refine wpAnyH_take (i := 30) (oi := { dst := some 48, op := Op.call { callee := Callee.builtin Builtin.len, args := #[Operand.tmp 47], argTypes := #[110] }, type := 3, pos := "ref.go:127", after := #[{ on := 29, ground := Ground.data }, { on := 24, ground := Ground.guard }], guard := some (24, false) }) (v := .int .i64 row.length) rfl (by kernel_rfl) (by kernel_rfl) (by kernel_rfl) (fun _ _ _ h => h) (Or.inl ⟨by rfl, ?_⟩) hHeld ?_
      · intro w1 hSw
        (try dsimp only at hSw)
        go_simp
      (try simp only [Act.put, List.setIfInBounds_toArray, List.set_cons_zero, List.set_cons_succ])
      refine wpAnyH_take (i := 31) (oi := { dst := some 49, op := Op.move (Operand.tmp 1), type := 35, pos := "ref.go:127", after := #[{ on := 24, ground := Ground.guard }], guard := some (24, false) }) (v := .slice (some ⟨tb, tq, none⟩) rs.length tc) rfl (by kernel_rfl) (by kernel_rfl) (by kernel_rfl) (fun _ _ _ h => h) (Or.inl ⟨by rfl, ?_⟩) hHeld ?_
      · intro w1 hSw
        (try dsimp only at hSw)
        go_simp
      (try simp only [Act.put, List.setIfInBounds_toArray, List.set_cons_zero, List.set_cons_succ])
      refine wpAnyH_take (i := 32) (oi := { dst := some 50, op := Op.move (Operand.tmp 5), type := 3, pos := "ref.go:127", after := #[{ on := 24, ground := Ground.guard }], guard := some (24, false) }) (v := .int .i64 j) rfl (by kernel_rfl) (by kernel_rfl) (by kernel_rfl) (fun _ _ _ h => h) (Or.inl ⟨by rfl, ?_⟩) hHeld ?_
      · intro w1 hSw
        (try dsimp only at hSw)
        go_simp
      (try simp only [Act.put, List.setIfInBounds_toArray, List.set_cons_zero, List.set_cons_succ])
      refine wpAnyH_take (i := 33) (oi := { dst := some 51, op := Op.indexAddr 35 (Operand.tmp 49) (Operand.tmp 50), type := 0, pos := "ref.go:127", after := #[{ on := 31, ground := Ground.data }, { on := 32, ground := Ground.data }, { on := 24, ground := Ground.guard }], guard := some (24, false) }) (v := .pointer (some ⟨tb, tq + j * 15, none⟩)) rfl (by kernel_rfl) (by kernel_rfl) (by kernel_rfl) (fun _ _ _ h => h) (Or.inl ⟨by rfl, ?_⟩) hHeld ?_
      · intro w1 hSw
        (try dsimp only at hSw)
        go_simp
      (try simp only [Act.put, List.setIfInBounds_toArray, List.set_cons_zero, List.set_cons_succ])
      refine wpAnyH_take (i := 34) (oi := { dst := some 52, op := Op.fieldAddr 114 (Operand.tmp 51) 1, type := 0, pos := "ref.go:127", after := #[{ on := 33, ground := Ground.data }, { on := 24, ground := Ground.guard }], guard := some (24, false) }) (v := .pointer (some ⟨tb, tq + j * 15 + 10, none⟩)) rfl (by kernel_rfl) (by kernel_rfl) (by kernel_rfl) (fun _ _ _ h => h) (Or.inl ⟨by rfl, ?_⟩) hHeld ?_
      · intro w1 hSw
        (try dsimp only at hSw)
        go_simp
      (try simp only [Act.put, List.setIfInBounds_toArray, List.set_cons_zero, List.set_cons_succ])
      refine wpAnyH_take (i := 35) (oi := { dst := some 53, op := Op.load 110 (Operand.tmp 52), type := 110, pos := "ref.go:127", after := #[{ on := 34, ground := Ground.data }, { on := 24, ground := Ground.guard }], guard := some (24, false) }) (v := .slice ra2 row.length rc2) rfl (by kernel_rfl) (by kernel_rfl) (by kernel_rfl) (fun _ _ _ h => h) (Or.inl ⟨by rfl, ?_⟩) hHeld ?_
      · intro w1 hSw
        (try dsimp only at hSw)
        go_simp
      (try simp only [Act.put, List.setIfInBounds_toArray, List.set_cons_zero, List.set_cons_succ])
      refine wpAnyH_take (i := 36) (oi := { dst := some 54, op := Op.call { callee := Callee.builtin Builtin.len, args := #[Operand.tmp 53], argTypes := #[110] }, type := 3, pos := "ref.go:127", after := #[{ on := 35, ground := Ground.data }, { on := 24, ground := Ground.guard }], guard := some (24, false) }) (v := .int .i64 row.length) rfl (by kernel_rfl) (by kernel_rfl) (by kernel_rfl) (fun _ _ _ h => h) (Or.inl ⟨by rfl, ?_⟩) hHeld ?_
      · intro w1 hSw
        (try dsimp only at hSw)
        go_simp
      (try simp only [Act.put, List.setIfInBounds_toArray, List.set_cons_zero, List.set_cons_succ])
      refine wpAnyH_take (i := 37) (oi := { dst := some 55, op := Op.binOp BinOp.neq 3 (Operand.tmp 48) (Operand.tmp 54) 3, type := 4, pos := "ref.go:127", after := #[{ on := 30, ground := Ground.data }, { on := 36, ground := Ground.data }, { on := 24, ground := Ground.guard }], guard := some (24, false) }) (v := .bool false) rfl (by kernel_rfl) (by kernel_rfl) (by kernel_rfl) (fun _ _ _ h => h) (Or.inl ⟨by rfl, ?_⟩) hHeld ?_
      · intro w1 hSw
        (try dsimp only at hSw)
        go_simp
      (try simp only [Act.put, List.setIfInBounds_toArray, List.set_cons_zero, List.set_cons_succ])
      refine wpAnyH_take (i := 38) (oi := { dst := some 56, op := Op.pick (Operand.tmp 42) (Operand.const (Value.bool true)) (Operand.tmp 55), type := 4, pos := "ref.go:127", after := #[{ on := 24, ground := Ground.data }, { on := 37, ground := Ground.data }], guard := none }) (v := .bool false) rfl (by kernel_rfl) (by kernel_rfl) (by kernel_rfl) (fun _ _ _ h => h) (Or.inl ⟨by rfl, ?_⟩) hHeld ?_
      · intro w1 hSw
        (try dsimp only at hSw)
        go_simp
      (try simp only [Act.put, List.setIfInBounds_toArray, List.set_cons_zero, List.set_cons_succ])
      refine wpAnyH_done (by kernel_rfl) ?_ _
      clear hHeld
      go_wp2
      go_loopg [6] row.length (fun n s6 wq => ∃ (m : Nat), n + m = row.length ∧ s6 = .int .i64 m ∧ Upd [] w wq)
      case atStart => exact ⟨0, by omega, rfl, HU.out.drew⟩
      case round =>
        obtain ⟨m, hm, rfl, hu⟩ := hrel
        have HM := Lib.hid hm
        have HU2 := Lib.hid hu
        have s10 := T10 _ hu
        clear hu
        by_cases hml : m < row.length
        · have hr1 := HIT.out.els
          have hr2 := HIT2.out.els
          obtain ⟨rb, ro, rfl, hq, hqc⟩ := els_at hr1 hml
          obtain ⟨qb, qo, rfl, hq2, hqc2⟩ := els_at hr2 hml
          have HML := Lib.hid hml
          have m1 : (0 : Int) ≤ (m : Int) := by omega
          have m2 : (m : Int) < (row.length : Int) := by omega
          have hrl := HRL.out
          (try simp only at hrl)
          have HWM := Lib.hid (show wrap64 ((m : Int) + 1) = ((m + 1 : Nat) : Int) from wrap_next (by omega) hml)
          generalize hz : row[m] = z at *
          obtain ⟨z0, z1, z2, z3⟩ := z
          have HV := Lib.hid (fun (w1 : World) (h1 : Upd [] w w1) => show w1.rangeAt rb (ro + m * 4) [.int .u32 z0, .int .u32 z1, .int .u32 z2, .int .u32 z3] from fun j v hj => (h1.cell (p := ⟨rb, ro + m * 4 + j, none⟩) hq (by simp)).trans (hqc j v hj))
          have HV2 := Lib.hid (fun (w1 : World) (h1 : Upd [] w w1) => show w1.rangeAt qb (qo + m * 4) [.int .u32 z0, .int .u32 z1, .int .u32 z2, .int .u32 z3] from fun j v hj => (h1.cell (p := ⟨qb, qo + m * 4 + j, none⟩) hq2 (by simp)).trans (hqc2 j v hj))
          clear hz hqc hqc2 hq hq2 hr1 hr2 hml hrl hm
          go_wp2_with fail
          refine wp_region_held_drew (S := fun w1 => Upd [] w w1) (by kernel_rfl) ?_ (fun hHeld => ?_)
          · exact HU2.out.drew
          refine wpAnyH_take (i := 0) (oi := { dst := some 67, op := Op.move (Operand.tmp 0), type := 35, pos := "ref.go:131", after := #[], guard := none }) (v := .slice (some ⟨sb, so, none⟩) rs.length sc) rfl (by kernel_rfl) (by kernel_rfl) (by kernel_rfl) (fun _ _ _ h => h) (Or.inl ⟨by rfl, ?_⟩) hHeld ?_
          · intro w1 hSw
            (try dsimp only at hSw)
            go_simp
          (try simp only [Act.put, List.setIfInBounds_toArray, List.set_cons_zero, List.set_cons_succ])
          refine wpAnyH_take (i := 1) (oi := { dst := some 68, op := Op.move (Operand.tmp 5), type := 3, pos := "ref.go:131", after := #[], guard := none }) (v := .int .i64 j) rfl (by kernel_rfl) (by kernel_rfl) (by kernel_rfl) (fun _ _ _ h => h) (Or.inl ⟨by rfl, ?_⟩) hHeld ?_
          · intro w1 hSw
            (try dsimp only at hSw)
            go_simp
          (try simp only [Act.put, List.setIfInBounds_toArray, List.set_cons_zero, List.set_cons_succ])
          refine wpAnyH_take (i := 2) (oi := { dst := some 69, op := Op.indexAddr 35 (Operand.tmp 67) (Operand.tmp 68), type := 0, pos := "ref.go:131", after := #[{ on := 0, ground := Ground.data }, { on := 1, ground := Ground.data }], guard := none }) (v := .pointer (some ⟨sb, so + j * 15, none⟩)) rfl (by kernel_rfl) (by kernel_rfl) (by kernel_rfl) (fun _ _ _ h => h) (Or.inl ⟨by rfl, ?_⟩) hHeld ?_
          · intro w1 hSw
            (try dsimp only at hSw)
            go_simp
          (try simp only [Act.put, List.setIfInBounds_toArray, List.set_cons_zero, List.set_cons_succ])
          refine wpAnyH_take (i := 3) (oi := { dst := some 70, op := Op.fieldAddr 114 (Operand.tmp 69) 1, type := 0, pos := "ref.go:131", after := #[{ on := 2, ground := Ground.data }], guard := none }) (v := .pointer (some ⟨sb, so + j * 15 + 10, none⟩)) rfl (by kernel_rfl) (by kernel_rfl) (by kernel_rfl) (fun _ _ _ h => h) (Or.inl ⟨by rfl, ?_⟩) hHeld ?_
          · intro w1 hSw
            (try dsimp only at hSw)
            go_simp
          (try simp only [Act.put, List.setIfInBounds_toArray, List.set_cons_zero, List.set_cons_succ])
          refine wpAnyH_take (i := 4) (oi := { dst := some 71, op := Op.load 110 (Operand.tmp 70), type := 110, pos := "ref.go:131", after := #[{ on := 3, ground := Ground.data }], guard := none }) (v := .slice (some ⟨rb, ro, none⟩) row.length rc) rfl (by kernel_rfl) (by kernel_rfl) (by kernel_rfl) (fun _ _ _ h => h) (Or.inl ⟨by rfl, ?_⟩) hHeld ?_
          · intro w1 hSw
            (try dsimp only at hSw)
            go_simp
          (try simp only [Act.put, List.setIfInBounds_toArray, List.set_cons_zero, List.set_cons_succ])
          refine wpAnyH_take (i := 5) (oi := { dst := some 72, op := Op.move (Operand.tmp 6), type := 3, pos := "ref.go:131", after := #[], guard := none }) (v := .int .i64 m) rfl (by kernel_rfl) (by kernel_rfl) (by kernel_rfl) (fun _ _ _ h => h) (Or.inl ⟨by rfl, ?_⟩) hHeld ?_
          · intro w1 hSw
            (try dsimp only at hSw)
            go_simp
          (try simp only [Act.put, List.setIfInBounds_toArray, List.set_cons_zero, List.set_cons_succ])
          refine wpAnyH_take (i := 6) (oi := { dst := some 73, op := Op.indexAddr 110 (Operand.tmp 71) (Operand.tmp 72), type := 0, pos := "ref.go:131", after := #[{ on := 4, ground := Ground.data }, { on := 5, ground := Ground.data }], guard := none }) (v := .pointer (some ⟨rb, ro + m * 4, none⟩)) rfl (by kernel_rfl) (by kernel_rfl) (by kernel_rfl) (fun _ _ _ h => h) (Or.inl ⟨by rfl, ?_⟩) hHeld ?_
          · intro w1 hSw
            (try dsimp only at hSw)
            go_simp
          (try simp only [Act.put, List.setIfInBounds_toArray, List.set_cons_zero, List.set_cons_succ])
          refine wpAnyH_take (i := 7) (oi := { dst := some 74, op := Op.load 26 (Operand.tmp 73), type := 26, pos := "ref.go:131", after := #[{ on := 6, ground := Ground.data }], guard := none }) (v := .agg [.int .u32 z0, .int .u32 z1, .int .u32 z2, .int .u32 z3].toArray) rfl (by kernel_rfl) (by kernel_rfl) (by kernel_rfl) (fun _ _ _ h => h) (yieldsIf_load_mid (by rfl) 26 _ rfl rb (ro + m * 4) rfl [.int .u32 z0, .int .u32 z1, .int .u32 z2, .int .u32 z3] _ (HV.out) Try.underlying26 rfl (info_v4L _ _ _ _)) hHeld ?_
          (try simp only [Act.put, List.setIfInBounds_toArray, List.set_cons_zero, List.set_cons_succ])
          refine wpAnyH_take (i := 8) (oi := { dst := some 75, op := Op.move (Operand.tmp 1), type := 35, pos := "ref.go:131", after := #[], guard := none }) (v := .slice (some ⟨tb, tq, none⟩) rs.length tc) rfl (by kernel_rfl) (by kernel_rfl) (by kernel_rfl) (fun _ _ _ h => h) (Or.inl ⟨by rfl, ?_⟩) hHeld ?_
          · intro w1 hSw
            (try dsimp only at hSw)
            go_simp
          (try simp only [Act.put, List.setIfInBounds_toArray, List.set_cons_zero, List.set_cons_succ])
          refine wpAnyH_take (i := 9) (oi := { dst := some 76, op := Op.move (Operand.tmp 5), type := 3, pos := "ref.go:131", after := #[], guard := none }) (v := .int .i64 j) rfl (by kernel_rfl) (by kernel_rfl) (by kernel_rfl) (fun _ _ _ h => h) (Or.inl ⟨by rfl, ?_⟩) hHeld ?_
          · intro w1 hSw
            (try dsimp only at hSw)
            go_simp
          (try simp only [Act.put, List.setIfInBounds_toArray, List.set_cons_zero, List.set_cons_succ])
          refine wpAnyH_take (i := 10) (oi := { dst := some 77, op := Op.indexAddr 35 (Operand.tmp 75) (Operand.tmp 76), type := 0, pos := "ref.go:131", after := #[{ on := 8, ground := Ground.data }, { on := 9, ground := Ground.data }], guard := none }) (v := .pointer (some ⟨tb, tq + j * 15, none⟩)) rfl (by kernel_rfl) (by kernel_rfl) (by kernel_rfl) (fun _ _ _ h => h) (Or.inl ⟨by rfl, ?_⟩) hHeld ?_
          · intro w1 hSw
            (try dsimp only at hSw)
            go_simp
          (try simp only [Act.put, List.setIfInBounds_toArray, List.set_cons_zero, List.set_cons_succ])
          refine wpAnyH_take (i := 11) (oi := { dst := some 78, op := Op.fieldAddr 114 (Operand.tmp 77) 1, type := 0, pos := "ref.go:131", after := #[{ on := 10, ground := Ground.data }], guard := none }) (v := .pointer (some ⟨tb, tq + j * 15 + 10, none⟩)) rfl (by kernel_rfl) (by kernel_rfl) (by kernel_rfl) (fun _ _ _ h => h) (Or.inl ⟨by rfl, ?_⟩) hHeld ?_
          · intro w1 hSw
            (try dsimp only at hSw)
            go_simp
          (try simp only [Act.put, List.setIfInBounds_toArray, List.set_cons_zero, List.set_cons_succ])
          refine wpAnyH_take (i := 12) (oi := { dst := some 79, op := Op.load 110 (Operand.tmp 78), type := 110, pos := "ref.go:131", after := #[{ on := 11, ground := Ground.data }], guard := none }) (v := .slice (some ⟨qb, qo, none⟩) row.length rc2) rfl (by kernel_rfl) (by kernel_rfl) (by kernel_rfl) (fun _ _ _ h => h) (Or.inl ⟨by rfl, ?_⟩) hHeld ?_
          · intro w1 hSw
            (try dsimp only at hSw)
            go_simp
          (try simp only [Act.put, List.setIfInBounds_toArray, List.set_cons_zero, List.set_cons_succ])
          refine wpAnyH_take (i := 13) (oi := { dst := some 80, op := Op.move (Operand.tmp 6), type := 3, pos := "ref.go:131", after := #[], guard := none }) (v := .int .i64 m) rfl (by kernel_rfl) (by kernel_rfl) (by kernel_rfl) (fun _ _ _ h => h) (Or.inl ⟨by rfl, ?_⟩) hHeld ?_
          · intro w1 hSw
            (try dsimp only at hSw)
            go_simp
          (try simp only [Act.put, List.setIfInBounds_toArray, List.set_cons_zero, List.set_cons_succ])
          refine wpAnyH_take (i := 14) (oi := { dst := some 81, op := Op.indexAddr 110 (Operand.tmp 79) (Operand.tmp 80), type := 0, pos := "ref.go:131", after := #[{ on := 12, ground := Ground.data }, { on := 13, ground := Ground.data }], guard := none }) (v := .pointer (some ⟨qb, qo + m * 4, none⟩)) rfl (by kernel_rfl) (by kernel_rfl) (by kernel_rfl) (fun _ _ _ h => h) (Or.inl ⟨by rfl, ?_⟩) hHeld ?_
          · intro w1 hSw
            (try dsimp only at hSw)
            go_simp
          (try simp only [Act.put, List.setIfInBounds_toArray, List.set_cons_zero, List.set_cons_succ])
          refine wpAnyH_take (i := 15) (oi := { dst := some 82, op := Op.load 26 (Operand.tmp 81), type := 26, pos := "ref.go:131", after := #[{ on := 14, ground := Ground.data }], guard := none }) (v := .agg [.int .u32 z0, .int .u32 z1, .int .u32 z2, .int .u32 z3].toArray) rfl (by kernel_rfl) (by kernel_rfl) (by kernel_rfl) (fun _ _ _ h => h) (yieldsIf_load_mid (by rfl) 26 _ rfl qb (qo + m * 4) rfl [.int .u32 z0, .int .u32 z1, .int .u32 z2, .int .u32 z3] _ (HV2.out) Try.underlying26 rfl (info_v4L _ _ _ _)) hHeld ?_
          (try simp only [Act.put, List.setIfInBounds_toArray, List.set_cons_zero, List.set_cons_succ])
          refine wpAnyH_take (i := 16) (oi := { dst := some 83, op := Op.binOp BinOp.neq 26 (Operand.tmp 74) (Operand.tmp 82) 26, type := 4, pos := "ref.go:131", after := #[{ on := 7, ground := Ground.data }, { on := 15, ground := Ground.data }], guard := none }) (v := .bool false) rfl (by kernel_rfl) (by kernel_rfl) (by kernel_rfl) (fun _ _ _ h => h) (Or.inl ⟨by rfl, ?_⟩) hHeld ?_
          · intro w1 hSw
            (try dsimp only at hSw)
            go_simp
          (try simp only [Act.put, List.setIfInBounds_toArray, List.set_cons_zero, List.set_cons_succ])
          refine wpAnyH_done (by kernel_rfl) ?_ _
          clear hHeld
          go_wp2
          go_roundg (row.length - (m + 1))
          case rel => exact ⟨m + 1, by have := HML.out; omega, by first | (rw [HWM.out]; done) | (simp; done), HU2.out.drew⟩
          case measure => have := HML.out; have := HM.out; omega
        · have hd : decide ((m : Int) < (row.length : Int)) = false := by simp; omega
          obtain rfl : m = row.length := by omega
          clear hm hml
          go_wp2
          go_roundg (rs.length - (j + 1))
          case rel => exact ⟨j + 1, by have := HLT.out; omega, by first | (rw [HW.out]; done) | (simp; done), HU2.out⟩
          case measure => have := HLT.out; have := HJ.out; omega
    · have hd : decide ((j : Int) < (rs.length : Int)) = false := by simp; omega
      go_wp2
      go_ret
      exact ⟨HU.out, rfl⟩
end
end Go.Proofs.Ytdbgnnkbcebpcaa
