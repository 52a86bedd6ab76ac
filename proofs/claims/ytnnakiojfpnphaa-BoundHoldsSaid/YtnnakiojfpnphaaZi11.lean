/- The walk, part 11: BD3 BD4. -/
import Derived.Test.YtnnakiojfpnphaaZi08
import Derived.Test.YtnnakiojfpnphaaZi10
import Derived.Test.YtnnakiojfpnphaaZi09
set_option linter.unusedVariables false
set_option linter.unusedSimpArgs false

namespace Go.Proofs.Ytnnakiojfpnphaa
open Go.RowKit
section
variable (a cap wd rt obj x0 x1 x2 x3 cn : Int)
set_option maxRecDepth 100000 in
set_option maxHeartbeats 4000000 in
theorem dof_push (hc : Cap5 cap) (hw : 1 ≤ wd ∧ wd ≤ 4) (W : World) : Calls Try.prog 51 #[.agg #[.int .i64 1, .int .i64 0, .int .i64 cap, .int .i64 wd, .int .i64 0], .agg #[.int .i64 1, .int .i64 obj, .int .u32 x0, .int .u32 x1, .int .u32 x2, .int .u32 x3, .int .u32 cn]] W fun e w' => ∃ b, e = .returned (.tuple #[.iface 122 (.pointer (some ⟨b, 0, none⟩)), .bool true]) ∧ W.heap.size ≤ b ∧ RG cap wd w' b 142 { ring0 with v0 := x0, v1 := x1, v2 := x2, v3 := x3 } ∧ Upd [] W w' := by
  have HN := Lib.hid fun w => push_new cap wd x0 x1 x2 x3 hc hw.1 hw.2 w
  clear hc hw
  go_enter Try.func51, Try.ntmps51
  go_wp2_with (first
    | (go_at_call 65; (with_reducible refine (HN.out _).mono ?_); rintro e w1 ⟨b, rfl, hb, hst, hu1⟩; have HB := Lib.hid hb; have HST := Lib.hid hst; have HU1 := Lib.hid hu1; clear hb hst hu1)
    | (go_at_call 50; (with_reducible refine (dflag_c _ _).mono ?_); rintro e w2 ⟨rfl, rfl⟩; (first | rw [show flagP 1 = 0 from rfl] | rw [show flagP 2 = 0 from rfl] | rw [show flagP 3 = 0 from rfl] | rw [show flagP 4 = 0 from rfl] | rw [show flagP 5 = 0 from rfl] | rw [show flagP 6 = 0 from rfl] | rw [show flagP 7 = 1 from rfl] | rw [show flagP 8 = 2 from rfl] | rw [show flagP 9 = 3 from rfl] | rw [show flagP 16 = 4 from rfl] | rw [show flagP 17 = 5 from rfl])))
  refine bodyPost_ret (v := .tuple #[.iface 122 (.pointer (some ⟨b, 0, none⟩)), .bool true]) (by simp [results, Try.results51, go_sem]) rfl ?_
  have hb := HB.out
  simp at hb
  exact ⟨_, rfl, by omega, HST.out, (show Upd [] W _ from (by repeat (first | (with_reducible exact Upd.refl _ _) | (with_reducible apply Upd.drew) | (with_reducible refine Upd.grE ?_ _) | (with_reducible refine Upd.alloc ?_ _)))).trans HU1.out⟩
set_option maxRecDepth 100000 in
set_option maxHeartbeats 4000000 in
theorem dof_pop (hc : Cap5 cap) (hw : 1 ≤ wd ∧ wd ≤ 4) (W : World) : Calls Try.prog 51 #[.agg #[.int .i64 1, .int .i64 0, .int .i64 cap, .int .i64 wd, .int .i64 0], .agg #[.int .i64 2, .int .i64 obj, .int .u32 x0, .int .u32 x1, .int .u32 x2, .int .u32 x3, .int .u32 cn]] W fun e w' => ∃ b, e = .returned (.tuple #[.iface 124 (.pointer (some ⟨b, 0, none⟩)), .bool true]) ∧ W.heap.size ≤ b ∧ RG cap wd w' b 143 ring0 ∧ Upd [] W w' := by
  have HN := Lib.hid fun w => pop_new cap wd hc hw.1 hw.2 w
  clear hc hw
  go_enter Try.func51, Try.ntmps51
  go_wp2_with (first
    | (go_at_call 66; (with_reducible refine (HN.out _).mono ?_); rintro e w1 ⟨b, rfl, hb, hst, hu1⟩; have HB := Lib.hid hb; have HST := Lib.hid hst; have HU1 := Lib.hid hu1; clear hb hst hu1)
    | (go_at_call 50; (with_reducible refine (dflag_c _ _).mono ?_); rintro e w2 ⟨rfl, rfl⟩; (first | rw [show flagP 1 = 0 from rfl] | rw [show flagP 2 = 0 from rfl] | rw [show flagP 3 = 0 from rfl] | rw [show flagP 4 = 0 from rfl] | rw [show flagP 5 = 0 from rfl] | rw [show flagP 6 = 0 from rfl] | rw [show flagP 7 = 1 from rfl] | rw [show flagP 8 = 2 from rfl] | rw [show flagP 9 = 3 from rfl] | rw [show flagP 16 = 4 from rfl] | rw [show flagP 17 = 5 from rfl])))
  refine bodyPost_ret (v := .tuple #[.iface 124 (.pointer (some ⟨b, 0, none⟩)), .bool true]) (by simp [results, Try.results51, go_sem]) rfl ?_
  have hb := HB.out
  simp at hb
  exact ⟨_, rfl, by omega, HST.out, (show Upd [] W _ from (by repeat (first | (with_reducible exact Upd.refl _ _) | (with_reducible apply Upd.drew) | (with_reducible refine Upd.grE ?_ _) | (with_reducible refine Upd.alloc ?_ _)))).trans HU1.out⟩
set_option maxRecDepth 100000 in
set_option maxHeartbeats 4000000 in
theorem dof_fw (hw : 1 ≤ wd ∧ wd ≤ 4) (W : World) : Calls Try.prog 51 #[.agg #[.int .i64 2, .int .i64 a, .int .i64 0, .int .i64 wd, .int .i64 0], .agg #[.int .i64 3, .int .i64 obj, .int .u32 x0, .int .u32 x1, .int .u32 x2, .int .u32 x3, .int .u32 cn]] W fun e w' => ∃ b, e = .returned (.tuple #[.iface 37 (.pointer (some ⟨b, 0, none⟩)), .bool true]) ∧ W.heap.size ≤ b ∧ FG a wd w' b 95 (f0 x0 x1 x2 x3) ∧ Upd [] W w' := by
  have HN := Lib.hid fun w => fw_new a wd x0 x1 x2 x3 hw w
  clear hw
  go_enter Try.func51, Try.ntmps51
  go_wp2_with (first
    | (go_at_call 15; (with_reducible refine (HN.out _).mono ?_); rintro e w1 ⟨b, rfl, hb, hst, hu1⟩; have HB := Lib.hid hb; have HST := Lib.hid hst; have HU1 := Lib.hid hu1; clear hb hst hu1)
    | (go_at_call 50; (with_reducible refine (dflag_c _ _).mono ?_); rintro e w2 ⟨rfl, rfl⟩; (first | rw [show flagP 1 = 0 from rfl] | rw [show flagP 2 = 0 from rfl] | rw [show flagP 3 = 0 from rfl] | rw [show flagP 4 = 0 from rfl] | rw [show flagP 5 = 0 from rfl] | rw [show flagP 6 = 0 from rfl] | rw [show flagP 7 = 1 from rfl] | rw [show flagP 8 = 2 from rfl] | rw [show flagP 9 = 3 from rfl] | rw [show flagP 16 = 4 from rfl] | rw [show flagP 17 = 5 from rfl])))
  refine bodyPost_ret (v := .tuple #[.iface 37 (.pointer (some ⟨b, 0, none⟩)), .bool true]) (by simp [results, Try.results51, go_sem]) rfl ?_
  have hb := HB.out
  simp at hb
  exact ⟨_, rfl, by omega, HST.out, (show Upd [] W _ from (by repeat (first | (with_reducible exact Upd.refl _ _) | (with_reducible apply Upd.drew) | (with_reducible refine Upd.grE ?_ _) | (with_reducible refine Upd.alloc ?_ _)))).trans HU1.out⟩
set_option maxRecDepth 100000 in
set_option maxHeartbeats 4000000 in
theorem dof_fr (hw : 1 ≤ wd ∧ wd ≤ 4) (W : World) : Calls Try.prog 51 #[.agg #[.int .i64 2, .int .i64 a, .int .i64 0, .int .i64 wd, .int .i64 0], .agg #[.int .i64 4, .int .i64 obj, .int .u32 x0, .int .u32 x1, .int .u32 x2, .int .u32 x3, .int .u32 cn]] W fun e w' => ∃ b, e = .returned (.tuple #[.iface 38 (.pointer (some ⟨b, 0, none⟩)), .bool true]) ∧ W.heap.size ≤ b ∧ FG a wd w' b 84 (f0 0 0 0 0) ∧ Upd [] W w' := by
  have HN := Lib.hid fun w => fr_new a wd hw w
  clear hw
  go_enter Try.func51, Try.ntmps51
  go_wp2_with (first
    | (go_at_call 10; (with_reducible refine (HN.out _).mono ?_); rintro e w1 ⟨b, rfl, hb, hst, hu1⟩; have HB := Lib.hid hb; have HST := Lib.hid hst; have HU1 := Lib.hid hu1; clear hb hst hu1)
    | (go_at_call 50; (with_reducible refine (dflag_c _ _).mono ?_); rintro e w2 ⟨rfl, rfl⟩; (first | rw [show flagP 1 = 0 from rfl] | rw [show flagP 2 = 0 from rfl] | rw [show flagP 3 = 0 from rfl] | rw [show flagP 4 = 0 from rfl] | rw [show flagP 5 = 0 from rfl] | rw [show flagP 6 = 0 from rfl] | rw [show flagP 7 = 1 from rfl] | rw [show flagP 8 = 2 from rfl] | rw [show flagP 9 = 3 from rfl] | rw [show flagP 16 = 4 from rfl] | rw [show flagP 17 = 5 from rfl])))
  refine bodyPost_ret (v := .tuple #[.iface 38 (.pointer (some ⟨b, 0, none⟩)), .bool true]) (by simp [results, Try.results51, go_sem]) rfl ?_
  have hb := HB.out
  simp at hb
  exact ⟨_, rfl, by omega, HST.out, (show Upd [] W _ from (by repeat (first | (with_reducible exact Upd.refl _ _) | (with_reducible apply Upd.drew) | (with_reducible refine Upd.grE ?_ _) | (with_reducible refine Upd.alloc ?_ _)))).trans HU1.out⟩
set_option maxRecDepth 100000 in
set_option maxHeartbeats 4000000 in
theorem dof_lw (hw : 1 ≤ wd ∧ wd ≤ 4) (hrt : 0 ≤ rt ∧ rt ≤ 8) (W : World) : Calls Try.prog 51 #[.agg #[.int .i64 3, .int .i64 a, .int .i64 0, .int .i64 wd, .int .i64 rt], .agg #[.int .i64 3, .int .i64 obj, .int .u32 x0, .int .u32 x1, .int .u32 x2, .int .u32 x3, .int .u32 cn]] W fun e w' => ∃ b, e = .returned (.tuple #[.iface 126 (.pointer (some ⟨b, 0, none⟩)), .bool true]) ∧ W.heap.size ≤ b ∧ LG a wd rt w' b 148 [] (l0 x0 x1 x2 x3) ∧ Upd [] W w' := by
  have HN := Lib.hid fun w => lkw_new a wd rt x0 x1 x2 x3 hw hrt w
  clear hw hrt
  go_enter Try.func51, Try.ntmps51
  go_wp2_with (first
    | (go_at_call 67; (with_reducible refine (HN.out _).mono ?_); rintro e w1 ⟨b, rfl, hb, hst, hu1⟩; have HB := Lib.hid hb; have HST := Lib.hid hst; have HU1 := Lib.hid hu1; clear hb hst hu1)
    | (go_at_call 50; (with_reducible refine (dflag_c _ _).mono ?_); rintro e w2 ⟨rfl, rfl⟩; (first | rw [show flagP 1 = 0 from rfl] | rw [show flagP 2 = 0 from rfl] | rw [show flagP 3 = 0 from rfl] | rw [show flagP 4 = 0 from rfl] | rw [show flagP 5 = 0 from rfl] | rw [show flagP 6 = 0 from rfl] | rw [show flagP 7 = 1 from rfl] | rw [show flagP 8 = 2 from rfl] | rw [show flagP 9 = 3 from rfl] | rw [show flagP 16 = 4 from rfl] | rw [show flagP 17 = 5 from rfl])))
  refine bodyPost_ret (v := .tuple #[.iface 126 (.pointer (some ⟨b, 0, none⟩)), .bool true]) (by simp [results, Try.results51, go_sem]) rfl ?_
  have hb := HB.out
  simp at hb
  exact ⟨_, rfl, by omega, HST.out, (show Upd [] W _ from (by repeat (first | (with_reducible exact Upd.refl _ _) | (with_reducible apply Upd.drew) | (with_reducible refine Upd.grE ?_ _) | (with_reducible refine Upd.alloc ?_ _)))).trans HU1.out⟩
set_option maxRecDepth 100000 in
set_option maxHeartbeats 4000000 in
theorem dof_lt (hw : 1 ≤ wd ∧ wd ≤ 4) (hrt : 0 ≤ rt ∧ rt ≤ 8) (W : World) : Calls Try.prog 51 #[.agg #[.int .i64 3, .int .i64 a, .int .i64 0, .int .i64 wd, .int .i64 rt], .agg #[.int .i64 5, .int .i64 obj, .int .u32 x0, .int .u32 x1, .int .u32 x2, .int .u32 x3, .int .u32 cn]] W fun e w' => ∃ b, e = .returned (.tuple #[.iface 128 (.pointer (some ⟨b, 0, none⟩)), .bool true]) ∧ W.heap.size ≤ b ∧ LG a wd rt w' b 150 [.int .i64 0, .int .i64 1] (l0 0 0 0 0) ∧ Upd [] W w' := by
  have HN := Lib.hid fun w => lkr_new a wd rt 0 (by omega) hw hrt w
  clear hw hrt
  go_enter Try.func51, Try.ntmps51
  go_wp2_with (first
    | (go_at_call 68; (with_reducible refine (HN.out _).mono ?_); rintro e w1 ⟨b, rfl, hb, hst, hu1⟩; have HB := Lib.hid hb; have HST := Lib.hid hst; have HU1 := Lib.hid hu1; clear hb hst hu1)
    | (go_at_call 50; (with_reducible refine (dflag_c _ _).mono ?_); rintro e w2 ⟨rfl, rfl⟩; (first | rw [show flagP 1 = 0 from rfl] | rw [show flagP 2 = 0 from rfl] | rw [show flagP 3 = 0 from rfl] | rw [show flagP 4 = 0 from rfl] | rw [show flagP 5 = 0 from rfl] | rw [show flagP 6 = 0 from rfl] | rw [show flagP 7 = 1 from rfl] | rw [show flagP 8 = 2 from rfl] | rw [show flagP 9 = 3 from rfl] | rw [show flagP 16 = 4 from rfl] | rw [show flagP 17 = 5 from rfl])))
  refine bodyPost_ret (v := .tuple #[.iface 128 (.pointer (some ⟨b, 0, none⟩)), .bool true]) (by simp [results, Try.results51, go_sem]) rfl ?_
  have hb := HB.out
  simp at hb
  exact ⟨_, rfl, by omega, HST.out, (show Upd [] W _ from (by repeat (first | (with_reducible exact Upd.refl _ _) | (with_reducible apply Upd.drew) | (with_reducible refine Upd.grE ?_ _) | (with_reducible refine Upd.alloc ?_ _)))).trans HU1.out⟩
set_option maxRecDepth 100000 in
set_option maxHeartbeats 4000000 in
theorem dof_la (hw : 1 ≤ wd ∧ wd ≤ 4) (hrt : 0 ≤ rt ∧ rt ≤ 8) (W : World) : Calls Try.prog 51 #[.agg #[.int .i64 3, .int .i64 a, .int .i64 0, .int .i64 wd, .int .i64 rt], .agg #[.int .i64 6, .int .i64 obj, .int .u32 x0, .int .u32 x1, .int .u32 x2, .int .u32 x3, .int .u32 cn]] W fun e w' => ∃ b, e = .returned (.tuple #[.iface 128 (.pointer (some ⟨b, 0, none⟩)), .bool true]) ∧ W.heap.size ≤ b ∧ LG a wd rt w' b 150 [.int .i64 rt, .int .i64 1] (l0 0 0 0 0) ∧ Upd [] W w' := by
  have HN := Lib.hid fun w => lkr_new a wd rt rt hrt hw hrt w
  clear hw hrt
  go_enter Try.func51, Try.ntmps51
  go_wp2_with (first
    | (go_at_call 68; (with_reducible refine (HN.out _).mono ?_); rintro e w1 ⟨b, rfl, hb, hst, hu1⟩; have HB := Lib.hid hb; have HST := Lib.hid hst; have HU1 := Lib.hid hu1; clear hb hst hu1)
    | (go_at_call 50; (with_reducible refine (dflag_c _ _).mono ?_); rintro e w2 ⟨rfl, rfl⟩; (first | rw [show flagP 1 = 0 from rfl] | rw [show flagP 2 = 0 from rfl] | rw [show flagP 3 = 0 from rfl] | rw [show flagP 4 = 0 from rfl] | rw [show flagP 5 = 0 from rfl] | rw [show flagP 6 = 0 from rfl] | rw [show flagP 7 = 1 from rfl] | rw [show flagP 8 = 2 from rfl] | rw [show flagP 9 = 3 from rfl] | rw [show flagP 16 = 4 from rfl] | rw [show flagP 17 = 5 from rfl])))
  refine bodyPost_ret (v := .tuple #[.iface 128 (.pointer (some ⟨b, 0, none⟩)), .bool true]) (by simp [results, Try.results51, go_sem]) rfl ?_
  have hb := HB.out
  simp at hb
  exact ⟨_, rfl, by omega, HST.out, (show Upd [] W _ from (by repeat (first | (with_reducible exact Upd.refl _ _) | (with_reducible apply Upd.drew) | (with_reducible refine Upd.grE ?_ _) | (with_reducible refine Upd.alloc ?_ _)))).trans HU1.out⟩
set_option maxRecDepth 100000 in
set_option maxHeartbeats 4000000 in
theorem dof_fl7 (W : World) : Calls Try.prog 51 #[.agg #[.int .i64 4, .int .i64 a, .int .i64 0, .int .i64 0, .int .i64 0], .agg #[.int .i64 7, .int .i64 obj, .int .u32 x0, .int .u32 x1, .int .u32 x2, .int .u32 x3, .int .u32 cn]] W fun e w' => ∃ b, e = .returned (.tuple #[.iface 130 (.pointer (some ⟨b, 0, none⟩)), .bool true]) ∧ W.heap.size ≤ b ∧ FlagAt w' b a 1 x0 0 0 true ∧ Upd [] W w' := by
  have HN := Lib.hid fun w => flag_new a 1 x0 w (by omega) (by omega)
  go_enter Try.func51, Try.ntmps51
  go_wp2_with (first
    | (go_at_call 69; (with_reducible refine (HN.out _).mono ?_); rintro e w1 ⟨b, rfl, hb, hst, hu1⟩; have HB := Lib.hid hb; have HST := Lib.hid hst; have HU1 := Lib.hid hu1; clear hb hst hu1)
    | (go_at_call 50; (with_reducible refine (dflag_c _ _).mono ?_); rintro e w2 ⟨rfl, rfl⟩; (first | rw [show flagP 1 = 0 from rfl] | rw [show flagP 2 = 0 from rfl] | rw [show flagP 3 = 0 from rfl] | rw [show flagP 4 = 0 from rfl] | rw [show flagP 5 = 0 from rfl] | rw [show flagP 6 = 0 from rfl] | rw [show flagP 7 = 1 from rfl] | rw [show flagP 8 = 2 from rfl] | rw [show flagP 9 = 3 from rfl] | rw [show flagP 16 = 4 from rfl] | rw [show flagP 17 = 5 from rfl])))
  refine bodyPost_ret (v := .tuple #[.iface 130 (.pointer (some ⟨b, 0, none⟩)), .bool true]) (by simp [results, Try.results51, go_sem]) rfl ?_
  have hb := HB.out
  simp at hb
  exact ⟨_, rfl, by omega, HST.out, (show Upd [] W _ from (by repeat (first | (with_reducible exact Upd.refl _ _) | (with_reducible apply Upd.drew) | (with_reducible refine Upd.grE ?_ _) | (with_reducible refine Upd.alloc ?_ _)))).trans HU1.out⟩
set_option maxRecDepth 100000 in
set_option maxHeartbeats 4000000 in
theorem dof_fl8 (W : World) : Calls Try.prog 51 #[.agg #[.int .i64 4, .int .i64 a, .int .i64 0, .int .i64 0, .int .i64 0], .agg #[.int .i64 8, .int .i64 obj, .int .u32 x0, .int .u32 x1, .int .u32 x2, .int .u32 x3, .int .u32 cn]] W fun e w' => ∃ b, e = .returned (.tuple #[.iface 130 (.pointer (some ⟨b, 0, none⟩)), .bool true]) ∧ W.heap.size ≤ b ∧ FlagAt w' b a 2 x0 0 0 true ∧ Upd [] W w' := by
  have HN := Lib.hid fun w => flag_new a 2 x0 w (by omega) (by omega)
  go_enter Try.func51, Try.ntmps51
  go_wp2_with (first
    | (go_at_call 69; (with_reducible refine (HN.out _).mono ?_); rintro e w1 ⟨b, rfl, hb, hst, hu1⟩; have HB := Lib.hid hb; have HST := Lib.hid hst; have HU1 := Lib.hid hu1; clear hb hst hu1)
    | (go_at_call 50; (with_reducible refine (dflag_c _ _).mono ?_); rintro e w2 ⟨rfl, rfl⟩; (first | rw [show flagP 1 = 0 from rfl] | rw [show flagP 2 = 0 from rfl] | rw [show flagP 3 = 0 from rfl] | rw [show flagP 4 = 0 from rfl] | rw [show flagP 5 = 0 from rfl] | rw [show flagP 6 = 0 from rfl] | rw [show flagP 7 = 1 from rfl] | rw [show flagP 8 = 2 from rfl] | rw [show flagP 9 = 3 from rfl] | rw [show flagP 16 = 4 from rfl] | rw [show flagP 17 = 5 from rfl])))
  refine bodyPost_ret (v := .tuple #[.iface 130 (.pointer (some ⟨b, 0, none⟩)), .bool true]) (by simp [results, Try.results51, go_sem]) rfl ?_
  have hb := HB.out
  simp at hb
  exact ⟨_, rfl, by omega, HST.out, (show Upd [] W _ from (by repeat (first | (with_reducible exact Upd.refl _ _) | (with_reducible apply Upd.drew) | (with_reducible refine Upd.grE ?_ _) | (with_reducible refine Upd.alloc ?_ _)))).trans HU1.out⟩
set_option maxRecDepth 100000 in
set_option maxHeartbeats 4000000 in
theorem dof_fl9 (W : World) : Calls Try.prog 51 #[.agg #[.int .i64 4, .int .i64 a, .int .i64 0, .int .i64 0, .int .i64 0], .agg #[.int .i64 9, .int .i64 obj, .int .u32 x0, .int .u32 x1, .int .u32 x2, .int .u32 x3, .int .u32 cn]] W fun e w' => ∃ b, e = .returned (.tuple #[.iface 130 (.pointer (some ⟨b, 0, none⟩)), .bool true]) ∧ W.heap.size ≤ b ∧ FlagAt w' b a 3 x0 0 0 true ∧ Upd [] W w' := by
  have HN := Lib.hid fun w => flag_new a 3 x0 w (by omega) (by omega)
  go_enter Try.func51, Try.ntmps51
  go_wp2_with (first
    | (go_at_call 69; (with_reducible refine (HN.out _).mono ?_); rintro e w1 ⟨b, rfl, hb, hst, hu1⟩; have HB := Lib.hid hb; have HST := Lib.hid hst; have HU1 := Lib.hid hu1; clear hb hst hu1)
    | (go_at_call 50; (with_reducible refine (dflag_c _ _).mono ?_); rintro e w2 ⟨rfl, rfl⟩; (first | rw [show flagP 1 = 0 from rfl] | rw [show flagP 2 = 0 from rfl] | rw [show flagP 3 = 0 from rfl] | rw [show flagP 4 = 0 from rfl] | rw [show flagP 5 = 0 from rfl] | rw [show flagP 6 = 0 from rfl] | rw [show flagP 7 = 1 from rfl] | rw [show flagP 8 = 2 from rfl] | rw [show flagP 9 = 3 from rfl] | rw [show flagP 16 = 4 from rfl] | rw [show flagP 17 = 5 from rfl])))
  refine bodyPost_ret (v := .tuple #[.iface 130 (.pointer (some ⟨b, 0, none⟩)), .bool true]) (by simp [results, Try.results51, go_sem]) rfl ?_
  have hb := HB.out
  simp at hb
  exact ⟨_, rfl, by omega, HST.out, (show Upd [] W _ from (by repeat (first | (with_reducible exact Upd.refl _ _) | (with_reducible apply Upd.drew) | (with_reducible refine Upd.grE ?_ _) | (with_reducible refine Upd.alloc ?_ _)))).trans HU1.out⟩
set_option maxRecDepth 100000 in
set_option maxHeartbeats 4000000 in
theorem dof_fl16 (W : World) : Calls Try.prog 51 #[.agg #[.int .i64 4, .int .i64 a, .int .i64 0, .int .i64 0, .int .i64 0], .agg #[.int .i64 16, .int .i64 obj, .int .u32 x0, .int .u32 x1, .int .u32 x2, .int .u32 x3, .int .u32 cn]] W fun e w' => ∃ b, e = .returned (.tuple #[.iface 130 (.pointer (some ⟨b, 0, none⟩)), .bool true]) ∧ W.heap.size ≤ b ∧ FlagAt w' b a 4 x0 0 0 true ∧ Upd [] W w' := by
  have HN := Lib.hid fun w => flag_new a 4 x0 w (by omega) (by omega)
  go_enter Try.func51, Try.ntmps51
  go_wp2_with (first
    | (go_at_call 69; (with_reducible refine (HN.out _).mono ?_); rintro e w1 ⟨b, rfl, hb, hst, hu1⟩; have HB := Lib.hid hb; have HST := Lib.hid hst; have HU1 := Lib.hid hu1; clear hb hst hu1)
    | (go_at_call 50; (with_reducible refine (dflag_c _ _).mono ?_); rintro e w2 ⟨rfl, rfl⟩; (first | rw [show flagP 1 = 0 from rfl] | rw [show flagP 2 = 0 from rfl] | rw [show flagP 3 = 0 from rfl] | rw [show flagP 4 = 0 from rfl] | rw [show flagP 5 = 0 from rfl] | rw [show flagP 6 = 0 from rfl] | rw [show flagP 7 = 1 from rfl] | rw [show flagP 8 = 2 from rfl] | rw [show flagP 9 = 3 from rfl] | rw [show flagP 16 = 4 from rfl] | rw [show flagP 17 = 5 from rfl])))
  refine bodyPost_ret (v := .tuple #[.iface 130 (.pointer (some ⟨b, 0, none⟩)), .bool true]) (by simp [results, Try.results51, go_sem]) rfl ?_
  have hb := HB.out
  simp at hb
  exact ⟨_, rfl, by omega, HST.out, (show Upd [] W _ from (by repeat (first | (with_reducible exact Upd.refl _ _) | (with_reducible apply Upd.drew) | (with_reducible refine Upd.grE ?_ _) | (with_reducible refine Upd.alloc ?_ _)))).trans HU1.out⟩
set_option maxRecDepth 100000 in
set_option maxHeartbeats 4000000 in
theorem dof_fl17 (W : World) : Calls Try.prog 51 #[.agg #[.int .i64 4, .int .i64 a, .int .i64 0, .int .i64 0, .int .i64 0], .agg #[.int .i64 17, .int .i64 obj, .int .u32 x0, .int .u32 x1, .int .u32 x2, .int .u32 x3, .int .u32 cn]] W fun e w' => ∃ b, e = .returned (.tuple #[.iface 130 (.pointer (some ⟨b, 0, none⟩)), .bool true]) ∧ W.heap.size ≤ b ∧ FlagAt w' b a 5 x0 0 0 true ∧ Upd [] W w' := by
  have HN := Lib.hid fun w => flag_new a 5 x0 w (by omega) (by omega)
  go_enter Try.func51, Try.ntmps51
  go_wp2_with (first
    | (go_at_call 69; (with_reducible refine (HN.out _).mono ?_); rintro e w1 ⟨b, rfl, hb, hst, hu1⟩; have HB := Lib.hid hb; have HST := Lib.hid hst; have HU1 := Lib.hid hu1; clear hb hst hu1)
    | (go_at_call 50; (with_reducible refine (dflag_c _ _).mono ?_); rintro e w2 ⟨rfl, rfl⟩; (first | rw [show flagP 1 = 0 from rfl] | rw [show flagP 2 = 0 from rfl] | rw [show flagP 3 = 0 from rfl] | rw [show flagP 4 = 0 from rfl] | rw [show flagP 5 = 0 from rfl] | rw [show flagP 6 = 0 from rfl] | rw [show flagP 7 = 1 from rfl] | rw [show flagP 8 = 2 from rfl] | rw [show flagP 9 = 3 from rfl] | rw [show flagP 16 = 4 from rfl] | rw [show flagP 17 = 5 from rfl])))
  refine bodyPost_ret (v := .tuple #[.iface 130 (.pointer (some ⟨b, 0, none⟩)), .bool true]) (by simp [results, Try.results51, go_sem]) rfl ?_
  have hb := HB.out
  simp at hb
  exact ⟨_, rfl, by omega, HST.out, (show Upd [] W _ from (by repeat (first | (with_reducible exact Upd.refl _ _) | (with_reducible apply Upd.drew) | (with_reducible refine Upd.grE ?_ _) | (with_reducible refine Upd.alloc ?_ _)))).trans HU1.out⟩
end
end Go.Proofs.Ytnnakiojfpnphaa
namespace Go.Proofs.Ytnnakiojfpnphaa
open Go.RowKit
section
variable (a cap wd rt obj x0 x1 x2 x3 cn : Int)
set_option maxRecDepth 100000 in
set_option maxHeartbeats 4000000 in
theorem dof_none1 (kind : Int) (hk : kind = 3 ∨ kind = 4 ∨ kind = 5 ∨ kind = 6 ∨ kind = 7 ∨ kind = 8 ∨ kind = 9 ∨ kind = 16 ∨ kind = 17) (W : World) : Calls Try.prog 51 #[.agg #[.int .i64 1, .int .i64 a, .int .i64 cap, .int .i64 wd, .int .i64 rt], .agg #[.int .i64 kind, .int .i64 obj, .int .u32 x0, .int .u32 x1, .int .u32 x2, .int .u32 x3, .int .u32 cn]] W fun e w' => e = .returned (.tuple #[.nilIface, .bool false]) ∧ Upd [] W w' := by
  rcases hk with rfl | rfl | rfl | rfl | rfl | rfl | rfl | rfl | rfl
  all_goals
    go_enter Try.func51, Try.ntmps51
    go_wp2_with (go_at_call 50; (with_reducible refine (dflag_c _ _).mono ?_); rintro e w2 ⟨rfl, rfl⟩; (first | rw [show flagP 1 = 0 from rfl] | rw [show flagP 2 = 0 from rfl] | rw [show flagP 3 = 0 from rfl] | rw [show flagP 4 = 0 from rfl] | rw [show flagP 5 = 0 from rfl] | rw [show flagP 6 = 0 from rfl] | rw [show flagP 7 = 1 from rfl] | rw [show flagP 8 = 2 from rfl] | rw [show flagP 9 = 3 from rfl] | rw [show flagP 16 = 4 from rfl] | rw [show flagP 17 = 5 from rfl]))
    refine bodyPost_ret (v := .tuple #[.nilIface, .bool false]) (by simp [results, Try.results51, go_sem]) rfl ?_
    exact ⟨rfl, (by repeat (first | (with_reducible exact Upd.refl _ _) | (with_reducible apply Upd.drew) | (with_reducible refine Upd.grE ?_ _) | (with_reducible refine Upd.alloc ?_ _)))⟩
set_option maxRecDepth 100000 in
set_option maxHeartbeats 4000000 in
theorem dof_none2 (kind : Int) (hk : kind = 1 ∨ kind = 2 ∨ kind = 5 ∨ kind = 6 ∨ kind = 7 ∨ kind = 8 ∨ kind = 9 ∨ kind = 16 ∨ kind = 17) (W : World) : Calls Try.prog 51 #[.agg #[.int .i64 2, .int .i64 a, .int .i64 cap, .int .i64 wd, .int .i64 rt], .agg #[.int .i64 kind, .int .i64 obj, .int .u32 x0, .int .u32 x1, .int .u32 x2, .int .u32 x3, .int .u32 cn]] W fun e w' => e = .returned (.tuple #[.nilIface, .bool false]) ∧ Upd [] W w' := by
  rcases hk with rfl | rfl | rfl | rfl | rfl | rfl | rfl | rfl | rfl
  all_goals
    go_enter Try.func51, Try.ntmps51
    go_wp2_with (go_at_call 50; (with_reducible refine (dflag_c _ _).mono ?_); rintro e w2 ⟨rfl, rfl⟩; (first | rw [show flagP 1 = 0 from rfl] | rw [show flagP 2 = 0 from rfl] | rw [show flagP 3 = 0 from rfl] | rw [show flagP 4 = 0 from rfl] | rw [show flagP 5 = 0 from rfl] | rw [show flagP 6 = 0 from rfl] | rw [show flagP 7 = 1 from rfl] | rw [show flagP 8 = 2 from rfl] | rw [show flagP 9 = 3 from rfl] | rw [show flagP 16 = 4 from rfl] | rw [show flagP 17 = 5 from rfl]))
    refine bodyPost_ret (v := .tuple #[.nilIface, .bool false]) (by simp [results, Try.results51, go_sem]) rfl ?_
    exact ⟨rfl, (by repeat (first | (with_reducible exact Upd.refl _ _) | (with_reducible apply Upd.drew) | (with_reducible refine Upd.grE ?_ _) | (with_reducible refine Upd.alloc ?_ _)))⟩
set_option maxRecDepth 100000 in
set_option maxHeartbeats 4000000 in
theorem dof_none3 (kind : Int) (hk : kind = 1 ∨ kind = 2 ∨ kind = 4 ∨ kind = 7 ∨ kind = 8 ∨ kind = 9 ∨ kind = 16 ∨ kind = 17) (W : World) : Calls Try.prog 51 #[.agg #[.int .i64 3, .int .i64 a, .int .i64 cap, .int .i64 wd, .int .i64 rt], .agg #[.int .i64 kind, .int .i64 obj, .int .u32 x0, .int .u32 x1, .int .u32 x2, .int .u32 x3, .int .u32 cn]] W fun e w' => e = .returned (.tuple #[.nilIface, .bool false]) ∧ Upd [] W w' := by
  rcases hk with rfl | rfl | rfl | rfl | rfl | rfl | rfl | rfl
  all_goals
    go_enter Try.func51, Try.ntmps51
    go_wp2_with (go_at_call 50; (with_reducible refine (dflag_c _ _).mono ?_); rintro e w2 ⟨rfl, rfl⟩; (first | rw [show flagP 1 = 0 from rfl] | rw [show flagP 2 = 0 from rfl] | rw [show flagP 3 = 0 from rfl] | rw [show flagP 4 = 0 from rfl] | rw [show flagP 5 = 0 from rfl] | rw [show flagP 6 = 0 from rfl] | rw [show flagP 7 = 1 from rfl] | rw [show flagP 8 = 2 from rfl] | rw [show flagP 9 = 3 from rfl] | rw [show flagP 16 = 4 from rfl] | rw [show flagP 17 = 5 from rfl]))
    refine bodyPost_ret (v := .tuple #[.nilIface, .bool false]) (by simp [results, Try.results51, go_sem]) rfl ?_
    exact ⟨rfl, (by repeat (first | (with_reducible exact Upd.refl _ _) | (with_reducible apply Upd.drew) | (with_reducible refine Upd.grE ?_ _) | (with_reducible refine Upd.alloc ?_ _)))⟩
set_option maxRecDepth 100000 in
set_option maxHeartbeats 4000000 in
theorem dof_none4 (kind : Int) (hk : kind = 1 ∨ kind = 2 ∨ kind = 3 ∨ kind = 4 ∨ kind = 5 ∨ kind = 6) (W : World) : Calls Try.prog 51 #[.agg #[.int .i64 4, .int .i64 a, .int .i64 cap, .int .i64 wd, .int .i64 rt], .agg #[.int .i64 kind, .int .i64 obj, .int .u32 x0, .int .u32 x1, .int .u32 x2, .int .u32 x3, .int .u32 cn]] W fun e w' => e = .returned (.tuple #[.nilIface, .bool false]) ∧ Upd [] W w' := by
  rcases hk with rfl | rfl | rfl | rfl | rfl | rfl
  all_goals
    go_enter Try.func51, Try.ntmps51
    go_wp2_with (go_at_call 50; (with_reducible refine (dflag_c _ _).mono ?_); rintro e w2 ⟨rfl, rfl⟩; (first | rw [show flagP 1 = 0 from rfl] | rw [show flagP 2 = 0 from rfl] | rw [show flagP 3 = 0 from rfl] | rw [show flagP 4 = 0 from rfl] | rw [show flagP 5 = 0 from rfl] | rw [show flagP 6 = 0 from rfl] | rw [show flagP 7 = 1 from rfl] | rw [show flagP 8 = 2 from rfl] | rw [show flagP 9 = 3 from rfl] | rw [show flagP 16 = 4 from rfl] | rw [show flagP 17 = 5 from rfl]))
    refine bodyPost_ret (v := .tuple #[.nilIface, .bool false]) (by simp [results, Try.results51, go_sem]) rfl ?_
    exact ⟨rfl, (by repeat (first | (with_reducible exact Upd.refl _ _) | (with_reducible apply Upd.drew) | (with_reducible refine Upd.grE ?_ _) | (with_reducible refine Upd.alloc ?_ _)))⟩
end
end Go.Proofs.Ytnnakiojfpnphaa
