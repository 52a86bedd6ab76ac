/- The laws FlagsTurned and FlagsLaws over whatever words come in. -/
import Derived.Test.YtbjeojcnofpgfaaFlagLaw
import Derived.Test.YtbjeojcnofpgfaaShape
set_option linter.unusedVariables false
set_option linter.unusedSimpArgs false
namespace Go.Proofs.Ytbjeojcnofpgfaa
open Go.RowKit

theorem word_okV {W : World} {v : Value} (h : Sh.okV W (.int .u32) v) : ∃ X : BitVec 32, v = .int .u32 (ofB X) := by
  obtain ⟨n, hn, hw⟩ := h
  obtain ⟨X, rfl⟩ := ofB_of hw
  exact ⟨X, by simpa using hn⟩

set_option maxRecDepth 100000 in
set_option maxHeartbeats 1000000 in
theorem flagsTurned_walk (W : World) (v0 v1 : Value) (h0 : Sh.okV W (.int .u32) v0) (h1 : Sh.okV W (.int .u32) v1) :
    Calls Try.prog 11 #[v0, v1] W fun e w' => e = .returned (.bool true) ∧ Upd [] W w' := by
  obtain ⟨X, rfl⟩ := word_okV h0
  obtain ⟨M, rfl⟩ := word_okV h1
  have t1 := turned X M
  have t2 := holds5_zero X
  have t3 := holds4_zero X
  have t4 := holds3_any (ofB X) (ofB M)
  have H1 := Lib.hid fun w => holds_any 4 (ofB X) (ofB M) w
  have H2 := Lib.hid fun w => holds_any 5 (notU (ofB X)) (ofB M) w
  have H3 := Lib.hid fun w => holds_any 5 (ofB X) 0 w
  have H4 := Lib.hid fun w => holds_any 4 (ofB X) 0 w
  have H5 := Lib.hid fun w => holds_any 3 (ofB X) (ofB M) w
  generalize hx : ofB X = x at *
  generalize hm : ofB M = m at *
  unfold notU at H2 t1
  clear hx hm h0 h1
  go_enter Try.func11, Try.ntmps11
  go_wp2_with (go_at_call 69; refine (H1.out _).mono ?_; rintro e w1 ⟨rfl, hu1⟩; have HU1 := Lib.hid hu1; clear hu1 H1)
  go_wp2_with (go_at_call 69; refine (H2.out _).mono ?_; rintro e w2 ⟨rfl, hu2⟩; have HU2 := Lib.hid (HU1.out.trans hu2); clear hu2 H2)
  go_wp2_with (go_at_call 69; refine (H3.out _).mono ?_; rintro e w3 ⟨rfl, hu3⟩; have HU3 := Lib.hid (HU2.out.trans hu3); clear hu3 H3)
  go_wp2_with (go_at_call 69; refine (H4.out _).mono ?_; rintro e w4 ⟨rfl, hu4⟩; have HU4 := Lib.hid (HU3.out.trans hu4); clear hu4 H4)
  go_wp2_with (first
    | (go_at_call 69; refine (H5.out _).mono ?_; rintro e w5 ⟨rfl, hu5⟩; have HU5 := Lib.hid (HU4.out.trans hu5); clear hu5)
    | (go_at_call 68; refine (alive15 _).mono ?_; rintro e w6 ⟨rfl, hu6⟩; have HU6 := Lib.hid (HU5.out.trans hu6); clear hu6))
  go_ret
  exact ⟨rfl, HU6.out⟩
end Go.Proofs.Ytbjeojcnofpgfaa
