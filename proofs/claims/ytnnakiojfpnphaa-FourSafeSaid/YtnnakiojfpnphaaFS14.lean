/- The law FourSafe, whatever comes in. -/
import Derived.Test.YtnnakiojfpnphaaFS13
set_option linter.unusedVariables false
set_option linter.unusedSimpArgs false
namespace Go.Proofs.Ytnnakiojfpnphaa
open Go.RowKit
theorem arr4v {w : World} {cs : List Value} (h : (Sh.ar 4 (.int .u32)).ok w cs) : ∃ f : V4F, cs = valC f := by
  obtain ⟨_, _, rfl, ⟨a, rfl, _⟩, _, _, rfl, ⟨b, rfl, _⟩, _, _, rfl, ⟨c, rfl, _⟩, _, _, rfl, ⟨d, rfl, _⟩, rfl⟩ := h
  exact ⟨fun k => if k = 0 then a else if k = 1 then b else if k = 2 then c else d, rfl⟩
theorem reads_bools {w : World} {v : Value} (h : (Sh.slice .bool).okV w v) : ∃ (a : Option Addr) (cap : Nat) (xs : List Bool), v = .slice a xs.length cap ∧ Reads w a xs.length (xs.map Value.bool) := by
  obtain ⟨a, len, cap, hv, hlc, hcm, f, hf, hm, h0⟩ : (Sh.slice .bool).ok w [v] := h
  obtain rfl : v = .slice a len cap := by simpa using hv
  obtain ⟨xs, hl, hx⟩ := list_of len (fun i x => f i = [.bool x]) (fun i hi => (hf i hi).1)
  subst hl
  refine ⟨a, cap, xs, rfl, ⟨by simp, fun h0 => ?_⟩⟩
  obtain ⟨b, off, e, hb, hc⟩ := hm h0
  refine ⟨b, off, e, hb, fun j v hj => ?_⟩
  rw [List.getElem?_map, Option.map_eq_some_iff] at hj
  obtain ⟨x, hxj, rfl⟩ := hj
  obtain ⟨hjl, rfl⟩ := List.getElem?_eq_some_iff.1 hxj
  have := hc j hjl 0 (.bool xs[j]) (by rw [hx j hjl]; rfl)
  simpa [Sh.bool] using this
theorem fourSafe_walk (W : World) (v0 v1 v2 v3 : Value) (h0 : Sh.okV W (.int .i64) v0) (h1 : Sh.okV W (.slice (.int .u32)) v1) (h2 : Sh.okV W (.slice (.ar 4 (.int .u32))) v2) (h3 : Sh.okV W (.slice (.bool)) v3) :
    Calls Try.prog 3 #[v0, v1, v2, v3] W fun e w' => e = .returned (.bool true) ∧ Upd [] W w' := by
  obtain ⟨wd, hv0, -⟩ := h0
  obtain rfl : v0 = .int .i64 wd := by simpa using hv0
  obtain ⟨fa, fc, xs, rfl, -, hr, hwf⟩ := reads_ints h1
  obtain ⟨wa, wc, ws, rfl, -, -, hws⟩ := slice_els valC (fun cs h => arr4v h) h2
  obtain ⟨pa, pc, ps, rfl, hps⟩ := reads_bools h3
  by_cases hh : wd < 1 ∨ 4 < wd ∨ 12 < ws.length ∨ 150 < ps.length
  · exact fs_heavy wd _ fc _ wc _ pc hh
  · obtain ⟨n, rfl⟩ := Int.eq_ofNat_of_zero_le (show 0 ≤ wd by omega)
    by_cases hn : xs.length = 4 + 4 * n
    · exact fs_main n fc wc pc xs ws ps (by omega) (by omega) (by omega) hn hr (fun x hx => by
        have h := hwf x hx
        have h2 : 0 ≤ x ∧ x ≤ 4294967295 := by simpa [Lit.wf, IntKind.min, IntKind.max, IntKind.bits, IntKind.signed] using h
        exact h2.1) hws hps
    · exact fs_short n _ fc _ wc _ pc (by omega) (by omega) (by omega) hn
end Go.Proofs.Ytnnakiojfpnphaa
