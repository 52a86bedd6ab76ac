/- Package delta: List and Tick. -/
import Derived.Test.YtgmdhjlbedgafaaDelta3
import Derived.Test.YtgmdhjlbedgafaaInts
set_option linter.unusedVariables false
set_option linter.unusedSimpArgs false
namespace Go.Proofs.Ytgmdhjlbedgafaa
open Go.RowKit

def dtasks (xs : List DN) : List Value := xs.map fun x => Value.int .i64 x.t

theorem DL.keep {w w' : World} {d : Nat} {xs : List DN} {S : List Nat} (h : DL w d xs) (hu : Upd S w w') (hS : ∀ k ∈ d :: xs.map DN.b, k ∉ S) : DL w' d xs := by
  have hlt := h.lt
  refine DP.dl (h.dp.frame fun k hk => hu.block k (hlt k hk) (hS k hk)) h.nodup h.sorted

theorem own_new {w : World} {e : TypeId} {base : Nat} : w.ownsRow base e 1 (.slice none 0 0) 0 [] := World.ownsRow_nil w base e 1

theorem one_cells {W : World} {o : Value} {t : TypeId} : ∀ j u, [o][j]? = some u → (W.alloc (.cells #[o] t)).cell? ((⟨W.heap.size, 0, none⟩ : Addr).add j) = some u := cell_one_new _ _ _

set_option maxRecDepth 100000 in
set_option maxHeartbeats 1000000 in
theorem dlist_any {w : World} {d : Nat} {xs : List DN} (h : DL w d xs) (hlen : xs.length < 1000000) :
    Calls Try.prog 16 #[.pointer (some ⟨d, 0, none⟩)] w fun e w' => ∃ v, e = .returned v ∧ w'.ownsRow w.heap.size 3 1 v xs.length (dtasks xs) ∧ Upd [] w w' := by
  obtain ⟨i0, hi, hz0, hz1, hz2⟩ := info_parts info_int
  obtain ⟨c0, c1⟩ := cells2 h.hd
  have HL := Lib.hid h
  obtain ⟨fv, hfv⟩ : ∃ fv, fv = dfirst xs := ⟨_, rfl⟩
  rw [← hfv] at c0
  have HFV := Lib.hid hfv
  clear h hfv
  go_enter Try.func16, Try.ntmps16
  go_wp2
  go_loopg [2, 3] xs.length (fun n v x wr => ∃ ys zs, n = zs.length ∧ xs = ys ++ zs ∧ x = dfirst zs ∧ wr.ownsRow w.heap.size 3 1 v ys.length (dtasks ys) ∧ Upd [] w wr)
  case atStart => exact ⟨[], xs, rfl, rfl, HFV.out, own_new, Upd.refl _ _⟩
  case round =>
    obtain ⟨ys, zs, rfl, rfl, rfl, hown, hu⟩ := hrel
    cases zs with
    | nil =>
      simp only [dfirst, dfirstN]
      go_wp2
      go_ret
      exact ⟨_, rfl, by simpa using hown, hu⟩
    | cons z zs =>
      have hn := DSeg.node HL.out.seg
      obtain ⟨fz, hfz⟩ : ∃ fz, fz = dfirst zs := ⟨_, rfl⟩
      rw [← hfz] at hn
      have HN := Lib.hid hn
      have HFZ := Lib.hid hfz
      obtain ⟨n0, n1, n2⟩ := cells3 (hu.keepb hn (by simp))
      have hlb : ys.length + 1 ≤ 1000000 := by simp at hlen; omega
      have hsz := hu.size
      have HLEN := Lib.hid hlen
      have HOWN := Lib.hid hown
      have HU := Lib.hid hu
      clear hn hown hu hlen hfz
      simp only [dfirst, dfirstN, dptr]
      go_wp2_with (at_builtin; refine wpList_append_own _ rfl _ _ 41 rfl w.heap.size 3 i0 (.int .i64 0) 1 8 Try.underlying41 hi hz0 hz1 hz2 rfl (by decide) _ _ _ rfl (HOWN.out.alloc _) ⟨wr.heap.size, 0, none⟩ 1 1 [.int .i64 z.t] rfl rfl ?c1 ?c2 ?c3 ?c4 ?c5 ?_; rotate_left 5; intro v' w1 hown' hgrow _; have hu1 := upd_append HU.out HOWN.out hgrow; obtain ⟨m0, m1, m2⟩ := cells3 (hu1.keepb HN.out (by simp)); clear hgrow)
      case c1 => exact one_cells
      case c2 => intro u hu; simp at hu; subst hu; rfl
      case c3 => simp only [maxLen]; omega
      case c4 => omega
      case c5 => simp; omega
      go_roundg zs.length
      case measure => simp
      case rel => exact ⟨ys ++ [z], zs, rfl, by simp, HFZ.out, by simpa [dtasks] using hown', hu1⟩
end Go.Proofs.Ytgmdhjlbedgafaa
