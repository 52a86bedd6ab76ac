/- Package delta: Tick. -/
import Derived.Test.YtgmdhjlbedgafaaDelta4
set_option linter.unusedVariables false
set_option linter.unusedSimpArgs false
namespace Go.Proofs.Ytgmdhjlbedgafaa
open Go.RowKit

def ddec (xs : List DN) : List DN := xs.map fun x => ⟨x.b, x.t, x.a - 1⟩
theorem ddec_first (nx : Value) (xs : List DN) : dfirstN nx (ddec xs) = dfirstN nx xs := by cases xs <;> rfl
theorem DSegN.dec {w : World} {nx : Value} {p : Int} {xs : List DN} (h : DSegN w nx p xs) : DSegN w nx (p - 1) (ddec xs) := by
  induction xs generalizing p with
  | nil => trivial
  | cons x xs ih =>
    refine ⟨?_, ih h.2⟩
    show w.heap[x.b]? = some (.cells #[.int .i64 x.t, .int .u32 (x.a - 1 - (p - 1)), dfirstN nx (ddec xs)] _ (0, 0))
    rw [ddec_first, show x.a - 1 - (p - 1) = x.a - p by omega]
    exact h.1
theorem DSorted.dec {p : Int} {xs : List DN} (h : DSorted p xs) : DSorted (p - 1) (ddec xs) := by
  induction xs generalizing p with
  | nil => trivial
  | cons x xs ih => exact ⟨by show p - 1 ≤ x.a - 1; have := h.1; omega, by show x.a - 1 ≤ _; have := h.2.1; omega, ih h.2.2⟩
theorem ddec_b (xs : List DN) : (ddec xs).map DN.b = xs.map DN.b := by simp [ddec, Function.comp_def]

/-- Behind the first's ticks made one less: all are told one tick sooner. -/
theorem DL.dec {w : World} {d : Nat} {x : DN} {xs : List DN} (h : DL w d (x :: xs)) (h0 : 0 < x.a) : DL (w.setCell ⟨x.b, 1, none⟩ (.int .u32 (x.a - 1))) d (ddec (x :: xs)) := by
  have hdx : d ≠ x.b := by have := h.nodup; rintro rfl; simp at this
  have hn : (x.b :: xs.map DN.b).Nodup := by simpa using (List.nodup_cons.1 h.nodup).2
  refine ⟨?_, ?_, ?_, ?_⟩
  · rw [heap_set_other _ _ _ hdx, h.hd]; simp [dfirst, ddec, dfirstN]
  · have h1 := (DSegN.setTicks h.seg hn 1).dec
    unfold DSeg
    simpa using h1
  · have := h.nodup
    rw [ddec_b]; exact this
  · exact ⟨by show (0 : Int) ≤ x.a - 1; omega, by show x.a - 1 ≤ _; have := h.sorted.2.1; omega, DSorted.dec h.sorted.2.2⟩

theorem DL.pop {w : World} {d : Nat} {z : DN} {zs : List DN} (h : DL w d (z :: zs)) (h0 : z.a = 0) :
    DL ((w.setCell ⟨d, 0, none⟩ (dfirst zs)).setCell ⟨d, 1, none⟩ (.int .i64 zs.length)) d zs := by
  have hnd : (d :: z.b :: zs.map DN.b).Nodup := by simpa using h.nodup
  obtain ⟨hdn, hn⟩ := List.nodup_cons.1 hnd
  have hne : ∀ x ∈ zs, x.b ≠ d := fun x hx e => hdn (by rw [← e]; simp; exact .inr ⟨x, hx, rfl⟩)
  refine ⟨?_, ?_, ?_, ?_⟩
  · rw [heap_set (heap_set h.hd _ _)]; rfl
  · have := h.seg.2
    rw [h0] at this
    exact (this.frame fun x hx => heap_set_other _ _ _ (hne x hx)).frame fun x hx => heap_set_other _ _ _ (hne x hx)
  · exact List.nodup_cons.2 ⟨fun hm => hdn (by simp at hm ⊢; exact .inr hm), (List.nodup_cons.1 hn).2⟩
  · have := h.sorted.2.2
    rwa [h0] at this

/-- Who is told by a tick, and who still waits. -/
def dsplit0 : List DN → List DN × List DN
  | [] => ([], [])
  | x :: xs => if x.a = 0 then (x :: (dsplit0 xs).1, (dsplit0 xs).2) else ([], x :: xs)
theorem dsplit0_append (ys zs : List DN) (hy : ∀ y ∈ ys, y.a = 0) : dsplit0 (ys ++ zs) = (ys ++ (dsplit0 zs).1, (dsplit0 zs).2) := by
  induction ys with
  | nil => rfl
  | cons y ys ih => simp [dsplit0, hy y (by simp), ih fun x hx => hy x (by simp [hx])]
def dtold (xs : List DN) : List DN := (dsplit0 (ddec xs)).1
def drest (xs : List DN) : List DN := (dsplit0 (ddec xs)).2

def DTickPost (w : World) (d : Nat) (xs : List DN) (e : Ending) (w' : World) : Prop :=
  ∃ v, e = .returned v ∧ w'.ownsRow w.heap.size 3 1 v (dtold xs).length (dtasks (dtold xs)) ∧ DL w' d (drest xs) ∧ Upd (d :: xs.map DN.b) w w'

set_option maxRecDepth 100000 in
set_option maxHeartbeats 1000000 in
theorem dtick_nil (w : World) : Calls Try.prog 12 #[.pointer none] w fun e w' => e = .returned (.slice none 0 0) ∧ w = w' := by
  go_enter Try.func12, Try.ntmps12
  go_wp2
  go_step3
  go_wp2
  rw [Exit.noGoto_ret]
  go_ret
  exact ⟨rfl, rfl⟩

theorem dtick_step {w wr w2 : World} {d : Nat} {zs : List DN} {S : List Nat} {o : Obj} {v : Value} {n : Nat} {vs : List Value} {e : TypeId} (hu : Upd S w wr) (hown : wr.ownsRow w.heap.size e 1 v n vs) (hdl : DL wr d zs) (hm : ∀ k ∈ d :: zs.map DN.b, k < w.heap.size)
    (hg : (wr.alloc o).grownBy w2 v.ownBlock) : DL w2 d zs ∧ Upd S w w2 ∧ w.heap.size ≤ w2.heap.size := by
  have h1 := upd_grown hg
  have hb : ∀ i ∈ v.ownBlock.toList, w.heap.size ≤ i := fun i hi => by
    rw [Option.mem_toList] at hi
    exact (hown.lt i hi).1
  have h2 : Upd v.ownBlock.toList wr w2 := ((Upd.refl _ wr).alloc o).trans h1
  have h3 : Upd S w w2 := hu.then h2 fun i hi => .inr (hb i hi)
  exact ⟨hdl.keep h2 fun k hk hk2 => by have := hb k hk2; have := hm k hk; omega, h3, h3.size⟩

set_option maxRecDepth 100000 in
set_option maxHeartbeats 2000000 in
theorem dtick_any {w : World} {d : Nat} {xs : List DN} (h : DL w d xs) (hlen : xs.length < 1000000) (hpos : ∀ x ∈ xs, 0 < x.a) :
    Calls Try.prog 12 #[.pointer (some ⟨d, 0, none⟩)] w (DTickPost w d xs) := by
  obtain ⟨i0, hi, hz0, hz1, hz2⟩ := info_parts info_int
  cases xs with
  | nil =>
    obtain ⟨c0, c1⟩ := cells2 h.hd
    simp only [dfirst, dfirstN] at c0
    have HL := Lib.hid h
    clear h
    go_enter Try.func12, Try.ntmps12
    go_wp2
    go_step3
    go_wp2
    rw [Exit.noGoto_ret]
    go_ret
    exact ⟨_, rfl, own_new, HL.out, Upd.refl _ _⟩
  | cons x xs =>
    obtain ⟨c0, c1⟩ := cells2 h.hd
    have hx := DSeg.node (ys := []) h.seg
    obtain ⟨x0, x1, x2⟩ := cells3 hx
    have xf := frozen_of_heap hx 1
    have hx0 : 0 < x.a := hpos x (by simp)
    have hxm : x.a ≤ 4294967295 := h.sorted.2.1
    have hd1 := h.dec hx0
    have hw1 : IntKind.u32.wrap (x.a - 1) = x.a - 1 := by rw [IntKind.wrap_u32]; omega
    have hb0 := heap_lt h.hd
    simp only [dlast] at x1
    rw [show x.a - (0 : Int) = x.a by omega] at x1
    simp only [dfirst, dfirstN, dptr] at c0
    have HL := Lib.hid h
    have HD := Lib.hid hd1
    have HLEN := Lib.hid hlen
    obtain ⟨w1, hw1'⟩ : ∃ w1, w1 = w.setCell ⟨x.b, 1, none⟩ (.int .u32 (x.a - 1)) := ⟨_, rfl⟩
    have HW1 := Lib.hid hw1'
    clear h hd1 hx hpos hlen hw1' x2
    go_enter Try.func12, Try.ntmps12
    go_wp2
    go_step3
    go_wp2
    go_step3
    go_wp2
    rw [← HW1.out]
    have hu1 : Upd (d :: (x :: xs).map DN.b) w w1 := by rw [HW1.out]; exact (Upd.refl _ _).setCell (by simp) _
    have hd1 : DL w1 d (ddec (x :: xs)) := by rw [HW1.out]; exact HD.out
    have hlt := HL.out.lt
    have HU1 := Lib.hid hu1
    have HD1 := Lib.hid hd1
    have HLT := Lib.hid hlt
    clear hu1 hd1 hlt c0 c1 x0 x1 xf hb0
    go_loopg [2] (ddec (x :: xs)).length (fun n v wr => ∃ ys zs, n = zs.length ∧ ddec (x :: xs) = ys ++ zs ∧ (∀ y ∈ ys, y.a = 0) ∧ DL wr d zs ∧ wr.ownsRow w.heap.size 3 1 v ys.length (dtasks ys) ∧ Upd (d :: (x :: xs).map DN.b) w wr)
    case atStart => exact ⟨[], _, rfl, rfl, by simp, HD1.out, own_new, HU1.out⟩
    case round =>
      obtain ⟨ys, zs, rfl, hsp, hys, hdl, hown, hu⟩ := hrel
      obtain ⟨c0, c1⟩ := cells2 hdl.hd
      have HSP := Lib.hid hsp
      have HYS := Lib.hid hys
      have HDL := Lib.hid hdl
      have HOWN := Lib.hid hown
      have HU := Lib.hid hu
      cases zs with
      | nil =>
        simp only [dfirst, dfirstN] at c0
        clear hsp hys hdl hown hu
        go_wp2
        go_ret
        have e1 : dsplit0 (ddec (x :: xs)) = (ys, []) := by rw [HSP.out, dsplit0_append _ _ HYS.out]; simp [dsplit0]
        exact ⟨_, rfl, by rw [dtold, e1]; exact HOWN.out, by rw [drest, e1]; exact HDL.out, HU.out⟩
      | cons z zs =>
        have hz := DSeg.node (ys := []) hdl.seg
        obtain ⟨fz, hfz⟩ : ∃ fz : Option Addr, .pointer fz = dfirst zs := by cases zs <;> exact ⟨_, rfl⟩
        rw [← hfz] at hz
        simp only [dlast] at hz
        rw [show z.a - (0 : Int) = z.a by omega] at hz
        have HFZ := Lib.hid hfz
        simp only [dfirst, dfirstN, dptr] at c0
        obtain ⟨z0, z1, z2⟩ := cells3 hz
        have hzn : 0 ≤ z.a := hdl.sorted.1
        by_cases hza : 0 < z.a
        · have hza1 : ¬ z.a ≤ 0 := by omega
          clear hsp hys hdl hown hu hz hfz
          go_wp2
          go_ret
          have e1 : dsplit0 (ddec (x :: xs)) = (ys, z :: zs) := by rw [HSP.out, dsplit0_append _ _ HYS.out, dsplit0, if_neg (by omega)]; simp
          exact ⟨_, rfl, by rw [dtold, e1]; exact HOWN.out, by rw [drest, e1]; exact HDL.out, HU.out⟩
        · have hzz : z.a = 0 := by omega
          have hza1 : z.a ≤ 0 := by omega
          have hmem : ∀ k ∈ d :: (z :: zs).map DN.b, k < w.heap.size := by
            intro k hk
            refine HLT.out k ?_
            rcases List.mem_cons.1 hk with e | hk
            · simp [e]
            · refine List.mem_cons_of_mem _ ?_
              rw [← ddec_b, hsp, List.map_append]
              exact List.mem_append_right _ hk
          have HMEM := Lib.hid hmem
          have HZZ := Lib.hid hzz
          have hyl : ys.length + 1 ≤ 1000000 := by
            have h1 := congrArg List.length hsp
            have h2 := HLEN.out
            simp [ddec] at h1 h2
            omega
          have hsz := hu.size
          have hnl : zs.length < 1000000 := by
            have h1 := congrArg List.length hsp
            have h2 := HLEN.out
            simp [ddec] at h1 h2
            omega
          rw [hzz] at z1
          clear hsp hys hdl hown hu hz hfz hmem hzz hza hza1 hzn hw1
          go_wp2_with (at_builtin; refine wpList_append_own _ rfl _ _ 41 rfl w.heap.size 3 i0 (.int .i64 0) 1 8 Try.underlying41 hi hz0 hz1 hz2 rfl (by decide) _ _ _ rfl (HOWN.out.alloc _) ⟨wr.heap.size, 0, none⟩ 1 1 [.int .i64 z.t] rfl rfl ?c1 ?c2 ?c3 ?c4 ?c5 ?_; rotate_left 5; intro v' w2 hown' hgrow _; obtain ⟨hdl2, hu2, hn2⟩ := dtick_step HU.out HOWN.out HDL.out HMEM.out hgrow; obtain ⟨e0, e1⟩ := cells2 hdl2.hd; have ef0 := frozen_of_heap hdl2.hd 0; have ef1 := frozen_of_heap hdl2.hd 1; obtain ⟨m0, m1, m2⟩ := cells3 (DSeg.node (ys := []) hdl2.seg); rw [← HFZ.out] at m2; simp only [dfirst, dfirstN, dptr] at e0; have HDL2 := Lib.hid hdl2; have HU2 := Lib.hid hu2; have HOWN2 := Lib.hid hown'; clear hdl2 hu2 hown' hgrow c0 c1 z0 z1 z2)
          case c1 => exact one_cells
          case c2 => intro u hu; simp at hu; subst hu; rfl
          case c3 => simp only [maxLen]; omega
          case c4 => omega
          case c5 => simp; omega
          go_roundg zs.length
          case measure => simp
          case rel =>
            have hp := DL.pop HDL2.out HZZ.out
            rw [← HFZ.out] at hp
            refine ⟨ys ++ [z], zs, rfl, by rw [HSP.out]; simp, ?_, hp, ?_, (HU2.out.setCell (by simp) _).setCell (by simp) _⟩
            · intro y hy
              rcases List.mem_append.1 hy with h1 | h1
              · exact HYS.out y h1
              · simp at h1; subst h1; exact HZZ.out
            · have hd0 := HMEM.out d (by simp)
              have ho := HOWN2.out
              have hS : ∀ k, v'.ownBlock = some k → k ∉ [d] := fun k hk hk2 => by
                have := (ho.lt k hk).1
                simp at hk2
                omega
              have hb := own_upd (own_upd ho ((Upd.refl [d] w2).setCell (p := ⟨d, 0, none⟩) (by simp) (.pointer fz)) hS) ((Upd.refl [d] _).setCell (p := ⟨d, 1, none⟩) (by simp) (.int .i64 zs.length)) hS
              simpa [dtasks] using hb
end Go.Proofs.Ytgmdhjlbedgafaa
