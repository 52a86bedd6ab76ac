/- The law CellPlays: what came in, and the loop. -/
import Derived.Test.YtfdidgobgeohcaaPlay4
import Derived.Test.YtfdidgobgeohcaaShape
import Derived.Deep.DeepCutAuto
set_option linter.unusedVariables false
set_option linter.unusedSimpArgs false
namespace Go.Proofs.Ytfdidgobgeohcaa
open Go.RowKit

/-- A slice of steps, as it can be read. -/
def ReadsSt (w : World) (a : Option Addr) (ss : List (Int × Int × Int)) : Prop :=
  0 < ss.length → ∃ b off, a = some ⟨b, off, none⟩ ∧ b < w.heap.size ∧ ∀ j (hj : j < ss.length), w.cell? ⟨b, off + j * 3, none⟩ = some (.int .i64 ss[j].1) ∧ w.cell? ⟨b, off + j * 3 + 1, none⟩ = some (.int .i64 ss[j].2.1) ∧ w.cell? ⟨b, off + j * 3 + 2, none⟩ = some (.int .u32 ss[j].2.2)

theorem reads_steps {w : World} {v : Value} (h : (Sh.slice (.st (.cons (.int .i64) (.cons (.int .i64) (.cons (.int .u32) .nil))))).okV w v) :
    ∃ (a : Option Addr) (cap : Nat) (ss : List (Int × Int × Int)), v = .slice a ss.length cap ∧ ss.length ≤ maxLen ∧ ReadsSt w a ss ∧ ∀ s ∈ ss, 0 ≤ s.2.2 ∧ s.2.2 ≤ 4294967295 := by
  obtain ⟨a, len, cap, hv, hlc, hcm, f, hf, hm, _⟩ : (Sh.slice (.st (.cons (.int .i64) (.cons (.int .i64) (.cons (.int .u32) .nil))))).ok w [v] := h
  obtain rfl : v = .slice a len cap := by simpa using hv
  obtain ⟨ss, hl, hx⟩ := list_of len (fun i (x : Int × Int × Int) => f i = [.int .i64 x.1, .int .i64 x.2.1, .int .u32 x.2.2] ∧ (Lit.int .u32 x.2.2).wf = true) (fun i hi => by
    obtain ⟨_, _, e1, ⟨op, rfl, w1⟩, _, _, rfl, ⟨ai, rfl, w2⟩, _, _, rfl, ⟨x, rfl, w3⟩, rfl⟩ := (hf i hi).1
    exact ⟨(op, ai, x), by rw [e1]; rfl, w3⟩)
  subst hl
  refine ⟨a, cap, ss, rfl, by omega, fun h0 => ?_, fun s hs => ?_⟩
  · obtain ⟨b, off, e, hb, hc⟩ := hm h0
    refine ⟨b, off, e, hb, fun j hj => ?_⟩
    have h1 := hc j hj 0 (.int .i64 ss[j].1) (by rw [(hx j hj).1]; rfl)
    have h2 := hc j hj 1 (.int .i64 ss[j].2.1) (by rw [(hx j hj).1]; rfl)
    have h3 := hc j hj 2 (.int .u32 ss[j].2.2) (by rw [(hx j hj).1]; rfl)
    exact ⟨h1, h2, h3⟩
  · obtain ⟨i, hi, rfl⟩ := List.getElem_of_mem hs
    have := (hx i hi).2
    simpa [Lit.wf, IntKind.min, IntKind.max, IntKind.bits, IntKind.signed] using this
theorem ReadsSt.at {w w' : World} {S : List Nat} {a : Option Addr} {ss : List (Int × Int × Int)} (h : ReadsSt w a ss) (hu : Upd S w w') (hS : ∀ k, k ∈ S → w.heap.size ≤ k) {j : Nat} (hj : j < ss.length) :
    ∃ b off, a = some ⟨b, off, none⟩ ∧ b < w.heap.size ∧ w'.cell? ⟨b, off + j * 3, none⟩ = some (.int .i64 ss[j].1) ∧ w'.cell? ⟨b, off + j * 3 + 1, none⟩ = some (.int .i64 ss[j].2.1) ∧ w'.cell? ⟨b, off + j * 3 + 2, none⟩ = some (.int .u32 ss[j].2.2) := by
  obtain ⟨b, off, e, hb, hc⟩ := h (by omega)
  obtain ⟨c0, c1, c2⟩ := hc j hj
  have hn : b ∉ S := fun hk => by have := hS b hk; omega
  exact ⟨b, off, e, hb, (hu.cell (p := ⟨b, _, none⟩) hb hn).trans c0, (hu.cell (p := ⟨b, _, none⟩) hb hn).trans c1, (hu.cell (p := ⟨b, _, none⟩) hb hn).trans c2⟩

/-- Both memories, one beside the other. -/
structure Both (W wr : World) (B b g bx : Nat) (n k : Nat) (m : MS) (v : Value) : Prop where
  mem : Mem wr b g m.lo m.st m.xs
  len : m.xs.length = n
  u32 : U32s m.xs
  lo0 : 0 ≤ m.lo
  lo1 : m.lo ≤ k
  st0 : 0 ≤ m.st
  st1 : m.st ≤ k
  own : wr.ownsRow B 23 1 v m.xs.length (u32s m.xs)
  box : wr.heap[bx]? = some (.cells #[v, .int .i64 m.lo, .int .i64 m.st] 63 (0, 0))
  upd : Upd [] W wr

theorem words_same (a b : Option Addr) (ca cb : Nat) (xs : List Int) (w : World) (hx : Reads w a xs.length (u32s xs)) (hy : Reads w b xs.length (u32s xs)) (hl : xs.length ≤ 9223372036854775807) :
    Calls Try.prog 38 #[.slice a xs.length ca, .slice b xs.length cb] w fun e w' => e = .returned (.bool true) ∧ Upd [] w w' :=
  (words_any a b ca cb xs xs w hx hy hl hl).mono fun _ _ ⟨h1, h2⟩ => ⟨by simpa using h1, h2⟩
theorem reads_row {w : World} {g : Nat} {xs : List Int} {t : TypeId} (h : w.heap[g]? = some (.cells (u32s xs).toArray t (0, 0))) : Reads w (some ⟨g, 0, none⟩) xs.length (u32s xs) :=
  ⟨by simp [u32s], fun _ => ⟨g, 0, rfl, heap_lt h, fun j v hj => by rw [cell_of_heap h]; simpa using hj⟩⟩

theorem own_ne {w : World} {base n size : Nat} {e : TypeId} {v : Value} {xs : List Value} (h : w.ownsRow base e size v n xs) {j : Nat} {c : Array Value} {t : TypeId} {f : Nat × Nat} (hj : w.heap[j]? = some (.cells c t f)) (ht : t ≠ e) : v.ownBlock ≠ some j := by
  rcases h.2 with ⟨rfl, rfl⟩ | ⟨g, cap, cur, rfl, hb, hh, _⟩
  · intro e; cases e
  · intro e
    obtain rfl : g = j := by simpa [Value.ownBlock] using e
    rw [hh] at hj
    simp at hj
    exact ht hj.2.1.symm

theorem count_after {w4 WW : World} {b g bx : Nat} {lo st : Int} {xs : List Int} {S : List Nat} {o : Obj} (hm : Mem w4 b g lo st xs) (hu : Upd S w4 WW) (h1 : b ∉ S) (h2 : g ∉ S) (hb : WW.heap[bx]? = some o) :
    Calls Try.prog 37 #[.pointer (some ⟨b, 0, none⟩)] WW fun e w' => e = .returned (.tuple #[.int .i64 lo, .int .i64 st]) ∧ Upd S w4 w' ∧ w'.heap[bx]? = some o :=
  (count_any (hm.keep hu h1 h2)).mono fun _ _ ⟨he, hw⟩ => ⟨he, hu.then hw (by simp), hw.keepb hb (by simp)⟩

set_option maxRecDepth 100000 in
set_option maxHeartbeats 4000000 in
theorem plays_in (a : Option Addr) (cap : Nat) (xs : List Int) (a2 : Option Addr) (cap2 : Nat) (ss : List (Int × Int × Int)) (W : World) (hn : xs.length ≤ 60) (hn2 : ss.length ≤ 60)
    (hr : Reads W a xs.length (u32s xs)) (hc : a = none → cap = 0) (hx : U32s xs) (hs : ReadsSt W a2 ss) (hsx : ∀ s ∈ ss, 0 ≤ s.2.2 ∧ s.2.2 ≤ 4294967295) :
    Calls Try.prog 6 #[.slice a xs.length cap, .slice a2 ss.length cap2] W fun e w' => e = .returned (.bool true) ∧ Upd [] W w' := by
  have HR := Lib.hid hr
  have HC := Lib.hid hc
  have HXX := Lib.hid hx
  have HST := Lib.hid hs
  have HSX := Lib.hid hsx
  clear hr hc hx hs hsx
  go_enter Try.func6, Try.ntmps6
  go_wp2_with (first
    | (go_at_call 15; refine (of_any _ _ xs _ (by omega) HR.out).mono ?_; rintro e w1 ⟨b, g, rfl, hb, hg, hm0, hu0⟩; have HM0 := Lib.hid hm0; have HU0 := Lib.hid hu0; have l1 := heap_lt hm0.hb; have l2 := heap_lt hm0.hg; clear hm0 hu0)
    | (go_at_call 35; refine (ref_of _ _ xs _ (HR.out.upd HU0.out (by simp)) HC.out (by omega)).mono ?_; rintro e w2 ⟨v0, rfl, ho0, hu1⟩; have HO0 := Lib.hid ho0; have HU1 := Lib.hid hu1; obtain ⟨va0, vc0, rfl, -, -⟩ := own_shape ho0; clear ho0 hu1))
  have hb1 := HU1.out.size
  have hstart : Both W (w2.alloc (.cells #[.slice va0 xs.length vc0, .int .i64 0, .int .i64 0] 63)) w1.heap.size b g w2.heap.size xs.length 0 ⟨0, 0, xs⟩ (.slice va0 xs.length vc0) :=
    ⟨(HM0.out.keep HU1.out (by simp) (by simp)).alloc _, rfl, HXX.out, Int.le_refl _, by simp, Int.le_refl _, by simp, HO0.out.alloc _, heap_alloc_new _ _, (HU0.out.trans HU1.out).alloc _⟩
  have HSTART := Lib.hid hstart
  clear hstart
  go_loopg [7] ss.length (fun n i wr => ∃ k m v, n = ss.length - k ∧ k ≤ ss.length ∧ i = .int .i64 k ∧ Both W wr w1.heap.size b g w2.heap.size xs.length k m v)
  case atStart => exact ⟨0, _, _, by omega, by omega, rfl, HSTART.out⟩
  case round =>
    obtain ⟨k, m, v, rfl, hk, rfl, hB⟩ := hrel
    have HB := Lib.hid hB
    clear hB
    by_cases hlt : k < ss.length
    · obtain ⟨sb, so, rfl, hsb, e0, e1, e2⟩ := HST.out.at HB.out.upd (by simp) hlt
      have hxb := HSX.out ss[k] (List.getElem_mem _)
      obtain ⟨op, ai, x, hss⟩ : ∃ op ai x, ss[k] = (op, ai, x) := ⟨_, _, _, rfl⟩
      rw [hss] at e0 e1 e2 hxb
      simp only at e0 e1 e2 hxb
      have hx0 := hxb.1
      have hx1 := hxb.2
      have hdo := do_any op ai x HB.out.mem HB.out.st0 (by have := HB.out.st1; omega) HB.out.lo0 (by have := HB.out.lo1; omega)
      have hdr := fun (w3 : World) (hu : Upd [b, g] wr w3) => ref_do_any op ai x w1.heap.size (W := w3) (own_upd HB.out.own hu (fun q hq => by have := own_base HB.out.own q hq; simp; omega)) (Nat.le_trans (by have := heap_lt HB.out.box; omega) hu.size) (by rw [HB.out.len]; omega) HB.out.st0 (by have := HB.out.st1; omega) HB.out.lo0 (by have := HB.out.lo1; omega) hx0 hx1 HB.out.u32
      have q1 := stepMS_len op ai x m
      have q2 := stepMS_lo op ai x m
      have q3 := stepMS_st op ai x m
      have q4 := stepMS_u32 op ai x HB.out.u32 hx0 hx1
      obtain ⟨lo, st, ys⟩ := m
      obtain ⟨⟨⟨lo', st', ys'⟩, y, bb⟩, hr⟩ : ∃ r, r = stepMS op ai x ⟨lo, st, ys⟩ := ⟨_, rfl⟩
      rw [← hr] at hdo hdr q1 q2 q3 q4
      have HDO := Lib.hid hdo
      have HDR := Lib.hid hdr
      have HQ := Lib.hid (And.intro q1 (And.intro q2 (And.intro q3 q4)))
      have HSS := Lib.hid hss
      clear hss hxb hdo hdr q1 q2 q3 q4 hr
      obtain ⟨va, vc, rfl, -, -⟩ := own_shape HB.out.own
      obtain ⟨x0, x1, x2⟩ := cells3 HB.out.box
      go_wp2_with (first
        | (go_at_call 17; refine HDO.out.mono ?_; rintro e w3 ⟨rfl, hm3, hu3⟩; have HM3 := Lib.hid hm3; have HU3 := Lib.hid hu3; clear hm3 hu3))
      have HW3 := Lib.hid (HB.out.upd.then HU3.out (by simp; omega))
      have HBX3 := Lib.hid (HU3.out.keepb HB.out.box (by simp; omega))
      clear e0 e1 e2 x0 x1 x2
      obtain ⟨x0, x1, x2⟩ := cells3 HBX3.out
      obtain ⟨sb', so', hsq, hsb', e0, e1, e2⟩ := HST.out.at HW3.out (by simp) hlt
      obtain ⟨rfl, rfl⟩ : sb' = sb ∧ so' = so := by simpa [eq_comm] using hsq
      rw [HSS.out] at e0 e1 e2
      simp only at e0 e1 e2
      have ne0 := World.new_ne w3 _ x0
      have ne1 := World.new_ne w3 _ x1
      have ne2 := World.new_ne w3 _ x2
      have ne3 := World.new_ne w3 _ e0
      have ne4 := World.new_ne w3 _ e1
      have ne5 := World.new_ne w3 _ e2
      clear hsq hsb'
      have lx := heap_lt HBX3.out
      have ls : sb' < w3.heap.size := Nat.lt_of_lt_of_le hsb HW3.out.size
      go_region_held3 (fun w' => w'.cell? ⟨w2.heap.size, 0, none⟩ = some (.slice va ys.length vc) ∧ w'.cell? ⟨w2.heap.size, 1, none⟩ = some (.int .i64 lo) ∧ w'.cell? ⟨w2.heap.size, 2, none⟩ = some (.int .i64 st) ∧ w'.cell? ⟨sb', so' + k * 3, none⟩ = some (.int .i64 op) ∧ w'.cell? ⟨sb', so' + k * 3 + 1, none⟩ = some (.int .i64 ai) ∧ w'.cell? ⟨sb', so' + k * 3 + 2, none⟩ = some (.int .u32 x))
        (first | exact ⟨x0, x1, x2, e0, e1, e2⟩ | exact ⟨x0', x1', x2', e0', e1', e2'⟩ | (go_keep; done))
        (first | (go_at_call 36; refine (HDR.out _ (by first | exact HU3.out | exact HU3.out.drew | exact HU3.out.drewN _ | exact HU3.out.alloc _ | exact HU3.out.drew.alloc _ | exact (HU3.out.drewN _).alloc _)).mono ?_; rintro e w4 ⟨v', rfl, ho4, hu4⟩; have HV4 := Lib.hid (show Upd [] w3 w4 from by first | exact (Upd.refl _ _).trans hu4 | exact (Upd.refl _ _).drew.trans hu4 | exact ((Upd.refl _ _).drewN _).trans hu4 | exact ((Upd.refl _ _).alloc _).trans hu4 | exact ((Upd.refl _ _).drew.alloc _).trans hu4 | exact (((Upd.refl _ _).drewN _).alloc _).trans hu4); have HO4 := Lib.hid ho4; obtain ⟨va', vc', rfl, -, -⟩ := own_shape ho4; (try (have hz := hu4.keepb (heap_alloc_new _ _) (by simp); obtain ⟨y0, y1, y2⟩ := cells3 hz; have yf := fun j => frozen_of_heap hz j; have HZ := Lib.hid hz; clear hz)); clear ho4 hu4; have x0' := (HV4.out.cell (p := ⟨w2.heap.size, 0, none⟩) lx (by simp)).trans x0; have x1' := (HV4.out.cell (p := ⟨w2.heap.size, 1, none⟩) lx (by simp)).trans x1; have x2' := (HV4.out.cell (p := ⟨w2.heap.size, 2, none⟩) lx (by simp)).trans x2; have e0' := (HV4.out.cell (p := ⟨sb', so' + k * 3, none⟩) ls (by simp)).trans e0; have e1' := (HV4.out.cell (p := ⟨sb', so' + k * 3 + 1, none⟩) ls (by simp)).trans e1; have e2' := (HV4.out.cell (p := ⟨sb', so' + k * 3 + 2, none⟩) ls (by simp)).trans e2; have me0 := World.new_ne w4 _ x0'; have me3 := World.new_ne w4 _ e0'))
      · have HBX4 := Lib.hid (HV4.out.keepb HBX3.out (by simp))
        have xf' := fun j => frozen_of_heap HBX4.out j
        have HM4 := Lib.hid (HM3.out.keep HV4.out (by simp) (by simp))
        have l4 := HV4.out.size
        have lx4 : w2.heap.size < w4.heap.size := by omega
        have nx3 : w2.heap.size ≠ w3.heap.size := by omega
        have nx3' : w3.heap.size ≠ w2.heap.size := by omega
        have nx4 : w4.heap.size ≠ w2.heap.size := by omega
        have nx4' : w2.heap.size ≠ w4.heap.size := by omega
        clear l4
        go_wp2_with (go_at_call 37; refine Go.RowKit.Hid.out ?_)
        refine Lib.hid ?_
        have hS5 : Upd [w2.heap.size] w4 ((((w4.setCell ⟨w2.heap.size, 0, none⟩ (.slice va' ys'.length vc')).setCell ⟨w2.heap.size, 1, none⟩ (.int .i64 lo')).setCell ⟨w2.heap.size, 2, none⟩ (.int .i64 st')).alloc (.cells #[.slice va' ys'.length vc', .int .i64 lo', .int .i64 st'] 63)) := ((((Upd.refl _ _).setCell (by simp) _).setCell (by simp) _).setCell (by simp) _).alloc _
        refine (count_after (bx := w2.heap.size) HM4.out hS5 (by simp; omega) (by simp; omega) (by rw [heap_alloc_other _ _ (by simpa [size_setCell] using lx4)]; exact heap_set (heap_set (heap_set HBX4.out 0 _) 1 _) 2 _)).mono ?_
        rintro e w5 ⟨rfl, hu5, hb5⟩
        have HU5 := Lib.hid hu5
        have HB5 := Lib.hid (show w5.heap[w2.heap.size]? = some (.cells #[.slice va' ys'.length vc', .int .i64 lo', .int .i64 st'] 63 (0, 0)) from hb5)
        clear hu5 hb5 hS5
        obtain ⟨t0, t1, t2⟩ := cells3 HB5.out
        have HO5 := Lib.hid (own_upd HO4.out HU5.out (fun q hq => by have := own_ne HO4.out HBX4.out (by decide); simp; intro e; subst e; exact this hq))
        clear x0' x1' x2' e0' e1' e2' x0 x1 x2 e0 e1 e2
        go_wp2
        go_roundg (ss.length - (k + 1))
        case rel =>
          refine ⟨k + 1, ⟨lo', st', ys'⟩, .slice va' ys'.length vc', rfl, by omega, by go_num, ?_⟩
          have q := HQ.out
          try dsimp only at q
          have hb := HB.out
          exact ⟨HM4.out.keep HU5.out (by simp; omega) (by simp; omega), q.1.trans hb.len, q.2.2.2, Int.le_trans hb.lo0 q.2.1.1, (by have := hb.lo1; have := q.2.1.2; simp only at *; omega), Int.le_trans hb.st0 q.2.2.1.1, (by have := hb.st1; have := q.2.2.1.2; simp only at *; omega), HO5.out, HB5.out, (HW3.out.trans HV4.out).then HU5.out (by simp; omega)⟩
        case measure => omega
      · have HBX4 := Lib.hid (HV4.out.keepb HBX3.out (by simp))
        have xf' := fun j => frozen_of_heap HBX4.out j
        have HM4 := Lib.hid (HM3.out.keep HV4.out (by simp) (by simp))
        have l4 := HV4.out.size
        have lx4 : w2.heap.size < w4.heap.size := by omega
        have nx3 : w2.heap.size ≠ w3.heap.size := by omega
        have nx3' : w3.heap.size ≠ w2.heap.size := by omega
        have nx4 : w4.heap.size ≠ w2.heap.size := by omega
        have nx4' : w2.heap.size ≠ w4.heap.size := by omega
        clear l4
        go_wp2_with (go_at_call 37; refine Go.RowKit.Hid.out ?_)
        refine Lib.hid ?_
        have hS5 : Upd [w2.heap.size, w3.heap.size] w4 ((((((w4.setCell ⟨w3.heap.size, 0, none⟩ (.slice va' ys'.length vc')).setCell ⟨w3.heap.size, 1, none⟩ (.int .i64 lo')).setCell ⟨w3.heap.size, 2, none⟩ (.int .i64 st')).setCell ⟨w2.heap.size, 0, none⟩ (.slice va' ys'.length vc')).setCell ⟨w2.heap.size, 1, none⟩ (.int .i64 lo')).setCell ⟨w2.heap.size, 2, none⟩ (.int .i64 st')) := ((((((Upd.refl _ _).setCell (by simp) _).setCell (by simp) _).setCell (by simp) _).setCell (by simp) _).setCell (by simp) _).setCell (by simp) _
        refine (count_after (bx := w2.heap.size) HM4.out hS5 (by simp; omega) (by simp; omega) (heap_set (heap_set (heap_set (by rw [heap_set_other _ _ _ nx3, heap_set_other _ _ _ nx3, heap_set_other _ _ _ nx3]; exact HBX4.out) 0 _) 1 _) 2 _)).mono ?_
        rintro e w5 ⟨rfl, hu5, hb5⟩
        have HU5 := Lib.hid hu5
        have HB5 := Lib.hid (show w5.heap[w2.heap.size]? = some (.cells #[.slice va' ys'.length vc', .int .i64 lo', .int .i64 st'] 63 (0, 0)) from hb5)
        clear hu5 hb5 hS5
        obtain ⟨t0, t1, t2⟩ := cells3 HB5.out
        have HO5 := Lib.hid (own_upd HO4.out HU5.out (fun q hq => by have := And.intro (own_ne HO4.out HBX4.out (by decide)) (own_ne HO4.out HZ.out (by decide)); simp; exact ⟨fun e => this.1 (e ▸ hq), fun e => this.2 (e ▸ hq)⟩))
        clear x0' x1' x2' e0' e1' e2' x0 x1 x2 e0 e1 e2
        go_wp2
        go_roundg (ss.length - (k + 1))
        case rel =>
          refine ⟨k + 1, ⟨lo', st', ys'⟩, .slice va' ys'.length vc', rfl, by omega, by go_num, ?_⟩
          have q := HQ.out
          try dsimp only at q
          have hb := HB.out
          exact ⟨HM4.out.keep HU5.out (by simp; omega) (by simp; omega), q.1.trans hb.len, q.2.2.2, Int.le_trans hb.lo0 q.2.1.1, (by have := hb.lo1; have := q.2.1.2; simp only at *; omega), Int.le_trans hb.st0 q.2.2.1.1, (by have := hb.st1; have := q.2.2.1.2; simp only at *; omega), HO5.out, HB5.out, (HW3.out.trans HV4.out).then HU5.out (by simp; omega)⟩
        case measure => omega
    · obtain ⟨lo, st, ys⟩ := m
      obtain ⟨va, vc, rfl, -, -⟩ := own_shape HB.out.own
      obtain ⟨_, _, ev, hrv⟩ := own_reads HB.out.own
      cases ev
      have HRV := Lib.hid hrv
      obtain ⟨c0, -, -⟩ := cells3 HB.out.box
      have lx := heap_lt HB.out.box
      have hle := HB.out.len
      simp only at hle
      have q1 : ((ys.length : Int) == (xs.length : Int)) = true := by simp [hle]
      have q2 : (ys.length == xs.length) = true := by simp [hle]
      have hy1 : ys.length ≤ 65536 := by omega
      clear hrv hle
      go_upto_region 13 with fail
      go_region_held3 (fun w' => w'.cell? ⟨w2.heap.size, 0, none⟩ = some (.slice va ys.length vc))
        (first | exact c0 | exact c6 | exact c7 | exact c8 | exact c9 | exact c10 | (go_keep; done))
        (first
          | (go_at_call 18; refine (all_any (HB.out.mem.keep (S := []) (by first | exact Upd.refl _ _ | exact (Upd.refl _ _).drew | exact (Upd.refl _ _).drewN _) (by simp) (by simp))).mono ?_; rintro e w6 ⟨g6, rfl, hg6, hc6, hu6⟩; have HU6 := Lib.hid (show Upd [] wr w6 from by first | exact (Upd.refl _ _).trans hu6 | exact (Upd.refl _ _).drew.trans hu6 | exact ((Upd.refl _ _).drewN _).trans hu6); have HC6 := Lib.hid hc6; clear hc6 hu6; have c6 := (HU6.out.cell (p := ⟨w2.heap.size, 0, none⟩) lx (by simp)).trans c0)
          | (go_at_call 38; refine (words_same _ _ _ _ ys _ (reads_row HC6.out) (HRV.out.upd HU6.out (by simp)) (by omega)).mono ?_; rintro e w7 ⟨rfl, hu7⟩; have HU7 := Lib.hid (HU6.out.trans hu7); clear hu7; have c7 := (HU7.out.cell (p := ⟨w2.heap.size, 0, none⟩) lx (by simp)).trans c0)
          | (go_at_call 39; refine (len_any (HB.out.mem.keep HU7.out (by simp) (by simp))).mono ?_; rintro e w7 ⟨rfl, rfl⟩)
          | (go_at_call 15; refine (of_any _ _ ys _ hy1 (HRV.out.upd HU7.out (by simp))).mono ?_; rintro e w8 ⟨b8, g8, rfl, hb8, hg8, hm8, hu8⟩; have HM8 := Lib.hid hm8; have HU8 := Lib.hid (HU7.out.trans hu8); clear hm8 hu8; have c8 := (HU8.out.cell (p := ⟨w2.heap.size, 0, none⟩) lx (by simp)).trans c0)
          | (go_at_call 40; refine (msame_any (HB.out.mem.keep HU8.out (by simp) (by simp)) HM8.out).mono ?_; rintro e w9 ⟨rfl, hu9⟩; have HU9 := Lib.hid (HU8.out.trans hu9); clear hu9; have c9 := (HU9.out.cell (p := ⟨w2.heap.size, 0, none⟩) lx (by simp)).trans c0)
          | (go_at_call 14; refine (alive06 _).mono ?_; rintro e w10 ⟨rfl, hu10⟩; have HU10 := Lib.hid (HU9.out.trans hu10); clear hu10; have c10 := (HU10.out.cell (p := ⟨w2.heap.size, 0, none⟩) lx (by simp)).trans c0))
      all_goals
        go_wp2
        go_ret
        exact ⟨rfl, HB.out.upd.trans HU10.out⟩

set_option maxRecDepth 100000 in
set_option maxHeartbeats 1000000 in
theorem plays_out (a : Option Addr) (n cap : Nat) (a2 : Option Addr) (n2 cap2 : Nat) (W : World) (hn : n ≤ 9223372036854775807) (hn2 : n2 ≤ 9223372036854775807) (h : 60 < n ∨ 60 < n2) :
    Calls Try.prog 6 #[.slice a n cap, .slice a2 n2 cap2] W fun e w' => e = .returned (.bool true) ∧ Upd [] W w' := by
  by_cases h1 : 60 < n
  · go_enter Try.func6, Try.ntmps6
    go_wp2_with (go_at_call 14; refine (alive06 _).mono ?_; rintro e w1 ⟨rfl, hu1⟩)
    go_ret
    exact ⟨rfl, hu1⟩
  · have h2 : 60 < n2 := by omega
    go_enter Try.func6, Try.ntmps6
    go_wp2_with (go_at_call 14; refine (alive06 _).mono ?_; rintro e w1 ⟨rfl, hu1⟩)
    go_ret
    exact ⟨rfl, hu1⟩
end Go.Proofs.Ytfdidgobgeohcaa
