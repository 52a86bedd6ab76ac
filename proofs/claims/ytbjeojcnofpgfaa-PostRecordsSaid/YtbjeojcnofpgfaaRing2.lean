/- Package ring: the small methods of a state. -/
import Derived.Test.YtbjeojcnofpgfaaRing
import Derived.Test.YtbjeojcnofpgfaaDrew
set_option linter.unusedVariables false
set_option linter.unusedSimpArgs false
namespace Go.Proofs.Ytbjeojcnofpgfaa
open Go.RowKit

set_option maxRecDepth 100000 in
set_option maxHeartbeats 400000 in
theorem ring_past {w : World} {b : Nat} {n : Int} (x5 : w.cell? ⟨b, 5, none⟩ = some (.int .i64 n)) (hn0 : 0 ≤ n) (hn : n < 100) :
    Calls Try.prog 102 #[.pointer (some ⟨b, 0, none⟩)] w fun e w' => e = .returned (.int .i64 (n - 2)) ∧ w = w' := by
  have e1 : IntKind.i64.wrap (n - 2) = n - 2 := by rw [IntKind.wrap_i64]; omega
  clear hn0 hn
  go_enter Try.func102, Try.ntmps102
  go_wp2
  go_ret
  refine ⟨?_, rfl⟩
  first | rfl | simp [e1]
set_option maxRecDepth 100000 in
set_option maxHeartbeats 400000 in
theorem ring_end {cap wd : Int} {w : World} {b : Nat} {t : TypeId} {s : RgS} (f : Int) (h : RG cap wd w b t s) :
    Calls Try.prog 101 #[.pointer (some ⟨b, 0, none⟩), .int .i64 f] w fun e w' => e = .returned (.tuple #[]) ∧ RG cap wd w' b t { s with f := f, on := false } ∧ Upd [b] w w' := by
  obtain ⟨x0, x1, x2, x3, x4, x5, x6, x7⟩ := h.cells
  obtain ⟨x8, x9, x10, x11, x12, x13, x14, x15, x16, x17, x18⟩ := h.cells2
  have lb := heap_lt h.h
  have xf := fun j => h.fz j
  have HX := Lib.hid h.h
  clear h
  go_enter Try.func101, Try.ntmps101
  go_wp2
  first | refine bodyPost_ret (results_none rfl _ _ _) rfl ?_ | go_end0
  refine ⟨rfl, ⟨?hg⟩, ?_⟩
  case hg =>
    unfold ringC at *
    repeat (first | (with_reducible exact HX.out) | (with_reducible apply heap_set2) | (with_reducible apply heap_drew'))
    all_goals rfl
  repeat (first | (with_reducible refine Upd.setCell ?_ (by simp) _) | (with_reducible refine Upd.drew ?_))
  exact Upd.refl _ _
/-- What a state is behind a read word. -/
def noteS (s : RgS) (g : Int) : RgS := { s with a := if s.n = 0 then g else s.a, b := if s.n = 1 then g else s.b, n := s.n + 1 }
set_option maxRecDepth 100000 in
set_option maxHeartbeats 1000000 in
theorem ring_note {cap wd : Int} {w : World} {b : Nat} {t : TypeId} {s : RgS} (g : Int) (h : RG cap wd w b t s) (hn0 : 0 ≤ s.n) (hn : s.n < 100) :
    Calls Try.prog 99 #[.pointer (some ⟨b, 0, none⟩), .int .u32 g] w fun e w' => e = .returned (.tuple #[]) ∧ RG cap wd w' b t (noteS s g) ∧ Upd [b] w w' := by
  obtain ⟨x0, x1, x2, x3, x4, x5, x6, x7⟩ := h.cells
  obtain ⟨x8, x9, x10, x11, x12, x13, x14, x15, x16, x17, x18⟩ := h.cells2
  have lb := heap_lt h.h
  have xf := fun j => h.fz j
  have HX := Lib.hid h.h
  obtain ⟨n, a, b', v0, v1, v2, v3, f, r0, r1, r2, r3, on⟩ := s
  simp only at *
  have e1 : wrap64 (n + 1) = n + 1 := by unfold wrap64; omega
  have E1 := Lib.hid e1
  clear h
  by_cases h0 : n = 0
  · subst h0
    clear hn0 hn e1
    go_enter Try.func99, Try.ntmps99
    go_wp2
    first | refine bodyPost_ret (results_none rfl _ _ _) rfl ?_ | go_end0
    refine ⟨rfl, ⟨?hg⟩, ?_⟩
    case hg =>
      unfold ringC noteS at *
      repeat (first | (with_reducible exact HX.out) | (with_reducible apply heap_set2) | (with_reducible apply heap_drew'))
      all_goals rfl
    repeat (first | (with_reducible refine Upd.setCell ?_ (by simp) _) | (with_reducible refine Upd.drew ?_))
    exact Upd.refl _ _
  by_cases h1 : n = 1
  · subst h1
    clear hn0 hn e1
    go_enter Try.func99, Try.ntmps99
    go_wp2
    first | refine bodyPost_ret (results_none rfl _ _ _) rfl ?_ | go_end0
    refine ⟨rfl, ⟨?hg⟩, ?_⟩
    case hg =>
      unfold ringC noteS at *
      repeat (first | (with_reducible exact HX.out) | (with_reducible apply heap_set2) | (with_reducible apply heap_drew'))
      all_goals rfl
    repeat (first | (with_reducible refine Upd.setCell ?_ (by simp) _) | (with_reducible refine Upd.drew ?_))
    exact Upd.refl _ _
  · have d0 : (n == 0) = false := by simpa using h0
    have d1 : (n == 1) = false := by simpa using h1
    have hs : noteS ⟨n, a, b', v0, v1, v2, v3, f, r0, r1, r2, r3, on⟩ g = ⟨n + 1, a, b', v0, v1, v2, v3, f, r0, r1, r2, r3, on⟩ := by simp [noteS, h0, h1]
    rw [hs]
    clear hn0 hn hs h0 h1 e1
    go_enter Try.func99, Try.ntmps99
    go_wp2
    first | refine bodyPost_ret (results_none rfl _ _ _) rfl ?_ | go_end0
    rw [E1.out]
    refine ⟨rfl, ⟨?hg⟩, ?_⟩
    case hg =>
      unfold ringC at *
      repeat (first | (with_reducible exact HX.out) | (with_reducible apply heap_set2) | (with_reducible apply heap_drew'))
      all_goals rfl
    repeat (first | (with_reducible refine Upd.setCell ?_ (by simp) _) | (with_reducible refine Upd.drew ?_))
    exact Upd.refl _ _
set_option maxRecDepth 100000 in
set_option maxHeartbeats 400000 in
theorem ring_many (x y : Int) (w : World) : Calls Try.prog 100 #[.int .u32 x, .int .u32 y] w fun e w' => e = .returned (.int .u32 (IntKind.u32.wrap (y - x))) ∧ w = w' := by
  have HA := Lib.hid (show ∀ w, Calls Try.prog 140 #[.int .u32 y, .int .u32 x] w fun e w' => e = .returned (.int .u32 (IntKind.u32.wrap (y - x))) ∧ w = w' from fun w => by
    go_enter Try.func140, Try.ntmps140
    go_wp2
    go_ret
    exact ⟨rfl, rfl⟩)
  go_enter Try.func100, Try.ntmps100
  go_wp2_with (go_at_call 140; refine (HA.out _).mono ?_; rintro e w1 ⟨rfl, rfl⟩)
  go_ret
  exact ⟨rfl, rfl⟩
set_option maxRecDepth 100000 in
set_option maxHeartbeats 1000000 in
theorem ring_answer {cap wd : Int} {w : World} {b : Nat} {t : TypeId} {s : RgS} (h : RG cap wd w b t s) (hon : s.on = false) :
    Calls Try.prog 178 #[.pointer (some ⟨b, 0, none⟩)] w fun e w' => e = .returned (.tuple #[.agg #[.int .i64 s.f, .int .u32 s.r0, .int .u32 s.r1, .int .u32 s.r2, .int .u32 s.r3], .bool true]) ∧ Upd [] w w' := by
  obtain ⟨-, -, -, -, x12, x13, x14, x15, x16, x17, x18⟩ := h.cells2
  rw [hon] at x18
  have lb := heap_lt h.h
  have nb : w.heap.size ≠ b := by omega
  have nb' : b ≠ w.heap.size := by omega
  clear h hon
  go_enter Try.func178, Try.ntmps178
  go_wp2
  refine bodyPost_ret (v := .tuple #[.agg #[.int .i64 s.f, .int .u32 s.r0, .int .u32 s.r1, .int .u32 s.r2, .int .u32 s.r3], .bool true]) (by simp [results, Try.results178, go_sem]) rfl ?_
  refine ⟨rfl, ?_⟩
  exact (Upd.refl _ _).alloc _
set_option maxRecDepth 100000 in
set_option maxHeartbeats 1000000 in
theorem ring_data {cap wd : Int} {w : World} {b : Nat} {t : TypeId} {s : RgS} (a : Int) (h : RG cap wd w b t s) (hc : Cap5 cap) (h1 : 1 ≤ wd) (h4 : wd ≤ 4) (hn0 : 2 ≤ s.n) (hn : s.n - 2 < wd) :
    Calls Try.prog 177 #[.pointer (some ⟨b, 0, none⟩), .int .u32 a] w fun e w' => e = .returned (.int .i64 (2 + roomI cap a * wd + (s.n - 2))) ∧ Upd [] w w' := by
  obtain ⟨x0, x1, x2, x3, x4, x5, x6, x7⟩ := h.cells
  have H := Lib.hid h
  have lb := heap_lt h.h
  have hr := roomI_lt a hc
  have HR := Lib.hid fun w => ring_room cap wd a hc h1 h4 w
  have HC := Lib.hid fun w => cell_ring_data cap wd (roomI cap a) (s.n - 2) hc h1 h4 hr.1 hr.2 (by omega) (by omega) w
  have HP := Lib.hid fun (w : World) (x5 : w.cell? ⟨b, 5, none⟩ = some (.int .i64 s.n)) => ring_past x5 (by omega) (by omega)
  clear h hc h1 h4 hn0 hn hr
  go_enter Try.func177, Try.ntmps177
  go_wp2
  go_region_held3 (fun w' => w'.cell? ⟨b, 0, none⟩ = some (.int .i64 1) ∧ w'.cell? ⟨b, 1, none⟩ = some (.int .i64 0) ∧ w'.cell? ⟨b, 2, none⟩ = some (.int .i64 cap) ∧ w'.cell? ⟨b, 3, none⟩ = some (.int .i64 wd) ∧ w'.cell? ⟨b, 4, none⟩ = some (.int .i64 0) ∧ w'.cell? ⟨b, 5, none⟩ = some (.int .i64 s.n))
    (first | exact ⟨x0, x1, x2, x3, x4, x5⟩ | exact ⟨x0', x1', x2', x3', x4', x5'⟩ | exact ⟨x0'', x1'', x2'', x3'', x4'', x5''⟩ | (go_keep; done))
    (first
      | (go_at_call 133; refine (HR.out _).mono ?_; rintro e w2 ⟨rfl, hu2⟩; have HU2 := Lib.hid (show Upd [] w w2 from by first | exact hu2 | exact hu2.of_drew | exact hu2.of_drewN); clear hu2; obtain ⟨x0', x1', x2', x3', x4', x5', -, -⟩ := (H.out.keep HU2.out (by simp)).cells)
      | (go_at_call 102; refine (HP.out _ (by first | exact x5' | exact x5 | simpa using x5' | simpa using x5)).mono ?_; rintro e w3 ⟨rfl, rfl⟩)
      | (go_at_call 38; refine (HC.out _).mono ?_; rintro e w4 ⟨rfl, hu4⟩; have HU4 := Lib.hid (show Upd [] w2 w4 from by first | exact hu4 | exact hu4.of_drew | exact hu4.of_drewN); clear hu4; obtain ⟨x0'', x1'', x2'', x3'', x4'', x5'', -, -⟩ := (H.out.keep (HU2.out.trans HU4.out) (by simp)).cells))
  all_goals
    go_wp2
    go_ret
    refine ⟨rfl, ?_⟩
    first | exact HU2.out.trans HU4.out | exact (HU2.out.trans HU4.out).drew | exact (HU2.out.trans HU4.out).drewN _
end Go.Proofs.Ytbjeojcnofpgfaa
