/- The walk, part 9: RingSite Ring Ring2 Flags2 Ring4. -/
import Derived.Test.YtnnakiojfpnphaaZi07
import Derived.Test.YtnnakiojfpnphaaZi04
import Derived.Deep.RegionHeld3
import Derived.Test.YtnnakiojfpnphaaZi01
set_option linter.unusedVariables false
set_option linter.unusedSimpArgs false

namespace Go.Proofs.Ytnnakiojfpnphaa
open Go.RowKit

def Cap5 (cap : Int) : Prop := cap = 1 ∨ cap = 2 ∨ cap = 4 ∨ cap = 8 ∨ cap = 16 ∨ cap = 32 ∨ cap = 64
theorem Cap5.le {cap : Int} (h : Cap5 cap) : 1 ≤ cap ∧ cap ≤ 64 := by unfold Cap5 at h; omega
set_option maxRecDepth 100000 in
set_option maxHeartbeats 400000 in
theorem power_ok (cap : Int) (h : Cap5 cap) (w : World) : Calls Try.prog 44 #[.int .i64 cap] w fun e w' => e = .returned (.bool true) ∧ w = w' := by
  rcases h with rfl | rfl | rfl | rfl | rfl | rfl | rfl
  all_goals
    go_enter Try.func44, Try.ntmps44
    go_wp2
    go_ret
    exact ⟨rfl, rfl⟩
set_option maxRecDepth 100000 in
set_option maxHeartbeats 1000000 in
theorem right_ring (cap wd : Int) (h : Cap5 cap) (h1 : 1 ≤ wd) (h4 : wd ≤ 4) (w : World) : Calls Try.prog 19 #[objV 1 cap wd 0 0 0 0 0 0 0] w fun e w' => e = .returned (.bool true) ∧ Upd [] w w' := by
  have d1 : decide (1 ≤ wd) = true := by simpa using h1
  have d2 : decide (wd ≤ 4) = true := by simpa using h4
  have d3 : decide (cap ≤ 64) = true := by have := h.le; simp; omega
  have HP := Lib.hid fun w => power_ok cap h w
  unfold objV
  clear h h1 h4
  go_enter Try.func19, Try.ntmps19
  go_wp2_with (first
    | (go_at_call 43; refine (within_any _ _ _ _).mono ?_; rintro e w1 ⟨rfl, rfl⟩; rw [d1, d2])
    | (go_at_call 44; refine (HP.out _).mono ?_; rintro e w1 ⟨rfl, rfl⟩))
  go_ret
  exact ⟨rfl, (Upd.refl _ _).alloc _⟩
set_option maxRecDepth 100000 in
set_option maxHeartbeats 400000 in
theorem ahead_ring (w : World) : Calls Try.prog 63 #[.int .i64 1] w fun e w' => e = .returned (.int .i64 2) ∧ w = w' := by
  go_enter Try.func63, Try.ntmps63
  go_wp2
  go_ret
  exact ⟨rfl, rfl⟩
set_option maxRecDepth 100000 in
set_option maxHeartbeats 400000 in
theorem rooms_ring (n : Int) (w : World) : Calls Try.prog 64 #[.int .i64 1, .int .i64 n] w fun e w' => e = .returned (.int .i64 n) ∧ w = w' := by
  go_enter Try.func64, Try.ntmps64
  go_wp2
  go_ret
  exact ⟨rfl, rfl⟩
theorem mul_le64 {cap wd : Int} (h : 0 ≤ cap ∧ cap ≤ 64) (h1 : 0 ≤ wd) (h4 : wd ≤ 4) : 0 ≤ cap * wd ∧ cap * wd ≤ 256 := by
  have : wd = 0 ∨ wd = 1 ∨ wd = 2 ∨ wd = 3 ∨ wd = 4 := by omega
  rcases this with rfl | rfl | rfl | rfl | rfl <;> omega
theorem size_ring (cap wd : Int) (h : Cap5 cap) (h1 : 1 ≤ wd) (h4 : wd ≤ 4) (w : World) : Calls Try.prog 48 #[objV 1 cap wd 0 0 0 0 0 0 0] w fun e w' => e = .returned (.int .i64 (2 + cap * wd)) ∧ Upd [] w w' := by
  have hm := mul_le64 (cap := cap) (wd := wd) (by have := h.le; omega) (by omega) h4
  exact size_any 1 cap wd 0 2 cap (cap * wd) (2 + cap * wd) (right_ring cap wd h h1 h4) ahead_ring (rooms_ring cap) (by rw [IntKind.wrap_i64]; omega) (by rw [IntKind.wrap_i64]; omega) w
theorem of_ring (cap wd : Int) (h : Cap5 cap) (h1 : 1 ≤ wd) (h4 : wd ≤ 4) (lb c : Nat) (W : World) {ty : TypeId} (hb : W.heap[lb]? = some (.cells #[.int .i64 1, .int .i64 cap, .int .i64 wd, .int .i64 0, .int .i64 0, .int .i64 0, .int .u32 0, .int .u32 0, .int .u32 0, .int .u32 0] ty (0, 0))) :
    Calls Try.prog 21 #[.slice (some ⟨lb, 0, none⟩) 1 c] W (OfPost 1 cap wd 0 (2 + cap * wd) W) := by
  have hm := mul_le64 (cap := cap) (wd := wd) (by have := h.le; omega) (by omega) h4
  exact of_one 1 cap wd 0 (2 + cap * wd) (by omega) (by omega) (right_ring cap wd h h1 h4) (size_ring cap wd h h1 h4) lb c W hb

set_option maxRecDepth 100000 in
set_option maxHeartbeats 2000000 in
theorem cell_ring_head (cap wd : Int) (h : Cap5 cap) (h1 : 1 ≤ wd) (h4 : wd ≤ 4) (w : World) : Calls Try.prog 54 #[.agg #[.int .i64 1, .int .i64 0, .int .i64 cap, .int .i64 wd, .int .i64 0], .int .i64 1, .int .i64 0, .int .i64 0] w fun e w' => e = .returned (.int .i64 0) ∧ Upd [] w w' := by
  have HR := Lib.hid fun w => right_ring cap wd h h1 h4 w
  unfold objV at HR
  clear h h1 h4
  go_enter Try.func54, Try.ntmps54
  go_wp2_with (go_at_call 19; refine (HR.out _).mono ?_; rintro e w1 ⟨rfl, hu1⟩; have hp := hu1.keepb ((heap_alloc_other _ _ (by simp)).trans (heap_alloc_new w _)) (by simp); have p0 := cell_of_heap hp 0; have p1 := cell_of_heap hp 1; simp at p0 p1; clear hp)
  go_ret
  exact ⟨rfl, (((Upd.refl _ _).alloc _).alloc _).trans hu1⟩
set_option maxRecDepth 100000 in
set_option maxHeartbeats 2000000 in
theorem cell_ring_tail (cap wd : Int) (h : Cap5 cap) (h1 : 1 ≤ wd) (h4 : wd ≤ 4) (w : World) : Calls Try.prog 54 #[.agg #[.int .i64 1, .int .i64 0, .int .i64 cap, .int .i64 wd, .int .i64 0], .int .i64 2, .int .i64 0, .int .i64 0] w fun e w' => e = .returned (.int .i64 1) ∧ Upd [] w w' := by
  have HR := Lib.hid fun w => right_ring cap wd h h1 h4 w
  unfold objV at HR
  clear h h1 h4
  go_enter Try.func54, Try.ntmps54
  go_wp2_with (go_at_call 19; refine (HR.out _).mono ?_; rintro e w1 ⟨rfl, hu1⟩; have hp := hu1.keepb ((heap_alloc_other _ _ (by simp)).trans (heap_alloc_new w _)) (by simp); have p0 := cell_of_heap hp 0; have p1 := cell_of_heap hp 1; simp at p0 p1; clear hp)
  go_ret
  exact ⟨rfl, (((Upd.refl _ _).alloc _).alloc _).trans hu1⟩
set_option maxRecDepth 100000 in
set_option maxHeartbeats 4000000 in
theorem cell_ring_data (cap wd i k : Int) (h : Cap5 cap) (h1 : 1 ≤ wd) (h4 : wd ≤ 4) (hi0 : 0 ≤ i) (hi : i < cap) (hk0 : 0 ≤ k) (hk : k < wd) (w : World) : Calls Try.prog 54 #[.agg #[.int .i64 1, .int .i64 0, .int .i64 cap, .int .i64 wd, .int .i64 0], .int .i64 3, .int .i64 i, .int .i64 k] w fun e w' => e = .returned (.int .i64 (2 + i * wd + k)) ∧ Upd [] w w' := by
  have HR := Lib.hid fun w => right_ring cap wd h h1 h4 w
  unfold objV at HR
  have hcl := h.le
  have hm := mul_le64 (cap := i) (wd := wd) (by omega) (by omega) h4
  have e1 : IntKind.i64.wrap (cap - 1) = cap - 1 := by rw [IntKind.wrap_i64]; omega
  have e2 : IntKind.i64.wrap (wd - 1) = wd - 1 := by rw [IntKind.wrap_i64]; omega
  have e3 : IntKind.i64.wrap (i * wd) = i * wd := by rw [IntKind.wrap_i64]; omega
  have e4 : IntKind.i64.wrap (2 + i * wd) = 2 + i * wd := by rw [IntKind.wrap_i64]; omega
  have e5 : IntKind.i64.wrap (2 + i * wd + k) = 2 + i * wd + k := by rw [IntKind.wrap_i64]; omega
  have d1 : decide (0 ≤ i) = true := by simpa using hi0
  have d2 : decide (i ≤ cap - 1) = true := by simp; omega
  have d3 : decide (0 ≤ k) = true := by simpa using hk0
  have d4 : decide (k ≤ wd - 1) = true := by simp; omega
  have E1 := Lib.hid e1
  have E2 := Lib.hid e2
  generalize hM : i * wd = M at *
  clear h h1 h4 hi0 hi hk0 hk hcl hm
  go_enter Try.func54, Try.ntmps54
  go_wp2_with (first
    | (go_at_call 19; refine (HR.out _).mono ?_; rintro e w1 ⟨rfl, hu1⟩; have HU1 := Lib.hid ((((Upd.refl [] w).alloc _).alloc _).trans hu1); have hp := hu1.keepb ((heap_alloc_other _ _ (by simp)).trans (heap_alloc_new w _)) (by simp); have p0 := cell_of_heap hp 0; have p1 := cell_of_heap hp 1; have p2 := cell_of_heap hp 2; have p3 := cell_of_heap hp 3; simp at p0 p1 p2 p3; clear hp hu1)
    | (go_at_call 64; refine (rooms_ring _ _).mono ?_; rintro e w2 ⟨rfl, rfl⟩)
    | (go_at_call 63; refine (ahead_ring _).mono ?_; rintro e w2 ⟨rfl, rfl⟩)
    | (go_at_call 43; refine (within_any _ _ _ _).mono ?_; rintro e w2 ⟨rfl, rfl⟩))
  go_region_held3 (fun w' => w'.cell? ⟨w.heap.size, 0, none⟩ = some (.int .i64 1) ∧ w'.cell? ⟨w.heap.size, 1, none⟩ = some (.int .i64 0) ∧ w'.cell? ⟨w.heap.size, 3, none⟩ = some (.int .i64 wd))
    (first | exact ⟨p0, p1, p3⟩ | (go_keep; done))
    (first
      | (go_at_call 63; refine (ahead_ring _).mono ?_; rintro e w2 ⟨rfl, rfl⟩))
  all_goals
    go_wp2
    go_ret
    refine ⟨by first | rfl | simp [show IntKind.i64.wrap 2 = 2 by decide, hM, e3, e4, e5], ?_⟩
    first | exact HU1.out | exact HU1.out.drew | exact HU1.out.drewN _
end Go.Proofs.Ytnnakiojfpnphaa
namespace Go.Proofs.Ytnnakiojfpnphaa
open Go.RowKit

structure RgS where
  n : Int
  a : Int
  b : Int
  v0 : Int
  v1 : Int
  v2 : Int
  v3 : Int
  f : Int
  r0 : Int
  r1 : Int
  r2 : Int
  r3 : Int
  on : Bool
def ringC (cap wd : Int) (s : RgS) : List Value := [.int .i64 1, .int .i64 0, .int .i64 cap, .int .i64 wd, .int .i64 0, .int .i64 s.n, .int .u32 s.a, .int .u32 s.b, .int .u32 s.v0, .int .u32 s.v1, .int .u32 s.v2, .int .u32 s.v3, .int .i64 s.f, .int .u32 s.r0, .int .u32 s.r1, .int .u32 s.r2, .int .u32 s.r3, .bool true, .bool s.on]
structure RG (cap wd : Int) (w : World) (b : Nat) (t : TypeId) (s : RgS) : Prop where
  h : w.heap[b]? = some (.cells (ringC cap wd s).toArray t (0, 0))
theorem RG.keep {cap wd : Int} {w w' : World} {b : Nat} {t : TypeId} {s : RgS} (h : RG cap wd w b t s) {S : List Nat} (hu : Upd S w w') (hb : b ∉ S) : RG cap wd w' b t s := ⟨hu.keepb h.h hb⟩
theorem RG.cell {cap wd : Int} {w : World} {b : Nat} {t : TypeId} {s : RgS} (h : RG cap wd w b t s) (i : Nat) : w.cell? ⟨b, i, none⟩ = (ringC cap wd s)[i]? := by rw [cell_of_heap h.h]; simp
theorem RG.cells {cap wd : Int} {w : World} {b : Nat} {t : TypeId} {s : RgS} (h : RG cap wd w b t s) :
    w.cell? ⟨b, 0, none⟩ = some (.int .i64 1) ∧ w.cell? ⟨b, 1, none⟩ = some (.int .i64 0) ∧ w.cell? ⟨b, 2, none⟩ = some (.int .i64 cap) ∧ w.cell? ⟨b, 3, none⟩ = some (.int .i64 wd) ∧ w.cell? ⟨b, 4, none⟩ = some (.int .i64 0) ∧ w.cell? ⟨b, 5, none⟩ = some (.int .i64 s.n) ∧ w.cell? ⟨b, 6, none⟩ = some (.int .u32 s.a) ∧ w.cell? ⟨b, 7, none⟩ = some (.int .u32 s.b) :=
  ⟨h.cell 0, h.cell 1, h.cell 2, h.cell 3, h.cell 4, h.cell 5, h.cell 6, h.cell 7⟩
theorem RG.cells2 {cap wd : Int} {w : World} {b : Nat} {t : TypeId} {s : RgS} (h : RG cap wd w b t s) :
    w.cell? ⟨b, 8, none⟩ = some (.int .u32 s.v0) ∧ w.cell? ⟨b, 9, none⟩ = some (.int .u32 s.v1) ∧ w.cell? ⟨b, 10, none⟩ = some (.int .u32 s.v2) ∧ w.cell? ⟨b, 11, none⟩ = some (.int .u32 s.v3) ∧ w.cell? ⟨b, 12, none⟩ = some (.int .i64 s.f) ∧ w.cell? ⟨b, 13, none⟩ = some (.int .u32 s.r0) ∧ w.cell? ⟨b, 14, none⟩ = some (.int .u32 s.r1) ∧ w.cell? ⟨b, 15, none⟩ = some (.int .u32 s.r2) ∧ w.cell? ⟨b, 16, none⟩ = some (.int .u32 s.r3) ∧ w.cell? ⟨b, 17, none⟩ = some (.bool true) ∧ w.cell? ⟨b, 18, none⟩ = some (.bool s.on) :=
  ⟨h.cell 8, h.cell 9, h.cell 10, h.cell 11, h.cell 12, h.cell 13, h.cell 14, h.cell 15, h.cell 16, h.cell 17, h.cell 18⟩
theorem RG.fz {cap wd : Int} {w : World} {b : Nat} {t : TypeId} {s : RgS} (h : RG cap wd w b t s) (i : Nat) : w.frozen? ⟨b, i, none⟩ = false := frozen_of_heap h.h i

/-- The room of a counter. -/
def roomI (cap a : Int) : Int := a % 4294967296 % cap
theorem roomI_lt {cap : Int} (a : Int) (h : Cap5 cap) : 0 ≤ roomI cap a ∧ roomI cap a < cap := by
  have := h.le
  unfold roomI
  exact ⟨Int.emod_nonneg _ (by omega), Int.emod_lt_of_pos _ (by omega)⟩
theorem and_room {cap : Int} (a : Int) (h : Cap5 cap) : bits .and .u32 a (cap - 1) = roomI cap a := by
  have key : ∀ (k : Nat), k ≤ 6 → bits .and .u32 a ((2 ^ k - 1 : Nat) : Int) = (a % 4294967296) % ((2 ^ k : Nat) : Int) := by
    intro k hk
    have h1 : bits .and .u32 a ((2 ^ k - 1 : Nat) : Int) = IntKind.u32.wrap ((BitVec.ofInt 32 a &&& BitVec.ofInt 32 ((2 ^ k - 1 : Nat) : Int)).toNat : Int) := rfl
    have h16 : 2 ^ k ≤ 2 ^ 6 := Nat.pow_le_pow_right (by omega) hk
    have h2 : (BitVec.ofInt 32 ((2 ^ k - 1 : Nat) : Int)).toNat = 2 ^ k - 1 := by rw [BitVec.toNat_ofInt]; omega
    rw [h1, BitVec.toNat_and, h2, Nat.and_two_pow_sub_one_eq_mod, BitVec.toNat_ofInt, IntKind.wrap_u32]
    have hp : 0 < 2 ^ k := Nat.pow_pos (by omega)
    have h3 : (a % 4294967296).toNat % 2 ^ k < 2 ^ k := Nat.mod_lt _ hp
    have h4 : (((a % 4294967296).toNat % 2 ^ k : Nat) : Int) = a % 4294967296 % ((2 ^ k : Nat) : Int) := by
      rw [Int.natCast_emod, Int.toNat_of_nonneg (by omega)]
    show (((a % ((2 ^ 32 : Nat) : Int)).toNat % 2 ^ k : Nat) : Int) % 4294967296 = _
    have h5 : ((2 ^ 32 : Nat) : Int) = 4294967296 := by decide
    rw [h5, h4]
    omega
  unfold roomI
  rcases h with rfl | rfl | rfl | rfl | rfl | rfl | rfl
  · exact key 0 (by omega)
  · exact key 1 (by omega)
  · exact key 2 (by omega)
  · exact key 3 (by omega)
  · exact key 4 (by omega)
  · exact key 5 (by omega)
  · exact key 6 (by omega)

set_option maxRecDepth 100000 in
set_option maxHeartbeats 1000000 in
theorem ring_room (cap wd a : Int) (h : Cap5 cap) (h1 : 1 ≤ wd) (h4 : wd ≤ 4) (w : World) : Calls Try.prog 80 #[.agg #[.int .i64 1, .int .i64 0, .int .i64 cap, .int .i64 wd, .int .i64 0], .int .u32 a] w fun e w' => e = .returned (.int .i64 (roomI cap a)) ∧ Upd [] w w' := by
  have HR := Lib.hid fun w => right_ring cap wd h h1 h4 w
  unfold objV at HR
  have hcl := h.le
  have e1 : IntKind.i64.wrap (cap - 1) = cap - 1 := by rw [IntKind.wrap_i64]; omega
  have e2 : IntKind.u32.wrap (cap - 1) = cap - 1 := by rw [IntKind.wrap_u32]; omega
  have e3 := and_room a h
  have hr := roomI_lt a h
  have e4 : IntKind.i64.wrap (roomI cap a) = roomI cap a := by rw [IntKind.wrap_i64]; omega
  clear h h1 h4 hcl hr
  go_enter Try.func80, Try.ntmps80
  go_wp2_with (go_at_call 19; refine (HR.out _).mono ?_; rintro e w1 ⟨rfl, hu1⟩; have HU1 := Lib.hid ((((Upd.refl [] w).alloc _).alloc _).trans hu1); have hp := hu1.keepb ((heap_alloc_other _ _ (by simp)).trans (heap_alloc_new w _)) (by simp); have p2 := cell_of_heap hp 2; simp at p2; clear hp hu1)
  go_ret
  refine ⟨?_, HU1.out⟩
  first | rfl | simp [e1, e2, e3, e4]
end Go.Proofs.Ytnnakiojfpnphaa
namespace Go.Proofs.Ytnnakiojfpnphaa
open Go.RowKit

set_option maxRecDepth 100000 in
set_option maxHeartbeats 400000 in
theorem ring_past {w : World} {b : Nat} {n : Int} (x5 : w.cell? ⟨b, 5, none⟩ = some (.int .i64 n)) (hn0 : 0 ≤ n) (hn : n < 100) :
    Calls Try.prog 107 #[.pointer (some ⟨b, 0, none⟩)] w fun e w' => e = .returned (.int .i64 (n - 2)) ∧ w = w' := by
  have e1 : IntKind.i64.wrap (n - 2) = n - 2 := by rw [IntKind.wrap_i64]; omega
  clear hn0 hn
  go_enter Try.func107, Try.ntmps107
  go_wp2
  go_ret
  refine ⟨?_, rfl⟩
  first | rfl | simp [e1]
set_option maxRecDepth 100000 in
set_option maxHeartbeats 400000 in
theorem ring_end {cap wd : Int} {w : World} {b : Nat} {t : TypeId} {s : RgS} (f : Int) (h : RG cap wd w b t s) :
    Calls Try.prog 112 #[.pointer (some ⟨b, 0, none⟩), .int .i64 f] w fun e w' => e = .returned (.tuple #[]) ∧ RG cap wd w' b t { s with f := f, on := false } ∧ Upd [b] w w' := by
  obtain ⟨x0, x1, x2, x3, x4, x5, x6, x7⟩ := h.cells
  obtain ⟨x8, x9, x10, x11, x12, x13, x14, x15, x16, x17, x18⟩ := h.cells2
  have lb := heap_lt h.h
  have xf := fun j => h.fz j
  have HX := Lib.hid h.h
  clear h
  go_enter Try.func112, Try.ntmps112
  go_wp2
  first | refine bodyPost_ret (results_none rfl _ _ _) rfl ?_ | go_end0
  refine ⟨rfl, ⟨?hg⟩, ?_⟩
  case hg =>
    unfold ringC at *
    repeat (first | (with_reducible exact HX.out) | (with_reducible apply heap_set2) | (with_reducible apply heap_drew'))
    all_goals rfl
  repeat (first | (with_reducible refine Upd.setCell ?_ (by simp) _) | (with_reducible refine Upd.drew ?_))
  exact Upd.refl _ _
/-- What a state is behind a read word. -/
def noteS (s : RgS) (g : Int) : RgS := { s with a := if s.n = 0 then g else s.a, b := if s.n = 1 then g else s.b, n := s.n + 1 }
set_option maxRecDepth 100000 in
set_option maxHeartbeats 1000000 in
theorem ring_note {cap wd : Int} {w : World} {b : Nat} {t : TypeId} {s : RgS} (g : Int) (h : RG cap wd w b t s) (hn0 : 0 ≤ s.n) (hn : s.n < 100) :
    Calls Try.prog 110 #[.pointer (some ⟨b, 0, none⟩), .int .u32 g] w fun e w' => e = .returned (.tuple #[]) ∧ RG cap wd w' b t (noteS s g) ∧ Upd [b] w w' := by
  obtain ⟨x0, x1, x2, x3, x4, x5, x6, x7⟩ := h.cells
  obtain ⟨x8, x9, x10, x11, x12, x13, x14, x15, x16, x17, x18⟩ := h.cells2
  have lb := heap_lt h.h
  have xf := fun j => h.fz j
  have HX := Lib.hid h.h
  obtain ⟨n, a, b', v0, v1, v2, v3, f, r0, r1, r2, r3, on⟩ := s
  simp only at *
  have e1 : wrap64 (n + 1) = n + 1 := by unfold wrap64; omega
  have E1 := Lib.hid e1
  clear h
  by_cases h0 : n = 0
  · subst h0
    clear hn0 hn e1
    go_enter Try.func110, Try.ntmps110
    go_wp2
    first | refine bodyPost_ret (results_none rfl _ _ _) rfl ?_ | go_end0
    refine ⟨rfl, ⟨?hg⟩, ?_⟩
    case hg =>
      unfold ringC noteS at *
      repeat (first | (with_reducible exact HX.out) | (with_reducible apply heap_set2) | (with_reducible apply heap_drew'))
      all_goals rfl
    repeat (first | (with_reducible refine Upd.setCell ?_ (by simp) _) | (with_reducible refine Upd.drew ?_))
    exact Upd.refl _ _
  by_cases h1 : n = 1
  · subst h1
    clear hn0 hn e1
    go_enter Try.func110, Try.ntmps110
    go_wp2
    first | refine bodyPost_ret (results_none rfl _ _ _) rfl ?_ | go_end0
    refine ⟨rfl, ⟨?hg⟩, ?_⟩
    case hg =>
      unfold ringC noteS at *
      repeat (first | (with_reducible exact HX.out) | (with_reducible apply heap_set2) | (with_reducible apply heap_drew'))
      all_goals rfl
    repeat (first | (with_reducible refine Upd.setCell ?_ (by simp) _) | (with_reducible refine Upd.drew ?_))
    exact Upd.refl _ _
  · have d0 : (n == 0) = false := by simpa using h0
    have d1 : (n == 1) = false := by simpa using h1
    have hs : noteS ⟨n, a, b', v0, v1, v2, v3, f, r0, r1, r2, r3, on⟩ g = ⟨n + 1, a, b', v0, v1, v2, v3, f, r0, r1, r2, r3, on⟩ := by simp [noteS, h0, h1]
    rw [hs]
    clear hn0 hn hs h0 h1 e1
    go_enter Try.func110, Try.ntmps110
    go_wp2
    first | refine bodyPost_ret (results_none rfl _ _ _) rfl ?_ | go_end0
    rw [E1.out]
    refine ⟨rfl, ⟨?hg⟩, ?_⟩
    case hg =>
      unfold ringC at *
      repeat (first | (with_reducible exact HX.out) | (with_reducible apply heap_set2) | (with_reducible apply heap_drew'))
      all_goals rfl
    repeat (first | (with_reducible refine Upd.setCell ?_ (by simp) _) | (with_reducible refine Upd.drew ?_))
    exact Upd.refl _ _
set_option maxRecDepth 100000 in
set_option maxHeartbeats 400000 in
theorem ring_many (x y : Int) (w : World) : Calls Try.prog 111 #[.int .u32 x, .int .u32 y] w fun e w' => e = .returned (.int .u32 (IntKind.u32.wrap (y - x))) ∧ w = w' := by
  have HA := Lib.hid (show ∀ w, Calls Try.prog 113 #[.int .u32 y, .int .u32 x] w fun e w' => e = .returned (.int .u32 (IntKind.u32.wrap (y - x))) ∧ w = w' from fun w => by
    go_enter Try.func113, Try.ntmps113
    go_wp2
    go_ret
    exact ⟨rfl, rfl⟩)
  go_enter Try.func111, Try.ntmps111
  go_wp2_with (go_at_call 113; refine (HA.out _).mono ?_; rintro e w1 ⟨rfl, rfl⟩)
  go_ret
  exact ⟨rfl, rfl⟩
set_option maxRecDepth 100000 in
set_option maxHeartbeats 1000000 in
theorem ring_answer {cap wd : Int} {w : World} {b : Nat} {t : TypeId} {s : RgS} (h : RG cap wd w b t s) (hon : s.on = false) :
    Calls Try.prog 109 #[.pointer (some ⟨b, 0, none⟩)] w fun e w' => e = .returned (.tuple #[.agg #[.int .i64 s.f, .int .u32 s.r0, .int .u32 s.r1, .int .u32 s.r2, .int .u32 s.r3], .bool true]) ∧ Upd [] w w' := by
  obtain ⟨-, -, -, -, x12, x13, x14, x15, x16, x17, x18⟩ := h.cells2
  rw [hon] at x18
  have lb := heap_lt h.h
  have nb : w.heap.size ≠ b := by omega
  have nb' : b ≠ w.heap.size := by omega
  clear h hon
  go_enter Try.func109, Try.ntmps109
  go_wp2
  refine bodyPost_ret (v := .tuple #[.agg #[.int .i64 s.f, .int .u32 s.r0, .int .u32 s.r1, .int .u32 s.r2, .int .u32 s.r3], .bool true]) (by simp [results, Try.results109, go_sem]) rfl ?_
  refine ⟨rfl, ?_⟩
  exact (Upd.refl _ _).alloc _
set_option maxRecDepth 100000 in
set_option maxHeartbeats 1000000 in
theorem ring_data {cap wd : Int} {w : World} {b : Nat} {t : TypeId} {s : RgS} (a : Int) (h : RG cap wd w b t s) (hc : Cap5 cap) (h1 : 1 ≤ wd) (h4 : wd ≤ 4) (hn0 : 2 ≤ s.n) (hn : s.n - 2 < wd) :
    Calls Try.prog 108 #[.pointer (some ⟨b, 0, none⟩), .int .u32 a] w fun e w' => e = .returned (.int .i64 (2 + roomI cap a * wd + (s.n - 2))) ∧ Upd [] w w' := by
  obtain ⟨x0, x1, x2, x3, x4, x5, x6, x7⟩ := h.cells
  have H := Lib.hid h
  have lb := heap_lt h.h
  have hr := roomI_lt a hc
  have HR := Lib.hid fun w => ring_room cap wd a hc h1 h4 w
  have HC := Lib.hid fun w => cell_ring_data cap wd (roomI cap a) (s.n - 2) hc h1 h4 hr.1 hr.2 (by omega) (by omega) w
  have HP := Lib.hid fun (w : World) (x5 : w.cell? ⟨b, 5, none⟩ = some (.int .i64 s.n)) => ring_past x5 (by omega) (by omega)
  clear h hc h1 h4 hn0 hn hr
  go_enter Try.func108, Try.ntmps108
  go_wp2
  go_region_held3 (fun w' => w'.cell? ⟨b, 0, none⟩ = some (.int .i64 1) ∧ w'.cell? ⟨b, 1, none⟩ = some (.int .i64 0) ∧ w'.cell? ⟨b, 2, none⟩ = some (.int .i64 cap) ∧ w'.cell? ⟨b, 3, none⟩ = some (.int .i64 wd) ∧ w'.cell? ⟨b, 4, none⟩ = some (.int .i64 0) ∧ w'.cell? ⟨b, 5, none⟩ = some (.int .i64 s.n))
    (first | exact ⟨x0, x1, x2, x3, x4, x5⟩ | exact ⟨x0', x1', x2', x3', x4', x5'⟩ | exact ⟨x0'', x1'', x2'', x3'', x4'', x5''⟩ | (go_keep; done))
    (first
      | (go_at_call 80; refine (HR.out _).mono ?_; rintro e w2 ⟨rfl, hu2⟩; have HU2 := Lib.hid (show Upd [] w w2 from by first | exact hu2 | exact hu2.of_drew | exact hu2.of_drewN); clear hu2; obtain ⟨x0', x1', x2', x3', x4', x5', -, -⟩ := (H.out.keep HU2.out (by simp)).cells)
      | (go_at_call 107; refine (HP.out _ (by first | exact x5' | exact x5 | simpa using x5' | simpa using x5)).mono ?_; rintro e w3 ⟨rfl, rfl⟩)
      | (go_at_call 54; refine (HC.out _).mono ?_; rintro e w4 ⟨rfl, hu4⟩; have HU4 := Lib.hid (show Upd [] w2 w4 from by first | exact hu4 | exact hu4.of_drew | exact hu4.of_drewN); clear hu4; obtain ⟨x0'', x1'', x2'', x3'', x4'', x5'', -, -⟩ := (H.out.keep (HU2.out.trans HU4.out) (by simp)).cells))
  all_goals
    go_wp2
    go_ret
    refine ⟨rfl, ?_⟩
    first | exact HU2.out.trans HU4.out | exact (HU2.out.trans HU4.out).drew | exact (HU2.out.trans HU4.out).drewN _
end Go.Proofs.Ytnnakiojfpnphaa
namespace Go.Proofs.Ytnnakiojfpnphaa
open Go.RowKit

/-- A routine, by its cells: its place, its kind and mask, its answer, whether it was made, whether it goes on. -/
def flagC (at' kind mask f v0 : Int) (on : Bool) : Array Value := #[.int .i64 4, .int .i64 at', .int .i64 0, .int .i64 0, .int .i64 0, .int .i64 kind, .int .u32 mask, .int .i64 f, .int .u32 v0, .int .u32 0, .int .u32 0, .int .u32 0, .bool true, .bool on]
structure FlagAt (w : World) (b : Nat) (at' kind mask f v0 : Int) (on : Bool) : Prop where
  h : w.heap[b]? = some (.cells (flagC at' kind mask f v0 on) 152 (0, 0))
theorem FlagAt.keep {w w' : World} {b : Nat} {at' kind mask f v0 : Int} {on : Bool} (h : FlagAt w b at' kind mask f v0 on) {S : List Nat} (hu : Upd S w w') (hb : b ∉ S) : FlagAt w' b at' kind mask f v0 on := ⟨hu.keepb h.h hb⟩

set_option maxRecDepth 100000 in
set_option maxHeartbeats 1000000 in
theorem flag_new (at' kind mask : Int) (W : World) (hk1 : 1 ≤ kind) (hk5 : kind ≤ 5) :
    Calls Try.prog 69 #[.agg #[.int .i64 4, .int .i64 at', .int .i64 0, .int .i64 0, .int .i64 0], .int .i64 kind, .int .u32 mask] W fun e w' => ∃ b, e = .returned (.pointer (some ⟨b, 0, none⟩)) ∧ W.heap.size ≤ b ∧ FlagAt w' b at' kind mask 0 0 true ∧ Upd [] W w' := by
  have HR := Lib.hid fun w => right_flags 0 0 0 0 0 0 w
  unfold objV at HR
  go_enter Try.func69, Try.ntmps69
  have hu0 : Upd [] W ((W.alloc (.cells #[.int .i64 4, .int .i64 at', .int .i64 0, .int .i64 0, .int .i64 0] 27)).alloc (.cells (flagC at' kind mask 0 0 false) 152)) := ((Upd.refl _ _).alloc _).alloc _
  have hx0 : ((W.alloc (.cells #[.int .i64 4, .int .i64 at', .int .i64 0, .int .i64 0, .int .i64 0] 27)).alloc (.cells (flagC at' kind mask 0 0 false) 152)).heap[W.heap.size + 1]? = some (.cells (flagC at' kind mask 0 0 false) 152 (0, 0)) := heap_alloc_at _ (by simp)
  go_wp2
  change Code.wp _ _ _ _ ((W.alloc (.cells #[.int .i64 4, .int .i64 at', .int .i64 0, .int .i64 0, .int .i64 0] 27)).alloc (.cells (flagC at' kind mask 0 0 false) 152))
  obtain ⟨w0, hw0⟩ : ∃ w0, w0 = ((W.alloc (.cells #[.int .i64 4, .int .i64 at', .int .i64 0, .int .i64 0, .int .i64 0] 27)).alloc (.cells (flagC at' kind mask 0 0 false) 152)) := ⟨_, rfl⟩
  rw [← hw0] at hu0 hx0 ⊢
  have HU0 := Lib.hid hu0
  have HX0 := Lib.hid hx0
  have x0 := cell_of_heap hx0 0
  have x2 := cell_of_heap hx0 2
  have x3 := cell_of_heap hx0 3
  have x4 := cell_of_heap hx0 4
  simp [flagC] at x0 x2 x3 x4
  have lx := heap_lt hx0
  have nx : w0.heap.size ≠ W.heap.size + 1 := by omega
  have nx' : W.heap.size + 1 ≠ w0.heap.size := by omega
  have xf := fun j => frozen_of_heap hx0 j
  clear hu0 hx0 hw0
  go_region_held3 (fun w' => w'.cell? ⟨W.heap.size + 1, 0, none⟩ = some (.int .i64 4) ∧ w'.cell? ⟨W.heap.size + 1, 2, none⟩ = some (.int .i64 0) ∧ w'.cell? ⟨W.heap.size + 1, 3, none⟩ = some (.int .i64 0) ∧ w'.cell? ⟨W.heap.size + 1, 4, none⟩ = some (.int .i64 0))
    (first | exact ⟨x0, x2, x3, x4⟩ | (go_keep; done))
    (fail)
  go_wp2_with (go_at_call 19; refine (HR.out _).mono ?_; rintro e w1 ⟨rfl, hu1⟩; have HU1 := Lib.hid (show Upd [] w0 w1 from by first | exact ((Upd.refl _ _).alloc _).trans hu1 | exact ((Upd.refl _ _).alloc _).drew.trans hu1); have hx1 := HU1.out.keepb HX0.out (by simp); have HX1 := Lib.hid hx1; have y13 := cell_of_heap hx1 13; have yf := fun j => frozen_of_heap hx1 j; simp [flagC] at y13; clear hx1 hu1)
  go_ret
  have hS : Upd [W.heap.size + 1] w1 (w1.setCell ⟨W.heap.size + 1, 13, none⟩ (.bool true)) := (Upd.refl _ _).setCell (by simp) _
  exact ⟨_, rfl, by omega, ⟨heap_set HX1.out 13 _⟩, (HU0.out.trans HU1.out).then hS (by simp)⟩
end Go.Proofs.Ytnnakiojfpnphaa
namespace Go.Proofs.Ytnnakiojfpnphaa
open Go.RowKit

set_option maxRecDepth 100000 in
set_option maxHeartbeats 400000 in
theorem push_take_nil (g : Int) (w : World) : Calls Try.prog 105 #[.pointer none, .int .u32 g] w fun e w' => e = .returned (.tuple #[]) ∧ w = w' := by
  go_enter Try.func105, Try.ntmps105
  go_wp2
  refine bodyPost_ret (results_none rfl _ _ _) rfl ?_
  exact ⟨rfl, rfl⟩
set_option maxRecDepth 100000 in
set_option maxHeartbeats 400000 in
theorem pop_take_nil (g : Int) (w : World) : Calls Try.prog 116 #[.pointer none, .int .u32 g] w fun e w' => e = .returned (.tuple #[]) ∧ w = w' := by
  go_enter Try.func116, Try.ntmps116
  go_wp2
  refine bodyPost_ret (results_none rfl _ _ _) rfl ?_
  exact ⟨rfl, rfl⟩
set_option maxRecDepth 100000 in
set_option maxHeartbeats 400000 in
theorem push_act_nil (w : World) : Calls Try.prog 103 #[.pointer none] w fun e w' => e = .returned (.tuple #[.agg #[.int .i64 0, .int .i64 0, .int .u32 0], .bool false]) ∧ Upd [] w w' := by
  go_enter Try.func103, Try.ntmps103
  go_wp2
  go_step3
  go_wp2
  rw [Exit.noGoto_ret]
  refine bodyPost_ret (v := .tuple #[.agg #[.int .i64 0, .int .i64 0, .int .u32 0], .bool false]) (by simp [results, Try.results103, go_sem]) rfl ?_
  refine ⟨rfl, ?_⟩
  exact ((Upd.refl _ _).alloc _).alloc _
set_option maxRecDepth 100000 in
set_option maxHeartbeats 400000 in
theorem pop_act_nil (w : World) : Calls Try.prog 114 #[.pointer none] w fun e w' => e = .returned (.tuple #[.agg #[.int .i64 0, .int .i64 0, .int .u32 0], .bool false]) ∧ Upd [] w w' := by
  go_enter Try.func114, Try.ntmps114
  go_wp2
  go_step3
  go_wp2
  rw [Exit.noGoto_ret]
  refine bodyPost_ret (v := .tuple #[.agg #[.int .i64 0, .int .i64 0, .int .u32 0], .bool false]) (by simp [results, Try.results114, go_sem]) rfl ?_
  refine ⟨rfl, ?_⟩
  exact ((Upd.refl _ _).alloc _).alloc _
set_option maxRecDepth 100000 in
set_option maxHeartbeats 400000 in
theorem push_result_nil (w : World) : Calls Try.prog 104 #[.pointer none] w fun e w' => e = .returned (.tuple #[.agg #[.int .i64 0, .int .u32 0, .int .u32 0, .int .u32 0, .int .u32 0], .bool false]) ∧ Upd [] w w' := by
  go_enter Try.func104, Try.ntmps104
  go_wp2
  refine bodyPost_ret (v := .tuple #[.agg #[.int .i64 0, .int .u32 0, .int .u32 0, .int .u32 0, .int .u32 0], .bool false]) (by simp [results, Try.results104, go_sem]) rfl ?_
  refine ⟨rfl, ?_⟩
  exact (Upd.refl _ _).alloc _
set_option maxRecDepth 100000 in
set_option maxHeartbeats 400000 in
theorem pop_result_nil (w : World) : Calls Try.prog 115 #[.pointer none] w fun e w' => e = .returned (.tuple #[.agg #[.int .i64 0, .int .u32 0, .int .u32 0, .int .u32 0, .int .u32 0], .bool false]) ∧ Upd [] w w' := by
  go_enter Try.func115, Try.ntmps115
  go_wp2
  refine bodyPost_ret (v := .tuple #[.agg #[.int .i64 0, .int .u32 0, .int .u32 0, .int .u32 0, .int .u32 0], .bool false]) (by simp [results, Try.results115, go_sem]) rfl ?_
  refine ⟨rfl, ?_⟩
  exact (Upd.refl _ _).alloc _
/-- A routine that nobody made: all of its cells are zero. -/
def zeroR : List Value := [.int .i64 0, .int .i64 0, .int .i64 0, .int .i64 0, .int .i64 0, .int .i64 0, .int .u32 0, .int .u32 0, .int .u32 0, .int .u32 0, .int .u32 0, .int .u32 0, .int .i64 0, .int .u32 0, .int .u32 0, .int .u32 0, .int .u32 0, .bool false, .bool false]
structure ZR (w : World) (b : Nat) (t : TypeId) : Prop where
  h : w.heap[b]? = some (.cells zeroR.toArray t (0, 0))
theorem ZR.c18 {w : World} {b : Nat} {t : TypeId} (h : ZR w b t) : w.cell? ⟨b, 18, none⟩ = some (.bool false) := by rw [cell_of_heap h.h]; rfl
theorem ZR.c17 {w : World} {b : Nat} {t : TypeId} (h : ZR w b t) : w.cell? ⟨b, 17, none⟩ = some (.bool false) := by rw [cell_of_heap h.h]; rfl
set_option maxRecDepth 100000 in
set_option maxHeartbeats 400000 in
theorem push_take_zero {w : World} {b : Nat} {t : TypeId} (g : Int) (h : ZR w b t) : Calls Try.prog 105 #[.pointer (some ⟨b, 0, none⟩), .int .u32 g] w fun e w' => e = .returned (.tuple #[]) ∧ w = w' := by
  have x18 := h.c18
  clear h
  go_enter Try.func105, Try.ntmps105
  go_wp2
  refine bodyPost_ret (results_none rfl _ _ _) rfl ?_
  exact ⟨rfl, rfl⟩
set_option maxRecDepth 100000 in
set_option maxHeartbeats 400000 in
theorem pop_take_zero {w : World} {b : Nat} {t : TypeId} (g : Int) (h : ZR w b t) : Calls Try.prog 116 #[.pointer (some ⟨b, 0, none⟩), .int .u32 g] w fun e w' => e = .returned (.tuple #[]) ∧ w = w' := by
  have x18 := h.c18
  clear h
  go_enter Try.func116, Try.ntmps116
  go_wp2
  refine bodyPost_ret (results_none rfl _ _ _) rfl ?_
  exact ⟨rfl, rfl⟩
set_option maxRecDepth 100000 in
set_option maxHeartbeats 400000 in
theorem push_act_zero {w : World} {b : Nat} {t : TypeId} (h : ZR w b t) : Calls Try.prog 103 #[.pointer (some ⟨b, 0, none⟩)] w fun e w' => e = .returned (.tuple #[.agg #[.int .i64 0, .int .i64 0, .int .u32 0], .bool false]) ∧ Upd [] w w' := by
  have x18 := h.c18
  have lb := heap_lt h.h
  clear h
  go_enter Try.func103, Try.ntmps103
  go_wp2
  go_step3
  go_wp2
  rw [Exit.noGoto_ret]
  refine bodyPost_ret (v := .tuple #[.agg #[.int .i64 0, .int .i64 0, .int .u32 0], .bool false]) (by simp [results, Try.results103, go_sem]) rfl ?_
  refine ⟨rfl, ?_⟩
  exact ((Upd.refl _ _).alloc _).alloc _
set_option maxRecDepth 100000 in
set_option maxHeartbeats 400000 in
theorem pop_act_zero {w : World} {b : Nat} {t : TypeId} (h : ZR w b t) : Calls Try.prog 114 #[.pointer (some ⟨b, 0, none⟩)] w fun e w' => e = .returned (.tuple #[.agg #[.int .i64 0, .int .i64 0, .int .u32 0], .bool false]) ∧ Upd [] w w' := by
  have x18 := h.c18
  have lb := heap_lt h.h
  clear h
  go_enter Try.func114, Try.ntmps114
  go_wp2
  go_step3
  go_wp2
  rw [Exit.noGoto_ret]
  refine bodyPost_ret (v := .tuple #[.agg #[.int .i64 0, .int .i64 0, .int .u32 0], .bool false]) (by simp [results, Try.results114, go_sem]) rfl ?_
  refine ⟨rfl, ?_⟩
  exact ((Upd.refl _ _).alloc _).alloc _
end Go.Proofs.Ytnnakiojfpnphaa
