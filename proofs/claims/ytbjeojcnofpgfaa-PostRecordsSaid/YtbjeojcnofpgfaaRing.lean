/- Package ring: what a routine's state is, and what is asked of it. -/
import Derived.Test.YtbjeojcnofpgfaaRingSite
import Derived.Test.YtbjeojcnofpgfaaRet
import Derived.Deep.RegionHeld3
set_option linter.unusedVariables false
set_option linter.unusedSimpArgs false
namespace Go.Proofs.Ytbjeojcnofpgfaa
open Go.RowKit

structure RgS where
  n : Int
  a : Int
  b : Int
  v0 : Int
  v1 : Int
  v2 : Int
  v3 : Int
  f : Int
  r0 : Int
  r1 : Int
  r2 : Int
  r3 : Int
  on : Bool
def ringC (cap wd : Int) (s : RgS) : List Value := [.int .i64 1, .int .i64 0, .int .i64 cap, .int .i64 wd, .int .i64 0, .int .i64 s.n, .int .u32 s.a, .int .u32 s.b, .int .u32 s.v0, .int .u32 s.v1, .int .u32 s.v2, .int .u32 s.v3, .int .i64 s.f, .int .u32 s.r0, .int .u32 s.r1, .int .u32 s.r2, .int .u32 s.r3, .bool true, .bool s.on]
structure RG (cap wd : Int) (w : World) (b : Nat) (t : TypeId) (s : RgS) : Prop where
  h : w.heap[b]? = some (.cells (ringC cap wd s).toArray t (0, 0))
theorem RG.keep {cap wd : Int} {w w' : World} {b : Nat} {t : TypeId} {s : RgS} (h : RG cap wd w b t s) {S : List Nat} (hu : Upd S w w') (hb : b ∉ S) : RG cap wd w' b t s := ⟨hu.keepb h.h hb⟩
theorem RG.cell {cap wd : Int} {w : World} {b : Nat} {t : TypeId} {s : RgS} (h : RG cap wd w b t s) (i : Nat) : w.cell? ⟨b, i, none⟩ = (ringC cap wd s)[i]? := by rw [cell_of_heap h.h]; simp
theorem RG.cells {cap wd : Int} {w : World} {b : Nat} {t : TypeId} {s : RgS} (h : RG cap wd w b t s) :
    w.cell? ⟨b, 0, none⟩ = some (.int .i64 1) ∧ w.cell? ⟨b, 1, none⟩ = some (.int .i64 0) ∧ w.cell? ⟨b, 2, none⟩ = some (.int .i64 cap) ∧ w.cell? ⟨b, 3, none⟩ = some (.int .i64 wd) ∧ w.cell? ⟨b, 4, none⟩ = some (.int .i64 0) ∧ w.cell? ⟨b, 5, none⟩ = some (.int .i64 s.n) ∧ w.cell? ⟨b, 6, none⟩ = some (.int .u32 s.a) ∧ w.cell? ⟨b, 7, none⟩ = some (.int .u32 s.b) :=
  ⟨h.cell 0, h.cell 1, h.cell 2, h.cell 3, h.cell 4, h.cell 5, h.cell 6, h.cell 7⟩
theorem RG.cells2 {cap wd : Int} {w : World} {b : Nat} {t : TypeId} {s : RgS} (h : RG cap wd w b t s) :
    w.cell? ⟨b, 8, none⟩ = some (.int .u32 s.v0) ∧ w.cell? ⟨b, 9, none⟩ = some (.int .u32 s.v1) ∧ w.cell? ⟨b, 10, none⟩ = some (.int .u32 s.v2) ∧ w.cell? ⟨b, 11, none⟩ = some (.int .u32 s.v3) ∧ w.cell? ⟨b, 12, none⟩ = some (.int .i64 s.f) ∧ w.cell? ⟨b, 13, none⟩ = some (.int .u32 s.r0) ∧ w.cell? ⟨b, 14, none⟩ = some (.int .u32 s.r1) ∧ w.cell? ⟨b, 15, none⟩ = some (.int .u32 s.r2) ∧ w.cell? ⟨b, 16, none⟩ = some (.int .u32 s.r3) ∧ w.cell? ⟨b, 17, none⟩ = some (.bool true) ∧ w.cell? ⟨b, 18, none⟩ = some (.bool s.on) :=
  ⟨h.cell 8, h.cell 9, h.cell 10, h.cell 11, h.cell 12, h.cell 13, h.cell 14, h.cell 15, h.cell 16, h.cell 17, h.cell 18⟩
theorem RG.fz {cap wd : Int} {w : World} {b : Nat} {t : TypeId} {s : RgS} (h : RG cap wd w b t s) (i : Nat) : w.frozen? ⟨b, i, none⟩ = false := frozen_of_heap h.h i

/-- The room of a counter. -/
def roomI (cap a : Int) : Int := a % 4294967296 % cap
theorem roomI_lt {cap : Int} (a : Int) (h : Cap5 cap) : 0 ≤ roomI cap a ∧ roomI cap a < cap := by
  have := h.le
  unfold roomI
  exact ⟨Int.emod_nonneg _ (by omega), Int.emod_lt_of_pos _ (by omega)⟩
theorem and_room {cap : Int} (a : Int) (h : Cap5 cap) : bits .and .u32 a (cap - 1) = roomI cap a := by
  have key : ∀ (k : Nat), k ≤ 4 → bits .and .u32 a ((2 ^ k - 1 : Nat) : Int) = (a % 4294967296) % ((2 ^ k : Nat) : Int) := by
    intro k hk
    have h1 : bits .and .u32 a ((2 ^ k - 1 : Nat) : Int) = IntKind.u32.wrap ((BitVec.ofInt 32 a &&& BitVec.ofInt 32 ((2 ^ k - 1 : Nat) : Int)).toNat : Int) := rfl
    have h16 : 2 ^ k ≤ 16 := Nat.pow_le_pow_right (by omega) hk
    have h2 : (BitVec.ofInt 32 ((2 ^ k - 1 : Nat) : Int)).toNat = 2 ^ k - 1 := by rw [BitVec.toNat_ofInt]; omega
    rw [h1, BitVec.toNat_and, h2, Nat.and_two_pow_sub_one_eq_mod, BitVec.toNat_ofInt, IntKind.wrap_u32]
    have hp : 0 < 2 ^ k := Nat.pow_pos (by omega)
    have h3 : (a % 4294967296).toNat % 2 ^ k < 2 ^ k := Nat.mod_lt _ hp
    have h4 : (((a % 4294967296).toNat % 2 ^ k : Nat) : Int) = a % 4294967296 % ((2 ^ k : Nat) : Int) := by
      rw [Int.natCast_emod, Int.toNat_of_nonneg (by omega)]
    show (((a % ((2 ^ 32 : Nat) : Int)).toNat % 2 ^ k : Nat) : Int) % 4294967296 = _
    have h5 : ((2 ^ 32 : Nat) : Int) = 4294967296 := by decide
    rw [h5, h4]
    omega
  unfold roomI
  rcases h with rfl | rfl | rfl | rfl | rfl
  · exact key 0 (by omega)
  · exact key 1 (by omega)
  · exact key 2 (by omega)
  · exact key 3 (by omega)
  · exact key 4 (by omega)

set_option maxRecDepth 100000 in
set_option maxHeartbeats 1000000 in
theorem ring_room (cap wd a : Int) (h : Cap5 cap) (h1 : 1 ≤ wd) (h4 : wd ≤ 4) (w : World) : Calls Try.prog 133 #[.agg #[.int .i64 1, .int .i64 0, .int .i64 cap, .int .i64 wd, .int .i64 0], .int .u32 a] w fun e w' => e = .returned (.int .i64 (roomI cap a)) ∧ Upd [] w w' := by
  have HR := Lib.hid fun w => right_ring cap wd h h1 h4 w
  unfold objV at HR
  have hcl := h.le
  have e1 : IntKind.i64.wrap (cap - 1) = cap - 1 := by rw [IntKind.wrap_i64]; omega
  have e2 : IntKind.u32.wrap (cap - 1) = cap - 1 := by rw [IntKind.wrap_u32]; omega
  have e3 := and_room a h
  have hr := roomI_lt a h
  have e4 : IntKind.i64.wrap (roomI cap a) = roomI cap a := by rw [IntKind.wrap_i64]; omega
  clear h h1 h4 hcl hr
  go_enter Try.func133, Try.ntmps133
  go_wp2_with (go_at_call 94; refine (HR.out _).mono ?_; rintro e w1 ⟨rfl, hu1⟩; have HU1 := Lib.hid ((((Upd.refl [] w).alloc _).alloc _).trans hu1); have hp := hu1.keepb ((heap_alloc_other _ _ (by simp)).trans (heap_alloc_new w _)) (by simp); have p2 := cell_of_heap hp 2; simp at p2; clear hp hu1)
  go_ret
  refine ⟨?_, HU1.out⟩
  first | rfl | simp [e1, e2, e3, e4]
end Go.Proofs.Ytbjeojcnofpgfaa
