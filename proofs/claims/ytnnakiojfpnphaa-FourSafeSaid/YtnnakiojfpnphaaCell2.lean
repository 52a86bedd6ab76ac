/- The contracts of package cell that make memory, and of the law's own helpers. -/
import Derived.Test.YtnnakiojfpnphaaCell
set_option linter.unusedVariables false
set_option linter.unusedSimpArgs false
namespace Go.Proofs.Ytnnakiojfpnphaa
open Go.RowKit

theorem info_u32 : (Try.prog.info? 32).map (fun i => (i.zero, i.size, i.bytes)) = some (some (.int .u32 0), 1, 4) := by kernel_rfl

theorem madeCells_u32 (n : Nat) : madeCells #[Value.int .u32 0] n = (u32s (List.replicate n 0)).toArray := by
  apply Array.ext'
  rw [toList_madeCells_one]
  simp [u32s]

set_option maxRecDepth 100000 in
set_option maxHeartbeats 400000 in
theorem new_any (n : Nat) (w : World) (hn : n ≤ 65536) :
    Calls Try.prog 24 #[.int .i64 n] w fun e w' => ∃ b g, e = .returned (.pointer (some ⟨b, 0, none⟩)) ∧ w.heap.size ≤ b ∧ w.heap.size ≤ g ∧ Mem w' b g 0 0 (List.replicate n 0) ∧ Upd [] w w' := by
  obtain ⟨i0, hi, hz0, hz1, hz2⟩ := info_parts info_u32
  have hmk := fun W : World => run_make (P := Try.prog) W 22 32 i0 _ Try.underlying22 hi hz0 .i64 .i64 n n (by omega) (by omega) (by rw [hz2]; omega) (by omega)
  go_enter Try.func24, Try.ntmps24
  go_wp2
  go_ret
  refine ⟨w.heap.size + 1, w.heap.size, rfl, by omega, by omega, ⟨?_, ?_, by omega, by simpa using hn⟩, ((Upd.refl _ _).alloc _).alloc _⟩
  · have := heap_alloc_new (w.alloc (Obj.cells (madeCells #[Value.int IntKind.u32 0] n) 32)) (Obj.cells #[Value.int IntKind.i64 0, Value.int IntKind.i64 0, Value.slice (some { block := w.heap.size, off := 0 }) n n] 76)
    simp only [World.size_alloc] at this
    simpa using this
  · rw [heap_alloc_other _ _ (by simp), heap_alloc_new, madeCells_u32]

theorem u32s_one (xs : List Int) : ∀ v ∈ u32s xs, v.oneCell' = true := by
  intro v hv
  obtain ⟨x, _, rfl⟩ := List.mem_map.1 hv
  rfl

theorem drop_all {α : Type} (l : List α) (n : Nat) (h : l.length = n) : l.drop n = [] := by simp [h]

set_option maxRecDepth 100000 in
set_option maxHeartbeats 400000 in
theorem of_any (a : Option Addr) (cap : Nat) (xs : List Int) (w : World) (hn : xs.length ≤ 65536) (hr : Reads w a xs.length (u32s xs)) :
    Calls Try.prog 8 #[.slice a xs.length cap] w fun e w' => ∃ b g, e = .returned (.pointer (some ⟨b, 0, none⟩)) ∧ w.heap.size ≤ b ∧ w.heap.size ≤ g ∧ Mem w' b g 0 0 xs ∧ Upd [] w w' := by
  go_enter Try.func8, Try.ntmps8
  go_wp2_with (first | (go_at_call 24; refine (new_any _ _ hn).mono ?_; rintro e w1 ⟨b, g, rfl, hb, hg, hm, hu⟩; have c2 := hm.c2; rw [List.length_replicate] at c2; have HM := Lib.hid hm; have HG := Lib.hid hm.hg; have HR := Lib.hid (hr.upd hu (by simp)); clear hm) | (refine wpList_copy_upd rfl _ _ _ _ rfl 32 Try.underlying22 (by kernel_rfl) _ _ _ _ _ _ rfl rfl _ _ HG.out (u32s xs) ?c1 ?c2 ?c3 ?c4 ?_; rotate_left 4; intro w2 hg2 hu2 hs2))
  case c1 => simp [u32s]
  case c2 => intro h0; obtain ⟨b', off, e, _, hc⟩ := HR.out.2 (by simpa [u32s] using h0); exact ⟨b', off, e, hc⟩
  case c3 => simp [u32s]
  case c4 => exact u32s_one xs
  go_ret
  have hm := HM.out
  have hne := hm.ne
  have hg3 : w2.heap[g]? = some (.cells (u32s xs).toArray 32 (0, 0)) := by rw [hg2]; simp [u32s]
  refine ⟨b, g, rfl, hb, hg, ⟨?_, hg3, hne, hn⟩, hu.then hu2 (by simp; omega)⟩
  rw [hu2.block b (heap_lt hm.hb) (by simpa using hne), hm.hb]
  simp

theorem Mem.upd {w w' : World} {b g : Nat} {lo st : Int} {xs : List Int} (h : Mem w b g lo st xs) {S : List Nat} (hu : Upd S w w') (hS : b ∉ S ∧ g ∉ S) : Mem w' b g lo st xs := h.keep hu hS.1 hS.2

end Go.Proofs.Ytnnakiojfpnphaa
