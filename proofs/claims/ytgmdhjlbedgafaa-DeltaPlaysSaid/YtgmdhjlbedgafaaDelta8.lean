/- Package delta: Tick, Left, Len in words of tasks and ticks. -/
import Derived.Test.YtgmdhjlbedgafaaDelta7
set_option linter.unusedVariables false
set_option linter.unusedSimpArgs false
namespace Go.Proofs.Ytgmdhjlbedgafaa
open Go.RowKit

theorem dsplit0_eq (zs : List DN) : (dsplit0 zs).1 ++ (dsplit0 zs).2 = zs := by
  induction zs with
  | nil => rfl
  | cons z zs ih =>
    unfold dsplit0
    split
    · simp [ih]
    · rfl
theorem dsorted_ge {p : Int} {zs : List DN} (h : DSorted p zs) : ∀ z ∈ zs, p ≤ z.a := by
  induction zs generalizing p with
  | nil => simp
  | cons z zs ih =>
    intro x hx
    rcases List.mem_cons.1 hx with rfl | hx
    · exact h.1
    · exact Int.le_trans h.1 (ih h.2.2 x hx)
theorem dsplit0_spec {p : Int} {zs : List DN} (h : DSorted p zs) (hp : 0 ≤ p) : (∀ z ∈ (dsplit0 zs).1, z.a = 0) ∧ ∀ z ∈ (dsplit0 zs).2, 0 < z.a := by
  induction zs generalizing p with
  | nil => simp [dsplit0]
  | cons z zs ih =>
    unfold dsplit0
    have hz : 0 ≤ z.a := Int.le_trans hp h.1
    split
    · rename_i hz0
      obtain ⟨h1, h2⟩ := ih h.2.2 hz
      exact ⟨by simpa [hz0] using h1, h2⟩
    · refine ⟨by simp, fun x hx => ?_⟩
      rcases List.mem_cons.1 hx with rfl | hx
      · omega
      · have := dsorted_ge h.2.2 x hx
        omega

theorem ddec_mem {xs : List DN} {y : DN} : y ∈ ddec xs ↔ ∃ x ∈ xs, y = ⟨x.b, x.t, x.a - 1⟩ := by
  simp [ddec, eq_comm]

/-- What a tick makes of the list. -/
theorem tick_spec {W w : World} {d : Nat} {xs : List DN} (h : DI W w d xs) :
    ddec xs = dtold xs ++ drest xs ∧ (∀ z ∈ dtold xs, z.a = 0) ∧ ∀ z ∈ drest xs, 0 < z.a := by
  have h0 : DSorted 0 (ddec xs) := by
    cases xs with
    | nil => trivial
    | cons x xs => exact ⟨by show (0 : Int) ≤ x.a - 1; have := h.pos x (by simp); omega, by show x.a - 1 ≤ _; have := h.dl.sorted.2.1; omega, DSorted.dec h.dl.sorted.2.2⟩
  obtain ⟨h1, h2⟩ := dsplit0_spec h0 (Int.le_refl _)
  exact ⟨(dsplit0_eq _).symm, h1, h2⟩

def DITick (W w : World) (d : Nat) (xs : List DN) (e : Ending) (w' : World) : Prop :=
  ∃ v, e = .returned v ∧ w'.ownsRow w.heap.size 3 1 v (dtold xs).length (dtasks (dtold xs)) ∧ DI W w' d (drest xs) ∧ Upd (d :: xs.map DN.b) w w' ∧ (∀ t a, dmem (drest xs) t a ↔ dmem xs t (a + 1) ∧ 0 < a)

theorem DI.tick {W w : World} {d : Nat} {xs : List DN} (h : DI W w d xs) :
    Calls Try.prog 12 #[.pointer (some ⟨d, 0, none⟩)] w (DITick W w d xs) := by
  refine (dtick_any h.dl (by have := h.len; omega) h.pos).mono ?_
  rintro e w' ⟨v, rfl, ho, hd, hu⟩
  obtain ⟨h1, h2, h3⟩ := tick_spec h
  have hsub : ∀ z ∈ drest xs, ∃ x ∈ xs, z = ⟨x.b, x.t, x.a - 1⟩ := fun z hz => ddec_mem.1 (by rw [h1]; simp [hz])
  refine ⟨v, rfl, ho, ⟨hd, ?_, h.upd.then hu fun i hi => .inr (h.own i hi), h3, ?_, ?_⟩, hu, fun t a => ?_⟩
  · intro k hk
    rcases List.mem_cons.1 hk with rfl | hk
    · exact h.own _ (by simp)
    · obtain ⟨z, hz, rfl⟩ := List.mem_map.1 hk
      obtain ⟨x, hx, rfl⟩ := hsub z hz
      exact h.own _ (by simp; exact .inr ⟨x, hx, rfl⟩)
  · have h4 : (ddec xs).map DN.t = xs.map DN.t := by simp [ddec, Function.comp_def]
    have h5 := h.tnd
    rw [← h4, h1, List.map_append] at h5
    exact (List.nodup_append.1 h5).2.1
  · intro z hz
    obtain ⟨x, hx, rfl⟩ := hsub z hz
    exact h.rng x hx
  · constructor
    · rintro ⟨z, hz, e1, e2⟩
      have hp := h3 z hz
      obtain ⟨x, hx, rfl⟩ := hsub z hz
      exact ⟨⟨x, hx, e1, by simp at e2; omega⟩, by simp at e2 hp; omega⟩
    · rintro ⟨⟨x, hx, e1, e2⟩, ha⟩
      have hm : (⟨x.b, x.t, x.a - 1⟩ : DN) ∈ ddec xs := ddec_mem.2 ⟨x, hx, rfl⟩
      rw [h1] at hm
      rcases List.mem_append.1 hm with hm | hm
      · have := h2 _ hm
        simp at this
        omega
      · exact ⟨_, hm, e1, by simp; omega⟩

theorem DI.new (w : World) : DI w (w.alloc (.cells #[.pointer none, .int .i64 0] 27)) w.heap.size [] :=
  ⟨dl_new w, by simp, (Upd.refl _ _).alloc _, by simp, by simp, by simp⟩

theorem DI.left {W w : World} {d : Nat} {xs : List DN} (h : DI W w d xs) (t : Int) :
    Calls Try.prog 13 #[.pointer (some ⟨d, 0, none⟩), .int .i64 t] w fun e w' => e = .returned (.tuple #[.int .u32 (dleft t xs).1, .bool (dleft t xs).2]) ∧ w = w' := dleft_any t h.dl
end Go.Proofs.Ytgmdhjlbedgafaa
