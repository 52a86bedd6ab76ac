/- The plain law of RuleFaults. -/
import Derived.Test.YtkjonflmokapcaaRF4
set_option linter.unusedVariables false
set_option linter.unusedSimpArgs false
namespace Go.Proofs.Ytkjonflmokapcaa
open Go.RowKit

theorem objP_cases (c : CF) (ctx k ob : Int) (l : List Int) : objP c ctx k ob l = 4 ∨ objP c ctx k ob l = 12 ∨ objP c ctx k ob l = 10 ∨ objP c ctx k ob l = 0 := by
  unfold objP
  split
  · exact .inl rfl
  · split
    · exact .inl rfl
    · split
      · split
        · exact .inr (.inr (.inl rfl))
        · exact .inr (.inr (.inr rfl))
      · exact .inr (.inl rfl)
theorem firstP_cases (c : CF) (ctx k ob v0 : Int) : firstP c ctx k ob v0 = 0 ∨ firstP c ctx k ob v0 = 1 ∨ firstP c ctx k ob v0 = 11 ∨ firstP c ctx k ob v0 = 4 ∨ firstP c ctx k ob v0 = 2 ∨ firstP c ctx k ob v0 = 12 ∨ firstP c ctx k ob v0 = 10 := by
  unfold firstP
  split
  · simp
  · split
    · simp
    · split
      · simp
      · split
        · simp
        · split
          · simp
          · split
            · simp
            · split
              · simp
              · rcases objP_cases c ctx k ob (needsL k) with h | h | h | h <;> rw [h] <;> simp
theorem owned_of {c : CF} (h : c.bad.1 = 0) {o : OBJ} (ho : o ∈ c.os) : ownB c.ts.length c.ls.length o.k o.f o.t = true := by
  have hz := bad_zero h 4 (by omega) (by omega) (OBJ.fault c.ts.length c.ls.length o) (by simp only [CF.faults, List.mem_map]; exact ⟨o, ho, rfl⟩)
  unfold OBJ.fault at hz
  split at hz
  · split at hz
    · cases hz
    · split at hz
      · split at hz
        · assumption
        · cases hz
      · cases hz
  · cases hz
/-- What a call that is another one's leads to. -/
theorem owner_law {c : CF} {ctx k ob v0 : Int} (h : firstP c ctx k ob v0 = 10) (hk : k ≠ 11) (hb : blocksB k = false) :
    0 ≤ ob ∧ ob < (c.os.length : Int) ∧ ∀ o, c.os[ob.toNat]? = some o → (if k = 1 ∨ k = 3 then o.f else o.t) ≠ ctx ∧ firstP c (if k = 1 ∨ k = 3 then o.f else o.t) k ob v0 = 0 := by
  unfold firstP at h
  split at h
  · cases h
  rename_i h1
  split at h
  · cases h
  split at h
  · cases h
  rename_i h3
  split at h
  · cases h
  rename_i h4
  split at h
  · cases h
  rename_i h5
  split at h
  · rename_i h6
    unfold q6B at h6
    simp [hk] at h6
  split at h
  · cases h
  rename_i hn
  have hbad : c.bad.1 = 0 := q1_false (by simpa using h1)
  unfold objP at h
  split at h
  · cases h
  rename_i hr
  have hr0 : 0 ≤ ob ∧ ob < (c.os.length : Int) := by omega
  refine ⟨hr0.1, hr0.2, fun o ho => ?_⟩
  rw [ho] at h
  simp only at h
  split at h
  · rename_i hin
    split at h
    · rename_i hw
      have hin' : o.k ∈ needsL k := by simpa using hin
      have hown := owned_of hbad (List.mem_of_getElem? ho)
      have hkk : k = 1 ∨ k = 2 ∨ k = 3 ∨ k = 4 := by
        unfold ownerP at hw
        unfold blocksB at hb
        simp at hb
        split at hw
        · omega
        · split at hw
          · omega
          · cases hw
      have key : ∀ who : Int, (ownerP k o.f o.t).1 = who → (ownerP k o.f o.t).2 = true → hasB c.ts.length c.ls.length who = true → firstP c who k ob v0 = 0 := by
        intro who hwho _ hhas
        unfold firstP
        rw [if_neg, if_neg, if_neg h3, if_neg h4, if_neg h5, if_neg, if_neg hn]
        · unfold objP
          rw [if_neg hr, ho]
          simp only
          rw [if_pos hin, if_neg]
          rw [hwho]
          simp
        · unfold q6B
          simp [hk]
        · unfold q2B
          rw [hb]
          simp
        · unfold q1B
          rw [hhas]
          simp [hbad]
      unfold ownB oneB at hown
      simp only [Bool.and_eq_true] at hown hw
      have hne : (ownerP k o.f o.t).1 ≠ ctx := by simpa using hw.2
      rcases hkk with rfl | rfl | rfl | rfl
      · have hok : o.k = 1 := by simpa [needsL] using hin'
        have hhas : hasB c.ts.length c.ls.length o.f = true := by simpa [hok] using hown.1
        exact ⟨hne, key o.f rfl rfl hhas⟩
      · have hok : o.k = 1 := by simpa [needsL] using hin'
        have hhas : hasB c.ts.length c.ls.length o.t = true := by simpa [hok] using hown.2
        exact ⟨hne, key o.t rfl rfl hhas⟩
      · have hok : o.k = 2 ∨ o.k = 3 := by simpa [needsL] using hin'
        have hhas : hasB c.ts.length c.ls.length o.f = true := by rcases hok with hok | hok <;> simpa [hok] using hown.1
        exact ⟨hne, key o.f rfl rfl hhas⟩
      · have hok : o.k = 2 := by simpa [needsL] using hin'
        have hhas : hasB c.ts.length c.ls.length o.t = true := by simpa [hok] using hown.2
        exact ⟨hne, key o.t rfl rfl hhas⟩
    · cases h
  · cases h
end Go.Proofs.Ytkjonflmokapcaa
