/- Proved: LogPlace of the program answers as LogPlace of the reference, at all int64s. Conditions: none beyond the statement. -/
import Derived.Test.YtjkhmagnlaijhaaPFnExactLogPlacex1
namespace Go.Proofs.Ytjkhmagnlaijhaa.Pure
open Go.RowKit Go.Proofs.Ytjkhmagnlaijhaa.PFnExactLogPlace Go.Proofs.YtjkhmagnlaijhaaW.PrintWords Go.Proofs.YtjkhmagnlaijhaaW.PrintLast

/-- Pure form: LogPlace of the program answers as LogPlace of the reference, at all int64s. -/
theorem FnExactLogPlace : laws_FnExactLogPlace.Pure := by
  intro a0 a1 _ _
  have e : ∃ r, impl_LogPlace.f a0 a1 = some r ∧ spec_LogPlace.f a0 a1 = some r := by
    unfold impl_LogPlace.f spec_LogPlace.f impl_in.f spec_l4In.f
    by_cases h1 : a0 ≥ 16
    · by_cases h2 : a0 ≤ 800
      · have h0 : ¬ a0 = 0 := by omega
        by_cases h3 : a1 ≥ 512
        · by_cases h4 : a1 ≤ 1099511627776
          · exact ⟨_, by rw [if_pos h1, if_pos h3, if_neg h0]; simp [h2, h4]; rfl, by rw [if_pos h1, if_pos h3, if_neg h0]; simp [h2, h4]⟩
          · exact ⟨-1, by rw [if_pos h1, if_pos h3]; simp [h2, h4], by rw [if_pos h1, if_pos h3]; simp [h2, h4]⟩
        · exact ⟨-1, by rw [if_pos h1, if_neg h3]; simp [h2], by rw [if_pos h1, if_neg h3]; simp [h2]⟩
      · exact ⟨-1, by rw [if_pos h1]; simp [h2], by rw [if_pos h1]; simp [h2]⟩
    · exact ⟨-1, by rw [if_neg h1]; simp, by rw [if_neg h1]; simp⟩
  obtain ⟨r, h1, h2⟩ := e
  unfold laws_FnExactLogPlace.f
  rw [h1, h2]
  simp

end Go.Proofs.Ytjkhmagnlaijhaa.Pure
