/- Proved: MinLog of the program answers as MinLog of the reference, at every int64. Conditions: none beyond the statement. -/
import Derived.Test.YtjkhmagnlaijhaaPFnExactMinLogx1
namespace Go.Proofs.Ytjkhmagnlaijhaa.Pure
open Go.RowKit Go.Proofs.Ytjkhmagnlaijhaa.PFnExactMinLog Go.Proofs.YtjkhmagnlaijhaaW.PrintWords Go.Proofs.YtjkhmagnlaijhaaW.PrintLast

/-- Pure form: MinLog of the program answers as MinLog of the reference, at every int64. -/
theorem FnExactMinLog : laws_FnExactMinLog.Pure := by
  intro a0 _
  have e : ∃ r, impl_MinLog.f a0 = some r ∧ spec_MinLog.f a0 = some r := by
    unfold impl_MinLog.f spec_MinLog.f impl_in.f spec_l4In.f
    by_cases h1 : a0 ≥ 1
    · by_cases h2 : a0 ≤ 16
      · exact ⟨_, by rw [if_pos h1]; simp [h2]; rfl, by rw [if_pos h1]; simp [h2]⟩
      · exact ⟨-1, by rw [if_pos h1]; simp [h2], by rw [if_pos h1]; simp [h2]⟩
    · exact ⟨-1, by rw [if_neg h1]; simp, by rw [if_neg h1]; simp⟩
  obtain ⟨r, h1, h2⟩ := e
  unfold laws_FnExactMinLog.f
  rw [h1, h2]
  simp

end Go.Proofs.Ytjkhmagnlaijhaa.Pure
