/- Proved: CheckpointSize of the program answers as CheckpointSize of the reference, at every int64. Conditions: none beyond the statement. -/
import Derived.Test.YtjkhmagnlaijhaaPFnExactCheckpointSizex1
namespace Go.Proofs.Ytjkhmagnlaijhaa.Pure
open Go.RowKit Go.Proofs.Ytjkhmagnlaijhaa.PFnExactCheckpointSize Go.Proofs.YtjkhmagnlaijhaaW.PrintWords Go.Proofs.YtjkhmagnlaijhaaW.PrintLast

/-- Pure form: CheckpointSize of the program answers as CheckpointSize of the reference, at every int64. -/
theorem FnExactCheckpointSize : laws_FnExactCheckpointSize.Pure := by
  intro a0 _
  have e : ∃ r, impl_CheckpointSize.f a0 = some r ∧ spec_CheckpointSize.f a0 = some r := by
    unfold impl_CheckpointSize.f spec_CheckpointSize.f impl_in.f spec_l4In.f
    by_cases h1 : a0 ≥ 1
    · by_cases h2 : a0 ≤ 16
      · exact ⟨_, by rw [if_pos h1]; simp [h2]; rfl, by rw [if_pos h1]; simp [h2]⟩
      · exact ⟨-1, by rw [if_pos h1]; simp [h2], by rw [if_pos h1]; simp [h2]⟩
    · exact ⟨-1, by rw [if_neg h1]; simp, by rw [if_neg h1]; simp⟩
  obtain ⟨r, h1, h2⟩ := e
  unfold laws_FnExactCheckpointSize.f
  rw [h1, h2]
  simp

end Go.Proofs.Ytjkhmagnlaijhaa.Pure
