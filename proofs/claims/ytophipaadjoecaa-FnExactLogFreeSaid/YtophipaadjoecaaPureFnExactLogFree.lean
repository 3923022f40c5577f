/- Proved: the pure form of FnExactLogFree: LogFree of the program answers as the reference at all arguments. Conditions: none beyond the statement. -/
import Derived.Test.YtophipaadjoecaaPFnExactLogFreex1
namespace Go.Proofs.Ytophipaadjoecaa.Pure
open Go.RowKit Go.Proofs.Ytophipaadjoecaa.PFnExactLogFree Go.Proofs.YtophipaadjoecaaW.PrintWords Go.Proofs.YtophipaadjoecaaW.PrintLast
set_option linter.unusedVariables false
set_option linter.unusedSimpArgs false

theorem in_tot (a b c : Int) : ∃ r, impl_in.f a b c = some r := by unfold impl_in.f; split <;> exact ⟨_, rfl⟩

theorem min_tot (a : Int) : ∃ r, impl_MinLog.f a = some r := by
  obtain ⟨r, h⟩ := in_tot a 1 16
  unfold impl_MinLog.f
  rw [h, Option.bind_some]
  split <;> exact ⟨_, rfl⟩
theorem geo_tot (a b c : Int) : ∃ r, impl_GeometryFault.f a b c = some r := by
  unfold impl_GeometryFault.f
  obtain ⟨r1, h1⟩ := in_tot a 1 16
  obtain ⟨r2, h2⟩ := in_tot b 3 16
  obtain ⟨r3, h3⟩ := min_tot a
  obtain ⟨r4, h4⟩ := in_tot c r3 800
  rw [h1, h2, h3]
  simp only [Option.bind_some]
  rw [h4]
  simp only [Option.bind_some]
  split
  · split
    · split <;> exact ⟨_, rfl⟩
    · exact ⟨_, rfl⟩
  · exact ⟨_, rfl⟩
theorem geo_same (a b c : Int) : spec_GeometryFault.f a b c = impl_GeometryFault.f a b c := rfl

theorem both (a b c d e f g : Int) : ∃ r, spec_LogFree.f a b c d e f g = some r ∧ impl_LogFree.f a b c d e f g = some r := by
  unfold spec_LogFree.f impl_LogFree.f impl_logFree.f
  obtain ⟨r, h⟩ := geo_tot a b c
  obtain ⟨q1, h1⟩ := in_tot d 0 1099511627776
  obtain ⟨q2, h2⟩ := in_tot e 0 1099511627776
  obtain ⟨q3, h3⟩ := in_tot f 0 1099511627776
  obtain ⟨q4, h4⟩ := in_tot g 0 1099511627776
  have s1 : spec_l4In.f d 0 1099511627776 = some q1 := h1
  have s2 : spec_l4In.f e 0 1099511627776 = some q2 := h2
  have s3 : spec_l4In.f f 0 1099511627776 = some q3 := h3
  have s4 : spec_l4In.f g 0 1099511627776 = some q4 := h4
  obtain ⟨z, hz⟩ : ∃ z, impl_CheckpointSize.f a = some z := by
    unfold impl_CheckpointSize.f
    obtain ⟨q, hq⟩ := in_tot a 1 16
    rw [hq, Option.bind_some]
    split <;> exact ⟨_, rfl⟩
  have sz : spec_CheckpointSize.f a = some z := hz
  rw [geo_same, h, h1, h2, h3, h4, s1, s2, s3, s4, hz, sz]
  simp only [Option.bind_some]
  split
  · split
    · split
      · split
        · split
          · exact ⟨_, rfl, rfl⟩
          · exact ⟨_, rfl, rfl⟩
        · exact ⟨_, rfl, rfl⟩
      · exact ⟨_, rfl, rfl⟩
    · exact ⟨_, rfl, rfl⟩
  · exact ⟨_, rfl, rfl⟩

theorem FnExactLogFree (a0_0 : Int) (a0_1 : Int) (a0_2 : Int) (a1 : Int) (a2 : Int) (a3 : Int) (a4 : Int) (w0_0 : (Lit.int .i64 a0_0).wf = true) (w0_1 : (Lit.int .i64 a0_1).wf = true) (w0_2 : (Lit.int .i64 a0_2).wf = true) (w1 : (Lit.int .i64 a1).wf = true) (w2 : (Lit.int .i64 a2).wf = true) (w3 : (Lit.int .i64 a3).wf = true) (w4 : (Lit.int .i64 a4).wf = true) : laws_FnExactLogFree.f a0_0 a0_1 a0_2 a1 a2 a3 a4 = some true := by
  obtain ⟨r, h1, h2⟩ := both a0_0 a0_1 a0_2 a1 a2 a3 a4
  unfold laws_FnExactLogFree.f laws_toGeometry.f
  simp only [Option.bind_some, h1, h2, if_true]

end Go.Proofs.Ytophipaadjoecaa.Pure
