/- Proved: the pure form of FnExactGeometryFault: GeometryFault of the program answers as the reference at every geometry. Conditions: none beyond the statement. -/
import Derived.Test.YtjkhmagnlaijhaaPFnExactGeometryFaultx1
namespace Go.Proofs.Ytjkhmagnlaijhaa.Pure
open Go.RowKit Go.Proofs.Ytjkhmagnlaijhaa.PFnExactGeometryFault Go.Proofs.YtjkhmagnlaijhaaW.PrintWords Go.Proofs.YtjkhmagnlaijhaaW.PrintLast
set_option linter.unusedVariables false
set_option linter.unusedSimpArgs false

theorem in_tot (a b c : Int) : ∃ r, impl_in.f a b c = some r := by unfold impl_in.f; split <;> exact ⟨_, rfl⟩

theorem min_tot (a : Int) : ∃ r, impl_MinLog.f a = some r := by
  obtain ⟨r, h⟩ := in_tot a 1 16
  unfold impl_MinLog.f
  rw [h, Option.bind_some]
  split <;> exact ⟨_, rfl⟩
theorem geo_tot (a b c : Int) : ∃ r, impl_GeometryFault.f a b c = some r := by
  unfold impl_GeometryFault.f
  obtain ⟨r1, h1⟩ := in_tot a 1 16
  obtain ⟨r2, h2⟩ := in_tot b 3 16
  obtain ⟨r3, h3⟩ := min_tot a
  obtain ⟨r4, h4⟩ := in_tot c r3 800
  rw [h1, h2, h3]
  simp only [Option.bind_some]
  rw [h4]
  simp only [Option.bind_some]
  split
  · split
    · split <;> exact ⟨_, rfl⟩
    · exact ⟨_, rfl⟩
  · exact ⟨_, rfl⟩
theorem geo_same (a b c : Int) : spec_GeometryFault.f a b c = impl_GeometryFault.f a b c := rfl

theorem FnExactGeometryFault (a0_0 : Int) (a0_1 : Int) (a0_2 : Int) (w0_0 : (Lit.int .i64 a0_0).wf = true) (w0_1 : (Lit.int .i64 a0_1).wf = true) (w0_2 : (Lit.int .i64 a0_2).wf = true) : laws_FnExactGeometryFault.f a0_0 a0_1 a0_2 = some true := by
  obtain ⟨r, h⟩ := geo_tot a0_0 a0_1 a0_2
  unfold laws_FnExactGeometryFault.f laws_toGeometry.f
  simp only [Option.bind_some, geo_same, h, if_true]

end Go.Proofs.Ytjkhmagnlaijhaa.Pure
