/- Proved: the pure form of FnExactPageSector: PageSector of the program answers as the reference at every geometry and page. Conditions: none beyond the statement. -/
import Derived.Test.YtjkhmagnlaijhaaPFnExactPageSectorx1
namespace Go.Proofs.Ytjkhmagnlaijhaa.Pure
open Go.RowKit Go.Proofs.Ytjkhmagnlaijhaa.PFnExactPageSector Go.Proofs.YtjkhmagnlaijhaaW.PrintWords Go.Proofs.YtjkhmagnlaijhaaW.PrintLast
set_option linter.unusedVariables false
set_option linter.unusedSimpArgs false

theorem in_tot (a b c : Int) : ∃ r, impl_in.f a b c = some r := by unfold impl_in.f; split <;> exact ⟨_, rfl⟩

theorem min_tot (a : Int) : ∃ r, impl_MinLog.f a = some r := by
  obtain ⟨r, h⟩ := in_tot a 1 16
  unfold impl_MinLog.f
  rw [h, Option.bind_some]
  split <;> exact ⟨_, rfl⟩
theorem geo_tot (a b c : Int) : ∃ r, impl_GeometryFault.f a b c = some r := by
  unfold impl_GeometryFault.f
  obtain ⟨r1, h1⟩ := in_tot a 1 16
  obtain ⟨r2, h2⟩ := in_tot b 3 16
  obtain ⟨r3, h3⟩ := min_tot a
  obtain ⟨r4, h4⟩ := in_tot c r3 800
  rw [h1, h2, h3]
  simp only [Option.bind_some]
  rw [h4]
  simp only [Option.bind_some]
  split
  · split
    · split <;> exact ⟨_, rfl⟩
    · exact ⟨_, rfl⟩
  · exact ⟨_, rfl⟩
theorem geo_same (a b c : Int) : spec_GeometryFault.f a b c = impl_GeometryFault.f a b c := rfl

theorem both (a b c d : Int) : ∃ r, spec_PageSector.f a b c d = some r ∧ impl_PageSector.f a b c d = some r := by
  unfold spec_PageSector.f impl_PageSector.f
  obtain ⟨r, h⟩ := geo_tot a b c
  obtain ⟨q, h2⟩ := in_tot d 0 (wrap64 (a - 1))
  have h3 : spec_l4In.f d 0 (wrap64 (a - 1)) = some q := h2
  rw [geo_same, h]
  simp only [Option.bind_some]
  rw [h2, h3]
  simp only [Option.bind_some]
  split
  · split
    · refine ⟨_, rfl, ?_⟩
      rw [Int.mul_comm]
    · exact ⟨_, rfl, rfl⟩
  · exact ⟨_, rfl, rfl⟩

theorem FnExactPageSector (a0_0 : Int) (a0_1 : Int) (a0_2 : Int) (a1 : Int) (w0_0 : (Lit.int .i64 a0_0).wf = true) (w0_1 : (Lit.int .i64 a0_1).wf = true) (w0_2 : (Lit.int .i64 a0_2).wf = true) (w1 : (Lit.int .i64 a1).wf = true) : laws_FnExactPageSector.f a0_0 a0_1 a0_2 a1 = some true := by
  obtain ⟨r, h1, h2⟩ := both a0_0 a0_1 a0_2 a1
  unfold laws_FnExactPageSector.f laws_toGeometry.f
  simp only [Option.bind_some, h1, h2, if_true]

end Go.Proofs.Ytjkhmagnlaijhaa.Pure
