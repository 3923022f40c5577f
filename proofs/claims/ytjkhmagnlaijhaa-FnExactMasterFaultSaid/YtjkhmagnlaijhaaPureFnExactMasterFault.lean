/- Proved: the pure form of FnExactMasterFault: MasterFault of the program answers as the reference at every master record. Conditions: none beyond the statement. -/
import Derived.Test.YtjkhmagnlaijhaaPFnExactMasterFaultx1
namespace Go.Proofs.Ytjkhmagnlaijhaa.Pure
open Go.RowKit Go.Proofs.Ytjkhmagnlaijhaa.PFnExactMasterFault Go.Proofs.YtjkhmagnlaijhaaW.PrintWords Go.Proofs.YtjkhmagnlaijhaaW.PrintLast
set_option linter.unusedVariables false
set_option linter.unusedSimpArgs false

theorem in_tot (a b c : Int) : ∃ r, impl_in.f a b c = some r := by unfold impl_in.f; split <;> exact ⟨_, rfl⟩

theorem in_is (a b c : Int) : impl_in.f a b c = some (decide (b ≤ a ∧ a ≤ c)) := by
  unfold impl_in.f
  by_cases h : a ≥ b
  · rw [if_pos h]; congr 1; simp; omega
  · rw [if_neg h]; congr 1; simp; omega
theorem in_is' (a b c : Int) : spec_l4In.f a b c = some (decide (b ≤ a ∧ a ≤ c)) := in_is a b c
theorem both (a b c d : Int) : ∃ r, spec_MasterFault.f a b c d = some r ∧ impl_MasterFault.f a b c d = some r := by
  unfold spec_MasterFault.f impl_MasterFault.f
  simp only [in_is, in_is', Option.bind_some, decide_eq_true_eq]
  by_cases h1 : 1 ≤ a ∧ a ≤ 1099511627776
  · by_cases h2 : 1 ≤ b ∧ b ≤ 4294967295
    · rw [if_pos h1, if_pos h2, if_pos h1, if_pos h2]
      by_cases h3 : d < 512
      · rw [if_pos h3, if_neg (by omega)]; exact ⟨_, rfl, rfl⟩
      · by_cases h4 : c < d
        · rw [if_neg h3, if_pos h4]
          refine ⟨_, rfl, ?_⟩
          split
          · rw [if_neg (by omega)]
          · rfl
        · by_cases h5 : c > 1099511627776
          · rw [if_neg h3, if_neg h4, if_pos h5]
            refine ⟨_, rfl, ?_⟩
            split
            · rw [if_neg (by omega)]
            · rfl
          · rw [if_neg h3, if_neg h4, if_neg h5, if_pos (by omega), if_pos (by omega)]
            exact ⟨_, rfl, rfl⟩
    · rw [if_pos h1, if_neg h2, if_pos h1, if_neg h2]; exact ⟨_, rfl, rfl⟩
  · rw [if_neg h1, if_neg h1]; exact ⟨_, rfl, rfl⟩

theorem FnExactMasterFault (a0_0 : Int) (a0_1 : Int) (a0_2 : Int) (a0_3 : Int) (w0_0 : (Lit.int .i64 a0_0).wf = true) (w0_1 : (Lit.int .i64 a0_1).wf = true) (w0_2 : (Lit.int .i64 a0_2).wf = true) (w0_3 : (Lit.int .i64 a0_3).wf = true) : laws_FnExactMasterFault.f a0_0 a0_1 a0_2 a0_3 = some true := by
  obtain ⟨r, h1, h2⟩ := both a0_0 a0_1 a0_2 a0_3
  unfold laws_FnExactMasterFault.f laws_toMaster.f
  simp only [Option.bind_some, h1, h2, if_true]

end Go.Proofs.Ytjkhmagnlaijhaa.Pure
