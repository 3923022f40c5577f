/- Proved: the pure form of FnExactPoolNew: PoolNew of the program answers as the reference at every number of frames, and its answer owns its memory. Conditions: none beyond the statement. -/
import Derived.Test.YtmggneijkhmigaaQFnExactPoolNewx3
import Derived.Test.YtmggneijkhmigaaPureBase
import Derived.OpenShut
namespace Go.Proofs.Ytmggneijkhmigaa.Pure
open Go.RowKit Go.Proofs.Ytmggneijkhmigaa.QFnExactPoolNew Go.Proofs.YtmggneijkhmigaaW.PrintWords Go.Proofs.YtmggneijkhmigaaW.PrintLast Go.Proofs.Ytmggneijkhmigaa.PureBase
set_option linter.unusedVariables false
set_option linter.unusedSimpArgs false

theorem in_is (a b c : Int) : impl_in.f a b c = some (decide (b ≤ a ∧ a ≤ c)) := by
  unfold impl_in.f
  by_cases h : a ≥ b
  · rw [if_pos h]; congr 1; simp; omega
  · rw [if_neg h]; congr 1; simp; omega
theorem in_is' (a b c : Int) : spec_l4In.f a b c = some (decide (b ≤ a ∧ a ≤ c)) := in_is a b c

theorem FnExactPoolNew (a0 : Int) (w0 : (Lit.int .i64 a0).wf = true) : ∃ k, laws_FnExactPoolNew.f k a0 = some true := by
  by_cases h : 1 ≤ a0 ∧ a0 ≤ 16
  · have hc : a0 = 1 ∨ a0 = 2 ∨ a0 = 3 ∨ a0 = 4 ∨ a0 = 5 ∨ a0 = 6 ∨ a0 = 7 ∨ a0 = 8 ∨ a0 = 9 ∨ a0 = 10 ∨ a0 = 11 ∨ a0 = 12 ∨ a0 = 13 ∨ a0 = 14 ∨ a0 = 15 ∨ a0 = 16 := by omega
    clear h w0
    rcases hc with rfl | rfl | rfl | rfl | rfl | rfl | rfl | rfl | rfl | rfl | rfl | rfl | rfl | rfl | rfl | rfl
    all_goals exact ⟨100, by kernel_rfl⟩
  · refine ⟨100, ?_⟩
    have h1 : spec_l4In.f a0 1 16 = some false := by rw [in_is', decide_eq_false h]
    have h2 : impl_in.f a0 1 16 = some false := by rw [in_is, decide_eq_false h]
    have h3 : spec_PoolNew.f 100 a0 = some ([], 0) := by
      unfold spec_PoolNew.f
      rw [h1]
      rfl
    have h4 : impl_PoolNew.f 100 a0 = some ([], 0) := by
      unfold impl_PoolNew.f
      rw [h2]
      rfl
    have h5 : laws_FnExactPoolNew.f 100 a0 = (some (([] : List S114), (0 : Int))).bind fun bt145 => ((some (([] : List S114), (0 : Int))).bind fun bt150 => ((laws_eqPool.f 100 bt150.1 bt150.2 bt145.1 bt145.2).bind fun t155 => (if t155 = true then ((laws_markPool.f 100 bt150.1 bt150.2 1).bind fun bt156 => ((laws_heldPool.f 100 bt156.2 bt150.2 1).bind fun t158 => (if t158 < 0 then (some false) else (if t158 = bt156.1 then ((some (([] : List S114), (0 : Int))).bind fun bt159 => ((laws_eqPool.f 100 bt159.1 bt159.2 bt145.1 bt145.2).bind fun t164 => (if t164 = true then ((laws_heldPool.f 100 bt156.2 bt150.2 1).bind fun t165 => (if t165 < 0 then (some false) else (if t165 = bt156.1 then (some true) else (some false)))) else (some false)))) else (some false))))) else (some false)))) := by
      unfold laws_FnExactPoolNew.f
      rw [h3, h4]
    rw [h5]
    decide

end Go.Proofs.Ytmggneijkhmigaa.Pure
