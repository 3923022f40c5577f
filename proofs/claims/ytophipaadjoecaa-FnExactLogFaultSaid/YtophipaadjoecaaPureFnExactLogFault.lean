/- Proved: the pure form of FnExactLogFault: LogFault of the program answers as the reference at every log, and leaves it alone. Conditions: none beyond the statement. -/
import Derived.Test.YtophipaadjoecaaPFnExactLogFaultx2
import Derived.Test.YtophipaadjoecaaPureBase
import Derived.OpenShut
namespace Go.Proofs.Ytophipaadjoecaa.Pure
open Go.RowKit Go.Proofs.Ytophipaadjoecaa.PFnExactLogFault Go.Proofs.YtophipaadjoecaaW.PrintWords Go.Proofs.YtophipaadjoecaaW.PrintLast Go.Proofs.Ytophipaadjoecaa.PureBase
set_option linter.unusedVariables false
set_option linter.unusedSimpArgs false

theorem toByteS_some (xs : List Int) (hn : xs.length ≤ 281474976710656) (k : Nat) (hk : xs.length < k) : laws_toByteS.f k xs = some xs := by
  unfold laws_toByteS.f
  rw [if_pos (by omega), if_pos (by rw [Int.toNat_natCast]; omega)]
  have := map_all (fun x : Int => x) (fun k ys i => laws_toByteS.l0 k xs ys i) xs 0
    (by
      intro k i ys h _ hl
      simp only [laws_toByteS.l0]
      rw [if_pos (by omega), if_pos (by omega), if_pos (by omega), pw64 (by omega) (by omega), rdN, getD_at xs i 0 h, Int.toNat_natCast])
    (by
      intro k ys _
      simp only [laws_toByteS.l0]
      rw [if_neg (by omega)]) k (List.replicate ((xs.length : Int)).toNat 0) (by simp) (by omega)
  simpa using this

theorem eqByteS_same (xs : List Int) (hn : xs.length ≤ 281474976710656) (k : Nat) (hk : xs.length < k) : laws_eqByteS.f k xs xs = some true := by
  unfold laws_eqByteS.f
  rw [if_pos rfl]
  exact end_go (fun k i => laws_eqByteS.l0 k xs xs i) xs.length 0 true
    (by
      intro k i h _
      simp only [laws_eqByteS.l0]
      rw [if_pos (by omega), if_pos (by omega), if_pos (by omega), pw64 (by omega) (by omega)]
      simp)
    (by
      intro k _
      simp only [laws_eqByteS.l0]
      rw [if_neg (by omega)]) xs.length k 0 (by omega) (by omega) (by omega)

theorem in_is (a b c : Int) : impl_in.f a b c = some (decide (b ≤ a ∧ a ≤ c)) := by
  unfold impl_in.f
  by_cases h : a ≥ b
  · rw [if_pos h]; congr 1; simp; omega
  · rw [if_neg h]; congr 1; simp; omega
theorem in_is' (a b c : Int) : spec_l4In.f a b c = some (decide (b ≤ a ∧ a ≤ c)) := in_is a b c

theorem both (a b c d : Int) (l : List Int) (k : Nat) (hk : 0 < k) : ∃ r, spec_LogFault.f k a b c d l = some r ∧ impl_LogFault.f k a b c d l = some r := by
  obtain ⟨k, rfl⟩ : ∃ m, k = m + 1 := ⟨k - 1, by omega⟩
  unfold spec_LogFault.f impl_LogFault.f
  simp only [in_is, in_is', Option.bind_some, decide_eq_true_eq, spec_LogFault.j0, impl_LogFault.j0, if_true]
  by_cases h1 : 16 ≤ a ∧ a ≤ 800
  · by_cases h2 : 1 ≤ b ∧ b ≤ 4294967295
    · rw [if_pos h1, if_pos h2, if_pos h1, if_pos h2]
      by_cases h3 : d < 512
      · rw [if_pos h3, if_neg (by omega)]; exact ⟨_, rfl, rfl⟩
      · by_cases h4 : c < d
        · rw [if_neg h3, if_pos h4]
          refine ⟨_, rfl, ?_⟩
          split
          · rw [if_pos (by simp; omega)]
          · rfl
        · by_cases h5 : c > 1099511627776
          · rw [if_neg h3, if_neg h4, if_pos (by simpa using h5)]
            refine ⟨_, rfl, ?_⟩
            split
            · rw [if_pos (by simp; omega)]
            · rfl
          · rw [if_neg h3, if_neg h4, if_neg (by simpa using h5), if_pos (show 512 ≤ d ∧ d ≤ 1099511627776 by omega), if_neg (show ¬ (!decide (d ≤ c ∧ c ≤ 1099511627776)) = true by simp; omega)]
            split <;> exact ⟨_, rfl, rfl⟩
    · rw [if_pos h1, if_neg h2, if_pos h1, if_neg h2]; exact ⟨_, rfl, rfl⟩
  · rw [if_neg h1, if_neg h1]; exact ⟨_, rfl, rfl⟩

theorem FnExactLogFault (a0_0 : Int) (a0_1 : Int) (a0_2 : Int) (a0_3 : Int) (l0_4 : (List Int)) (w0_0 : (Lit.int .i64 a0_0).wf = true) (w0_1 : (Lit.int .i64 a0_1).wf = true) (w0_2 : (Lit.int .i64 a0_2).wf = true) (w0_3 : (Lit.int .i64 a0_3).wf = true) (w0_4 : l0_4.length ≤ maxLen ∧ ∀ y0 ∈ l0_4, (Lit.int .u8 y0).wf = true) : ∃ k, laws_FnExactLogFault.f k a0_0 a0_1 a0_2 a0_3 l0_4 = some true := by
  have hm : l0_4.length ≤ 9223372036854775807 := w0_4.1
  refine ⟨l0_4.length + 2, ?_⟩
  unfold laws_FnExactLogFault.f laws_szLog.f laws_szByteS.f laws_toLog.f laws_eqLog.f
  rw [pw64 (by omega) (by omega)]
  by_cases h : 1048576 - (l0_4.length : Int) < 0
  · rw [if_pos h]
    simp
  · rw [if_neg h]
    simp only [Option.bind_some]
    rw [if_neg h]
    simp only [Option.bind_some]
    rw [if_neg h, toByteS_some l0_4 (by omega) _ (by omega)]
    simp only [Option.bind_some]
    obtain ⟨r, h1, h2⟩ := both a0_0 a0_1 a0_2 a0_3 l0_4 (l0_4.length + 2) (by omega)
    rw [h1, h2]
    simp only [Option.bind_some, if_true]
    rw [eqByteS_same _ (by omega) _ (by omega)]
    simp

end Go.Proofs.Ytophipaadjoecaa.Pure
