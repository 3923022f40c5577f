/- Proved: the pure form of FnExactHoldsFault: HoldsFault of the program answers as the reference at every list of holds, and leaves it alone. Conditions: none beyond the statement. -/
import Derived.Test.YtophipaadjoecaaPFnExactHoldsFaultx3
import Derived.Test.YtophipaadjoecaaPureBase
import Derived.OpenShut
namespace Go.Proofs.Ytophipaadjoecaa.Pure
open Go.RowKit Go.Proofs.Ytophipaadjoecaa.PFnExactHoldsFault Go.Proofs.YtophipaadjoecaaW.PrintWords Go.Proofs.YtophipaadjoecaaW.PrintLast Go.Proofs.Ytophipaadjoecaa.PureBase
set_option linter.unusedVariables false
set_option linter.unusedSimpArgs false

theorem rd91_at (xs : List S91) (i : Nat) (h : i < xs.length) : rd_T91 xs (i : Int) = xs[i] := by
  unfold rd_T91
  rw [Int.toNat_natCast]
  exact getD_at xs i z91 h
theorem rd89_at (xs : List S89) (i : Nat) (h : i < xs.length) : rd_T89 xs (i : Int) = xs[i] := by
  unfold rd_T89
  rw [Int.toNat_natCast]
  exact getD_at xs i z89 h
def cpHold (x : S91) : S89 := ⟨x.f0, x.f1, x.f2⟩
theorem toHoldS_some (xs : List S91) (hn : xs.length ≤ 1048576) (k : Nat) (hk : xs.length < k) : laws_toHoldS.f k xs = some (xs.map cpHold) := by
  unfold laws_toHoldS.f
  rw [if_pos (by omega), if_pos (by rw [Int.toNat_natCast]; omega)]
  exact map_all cpHold (fun k ys i => laws_toHoldS.l0 k xs ys i) xs 0
    (by
      intro k i ys h _ hl
      simp only [laws_toHoldS.l0, laws_toHold.f, Option.bind_some]
      rw [if_pos (by omega), if_pos (by omega), if_pos (by omega), pw64 (by omega) (by omega), rd91_at xs i h, Int.toNat_natCast]
      rfl)
    (by
      intro k ys _
      simp only [laws_toHoldS.l0]
      rw [if_neg (by omega)]) k (List.replicate ((xs.length : Int)).toNat z89) (by simp) (by omega)
theorem eqHoldS_same (xs : List S89) (hn : xs.length ≤ 1048576) (k : Nat) (hk : xs.length < k) : laws_eqHoldS.f k xs xs = some true := by
  unfold laws_eqHoldS.f
  rw [if_pos rfl]
  exact end_go (fun k i => laws_eqHoldS.l0 k xs xs i) xs.length 0 true
    (by
      intro k i h _
      simp only [laws_eqHoldS.l0, laws_eqHold.f]
      rw [if_pos (by omega), if_pos (by omega), if_pos (by omega), pw64 (by omega) (by omega)]
      simp)
    (by
      intro k _
      simp only [laws_eqHoldS.l0]
      rw [if_neg (by omega)]) xs.length k 0 (by omega) (by omega) (by omega)

theorem in_is (a b c : Int) : impl_in.f a b c = some (decide (b ≤ a ∧ a ≤ c)) := by
  unfold impl_in.f
  by_cases h : a ≥ b
  · rw [if_pos h]; congr 1; simp; omega
  · rw [if_neg h]; congr 1; simp; omega
theorem in_is' (a b c : Int) : spec_l4In.f a b c = some (decide (b ≤ a ∧ a ≤ c)) := in_is a b c

theorem l1_both (xs : List S89) (hn : xs.length ≤ 1048576) (k i : Nat) (hk : xs.length < k) : ∃ r, spec_HoldsFault.l1 k xs (i : Int) = some r ∧ impl_HoldsFault.l1 k xs (xs.length : Int) (i : Int) = some r :=
  same_all (fun k i => spec_HoldsFault.l1 k xs i) (fun k i => impl_HoldsFault.l1 k xs (xs.length : Int) i) xs.length 0
    (by
      intro k i h _
      simp only [spec_HoldsFault.l1, impl_HoldsFault.l1, in_is, in_is', Option.bind_some, decide_eq_true_eq]
      rw [if_pos (show (i : Int) < (xs.length : Int) by omega), if_pos (show 0 ≤ (i : Int) by omega), if_pos (show (i : Int) < (xs.length : Int) by omega), if_pos (show 0 ≤ (i : Int) by omega), if_pos (show (i : Int) < (xs.length : Int) by omega), pw64 (by omega) (by omega)]
      split
      · split
        · split
          · exact .inl ⟨rfl, rfl⟩
          · exact .inr ⟨_, rfl, rfl⟩
        · exact .inr ⟨_, rfl, rfl⟩
      · exact .inr ⟨_, rfl, rfl⟩)
    (by
      intro k i h _
      simp only [spec_HoldsFault.l1, impl_HoldsFault.l1]
      rw [if_neg (by omega), if_neg (by omega)]
      exact ⟨_, rfl, rfl⟩) k i (by omega)
theorem l0_both (xs : List S89) (hn : xs.length ≤ 1048576) (k i : Nat) (h1 : 1 ≤ i) (hk : xs.length + (xs.length + 1) < k) : ∃ r, spec_HoldsFault.l0 k xs (i : Int) = some r ∧ impl_HoldsFault.l0 k xs (i : Int) = some r := by
  have := same_all (fun k i => spec_HoldsFault.l0 k xs (i + 1)) (fun k i => impl_HoldsFault.l0 k xs (i + 1)) (xs.length - 1) (xs.length + 1)
    (by
      intro k i h _
      simp only [spec_HoldsFault.l0, impl_HoldsFault.l0]
      rw [pw64 (x := (i : Int) + 1 - 1) (by omega) (by omega), pw64 (x := (i : Int) + 1 + 1) (by omega) (by omega)]
      rw [if_pos (show (i : Int) + 1 < (xs.length : Int) by omega), if_pos (show 0 ≤ (i : Int) + 1 - 1 by omega), if_pos (show (i : Int) + 1 - 1 < (xs.length : Int) by omega), if_pos (show 0 ≤ (i : Int) + 1 by omega), if_pos (show (i : Int) + 1 < (xs.length : Int) by omega), if_pos (show 0 ≤ (i : Int) + 1 - 1 by omega), if_pos (show (i : Int) + 1 - 1 < (xs.length : Int) by omega), if_pos (show 0 ≤ (i : Int) + 1 by omega)]
      split
      · exact .inr ⟨_, rfl, rfl⟩
      · exact .inl ⟨rfl, rfl⟩)
    (by
      intro k i h hk
      simp only [spec_HoldsFault.l0, impl_HoldsFault.l0]
      rw [if_neg (by omega), if_neg (by omega)]
      exact l1_both xs hn k 0 (by omega)) k (i - 1) (by omega)
  have e : ((i - 1 : Nat) : Int) + 1 = (i : Int) := by omega
  simpa [e] using this
theorem both (xs : List S89) (hn : xs.length ≤ 1048576) (k : Nat) (hk : xs.length + (xs.length + 1) < k) : ∃ r, spec_HoldsFault.f k xs = some r ∧ impl_HoldsFault.f k xs = some r := by
  unfold spec_HoldsFault.f impl_HoldsFault.f
  split
  · exact ⟨_, rfl, rfl⟩
  · exact l0_both xs hn k 1 (by omega) hk

theorem FnExactHoldsFault (l0 : (List S91)) (w0 : l0.length ≤ maxLen ∧ ∀ y0 ∈ l0, ((Lit.int .i64 y0.f0).wf = true) ∧ ((Lit.int .i64 y0.f1).wf = true) ∧ ((Lit.int .i64 y0.f2).wf = true)) : ∃ k, laws_FnExactHoldsFault.f k l0 = some true := by
  have hm : l0.length ≤ 9223372036854775807 := w0.1
  refine ⟨l0.length + (l0.length + 2), ?_⟩
  unfold laws_FnExactHoldsFault.f laws_szHoldS.f
  rw [pw64 (by omega) (by omega)]
  by_cases h : 1048576 - (l0.length : Int) < 0
  · rw [if_pos h]
    simp
  · rw [if_neg h]
    simp only [Option.bind_some]
    rw [if_neg h, toHoldS_some l0 (by omega) _ (by omega)]
    simp only [Option.bind_some]
    obtain ⟨r, h1, h2⟩ := both (l0.map cpHold) (by simp; omega) (l0.length + (l0.length + 2)) (by simp)
    rw [h1, h2]
    simp only [Option.bind_some, if_true]
    rw [eqHoldS_same _ (by simp; omega) _ (by simp)]
    simp

end Go.Proofs.Ytophipaadjoecaa.Pure
