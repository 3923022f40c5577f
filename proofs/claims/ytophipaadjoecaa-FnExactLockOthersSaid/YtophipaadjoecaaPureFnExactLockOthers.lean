/- Proved: the pure form of FnExactLockOthers: LockOthers of the program answers as the reference at all arguments, and leaves the list alone. Conditions: none beyond the statement. -/
import Derived.Test.YtophipaadjoecaaQFnExactLockOthersx5
import Derived.Test.YtophipaadjoecaaPureBase
import Derived.OpenShut
namespace Go.Proofs.Ytophipaadjoecaa.Pure
open Go.RowKit Go.Proofs.Ytophipaadjoecaa.QFnExactLockOthers Go.Proofs.YtophipaadjoecaaW.PrintWords Go.Proofs.YtophipaadjoecaaW.PrintLast Go.Proofs.Ytophipaadjoecaa.PureBase
set_option linter.unusedVariables false
set_option linter.unusedSimpArgs false

theorem rd96_at (xs : List S96) (i : Nat) (h : i < xs.length) : rd_T96 xs (i : Int) = xs[i] := by
  unfold rd_T96
  rw [Int.toNat_natCast]
  exact getD_at xs i z96 h
theorem rd94_at (xs : List S94) (i : Nat) (h : i < xs.length) : rd_T94 xs (i : Int) = xs[i] := by
  unfold rd_T94
  rw [Int.toNat_natCast]
  exact getD_at xs i z94 h
def cpLock (x : S96) : S94 := ⟨x.f0, x.f1, x.f2⟩
theorem toLockS_some (xs : List S96) (hn : xs.length ≤ 1048576) (k : Nat) (hk : xs.length < k) : laws_toLockS.f k xs = some (xs.map cpLock) := by
  unfold laws_toLockS.f
  rw [if_pos (by omega), if_pos (by rw [Int.toNat_natCast]; omega)]
  exact map_all cpLock (fun k ys i => laws_toLockS.l0 k xs ys i) xs 0
    (by
      intro k i ys h _ hl
      simp only [laws_toLockS.l0, laws_toLock.f, Option.bind_some]
      rw [if_pos (by omega), if_pos (by omega), if_pos (by omega), pw64 (by omega) (by omega), rd96_at xs i h, Int.toNat_natCast]
      rfl)
    (by
      intro k ys _
      simp only [laws_toLockS.l0]
      rw [if_neg (by omega)]) k (List.replicate ((xs.length : Int)).toNat z94) (by simp) (by omega)
theorem eqLockS_same (xs : List S94) (hn : xs.length ≤ 1048576) (k : Nat) (hk : xs.length < k) : laws_eqLockS.f k xs xs = some true := by
  unfold laws_eqLockS.f
  rw [if_pos rfl]
  exact end_go (fun k i => laws_eqLockS.l0 k xs xs i) xs.length 0 true
    (by
      intro k i h _
      simp only [laws_eqLockS.l0, laws_eqLock.f]
      rw [if_pos (by omega), if_pos (by omega), if_pos (by omega), pw64 (by omega) (by omega)]
      simp)
    (by
      intro k _
      simp only [laws_eqLockS.l0]
      rw [if_neg (by omega)]) xs.length k 0 (by omega) (by omega) (by omega)

theorem in_is (a b c : Int) : impl_in.f a b c = some (decide (b ≤ a ∧ a ≤ c)) := by
  unfold impl_in.f
  by_cases h : a ≥ b
  · rw [if_pos h]; congr 1; simp; omega
  · rw [if_neg h]; congr 1; simp; omega
theorem in_is' (a b c : Int) : spec_l4In.f a b c = some (decide (b ≤ a ∧ a ≤ c)) := in_is a b c

theorem l2_both (xs : List S94) (hn : xs.length ≤ 1048576) (k i : Nat) (h1 : 1 ≤ i) (hk : xs.length < k) : ∃ r, spec_LocksFault.l2 k xs (i : Int) = some r ∧ impl_LocksFault.l2 k xs (i : Int) = some r := by
  have := same_all (fun k i => spec_LocksFault.l2 k xs (i + 1)) (fun k i => impl_LocksFault.l2 k xs (i + 1)) (xs.length - 1) 0
    (by
      intro k i h _
      simp only [spec_LocksFault.l2, impl_LocksFault.l2]
      rw [pw64 (x := (i : Int) + 1 - 1) (by omega) (by omega), pw64 (x := (i : Int) + 1 + 1) (by omega) (by omega)]
      simp only [if_pos (show (i : Int) + 1 < (xs.length : Int) by omega), if_pos (show 0 ≤ (i : Int) + 1 - 1 by omega), if_pos (show (i : Int) + 1 - 1 < (xs.length : Int) by omega), if_pos (show 0 ≤ (i : Int) + 1 by omega)]
      split
      · split
        · exact .inr ⟨_, rfl, rfl⟩
        · split
          · exact .inr ⟨_, rfl, rfl⟩
          · exact .inl ⟨rfl, rfl⟩
      · exact .inl ⟨rfl, rfl⟩)
    (by
      intro k i h hk
      simp only [spec_LocksFault.l2, impl_LocksFault.l2]
      rw [if_neg (by omega), if_neg (by omega)]
      exact ⟨_, rfl, rfl⟩) k (i - 1) (by omega)
  have e : ((i - 1 : Nat) : Int) + 1 = (i : Int) := by omega
  simpa [e] using this
theorem l1_both (xs : List S94) (hn : xs.length ≤ 1048576) (k i : Nat) (h1 : 1 ≤ i) (hk : xs.length + (xs.length + 1) < k) : ∃ r, spec_LocksFault.l1 k xs (i : Int) = some r ∧ impl_LocksFault.l1 k xs (i : Int) = some r := by
  have := same_all (fun k i => spec_LocksFault.l1 k xs (i + 1)) (fun k i => impl_LocksFault.l1 k xs (i + 1)) (xs.length - 1) (xs.length + 1)
    (by
      intro k i h _
      simp only [spec_LocksFault.l1, impl_LocksFault.l1]
      rw [pw64 (x := (i : Int) + 1 - 1) (by omega) (by omega), pw64 (x := (i : Int) + 1 + 1) (by omega) (by omega)]
      simp only [if_pos (show (i : Int) + 1 < (xs.length : Int) by omega), if_pos (show 0 ≤ (i : Int) + 1 - 1 by omega), if_pos (show (i : Int) + 1 - 1 < (xs.length : Int) by omega), if_pos (show 0 ≤ (i : Int) + 1 by omega)]
      split
      · exact .inr ⟨_, rfl, rfl⟩
      · split
        · split
          · exact .inr ⟨_, rfl, rfl⟩
          · exact .inl ⟨rfl, rfl⟩
        · exact .inl ⟨rfl, rfl⟩)
    (by
      intro k i h hk
      simp only [spec_LocksFault.l1, impl_LocksFault.l1]
      rw [if_neg (by omega), if_neg (by omega)]
      exact l2_both xs hn k 1 (by omega) (by omega)) k (i - 1) (by omega)
  have e : ((i - 1 : Nat) : Int) + 1 = (i : Int) := by omega
  simpa [e] using this
theorem l0_both (xs : List S94) (hn : xs.length ≤ 1048576) (k i : Nat) (hk : xs.length + (2 * xs.length + 2) < k) : ∃ r, spec_LocksFault.l0 k xs (i : Int) = some r ∧ impl_LocksFault.l0 k xs xs (xs.length : Int) (i : Int) = some r :=
  same_all (fun k i => spec_LocksFault.l0 k xs i) (fun k i => impl_LocksFault.l0 k xs xs (xs.length : Int) i) xs.length (2 * xs.length + 2)
    (by
      intro k i h _
      simp only [spec_LocksFault.l0, impl_LocksFault.l0, in_is, in_is', Option.bind_some, decide_eq_true_eq]
      simp only [if_pos (show (i : Int) < (xs.length : Int) by omega), if_pos (show 0 ≤ (i : Int) by omega)]
      rw [pw64 (by omega) (by omega)]
      split
      · split
        · split
          · exact .inl ⟨rfl, rfl⟩
          · exact .inr ⟨_, rfl, rfl⟩
        · exact .inr ⟨_, rfl, rfl⟩
      · exact .inr ⟨_, rfl, rfl⟩)
    (by
      intro k i h hk
      simp only [spec_LocksFault.l0, impl_LocksFault.l0]
      rw [if_neg (by omega), if_neg (by omega)]
      exact l1_both xs hn k 1 (by omega) (by omega)) k i (by omega)
theorem fault_both (xs : List S94) (hn : xs.length ≤ 1048576) (k : Nat) (hk : xs.length + (2 * xs.length + 2) < k) : ∃ r, spec_LocksFault.f k xs = some r ∧ impl_LocksFault.f k xs = some r := by
  unfold spec_LocksFault.f impl_LocksFault.f
  split
  · exact ⟨_, rfl, rfl⟩
  · exact l0_both xs hn k 0 hk

theorem others_go (xs : List S94) (hn : xs.length ≤ 1048576) (t id : Int) (d : Nat) : ∀ (k i : Nat) (m : Int), i ≤ xs.length → xs.length - i = d → d < k →
    ∃ r, spec_LockOthers.l0 k xs t id m (i : Int) = some r ∧ impl_lockMode.l0 k t id true m xs (xs.length : Int) (i : Int) = some r := by
  induction d with
  | zero =>
    intro k i m hi hd hk
    obtain ⟨k, rfl⟩ : ∃ m, k = m + 1 := ⟨k - 1, by omega⟩
    simp only [spec_LockOthers.l0, impl_lockMode.l0]
    rw [if_neg (by omega), if_neg (by omega)]
    exact ⟨_, rfl, rfl⟩
  | succ d ih =>
    intro k i m hi hd hk
    obtain ⟨k, rfl⟩ : ∃ m, k = m + 1 := ⟨k - 1, by omega⟩
    have hil : i < xs.length := by omega
    simp only [spec_LockOthers.l0, impl_lockMode.l0]
    simp only [if_pos (show (i : Int) < (xs.length : Int) by omega), if_pos (show 0 ≤ (i : Int) by omega)]
    rw [rd94_at xs i hil, pw64 (by omega) (by omega)]
    have hgo : ∀ m, ∃ r, spec_LockOthers.l0 k xs t id m ((i : Int) + 1) = some r ∧ impl_lockMode.l0 k t id true m xs (xs.length : Int) ((i : Int) + 1) = some r := fun m => by
      have := ih k (i + 1) m (by omega) (by omega) (by omega)
      simpa using this
    by_cases c1 : (xs[i]).f0 = id
    · by_cases c2 : (xs[i]).f1 = t
      · simp only [c1, c2, if_true, if_false, ne_eq, not_true_eq_false, beq_self_eq_true, bne_self_eq_false, Bool.false_eq_true]
        exact hgo m
      · have c2b : (((xs[i]).f1 == t) != true) = true := by simp [c2]
        simp only [c1, if_true, if_neg c2, c2b]
        by_cases c3 : (xs[i]).f2 > m
        · rw [if_pos c3, show mx m (xs[i]).f2 = (xs[i]).f2 by unfold mx; omega]
          exact hgo _
        · rw [if_neg c3, show mx m (xs[i]).f2 = m by unfold mx; omega]
          exact hgo _
    · simp only [if_neg c1]
      exact hgo m
theorem others_both (xs : List S94) (hn : xs.length ≤ 1048576) (t id : Int) (k : Nat) (hk : xs.length + (2 * xs.length + 2) < k) : ∃ r, spec_LockOthers.f k xs t id = some r ∧ impl_LockOthers.f k xs t id = some r := by
  obtain ⟨r, h1, h2⟩ := fault_both xs hn k hk
  unfold spec_LockOthers.f impl_LockOthers.f impl_lockMode.f
  rw [h1, h2]
  simp only [Option.bind_some]
  by_cases h : r = 0
  · subst h
    rw [if_pos rfl, if_pos rfl]
    obtain ⟨q, g1, g2⟩ := others_go xs hn t id xs.length k 0 0 (by omega) (by omega) (by omega)
    have g2' : impl_lockMode.l0 k t id true 0 xs (xs.length : Int) 0 = some q := g2
    rw [g2']
    exact ⟨q, g1, rfl⟩
  · rw [if_neg h, if_neg h]
    exact ⟨_, rfl, rfl⟩

theorem FnExactLockOthers (l0 : (List S96)) (a1 : Int) (a2 : Int) (w0 : l0.length ≤ maxLen ∧ ∀ y0 ∈ l0, ((Lit.int .i64 y0.f0).wf = true) ∧ ((Lit.int .i64 y0.f1).wf = true) ∧ ((Lit.int .i64 y0.f2).wf = true)) (w1 : (Lit.int .i64 a1).wf = true) (w2 : (Lit.int .i64 a2).wf = true) : ∃ k, laws_FnExactLockOthers.f k l0 a1 a2 = some true := by
  have hm : l0.length ≤ 9223372036854775807 := w0.1
  obtain ⟨K, hK⟩ : ∃ K, K = l0.length + (2 * l0.length + 3) := ⟨_, rfl⟩
  refine ⟨K, ?_⟩
  unfold laws_FnExactLockOthers.f laws_szLockS.f
  rw [pw64 (by omega) (by omega)]
  by_cases h : 1048576 - (l0.length : Int) < 0
  · rw [if_pos h]
    simp
  · rw [if_neg h]
    simp only [Option.bind_some]
    rw [if_neg h, toLockS_some l0 (by omega) _ (by omega)]
    simp only [Option.bind_some]
    obtain ⟨r, h1, h2⟩ := others_both (l0.map cpLock) (by simp; omega) a1 a2 K (by simp; omega)
    rw [h1, h2]
    simp only [Option.bind_some, if_true]
    rw [eqLockS_same _ (by simp; omega) _ (by simp; omega)]
    simp

end Go.Proofs.Ytophipaadjoecaa.Pure
