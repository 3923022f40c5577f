/- Proved: the pure form of FnExactLockMode: LockMode of the program answers as the reference at all arguments, and leaves the list alone. Conditions: none beyond the statement. -/
import Derived.Test.YtophipaadjoecaaQFnExactLockModex5
import Derived.Test.YtophipaadjoecaaPureBase
import Derived.OpenShut
namespace Go.Proofs.Ytophipaadjoecaa.Pure
open Go.RowKit Go.Proofs.Ytophipaadjoecaa.QFnExactLockMode Go.Proofs.YtophipaadjoecaaW.PrintWords Go.Proofs.YtophipaadjoecaaW.PrintLast Go.Proofs.Ytophipaadjoecaa.PureBase
set_option linter.unusedVariables false
set_option linter.unusedSimpArgs false

theorem rd96_at (xs : List S96) (i : Nat) (h : i < xs.length) : rd_T96 xs (i : Int) = xs[i] := by
  unfold rd_T96
  rw [Int.toNat_natCast]
  exact getD_at xs i z96 h
theorem rd94_at (xs : List S94) (i : Nat) (h : i < xs.length) : rd_T94 xs (i : Int) = xs[i] := by
  unfold rd_T94
  rw [Int.toNat_natCast]
  exact getD_at xs i z94 h
def cpLock (x : S96) : S94 := ⟨x.f0, x.f1, x.f2⟩
theorem toLockS_some (xs : List S96) (hn : xs.length ≤ 1048576) (k : Nat) (hk : xs.length < k) : laws_toLockS.f k xs = some (xs.map cpLock) := by
  unfold laws_toLockS.f
  rw [if_pos (by omega), if_pos (by rw [Int.toNat_natCast]; omega)]
  exact map_all cpLock (fun k ys i => laws_toLockS.l0 k xs ys i) xs 0
    (by
      intro k i ys h _ hl
      simp only [laws_toLockS.l0, laws_toLock.f, Option.bind_some]
      rw [if_pos (by omega), if_pos (by omega), if_pos (by omega), pw64 (by omega) (by omega), rd96_at xs i h, Int.toNat_natCast]
      rfl)
    (by
      intro k ys _
      simp only [laws_toLockS.l0]
      rw [if_neg (by omega)]) k (List.replicate ((xs.length : Int)).toNat z94) (by simp) (by omega)
theorem eqLockS_same (xs : List S94) (hn : xs.length ≤ 1048576) (k : Nat) (hk : xs.length < k) : laws_eqLockS.f k xs xs = some true := by
  unfold laws_eqLockS.f
  rw [if_pos rfl]
  exact end_go (fun k i => laws_eqLockS.l0 k xs xs i) xs.length 0 true
    (by
      intro k i h _
      simp only [laws_eqLockS.l0, laws_eqLock.f]
      rw [if_pos (by omega), if_pos (by omega), if_pos (by omega), pw64 (by omega) (by omega)]
      simp)
    (by
      intro k _
      simp only [laws_eqLockS.l0]
      rw [if_neg (by omega)]) xs.length k 0 (by omega) (by omega) (by omega)

theorem in_is (a b c : Int) : impl_in.f a b c = some (decide (b ≤ a ∧ a ≤ c)) := by
  unfold impl_in.f
  by_cases h : a ≥ b
  · rw [if_pos h]; congr 1; simp; omega
  · rw [if_neg h]; congr 1; simp; omega
theorem in_is' (a b c : Int) : spec_l4In.f a b c = some (decide (b ≤ a ∧ a ≤ c)) := in_is a b c

theorem l2_both (xs : List S94) (hn : xs.length ≤ 1048576) (k i : Nat) (h1 : 1 ≤ i) (hk : xs.length < k) : ∃ r, spec_LocksFault.l2 k xs (i : Int) = some r ∧ impl_LocksFault.l2 k xs (i : Int) = some r := by
  have := same_all (fun k i => spec_LocksFault.l2 k xs (i + 1)) (fun k i => impl_LocksFault.l2 k xs (i + 1)) (xs.length - 1) 0
    (by
      intro k i h _
      simp only [spec_LocksFault.l2, impl_LocksFault.l2]
      rw [pw64 (x := (i : Int) + 1 - 1) (by omega) (by omega), pw64 (x := (i : Int) + 1 + 1) (by omega) (by omega)]
      simp only [if_pos (show (i : Int) + 1 < (xs.length : Int) by omega), if_pos (show 0 ≤ (i : Int) + 1 - 1 by omega), if_pos (show (i : Int) + 1 - 1 < (xs.length : Int) by omega), if_pos (show 0 ≤ (i : Int) + 1 by omega)]
      split
      · split
        · exact .inr ⟨_, rfl, rfl⟩
        · split
          · exact .inr ⟨_, rfl, rfl⟩
          · exact .inl ⟨rfl, rfl⟩
      · exact .inl ⟨rfl, rfl⟩)
    (by
      intro k i h hk
      simp only [spec_LocksFault.l2, impl_LocksFault.l2]
      rw [if_neg (by omega), if_neg (by omega)]
      exact ⟨_, rfl, rfl⟩) k (i - 1) (by omega)
  have e : ((i - 1 : Nat) : Int) + 1 = (i : Int) := by omega
  simpa [e] using this
theorem l1_both (xs : List S94) (hn : xs.length ≤ 1048576) (k i : Nat) (h1 : 1 ≤ i) (hk : xs.length + (xs.length + 1) < k) : ∃ r, spec_LocksFault.l1 k xs (i : Int) = some r ∧ impl_LocksFault.l1 k xs (i : Int) = some r := by
  have := same_all (fun k i => spec_LocksFault.l1 k xs (i + 1)) (fun k i => impl_LocksFault.l1 k xs (i + 1)) (xs.length - 1) (xs.length + 1)
    (by
      intro k i h _
      simp only [spec_LocksFault.l1, impl_LocksFault.l1]
      rw [pw64 (x := (i : Int) + 1 - 1) (by omega) (by omega), pw64 (x := (i : Int) + 1 + 1) (by omega) (by omega)]
      simp only [if_pos (show (i : Int) + 1 < (xs.length : Int) by omega), if_pos (show 0 ≤ (i : Int) + 1 - 1 by omega), if_pos (show (i : Int) + 1 - 1 < (xs.length : Int) by omega), if_pos (show 0 ≤ (i : Int) + 1 by omega)]
      split
      · exact .inr ⟨_, rfl, rfl⟩
      · split
        · split
          · exact .inr ⟨_, rfl, rfl⟩
          · exact .inl ⟨rfl, rfl⟩
        · exact .inl ⟨rfl, rfl⟩)
    (by
      intro k i h hk
      simp only [spec_LocksFault.l1, impl_LocksFault.l1]
      rw [if_neg (by omega), if_neg (by omega)]
      exact l2_both xs hn k 1 (by omega) (by omega)) k (i - 1) (by omega)
  have e : ((i - 1 : Nat) : Int) + 1 = (i : Int) := by omega
  simpa [e] using this
theorem l0_both (xs : List S94) (hn : xs.length ≤ 1048576) (k i : Nat) (hk : xs.length + (2 * xs.length + 2) < k) : ∃ r, spec_LocksFault.l0 k xs (i : Int) = some r ∧ impl_LocksFault.l0 k xs xs (xs.length : Int) (i : Int) = some r :=
  same_all (fun k i => spec_LocksFault.l0 k xs i) (fun k i => impl_LocksFault.l0 k xs xs (xs.length : Int) i) xs.length (2 * xs.length + 2)
    (by
      intro k i h _
      simp only [spec_LocksFault.l0, impl_LocksFault.l0, in_is, in_is', Option.bind_some, decide_eq_true_eq]
      simp only [if_pos (show (i : Int) < (xs.length : Int) by omega), if_pos (show 0 ≤ (i : Int) by omega)]
      rw [pw64 (by omega) (by omega)]
      split
      · split
        · split
          · exact .inl ⟨rfl, rfl⟩
          · exact .inr ⟨_, rfl, rfl⟩
        · exact .inr ⟨_, rfl, rfl⟩
      · exact .inr ⟨_, rfl, rfl⟩)
    (by
      intro k i h hk
      simp only [spec_LocksFault.l0, impl_LocksFault.l0]
      rw [if_neg (by omega), if_neg (by omega)]
      exact l1_both xs hn k 1 (by omega) (by omega)) k i (by omega)
theorem fault_both (xs : List S94) (hn : xs.length ≤ 1048576) (k : Nat) (hk : xs.length + (2 * xs.length + 2) < k) : ∃ r, spec_LocksFault.f k xs = some r ∧ impl_LocksFault.f k xs = some r := by
  unfold spec_LocksFault.f impl_LocksFault.f
  split
  · exact ⟨_, rfl, rfl⟩
  · exact l0_both xs hn k 0 hk

/-- One lock stands ahead of another: by id, then by transaction. -/
def Ahead (x y : S94) : Prop := x.f0 < y.f0 ∨ (x.f0 = y.f0 ∧ x.f1 < y.f1)
theorem l1_tells (xs : List S94) (hn : xs.length ≤ 1048576) : ∀ (k i : Nat), spec_LocksFault.l1 k xs ((i : Int) + 1) = some 0 → ∀ j : Nat, i ≤ j → ∀ h : j + 1 < xs.length, Ahead xs[j] xs[j + 1] := by
  intro k
  induction k with
  | zero => intro i h; simp [spec_LocksFault.l1] at h
  | succ k ih =>
    intro i h j hij hj
    simp only [spec_LocksFault.l1] at h
    rw [pw64 (x := (i : Int) + 1 - 1) (by omega) (by omega), pw64 (x := (i : Int) + 1 + 1) (by omega) (by omega)] at h
    rw [if_pos (by omega), if_pos (by omega), if_pos (by omega), if_pos (by omega)] at h
    have e0 : rd_T94 xs ((i : Int) + 1 - 1) = xs[i] := by rw [show (i : Int) + 1 - 1 = (i : Int) by omega]; exact rd94_at xs i (by omega)
    have e1 : rd_T94 xs ((i : Int) + 1) = xs[i + 1] := rd94_at xs (i + 1) (by omega)
    rw [e0, e1] at h
    have key : spec_LocksFault.l1 k xs ((i : Int) + 1 + 1) = some 0 ∧ Ahead xs[i] xs[i + 1] := by
      unfold Ahead
      by_cases c1 : (xs[i]).f0 > (xs[i + 1]).f0
      · rw [if_pos c1] at h; simp at h
      · rw [if_neg c1] at h
        by_cases c2 : (xs[i]).f0 = (xs[i + 1]).f0
        · rw [if_pos c2] at h
          by_cases c3 : (xs[i]).f1 ≥ (xs[i + 1]).f1
          · rw [if_pos c3] at h; simp at h
          · rw [if_neg c3] at h
            exact ⟨h, by omega⟩
        · rw [if_neg c2] at h
          exact ⟨h, by omega⟩
    rcases Nat.eq_or_lt_of_le hij with e | e
    · subst e; exact key.2
    · exact ih (i + 1) (by simpa using key.1) j e hj
theorem l0_tells (xs : List S94) (hn : xs.length ≤ 1048576) : ∀ (k i : Nat), spec_LocksFault.l0 k xs (i : Int) = some 0 → (∀ j : Nat, i ≤ j → ∀ h : j < xs.length, 1 ≤ (xs[j]).f2) ∧ ∃ k', spec_LocksFault.l1 k' xs 1 = some 0 := by
  intro k
  induction k with
  | zero => intro i h; simp [spec_LocksFault.l0] at h
  | succ k ih =>
    intro i h
    simp only [spec_LocksFault.l0, in_is', Option.bind_some, decide_eq_true_eq] at h
    by_cases hi : i < xs.length
    · rw [if_pos (by omega), if_pos (by omega), rd94_at xs i hi, pw64 (by omega) (by omega)] at h
      split at h
      · split at h
        · split at h
          · rename_i c
            obtain ⟨h1, h2⟩ := ih (i + 1) (by simpa using h)
            refine ⟨fun j hij hj => ?_, h2⟩
            rcases Nat.eq_or_lt_of_le hij with e | e
            · subst e; exact c.1
            · exact h1 j e hj
          · simp at h
        · simp at h
      · simp at h
    · rw [if_neg (by omega)] at h
      exact ⟨fun j hij hj => by omega, k, h⟩
theorem ahead_trans {x y z : S94} (h : Ahead x y) (g : Ahead y z) : Ahead x z := by unfold Ahead at *; omega
/-- Where the list of locks is well formed: every mode is at least 1, and no two locks have one id and one transaction. -/
theorem fault_tells (xs : List S94) (hn : xs.length ≤ 1048576) (k : Nat) (h : spec_LocksFault.f k xs = some 0) :
    (∀ (j : Nat) (hj : j < xs.length), 1 ≤ (xs[j]).f2) ∧ ∀ (i j : Nat) (hij : i < j) (hj : j < xs.length), Ahead xs[i] xs[j] := by
  unfold spec_LocksFault.f at h
  split at h
  · simp at h
  · obtain ⟨h1, k', h2⟩ := l0_tells xs hn k 0 h
    have step : ∀ (j : Nat) (hj : j + 1 < xs.length), Ahead xs[j] xs[j + 1] := fun j hj => l1_tells xs hn k' 0 h2 j (Nat.zero_le _) hj
    refine ⟨fun j hj => h1 j (Nat.zero_le _) hj, fun i j hij => ?_⟩
    induction j with
    | zero => omega
    | succ j ih =>
      intro hj
      rcases Nat.lt_or_ge i j with e | e
      · exact ahead_trans (ih e (by omega)) (step j hj)
      · obtain rfl : i = j := by omega
        exact step i hj

theorem mx0 (x : Int) (h : 1 ≤ x) : mx 0 x = x := by unfold mx; omega
/-- Behind the lock itself nothing more is found. -/
theorem rest_go (xs : List S94) (hn : xs.length ≤ 1048576) (t id m : Int) (i0 : Nat) (hno : ∀ (j : Nat) (hj : j < xs.length), i0 ≤ j → ¬ ((xs[j]).f0 = id ∧ (xs[j]).f1 = t)) (d : Nat) : ∀ (k i : Nat), i0 ≤ i → i ≤ xs.length → xs.length - i = d → d < k → impl_lockMode.l0 k t id false m xs (xs.length : Int) (i : Int) = some m := by
  induction d with
  | zero =>
    intro k i h0 hi hd hk
    obtain ⟨k, rfl⟩ : ∃ m, k = m + 1 := ⟨k - 1, by omega⟩
    simp only [impl_lockMode.l0]
    rw [if_neg (by omega)]
  | succ d ih =>
    intro k i h0 hi hd hk
    obtain ⟨k, rfl⟩ : ∃ m, k = m + 1 := ⟨k - 1, by omega⟩
    have hil : i < xs.length := by omega
    simp only [impl_lockMode.l0]
    rw [if_pos (by omega), if_pos (by omega), if_pos (by omega), rd94_at xs i hil, pw64 (by omega) (by omega)]
    have hgo := ih k (i + 1) (by omega) (by omega) (by omega) (by omega)
    have hgo' : impl_lockMode.l0 k t id false m xs (xs.length : Int) ((i : Int) + 1) = some m := by simpa using hgo
    by_cases c1 : (xs[i]).f0 = id
    · rw [if_pos c1, if_neg (by have := hno i hil h0; simp; omega)]
      exact hgo'
    · rw [if_neg c1]
      exact hgo'
theorem mode_go (xs : List S94) (hn : xs.length ≤ 1048576) (hm : ∀ (j : Nat) (hj : j < xs.length), 1 ≤ (xs[j]).f2) (hs : ∀ (i j : Nat) (hij : i < j) (hj : j < xs.length), Ahead xs[i] xs[j]) (t id : Int) (d : Nat) : ∀ (k i : Nat), i ≤ xs.length → xs.length - i = d → d < k →
    ∃ r, spec_LockMode.l0 k xs t id (i : Int) = some r ∧ impl_lockMode.l0 k t id false 0 xs (xs.length : Int) (i : Int) = some r := by
  induction d with
  | zero =>
    intro k i hi hd hk
    obtain ⟨k, rfl⟩ : ∃ m, k = m + 1 := ⟨k - 1, by omega⟩
    simp only [spec_LockMode.l0, impl_lockMode.l0]
    rw [if_neg (by omega), if_neg (by omega)]
    exact ⟨_, rfl, rfl⟩
  | succ d ih =>
    intro k i hi hd hk
    obtain ⟨k, rfl⟩ : ∃ m, k = m + 1 := ⟨k - 1, by omega⟩
    have hil : i < xs.length := by omega
    simp only [spec_LockMode.l0, impl_lockMode.l0]
    simp only [if_pos (show (i : Int) < (xs.length : Int) by omega), if_pos (show 0 ≤ (i : Int) by omega)]
    rw [rd94_at xs i hil, pw64 (by omega) (by omega)]
    have hgo := ih k (i + 1) (by omega) (by omega) (by omega)
    have hgo' : ∃ r, spec_LockMode.l0 k xs t id ((i : Int) + 1) = some r ∧ impl_lockMode.l0 k t id false 0 xs (xs.length : Int) ((i : Int) + 1) = some r := by simpa using hgo
    by_cases c1 : (xs[i]).f0 = id
    · by_cases c2 : (xs[i]).f1 = t
      · rw [if_pos c1, if_pos c2, if_pos c1, if_pos (by simp [c2]), mx0 _ (hm i hil)]
        refine ⟨_, rfl, ?_⟩
        have := rest_go xs hn t id (xs[i]).f2 (i + 1) (by
          intro j hj hij hc
          have := hs i j (by omega) hj
          unfold Ahead at this
          omega) d k (i + 1) (by omega) (by omega) (by omega) (by omega)
        simpa using this
      · rw [if_pos c1, if_neg c2, if_pos c1, if_neg (by simp [c2])]
        exact hgo'
    · rw [if_neg c1, if_neg c1]
      exact hgo'
theorem mode_both (xs : List S94) (hn : xs.length ≤ 1048576) (t id : Int) (k : Nat) (hk : xs.length + (2 * xs.length + 2) < k) : ∃ r, spec_LockMode.f k xs t id = some r ∧ impl_LockMode.f k xs t id = some r := by
  obtain ⟨r, h1, h2⟩ := fault_both xs hn k hk
  unfold spec_LockMode.f impl_LockMode.f impl_lockMode.f
  rw [h1, h2]
  simp only [Option.bind_some]
  by_cases h : r = 0
  · subst h
    rw [if_pos rfl, if_pos rfl]
    obtain ⟨hm, hs⟩ := fault_tells xs hn k h1
    obtain ⟨q, g1, g2⟩ := mode_go xs hn hm hs t id xs.length k 0 (by omega) (by omega) (by omega)
    have g2' : impl_lockMode.l0 k t id false 0 xs (xs.length : Int) 0 = some q := g2
    rw [g2']
    exact ⟨q, g1, rfl⟩
  · rw [if_neg h, if_neg h]
    exact ⟨_, rfl, rfl⟩

theorem FnExactLockMode (l0 : (List S96)) (a1 : Int) (a2 : Int) (w0 : l0.length ≤ maxLen ∧ ∀ y0 ∈ l0, ((Lit.int .i64 y0.f0).wf = true) ∧ ((Lit.int .i64 y0.f1).wf = true) ∧ ((Lit.int .i64 y0.f2).wf = true)) (w1 : (Lit.int .i64 a1).wf = true) (w2 : (Lit.int .i64 a2).wf = true) : ∃ k, laws_FnExactLockMode.f k l0 a1 a2 = some true := by
  have hm : l0.length ≤ 9223372036854775807 := w0.1
  obtain ⟨K, hK⟩ : ∃ K, K = l0.length + (2 * l0.length + 3) := ⟨_, rfl⟩
  refine ⟨K, ?_⟩
  unfold laws_FnExactLockMode.f laws_szLockS.f
  rw [pw64 (by omega) (by omega)]
  by_cases h : 1048576 - (l0.length : Int) < 0
  · rw [if_pos h]
    simp
  · rw [if_neg h]
    simp only [Option.bind_some]
    rw [if_neg h, toLockS_some l0 (by omega) _ (by omega)]
    simp only [Option.bind_some]
    obtain ⟨r, h1, h2⟩ := mode_both (l0.map cpLock) (by simp; omega) a1 a2 K (by simp; omega)
    rw [h1, h2]
    simp only [Option.bind_some, if_true]
    rw [eqLockS_same _ (by simp; omega) _ (by simp; omega)]
    simp

end Go.Proofs.Ytophipaadjoecaa.Pure
