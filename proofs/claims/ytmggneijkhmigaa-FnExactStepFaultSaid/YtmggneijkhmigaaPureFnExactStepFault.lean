/- Proved: the pure form of FnExactStepFault: StepFault of the program answers as the reference at every step, and leaves it alone. Conditions: none beyond the statement. -/
import Derived.Test.YtmggneijkhmigaaPFnExactStepFaultx5
import Derived.Test.YtmggneijkhmigaaPureBase
import Derived.OpenShut
namespace Go.Proofs.Ytmggneijkhmigaa.Pure
open Go.RowKit Go.Proofs.Ytmggneijkhmigaa.PFnExactStepFault Go.Proofs.YtmggneijkhmigaaW.PrintWords Go.Proofs.YtmggneijkhmigaaW.PrintLast Go.Proofs.Ytmggneijkhmigaa.PureBase
set_option linter.unusedVariables false
set_option linter.unusedSimpArgs false

theorem toByteS_some (xs : List Int) (hn : xs.length ≤ 281474976710656) (k : Nat) (hk : xs.length < k) : laws_toByteS.f k xs = some xs := by
  unfold laws_toByteS.f
  rw [if_pos (by omega), if_pos (by rw [Int.toNat_natCast]; omega)]
  have := map_all (fun x : Int => x) (fun k ys i => laws_toByteS.l0 k xs ys i) xs 0
    (by
      intro k i ys h _ hl
      simp only [laws_toByteS.l0]
      rw [if_pos (by omega), if_pos (by omega), if_pos (by omega), pw64 (by omega) (by omega), rdN, getD_at xs i 0 h, Int.toNat_natCast])
    (by
      intro k ys _
      simp only [laws_toByteS.l0]
      rw [if_neg (by omega)]) k (List.replicate ((xs.length : Int)).toNat 0) (by simp) (by omega)
  simpa using this

theorem eqByteS_same (xs : List Int) (hn : xs.length ≤ 281474976710656) (k : Nat) (hk : xs.length < k) : laws_eqByteS.f k xs xs = some true := by
  unfold laws_eqByteS.f
  rw [if_pos rfl]
  exact end_go (fun k i => laws_eqByteS.l0 k xs xs i) xs.length 0 true
    (by
      intro k i h _
      simp only [laws_eqByteS.l0]
      rw [if_pos (by omega), if_pos (by omega), if_pos (by omega), pw64 (by omega) (by omega)]
      simp)
    (by
      intro k _
      simp only [laws_eqByteS.l0]
      rw [if_neg (by omega)]) xs.length k 0 (by omega) (by omega) (by omega)

theorem toInt64S_some (xs : List Int) (hn : xs.length ≤ 35184372088832) (k : Nat) (hk : xs.length < k) : laws_toInt64S.f k xs = some xs := by
  unfold laws_toInt64S.f
  rw [if_pos (by omega), if_pos (by rw [Int.toNat_natCast]; omega)]
  have := map_all (fun x : Int => x) (fun k ys i => laws_toInt64S.l0 k xs ys i) xs 0
    (by
      intro k i ys h _ hl
      simp only [laws_toInt64S.l0]
      rw [if_pos (by omega), if_pos (by omega), if_pos (by omega), pw64 (by omega) (by omega), rdN, getD_at xs i 0 h, Int.toNat_natCast])
    (by
      intro k ys _
      simp only [laws_toInt64S.l0]
      rw [if_neg (by omega)]) k (List.replicate ((xs.length : Int)).toNat 0) (by simp) (by omega)
  simpa using this

theorem eqInt64S_same (xs : List Int) (hn : xs.length ≤ 281474976710656) (k : Nat) (hk : xs.length < k) : laws_eqInt64S.f k xs xs = some true := by
  unfold laws_eqInt64S.f
  rw [if_pos rfl]
  exact end_go (fun k i => laws_eqInt64S.l0 k xs xs i) xs.length 0 true
    (by
      intro k i h _
      simp only [laws_eqInt64S.l0]
      rw [if_pos (by omega), if_pos (by omega), if_pos (by omega), pw64 (by omega) (by omega)]
      simp)
    (by
      intro k _
      simp only [laws_eqInt64S.l0]
      rw [if_neg (by omega)]) xs.length k 0 (by omega) (by omega) (by omega)

theorem in_is (a b c : Int) : impl_in.f a b c = some (decide (b ≤ a ∧ a ≤ c)) := by
  unfold impl_in.f
  by_cases h : a ≥ b
  · rw [if_pos h]; congr 1; simp; omega
  · rw [if_neg h]; congr 1; simp; omega
theorem in_is' (a b c : Int) : spec_l4In.f a b c = some (decide (b ≤ a ∧ a ≤ c)) := in_is a b c

/-- What both come to, once the tests are made. -/
def last (bad : Bool) (c : Int) (n : Int) : Option Int := if bad = true then some 2 else (if -1 ≤ c ∧ c ≤ 1000000 then (if n > 8192 then some 4 else some 0) else some 3)
theorem bne_dec (d : Int) : (d != 0) = decide (¬ d = 0) := by by_cases h : d = 0 <;> simp [h]
theorem last_some (bad : Bool) (c n : Int) : ∃ r, last bad c n = some r := by
  unfold last
  repeat' split
  all_goals exact ⟨_, rfl⟩
theorem spec_j3 (k : Nat) (bad : Bool) (a b c d : Int) (l m : List Int) : spec_StepFault.j3 (k + 1) bad a b c d l m = last bad d (m.length : Int) := by
  simp only [spec_StepFault.j3, in_is', Option.bind_some, decide_eq_true_eq]
  rfl
theorem impl_j1 (k : Nat) (bad : Bool) (a b c d : Int) (l m : List Int) : impl_StepFault.j1 (k + 1) bad a b c d l m = last bad d (m.length : Int) := by
  simp only [impl_StepFault.j1, in_is, Option.bind_some, decide_eq_true_eq]
  rfl
def bad (txn id data : Bool) (a b c d : Int) (l m : Int) : Bool := (!txn && decide (¬ b = 0)) || (!id && decide (¬ c = 0)) || (!data && decide (l > 0)) || (decide (¬ a = 10) && decide (m > 0)) || (decide (¬ a = 11) && decide (¬ d = 0))
set_option maxHeartbeats 8000000 in
theorem spec_j2 (k : Nat) (x y z : Bool) (a b c d : Int) (l m : List Int) : spec_StepFault.j2 (k + 2) x y z a b c d l m = last (bad x y z a b c d (l.length : Int) (m.length : Int)) d (m.length : Int) := by
  simp only [spec_StepFault.j2, spec_j3, bne_dec]
  generalize hP : (m.length : Int) = M
  generalize hQ : (l.length : Int) = L
  generalize hR : (fun z : Bool => last z d M) = F
  have hF : ∀ z, last z d M = F z := fun z => by rw [← hR]
  simp only [hF]
  clear hF hR
  by_cases h10 : a = 10 <;> by_cases h11 : a = 11 <;> by_cases hm : M > 0 <;> by_cases hl : L > 0 <;> by_cases hb : b = 0 <;> by_cases hc : c = 0 <;> by_cases hd : d = 0 <;> cases x <;> cases y <;> cases z <;> simp [bad, h10, h11, hm, hl, hb, hc, hd]
set_option maxHeartbeats 8000000 in
theorem impl_j0 (k : Nat) (x y z : Bool) (a b c d : Int) (l m : List Int) : impl_StepFault.j0 (k + 2) a x y z a b c d l m = last (bad x y z a b c d (l.length : Int) (m.length : Int)) d (m.length : Int) := by
  simp only [impl_StepFault.j0, impl_j1]
  generalize hP : (m.length : Int) = M
  generalize hQ : (l.length : Int) = L
  generalize hR : (fun z : Bool => last z d M) = F
  have hF : ∀ z, last z d M = F z := fun z => by rw [← hR]
  simp only [hF]
  clear hF hR
  by_cases h10 : a = 10 <;> by_cases h11 : a = 11 <;> by_cases hm : M > 0 <;> by_cases hl : L > 0 <;> by_cases hb : b = 0 <;> by_cases hc : c = 0 <;> by_cases hd : d = 0 <;> cases x <;> cases y <;> cases z <;> simp [bad, h10, h11, hm, hl, hb, hc, hd]
theorem both (a b c d : Int) (l m : List Int) (k : Nat) (hk : 4 ≤ k) : ∃ r, spec_StepFault.f k a b c d l m = some r ∧ impl_StepFault.f k a b c d l m = some r := by
  obtain ⟨k, rfl⟩ : ∃ m, k = m + 4 := ⟨k - 4, by omega⟩
  unfold spec_StepFault.f impl_StepFault.f
  simp only [in_is, in_is', Option.bind_some, decide_eq_true_eq]
  by_cases h1 : 1 ≤ a ∧ a ≤ 11
  · rw [if_pos h1, if_pos h1]
    have s1 : ∀ x : Bool, spec_StepFault.j0 (k + 4) x a b c d l m = last (bad x (decide (3 ≤ a ∧ a ≤ 5)) (a == 2 || a == 3) a b c d (l.length : Int) (m.length : Int)) d (m.length : Int) := by
      intro x
      simp only [spec_StepFault.j0, spec_StepFault.j1, spec_j2]
      by_cases h2 : a = 2
      · subst h2
        simp
      · by_cases h3 : a ≥ 3
        · rw [if_pos h3, if_neg h2]
          congr 2
          · simp [h3]
          · simp [h2]
        · rw [if_neg h3, if_neg h2]
          congr 2
          · simp [h3]
          · simp [h2]
    have s2 : ∀ x y : Bool, (if a = 2 then impl_StepFault.j0 (k + 4) a x y true a b c d l m else impl_StepFault.j0 (k + 4) a x y (a == 3) a b c d l m) = last (bad x y (a == 2 || a == 3) a b c d (l.length : Int) (m.length : Int)) d (m.length : Int) := by
      intro x y
      by_cases h2 : a = 2
      · subst h2
        rw [if_pos rfl, impl_j0]
        rfl
      · rw [if_neg h2, impl_j0]
        congr 2
        simp [h2]
    have e : (if a ≥ 2 then spec_StepFault.j0 (k + 4) (decide (a ≤ 7)) a b c d l m else spec_StepFault.j0 (k + 4) false a b c d l m) = last (bad (decide (2 ≤ a ∧ a ≤ 7)) (decide (3 ≤ a ∧ a ≤ 5)) (a == 2 || a == 3) a b c d (l.length : Int) (m.length : Int)) d (m.length : Int) := by
      by_cases h2 : a ≥ 2
      · rw [if_pos h2, s1]
        congr 2
        simp [h2]
      · rw [if_neg h2, s1]
        congr 2
        simp [h2]
    rw [e, s2]
    obtain ⟨r, hr⟩ := last_some (bad (decide (2 ≤ a ∧ a ≤ 7)) (decide (3 ≤ a ∧ a ≤ 5)) (a == 2 || a == 3) a b c d (l.length : Int) (m.length : Int)) d (m.length : Int)
    exact ⟨r, hr, hr⟩
  · rw [if_neg h1, if_neg h1]
    exact ⟨_, rfl, rfl⟩

theorem FnExactStepFault (a0_0 : Int) (a0_1 : Int) (a0_2 : Int) (a0_3 : Int) (l0_4 : (List Int)) (l0_5 : (List Int)) (w0_0 : (Lit.int .i64 a0_0).wf = true) (w0_1 : (Lit.int .i64 a0_1).wf = true) (w0_2 : (Lit.int .i64 a0_2).wf = true) (w0_3 : (Lit.int .i64 a0_3).wf = true) (w0_4 : l0_4.length ≤ maxLen ∧ ∀ y0 ∈ l0_4, (Lit.int .u8 y0).wf = true) (w0_5 : l0_5.length ≤ maxLen ∧ ∀ y0 ∈ l0_5, (Lit.int .i64 y0).wf = true) : ∃ k, laws_FnExactStepFault.f k a0_0 a0_1 a0_2 a0_3 l0_4 l0_5 = some true := by
  have hm : l0_4.length ≤ 9223372036854775807 := w0_4.1
  have hm2 : l0_5.length ≤ 9223372036854775807 := w0_5.1
  refine ⟨l0_4.length + l0_5.length + 5, ?_⟩
  unfold laws_FnExactStepFault.f laws_szStep.f laws_szByteS.f laws_szInt64S.f laws_toStep.f laws_eqStep.f
  rw [pw64 (x := 1048576 - (l0_4.length : Int)) (by omega) (by omega)]
  by_cases h : 1048576 - (l0_4.length : Int) < 0
  · rw [if_pos h]
    simp
  · rw [if_neg h]
    simp only [Option.bind_some]
    rw [if_neg h, pw64 (x := 1048576 - (l0_4.length : Int) - (l0_5.length : Int)) (by omega) (by omega)]
    by_cases h' : 1048576 - (l0_4.length : Int) - (l0_5.length : Int) < 0
    · rw [if_pos h']
      simp
    · rw [if_neg h']
      simp only [Option.bind_some]
      rw [if_neg h']
      simp only [Option.bind_some]
      rw [if_neg h', toByteS_some l0_4 (by omega) _ (by omega), toInt64S_some l0_5 (by omega) _ (by omega)]
      simp only [Option.bind_some]
      obtain ⟨r, h1, h2⟩ := both a0_0 a0_1 a0_2 a0_3 l0_4 l0_5 (l0_4.length + l0_5.length + 5) (by omega)
      rw [h1, h2]
      simp only [Option.bind_some, if_true]
      rw [eqByteS_same _ (by omega) _ (by omega), eqInt64S_same _ (by omega) _ (by omega)]
      simp

end Go.Proofs.Ytmggneijkhmigaa.Pure
