/- Proved: the pure form of FnExactPoolFault: PoolFault of the program answers as the reference at every pool, and leaves it alone. Conditions: none beyond the statement. -/
import Derived.Test.YtmggneijkhmigaaQFnExactPoolFaultx6
import Derived.Test.YtmggneijkhmigaaPureBase
import Derived.OpenShut
namespace Go.Proofs.Ytmggneijkhmigaa.Pure
open Go.RowKit Go.Proofs.Ytmggneijkhmigaa.QFnExactPoolFault Go.Proofs.YtmggneijkhmigaaW.PrintWords Go.Proofs.YtmggneijkhmigaaW.PrintLast Go.Proofs.Ytmggneijkhmigaa.PureBase
set_option linter.unusedVariables false
set_option linter.unusedSimpArgs false

theorem toByteS_some (xs : List Int) (hn : xs.length ≤ 281474976710656) (k : Nat) (hk : xs.length < k) : laws_toByteS.f k xs = some xs := by
  unfold laws_toByteS.f
  rw [if_pos (by omega), if_pos (by rw [Int.toNat_natCast]; omega)]
  have := map_all (fun x : Int => x) (fun k ys i => laws_toByteS.l0 k xs ys i) xs 0
    (by
      intro k i ys h _ hl
      simp only [laws_toByteS.l0]
      rw [if_pos (by omega), if_pos (by omega), if_pos (by omega), pw64 (by omega) (by omega), rdN, getD_at xs i 0 h, Int.toNat_natCast])
    (by
      intro k ys _
      simp only [laws_toByteS.l0]
      rw [if_neg (by omega)]) k (List.replicate ((xs.length : Int)).toNat 0) (by simp) (by omega)
  simpa using this

theorem eqByteS_same (xs : List Int) (hn : xs.length ≤ 281474976710656) (k : Nat) (hk : xs.length < k) : laws_eqByteS.f k xs xs = some true := by
  unfold laws_eqByteS.f
  rw [if_pos rfl]
  exact end_go (fun k i => laws_eqByteS.l0 k xs xs i) xs.length 0 true
    (by
      intro k i h _
      simp only [laws_eqByteS.l0]
      rw [if_pos (by omega), if_pos (by omega), if_pos (by omega), pw64 (by omega) (by omega)]
      simp)
    (by
      intro k _
      simp only [laws_eqByteS.l0]
      rw [if_neg (by omega)]) xs.length k 0 (by omega) (by omega) (by omega)

theorem rd154_at (xs : List S154) (i : Nat) (h : i < xs.length) : rd_T154 xs (i : Int) = xs[i] := by
  unfold rd_T154
  rw [Int.toNat_natCast]
  exact getD_at xs i z154 h
theorem rd114_at (xs : List S114) (i : Nat) (h : i < xs.length) : rd_T114 xs (i : Int) = xs[i] := by
  unfold rd_T114
  rw [Int.toNat_natCast]
  exact getD_at xs i z114 h
def cpFrame (x : S154) : S114 := ⟨x.f0, x.f1, x.f2, x.f3, x.f4, x.f5⟩
def Small (N : Nat) (xs : List S154) : Prop := ∀ x ∈ xs, x.f1.length ≤ N
theorem toFrameS_some (xs : List S154) (hn : xs.length ≤ 4398046511104) (N : Nat) (hN : N ≤ 281474976710656) (hs : Small N xs) (k : Nat) (hk : xs.length + (N + 1) < k) : laws_toFrameS.f k xs = some (xs.map cpFrame) := by
  unfold laws_toFrameS.f
  rw [if_pos (by omega), if_pos (by rw [Int.toNat_natCast]; omega)]
  exact map_all cpFrame (fun k ys i => laws_toFrameS.l0 k xs ys i) xs (N + 1)
    (by
      intro k i ys h hK hl
      have hb : (xs[i]).f1.length ≤ N := hs _ (List.getElem_mem h)
      simp only [laws_toFrameS.l0, laws_toFrame.f]
      rw [if_pos (by omega), if_pos (by omega), rd154_at xs i h, toByteS_some _ (by omega) k (by omega)]
      simp only [Option.bind_some]
      rw [if_pos (by omega), pw64 (by omega) (by omega), Int.toNat_natCast]
      rfl)
    (by
      intro k ys _
      simp only [laws_toFrameS.l0]
      rw [if_neg (by omega)]) k (List.replicate ((xs.length : Int)).toNat z114) (by simp) (by omega)
theorem eqFrameS_same (xs : List S114) (hn : xs.length ≤ 4398046511104) (N : Nat) (hN : N ≤ 281474976710656) (hs : ∀ x ∈ xs, x.f1.length ≤ N) (k : Nat) (hk : xs.length + (N + 1) < k) : laws_eqFrameS.f k xs xs = some true := by
  unfold laws_eqFrameS.f
  rw [if_pos rfl]
  exact end_go (fun k i => laws_eqFrameS.l0 k xs xs i) xs.length (N + 1) true
    (by
      intro k i h hK
      have hb : (xs[i]).f1.length ≤ N := hs _ (List.getElem_mem h)
      simp only [laws_eqFrameS.l0, laws_eqFrame.f]
      rw [if_pos (by omega), if_pos (by omega), if_pos (by omega), rd114_at xs i h, eqByteS_same _ (by omega) k (by omega), pw64 (by omega) (by omega)]
      simp)
    (by
      intro k _
      simp only [laws_eqFrameS.l0]
      rw [if_neg (by omega)]) xs.length k 0 (by omega) (by omega) (by omega)
/-- The size of a list of writes: past the bound -1 comes back; else each write is short. -/
theorem szFrameS_tells (xs : List S154) (hn : xs.length ≤ 9223372036854775807) (hs : ∀ x ∈ xs, x.f1.length ≤ 9223372036854775807) (d : Nat) : ∀ (k i : Nat) (a : Int), 0 ≤ a → a ≤ 1048576 → i ≤ xs.length → xs.length - i = d → d < k →
    ∃ r, laws_szFrameS.l0 k xs a (i : Int) = some r ∧ r ≤ 1048576 ∧ (0 ≤ r → ∀ (j : Nat) (hj : j < xs.length), i ≤ j → (xs[j]).f1.length ≤ 1048576) := by
  induction d with
  | zero =>
    intro k i a h0 h1 hi hd hk
    obtain ⟨k, rfl⟩ : ∃ m, k = m + 1 := ⟨k - 1, by omega⟩
    simp only [laws_szFrameS.l0]
    rw [if_neg (by omega)]
    exact ⟨a, rfl, h1, fun _ j hj hij => by omega⟩
  | succ d ih =>
    intro k i a h0 h1 hi hd hk
    obtain ⟨k, rfl⟩ : ∃ m, k = m + 1 := ⟨k - 1, by omega⟩
    have hil : i < xs.length := by omega
    have hb : (xs[i]).f1.length ≤ 9223372036854775807 := hs _ (List.getElem_mem hil)
    simp only [laws_szFrameS.l0, laws_szFrame.f, laws_szByteS.f]
    rw [if_pos (by omega), if_pos (by omega), rd154_at xs i hil, pw64 (x := a - ((xs[i]).f1.length : Int)) (by omega) (by omega)]
    by_cases h : a - ((xs[i]).f1.length : Int) < 0
    · rw [if_pos h]
      refine ⟨-1, by simp, by omega, fun h => by omega⟩
    · rw [if_neg h]
      simp only [Option.bind_some]
      rw [if_neg h]
      simp only [Option.bind_some]
      rw [if_neg h, pw64 (by omega) (by omega)]
      obtain ⟨r, hr, hr1, hr2⟩ := ih k (i + 1) (a - ((xs[i]).f1.length : Int)) (by omega) (by omega) (by omega) (by omega) (by omega)
      refine ⟨r, by simpa using hr, hr1, fun h0 j hj hij => ?_⟩
      rcases Nat.eq_or_lt_of_le hij with e | e
      · subst e
        omega
      · exact hr2 h0 j hj e

theorem in_is (a b c : Int) : impl_in.f a b c = some (decide (b ≤ a ∧ a ≤ c)) := by
  unfold impl_in.f
  by_cases h : a ≥ b
  · rw [if_pos h]; congr 1; simp; omega
  · rw [if_neg h]; congr 1; simp; omega
theorem in_is' (a b c : Int) : spec_l4In.f a b c = some (decide (b ≤ a ∧ a ≤ c)) := in_is a b c

theorem l2_both (xs : List S114) (hn : xs.length ≤ 16) (b : Int) (hp : ∀ (j : Nat) (h : j < xs.length), (xs[j]).f0 = -1 ∨ 0 ≤ (xs[j]).f0) (d : Nat) : ∀ (k i : Nat), i ≤ xs.length → xs.length - i = d → d * 20 < k →
    ∃ r, spec_PoolFault.l2 k (i : Int) xs b = some r ∧ impl_PoolFault.l2 k xs (xs.length : Int) (i : Int) xs b = some r := by
  induction d with
  | zero =>
    intro k i hi hd hk
    obtain ⟨k, rfl⟩ : ∃ m, k = m + 1 := ⟨k - 1, by omega⟩
    simp only [spec_PoolFault.l2, impl_PoolFault.l2]
    rw [if_neg (by omega), if_neg (by omega)]
    exact ⟨_, rfl, rfl⟩
  | succ d ih =>
    intro k i hi hd hk
    obtain ⟨k, rfl⟩ : ∃ m, k = m + 1 := ⟨k - 1, by omega⟩
    have hil : i < xs.length := by omega
    have hpi := hp i hil
    simp only [spec_PoolFault.l2, impl_PoolFault.l2, Option.bind_some]
    simp only [if_pos (show (i : Int) < (xs.length : Int) by omega), if_pos (show 0 ≤ (i : Int) by omega), if_pos (show (i : Int) ≤ (xs.length : Int) by omega), Int.toNat_natCast]
    have hl : ((xs.take i).length : Int) = (i : Int) := by rw [List.length_take]; omega
    rw [hl, rd114_at xs i hil]
    generalize hA : (xs[i]).f0 = A at *
    exact same_all (fun k j => spec_PoolFault.l3 k (i : Int) j xs b) (fun k j => impl_PoolFault.l3 k xs (xs.length : Int) (i : Int) (xs.take i) (i : Int) j xs b A (xs[i]).f1 (xs[i]).f2 (xs[i]).f3 (xs[i]).f4 (xs[i]).f5) i (d * 20 + 1)
      (by
        intro k j h _
        have e : rd_T114 (xs.take i) (j : Int) = xs[j] := by
          rw [rd114_at (xs.take i) j (by rw [List.length_take]; omega)]
          simp
        simp only [spec_PoolFault.l3, impl_PoolFault.l3]
        simp only [if_pos (show (j : Int) < (i : Int) by omega), if_pos (show 0 ≤ (i : Int) by omega), if_pos (show (i : Int) < (xs.length : Int) by omega), if_pos (show 0 ≤ (j : Int) by omega), if_pos (show (j : Int) < (xs.length : Int) by omega), if_pos (show (j : Int) < ((xs.take i).length : Int) by omega)]
        rw [e, rd114_at xs i hil, rd114_at xs j (by omega), pw64 (by omega) (by omega), hA]
        by_cases c1 : A = -1
        · rw [if_pos c1, if_neg (by omega)]
          exact .inl ⟨rfl, rfl⟩
        · rw [if_neg c1, if_pos (show A ≥ 0 by omega)]
          split
          · exact .inr ⟨_, rfl, rfl⟩
          · exact .inl ⟨rfl, rfl⟩)
      (by
        intro k j h hk
        simp only [spec_PoolFault.l3, impl_PoolFault.l3]
        rw [if_neg (by omega), if_neg (by omega), pw64 (by omega) (by omega)]
        have := ih k (i + 1) (by omega) (by omega) (by omega)
        simpa using this) k 0 (by omega)
theorem l1_both (xs : List S114) (hn : xs.length ≤ 16) (b : Int) (hp : ∀ (j : Nat) (h : j < xs.length), (xs[j]).f0 = -1 ∨ 0 ≤ (xs[j]).f0) (k : Nat) (hk : 400 ≤ k) : ∃ r, spec_PoolFault.l1 k 0 xs b = some r ∧ impl_PoolFault.l1 k xs (xs.length : Int) 0 xs b = some r :=
  same_all (fun k i => spec_PoolFault.l1 k i xs b) (fun k i => impl_PoolFault.l1 k xs (xs.length : Int) i xs b) xs.length 330
    (by
      intro k i h _
      simp only [spec_PoolFault.l1, impl_PoolFault.l1, in_is, in_is', Option.bind_some, decide_eq_true_eq]
      simp only [if_pos (show (i : Int) < (xs.length : Int) by omega), if_pos (show 0 ≤ (i : Int) by omega)]
      rw [pw64 (by omega) (by omega)]
      split
      · split
        · exact .inl ⟨rfl, rfl⟩
        · exact .inr ⟨_, rfl, rfl⟩
      · split
        · exact .inl ⟨rfl, rfl⟩
        · exact .inr ⟨_, rfl, rfl⟩)
    (by
      intro k i h hk
      simp only [spec_PoolFault.l1, impl_PoolFault.l1]
      rw [if_neg (by omega), if_neg (by omega)]
      exact l2_both xs hn b hp xs.length k 0 (by omega) (by omega) (by omega)) k 0 (by omega)
theorem l0_both (xs : List S114) (hn : xs.length ≤ 16) (b : Int) (k : Nat) (hk : 450 ≤ k) : ∃ r, spec_PoolFault.l0 k 0 xs b = some r ∧ impl_PoolFault.l0 k xs (xs.length : Int) 0 xs b = some r :=
  pass_all (fun k i => spec_PoolFault.l0 k i xs b) (fun k i => impl_PoolFault.l0 k xs (xs.length : Int) i xs b) (fun j => ∀ h : j < xs.length, (xs[j]).f0 = -1 ∨ 0 ≤ (xs[j]).f0) xs.length 401
    (by
      intro k i h _
      simp only [spec_PoolFault.l0, impl_PoolFault.l0, in_is, in_is', Option.bind_some, decide_eq_true_eq]
      simp only [if_pos (show (i : Int) < (xs.length : Int) by omega), if_pos (show 0 ≤ (i : Int) by omega)]
      rw [rd114_at xs i h, pw64 (by omega) (by omega)]
      by_cases c1 : (xs[i]).f0 = -1
      · simp only [if_pos c1]
        split
        · exact .inr ⟨_, rfl, rfl⟩
        · split
          · split
            · exact .inr ⟨_, rfl, rfl⟩
            · split
              · split
                · exact .inr ⟨_, rfl, rfl⟩
                · exact .inl ⟨rfl, rfl, fun _ => .inl c1⟩
              · exact .inr ⟨_, rfl, rfl⟩
          · exact .inr ⟨_, rfl, rfl⟩
      · simp only [if_neg c1]
        by_cases c2 : 0 ≤ (xs[i]).f0 ∧ (xs[i]).f0 ≤ 15
        · simp only [if_pos c2]
          split
          · split
            · exact .inl ⟨rfl, rfl, fun _ => .inr c2.1⟩
            · exact .inr ⟨_, rfl, rfl⟩
          · exact .inr ⟨_, rfl, rfl⟩
        · simp only [if_neg c2]
          exact .inr ⟨_, rfl, rfl⟩)
    (by
      intro k hk hq
      simp only [spec_PoolFault.l0, impl_PoolFault.l0]
      rw [if_neg (by omega), if_neg (by omega)]
      exact l1_both xs hn b (fun j h => hq j h h) k (by omega)) xs.length k 0 (by omega) (by intro j hj; omega) (by omega) (by omega)
theorem both (xs : List S114) (hn : xs.length ≤ 1048576) (b : Int) (k : Nat) (hk : 460 ≤ k) : ∃ r, spec_PoolFault.f k xs b = some r ∧ impl_PoolFault.f k xs b = some r := by
  obtain ⟨k, rfl⟩ : ∃ m, k = m + 2 := ⟨k - 2, by omega⟩
  unfold spec_PoolFault.f impl_PoolFault.f
  simp only [spec_PoolFault.j0, impl_PoolFault.j0, spec_PoolFault.j1, in_is, Option.bind_some, if_true]
  rw [pw64 (by omega) (by omega)]
  by_cases h1 : (xs.length : Int) < 1
  · rw [if_pos h1, if_pos h1]
    exact ⟨_, rfl, rfl⟩
  · rw [if_neg h1, if_neg h1]
    by_cases h2 : decide ((xs.length : Int) > 16) = true
    · rw [if_pos h2, if_pos h2]
      exact ⟨_, rfl, rfl⟩
    · rw [if_neg h2, if_neg h2]
      have h2' : ¬ (xs.length : Int) > 16 := by simpa using h2
      by_cases h3 : b < 0
      · rw [if_pos h3, if_neg (by simp; omega)]
        exact ⟨_, rfl, rfl⟩
      · rw [if_neg h3]
        by_cases h4 : b ≥ (xs.length : Int)
        · rw [if_pos (by simpa using h4), if_neg (by simp; omega)]
          exact ⟨_, rfl, rfl⟩
        · rw [if_neg (by simpa using h4), if_pos (by simp; omega)]
          obtain ⟨r, g1, _⟩ := l0_both xs (by omega) b k (by omega)
          obtain ⟨r2, g3, g4⟩ := l0_both xs (by omega) b (k + 1) (by omega)
          have e : r = r2 := by
            have := (spec_PoolFault.mono_l k)
            have hle : LeO (spec_PoolFault.l0 k 0 xs b) (spec_PoolFault.l0 (k + 1) 0 xs b) := by
              obtain ⟨_, _, ih, _⟩ := this
              exact ih _ _ _
            have := hle r g1
            rw [g3] at this
            exact (Option.some.inj this).symm
          subst e
          exact ⟨r, g1, g4⟩

theorem FnExactPoolFault (l0_0 : (List S154)) (a0_1 : Int) (w0_0 : l0_0.length ≤ maxLen ∧ ∀ y0 ∈ l0_0, ((Lit.int .i64 y0.f0).wf = true) ∧ (y0.f1.length ≤ maxLen ∧ ∀ y2 ∈ y0.f1, (Lit.int .u8 y2).wf = true) ∧ ((Lit.int .i64 y0.f2).wf = true) ∧ (True) ∧ ((Lit.int .i64 y0.f4).wf = true) ∧ (True)) (w0_1 : (Lit.int .i64 a0_1).wf = true) : ∃ k, laws_FnExactPoolFault.f k l0_0 a0_1 = some true := by
  have hm : l0_0.length ≤ 9223372036854775807 := w0_0.1
  have hm3 : ∀ x ∈ l0_0, x.f1.length ≤ 9223372036854775807 := fun x hx => (w0_0.2 x hx).2.1.1
  obtain ⟨K, hK⟩ : ∃ K, K = l0_0.length + 1048580 := ⟨_, rfl⟩
  refine ⟨K, ?_⟩
  unfold laws_FnExactPoolFault.f laws_szPool.f laws_szFrameS.f
  rw [pw64 (by omega) (by omega)]
  by_cases h : 1048576 - (l0_0.length : Int) < 0
  · rw [if_pos h]
    simp
  · rw [if_neg h]
    obtain ⟨r, hr, _, hr2⟩ := szFrameS_tells l0_0 hm hm3 l0_0.length K 0 (1048576 - (l0_0.length : Int)) (by omega) (by omega) (by omega) (by omega) (by omega)
    have hr' : laws_szFrameS.l0 K l0_0 (1048576 - (l0_0.length : Int)) 0 = some r := hr
    rw [hr']
    simp only [Option.bind_some]
    by_cases h3 : r < 0
    · rw [if_pos h3]
      simp
    · rw [if_neg h3]
      simp only [Option.bind_some]
      rw [if_neg h3]
      have b3 : Small 1048576 l0_0 := by
        intro x hx
        obtain ⟨j, hj, rfl⟩ := List.getElem_of_mem hx
        exact hr2 (by omega) j hj (Nat.zero_le _)
      unfold laws_toPool.f laws_eqPool.f
      rw [toFrameS_some l0_0 (by omega) 1048576 (by omega) b3 _ (by omega)]
      simp only [Option.bind_some]
      obtain ⟨q, h1, h2⟩ := both (l0_0.map cpFrame) (by simp; omega) a0_1 K (by omega)
      rw [h1, h2]
      simp only [Option.bind_some, if_true]
      rw [eqFrameS_same _ (by simp; omega) 1048576 (by omega) (by
        intro x hx
        obtain ⟨y, hy, rfl⟩ := List.mem_map.1 hx
        exact b3 y hy) _ (by simp; omega)]
      simp

end Go.Proofs.Ytmggneijkhmigaa.Pure
