/- Proved: the pure form of FnExactRoomFor: RoomFor of the program answers as the reference at all arguments, and leaves them alone. Conditions: none beyond the statement. -/
import Derived.Test.YtmggneijkhmigaaQFnExactRoomForx5
import Derived.Test.YtmggneijkhmigaaPureBase
import Derived.OpenShut
namespace Go.Proofs.Ytmggneijkhmigaa.Pure
open Go.RowKit Go.Proofs.Ytmggneijkhmigaa.QFnExactRoomFor Go.Proofs.YtmggneijkhmigaaW.PrintWords Go.Proofs.YtmggneijkhmigaaW.PrintLast Go.Proofs.Ytmggneijkhmigaa.PureBase
set_option linter.unusedVariables false
set_option linter.unusedSimpArgs false

theorem rd121_at (xs : List S121) (i : Nat) (h : i < xs.length) : rd_T121 xs (i : Int) = xs[i] := by
  unfold rd_T121
  rw [Int.toNat_natCast]
  exact getD_at xs i z121 h
theorem rd119_at (xs : List S119) (i : Nat) (h : i < xs.length) : rd_T119 xs (i : Int) = xs[i] := by
  unfold rd_T119
  rw [Int.toNat_natCast]
  exact getD_at xs i z119 h
def cpHold (x : S121) : S119 := ⟨x.f0, x.f1, x.f2⟩
theorem toHoldS_some (xs : List S121) (hn : xs.length ≤ 1048576) (k : Nat) (hk : xs.length < k) : laws_toHoldS.f k xs = some (xs.map cpHold) := by
  unfold laws_toHoldS.f
  rw [if_pos (by omega), if_pos (by rw [Int.toNat_natCast]; omega)]
  exact map_all cpHold (fun k ys i => laws_toHoldS.l0 k xs ys i) xs 0
    (by
      intro k i ys h _ hl
      simp only [laws_toHoldS.l0, laws_toHold.f, Option.bind_some]
      rw [if_pos (by omega), if_pos (by omega), if_pos (by omega), pw64 (by omega) (by omega), rd121_at xs i h, Int.toNat_natCast]
      rfl)
    (by
      intro k ys _
      simp only [laws_toHoldS.l0]
      rw [if_neg (by omega)]) k (List.replicate ((xs.length : Int)).toNat z119) (by simp) (by omega)
theorem eqHoldS_same (xs : List S119) (hn : xs.length ≤ 1048576) (k : Nat) (hk : xs.length < k) : laws_eqHoldS.f k xs xs = some true := by
  unfold laws_eqHoldS.f
  rw [if_pos rfl]
  exact end_go (fun k i => laws_eqHoldS.l0 k xs xs i) xs.length 0 true
    (by
      intro k i h _
      simp only [laws_eqHoldS.l0, laws_eqHold.f]
      rw [if_pos (by omega), if_pos (by omega), if_pos (by omega), pw64 (by omega) (by omega)]
      simp)
    (by
      intro k _
      simp only [laws_eqHoldS.l0]
      rw [if_neg (by omega)]) xs.length k 0 (by omega) (by omega) (by omega)

theorem toInt64S_some (xs : List Int) (hn : xs.length ≤ 1048576) (k : Nat) (hk : xs.length < k) : laws_toInt64S.f k xs = some xs := by
  unfold laws_toInt64S.f
  rw [if_pos (by omega), if_pos (by rw [Int.toNat_natCast]; omega)]
  have := map_all (fun x : Int => x) (fun k ys i => laws_toInt64S.l0 k xs ys i) xs 0
    (by
      intro k i ys h _ hl
      simp only [laws_toInt64S.l0]
      rw [if_pos (by omega), if_pos (by omega), if_pos (by omega), pw64 (by omega) (by omega), rdN, getD_at xs i 0 h, Int.toNat_natCast])
    (by
      intro k ys _
      simp only [laws_toInt64S.l0]
      rw [if_neg (by omega)]) k (List.replicate ((xs.length : Int)).toNat 0) (by simp) (by omega)
  simpa using this

theorem eqInt64S_same (xs : List Int) (hn : xs.length ≤ 281474976710656) (k : Nat) (hk : xs.length < k) : laws_eqInt64S.f k xs xs = some true := by
  unfold laws_eqInt64S.f
  rw [if_pos rfl]
  exact end_go (fun k i => laws_eqInt64S.l0 k xs xs i) xs.length 0 true
    (by
      intro k i h _
      simp only [laws_eqInt64S.l0]
      rw [if_pos (by omega), if_pos (by omega), if_pos (by omega), pw64 (by omega) (by omega)]
      simp)
    (by
      intro k _
      simp only [laws_eqInt64S.l0]
      rw [if_neg (by omega)]) xs.length k 0 (by omega) (by omega) (by omega)

theorem in_is (a b c : Int) : impl_in.f a b c = some (decide (b ≤ a ∧ a ≤ c)) := by
  unfold impl_in.f
  by_cases h : a ≥ b
  · rw [if_pos h]; congr 1; simp; omega
  · rw [if_neg h]; congr 1; simp; omega
theorem in_is' (a b c : Int) : spec_l4In.f a b c = some (decide (b ≤ a ∧ a ≤ c)) := in_is a b c
theorem l1_both (xs : List S119) (hn : xs.length ≤ 1048576) (k i : Nat) (hk : xs.length < k) : ∃ r, spec_HoldsFault.l1 k xs (i : Int) = some r ∧ impl_HoldsFault.l1 k xs (xs.length : Int) (i : Int) = some r :=
  same_all (fun k i => spec_HoldsFault.l1 k xs i) (fun k i => impl_HoldsFault.l1 k xs (xs.length : Int) i) xs.length 0
    (by
      intro k i h _
      simp only [spec_HoldsFault.l1, impl_HoldsFault.l1, in_is, in_is', Option.bind_some, decide_eq_true_eq]
      rw [if_pos (show (i : Int) < (xs.length : Int) by omega), if_pos (show 0 ≤ (i : Int) by omega), if_pos (show (i : Int) < (xs.length : Int) by omega), if_pos (show 0 ≤ (i : Int) by omega), if_pos (show (i : Int) < (xs.length : Int) by omega), pw64 (by omega) (by omega)]
      split
      · split
        · split
          · exact .inl ⟨rfl, rfl⟩
          · exact .inr ⟨_, rfl, rfl⟩
        · exact .inr ⟨_, rfl, rfl⟩
      · exact .inr ⟨_, rfl, rfl⟩)
    (by
      intro k i h _
      simp only [spec_HoldsFault.l1, impl_HoldsFault.l1]
      rw [if_neg (by omega), if_neg (by omega)]
      exact ⟨_, rfl, rfl⟩) k i (by omega)
theorem l0_both (xs : List S119) (hn : xs.length ≤ 1048576) (k i : Nat) (h1 : 1 ≤ i) (hk : xs.length + (xs.length + 1) < k) : ∃ r, spec_HoldsFault.l0 k xs (i : Int) = some r ∧ impl_HoldsFault.l0 k xs (i : Int) = some r := by
  have := same_all (fun k i => spec_HoldsFault.l0 k xs (i + 1)) (fun k i => impl_HoldsFault.l0 k xs (i + 1)) (xs.length - 1) (xs.length + 1)
    (by
      intro k i h _
      simp only [spec_HoldsFault.l0, impl_HoldsFault.l0]
      rw [pw64 (x := (i : Int) + 1 - 1) (by omega) (by omega), pw64 (x := (i : Int) + 1 + 1) (by omega) (by omega)]
      rw [if_pos (show (i : Int) + 1 < (xs.length : Int) by omega), if_pos (show 0 ≤ (i : Int) + 1 - 1 by omega), if_pos (show (i : Int) + 1 - 1 < (xs.length : Int) by omega), if_pos (show 0 ≤ (i : Int) + 1 by omega), if_pos (show (i : Int) + 1 < (xs.length : Int) by omega), if_pos (show 0 ≤ (i : Int) + 1 - 1 by omega), if_pos (show (i : Int) + 1 - 1 < (xs.length : Int) by omega), if_pos (show 0 ≤ (i : Int) + 1 by omega)]
      split
      · exact .inr ⟨_, rfl, rfl⟩
      · exact .inl ⟨rfl, rfl⟩)
    (by
      intro k i h hk
      simp only [spec_HoldsFault.l0, impl_HoldsFault.l0]
      rw [if_neg (by omega), if_neg (by omega)]
      exact l1_both xs hn k 0 (by omega)) k (i - 1) (by omega)
  have e : ((i - 1 : Nat) : Int) + 1 = (i : Int) := by omega
  simpa [e] using this
theorem holds_both (xs : List S119) (hn : xs.length ≤ 1048576) (k : Nat) (hk : xs.length + (xs.length + 1) < k) : ∃ r, spec_HoldsFault.f k xs = some r ∧ impl_HoldsFault.f k xs = some r := by
  unfold spec_HoldsFault.f impl_HoldsFault.f
  split
  · exact ⟨_, rfl, rfl⟩
  · exact l0_both xs hn k 1 (by omega) hk

theorem lens_loop_both (l : List Int) (hn : l.length ≤ 1048576) (k : Nat) (hk : l.length < k) : ∃ r, spec_l9Lengths.l0 k l 0 = some r ∧ impl_lengthsOK.l0 k l 0 = some r :=
  same_all (fun k i => spec_l9Lengths.l0 k l i) (fun k i => impl_lengthsOK.l0 k l i) l.length 0
    (by
      intro k i h _
      simp only [spec_l9Lengths.l0, impl_lengthsOK.l0, in_is', Option.bind_some, decide_eq_true_eq]
      simp only [if_pos (show (i : Int) < (l.length : Int) by omega), if_pos (show 0 ≤ (i : Int) by omega)]
      rw [pw64 (by omega) (by omega)]
      split
      · exact .inl ⟨rfl, rfl⟩
      · exact .inr ⟨_, rfl, rfl⟩)
    (by
      intro k i h _
      simp only [spec_l9Lengths.l0, impl_lengthsOK.l0]
      rw [if_neg (by omega), if_neg (by omega)]
      exact ⟨_, rfl, rfl⟩) k 0 (by omega)
theorem lens_both (l : List Int) (hn : l.length ≤ 1048576) (k : Nat) (hk : l.length + 1 < k) : ∃ r, spec_l9Lengths.f k l = some r ∧ impl_lengthsOK.f k l = some r := by
  obtain ⟨k, rfl⟩ : ∃ m, k = m + 1 := ⟨k - 1, by omega⟩
  have s1 : ∀ b : Bool, spec_l9Lengths.j0 (k + 1) l b = (if b = true then some false else spec_l9Lengths.l0 k l 0) := fun b => by simp only [spec_l9Lengths.j0]
  have s2 : ∀ b : Bool, impl_lengthsOK.j0 (k + 1) l b = (if b = true then some false else impl_lengthsOK.l0 k l 0) := fun b => by simp only [impl_lengthsOK.j0]
  obtain ⟨r, g1, g2⟩ := lens_loop_both l hn k (by omega)
  have w : wrap64 ((l.length : Int) / 32) = (l.length : Int) / 32 := pw64 (by omega) (by omega)
  have i1 : ∃ b, spec_l4In.f ((l.length : Int) / 32) 1 16 = some b := ⟨_, in_is' _ _ _⟩
  obtain ⟨b, hb⟩ := i1
  unfold spec_l9Lengths.f impl_lengthsOK.f
  rw [w, hb]
  simp only [Option.bind_some]
  rw [s1, s1, s2, s2]
  by_cases h1 : (l.length : Int) % 32 = 0
  · rw [if_pos h1, if_pos h1, g1, g2]
    cases b with
    | true => exact ⟨r, rfl, rfl⟩
    | false => exact ⟨false, rfl, rfl⟩
  · rw [if_neg h1, if_neg h1]
    exact ⟨false, rfl, rfl⟩
/-- What is held for an id: the reference's -1 and the program's 0 where nothing is. -/
theorem hold_go (ys : List S119) (hn : ys.length ≤ 1048576) (id : Int) (d : Nat) : ∀ (k i : Nat), i ≤ ys.length → ys.length - i = d → d < k → ∃ v m, spec_l9Hold.l0 k ys id (i : Int) = some v ∧ impl_most.l0 k id ys (ys.length : Int) (i : Int) = some m ∧ (v = m ∨ (v = -1 ∧ m = 0)) := by
  induction d with
  | zero =>
    intro k i hi hd hk
    obtain ⟨k, rfl⟩ : ∃ m, k = m + 1 := ⟨k - 1, by omega⟩
    simp only [spec_l9Hold.l0, impl_most.l0]
    rw [if_neg (by omega), if_neg (by omega)]
    exact ⟨-1, 0, rfl, rfl, .inr ⟨rfl, rfl⟩⟩
  | succ d ih =>
    intro k i hi hd hk
    obtain ⟨k, rfl⟩ : ∃ m, k = m + 1 := ⟨k - 1, by omega⟩
    simp only [spec_l9Hold.l0, impl_most.l0]
    simp only [if_pos (show (i : Int) < (ys.length : Int) by omega), if_pos (show 0 ≤ (i : Int) by omega)]
    rw [pw64 (by omega) (by omega)]
    split
    · exact ⟨_, _, rfl, rfl, .inl rfl⟩
    · have := ih k (i + 1) (by omega) (by omega) (by omega)
      simpa using this
theorem hold_both (ys : List S119) (hn : ys.length ≤ 1048576) (id : Int) (k : Nat) (hk : ys.length < k) : ∃ v m, spec_l9Hold.f k ys id = some v ∧ impl_most.f k ys id = some m ∧ (v = m ∨ (v = -1 ∧ m = 0)) := by
  unfold spec_l9Hold.f impl_most.f
  exact hold_go ys hn id ys.length k 0 (by omega) (by omega) hk
theorem max_is (a b : Int) : spec_l9Max.f a b = some (mx a b) := by
  unfold spec_l9Max.f mx
  split
  · rw [show (if a < b then b else a) = a by split <;> omega]
  · rw [show (if a < b then b else a) = b by split <;> omega]
theorem max_same (x v m : Int) (h : v = m ∨ (v = -1 ∧ m = 0)) : mx (mx x v) 0 = mx (mx 0 x) m := by
  unfold mx
  rcases h with rfl | ⟨rfl, rfl⟩ <;> (repeat' split) <;> omega
theorem room_go (ls : List Int) (hl : ls.length ≤ 1048576) (ys : List S119) (hn : ys.length ≤ 1048576) (p : Int) (h0 : 0 ≤ p) (h1 : p * 32 + 32 ≤ (ls.length : Int)) (d : Nat) : ∀ (k s : Nat) (acc : Int), s ≤ 32 → 32 - s = d → d + (ys.length + 1) < k →
    ∃ r, spec_RoomLeft.l0 k ls ys p acc (s : Int) = some r ∧ impl_roomLeft.l0 k ls ys p acc (p * 32 + (s : Int)) = some r := by
  induction d with
  | zero =>
    intro k s acc hs hd hk
    obtain ⟨k, rfl⟩ : ∃ m, k = m + 1 := ⟨k - 1, by omega⟩
    simp only [spec_RoomLeft.l0, impl_roomLeft.l0]
    rw [pw64 (x := p + 1) (by omega) (by omega), pw64 (x := (p + 1) * 32) (by omega) (by omega), if_neg (by omega), if_neg (by omega)]
    exact ⟨_, rfl, rfl⟩
  | succ d ih =>
    intro k s acc hs hd hk
    obtain ⟨k, rfl⟩ : ∃ m, k = m + 1 := ⟨k - 1, by omega⟩
    simp only [spec_RoomLeft.l0, impl_roomLeft.l0]
    rw [pw64 (x := p + 1) (by omega) (by omega), pw64 (x := (p + 1) * 32) (by omega) (by omega), pw64 (x := p * 32) (by omega) (by omega), pw64 (x := p * 32 + (s : Int)) (by omega) (by omega), pw64 (x := (s : Int) + 1) (by omega) (by omega), pw64 (x := p * 32 + (s : Int) + 1) (by omega) (by omega)]
    rw [if_pos (show (s : Int) < 32 by omega), if_pos (show 0 ≤ p * 32 + (s : Int) by omega), if_pos (show p * 32 + (s : Int) < (ls.length : Int) by omega), if_pos (show p * 32 + (s : Int) < (p + 1) * 32 by omega), if_pos (show 0 ≤ p * 32 + (s : Int) by omega), if_pos (show p * 32 + (s : Int) < (ls.length : Int) by omega)]
    obtain ⟨v, m, g1, g2, g3⟩ := hold_both ys hn (p * 32 + (s : Int)) k (by omega)
    rw [g1, g2]
    simp only [Option.bind_some, max_is, max_same _ v m g3]
    have := ih k (s + 1) (wrap64 (acc - mx (mx 0 (rd ls (p * 32 + (s : Int)))) m)) (by omega) (by omega) (by omega)
    rw [show ((s + 1 : Nat) : Int) = (s : Int) + 1 by omega, ← Int.add_assoc] at this
    exact this
theorem room_val (ls : List Int) (hl : ls.length ≤ 1048576) (ys : List S119) (hn : ys.length ≤ 1048576) (p : Int) (h0 : 0 ≤ p) (h1 : p * 32 + 32 ≤ (ls.length : Int)) : ∃ v, ∀ k, ys.length + 40 ≤ k → spec_RoomLeft.l0 k ls ys p 3948 0 = some v ∧ impl_roomLeft.f k ls ys p = some v := by
  obtain ⟨v, g1, g2⟩ := room_go ls hl ys hn p h0 h1 32 (ys.length + 40) 0 3948 (by omega) (by omega) (by omega)
  have e : impl_roomLeft.f (ys.length + 40) ls ys p = some v := by
    unfold impl_roomLeft.f
    rw [pw64 (by omega) (by omega)]
    simpa using g2
  refine ⟨v, fun k hk => ⟨?_, ?_⟩⟩
  · exact at_rounds (g := fun k => spec_RoomLeft.l0 k ls ys p 3948 0) (fun k => spec_RoomLeft.mono_l k ls ys p 3948 0) hk g1
  · exact at_rounds (g := fun k => impl_roomLeft.f k ls ys p) (fun k => impl_roomLeft.mono ls ys p k) hk e

theorem left_is (ls : List Int) (hl : ls.length ≤ 1048576) (ys : List S119) (hn : ys.length ≤ 1048576) (p : Int) (k : Nat) (h1 : spec_l9Lengths.f k ls = some true) (h2 : spec_HoldsFault.f k ys = some 0) (hp : 0 ≤ p ∧ p ≤ (ls.length : Int) / 32 - 1) : spec_RoomLeft.f k ls ys p = spec_RoomLeft.l0 k ls ys p 3948 0 := by
  unfold spec_RoomLeft.f spec_l9Room.f
  rw [h1]
  simp only [Option.bind_some, if_true]
  rw [h2]
  simp only [Option.bind_some, if_true]
  rw [in_is', pw64 (x := (ls.length : Int) / 32) (by omega) (by omega), pw64 (by omega) (by omega)]
  simp only [Option.bind_some, decide_eq_true_eq]
  rw [if_pos hp]
theorem both (ls : List Int) (hl : ls.length ≤ 1048576) (ys : List S119) (hn : ys.length ≤ 1048576) (id n : Int) (hid : -9223372036854775808 ≤ id ∧ id ≤ 9223372036854775807) (K : Nat) (hK : ls.length + 3 * ys.length + 90 ≤ K) : ∃ r, spec_RoomFor.f K ls ys id n = some r ∧ impl_RoomFor.f K ls ys id n = some r := by
  obtain ⟨K, rfl⟩ : ∃ m, K = m + 1 := ⟨K - 1, by omega⟩
  unfold spec_RoomFor.f impl_RoomFor.f spec_l9Room.f
  obtain ⟨b, h1, h2⟩ := lens_both ls hl (K + 1) (by omega)
  obtain ⟨b', h1', _⟩ := lens_both ls hl K (by omega)
  obtain ⟨q, h3, h4⟩ := holds_both ys hn (K + 1) (by omega)
  obtain ⟨q', h3', _⟩ := holds_both ys hn K (by omega)
  obtain rfl : b' = b := by
    have := spec_l9Lengths.mono ls K _ h1'
    rw [h1] at this
    exact (Option.some.inj this).symm
  obtain rfl : q' = q := by
    have := spec_HoldsFault.mono ys K _ h3'
    rw [h3] at this
    exact (Option.some.inj this).symm
  rw [h1, h2]
  simp only [Option.bind_some]
  cases b' with
  | false =>
    simp only [Bool.false_eq_true, if_false, Option.bind_some, spec_RoomFor.j0, if_true]
    split <;> exact ⟨_, rfl, rfl⟩
  | true =>
    have hls := lens_tells ls (by omega) (K + 1) true h2
    obtain ⟨_, t1, t2, t3, _⟩ : true = true ∧ (ls.length : Int) % 32 = 0 ∧ 32 ≤ (ls.length : Int) ∧ (ls.length : Int) ≤ 512 ∧ ∀ (j : Nat) (h : j < ls.length), -1 ≤ ls[j] ∧ ls[j] ≤ 1000 := by
      rcases hls with h | ⟨h, _⟩
      · exact h
      · cases h
    rw [h3, h4]
    simp only [if_true, Option.bind_some]
    by_cases hq : q' = 0
    · subst hq
      simp only [if_true]
      rw [in_is', in_is, in_is, in_is', pw64 (x := (ls.length : Int) / 32) (by omega) (by omega), pw64 (x := (ls.length : Int) / 32 - 1) (by omega) (by omega), pw64 (x := (ls.length : Int) - 1) (by omega) (by omega)]
      simp only [Option.bind_some, decide_eq_true_eq]
      by_cases g0 : id < 0
      · rw [if_pos g0, if_neg (show ¬ (0 ≤ id ∧ id ≤ (ls.length : Int) - 1) by omega)]
        simp only [spec_RoomFor.j0, if_true]
        exact ⟨_, rfl, rfl⟩
      · have e32 : wrap64 (Int.tdiv id 32) = id / 32 := by
          rw [Int.tdiv_eq_ediv_of_nonneg (by omega)]
          exact pw64 (by omega) (by omega)
        rw [if_neg g0, e32]
        by_cases g1 : id ≤ (ls.length : Int) - 1
        · have hp : 0 ≤ id / 32 ∧ id / 32 ≤ (ls.length : Int) / 32 - 1 := by omega
          rw [if_pos hp, if_pos (show 0 ≤ id ∧ id ≤ (ls.length : Int) - 1 by omega)]
          by_cases g2 : 0 ≤ n ∧ n ≤ 1000
          · rw [if_pos g2]
            unfold impl_roomFor.f
            simp only [spec_RoomFor.j0, e32, decide_eq_true g2, Bool.not_true, Bool.false_eq_true, if_false]
            simp only [if_pos (show 0 ≤ id by omega), if_pos (show id < (ls.length : Int) by omega)]
            obtain ⟨v, m, m1, m2, m3⟩ := hold_both ys hn id K (by omega)
            have m2' : impl_most.f (K + 1) ys id = some m := impl_most.mono ys id K _ m2
            obtain ⟨x, hx⟩ := room_val ls hl ys hn (id / 32) hp.1 (by omega)
            obtain ⟨x1, _⟩ := hx K (by omega)
            obtain ⟨_, x2⟩ := hx (K + 1) (by omega)
            rw [m1, x2]
            simp only [Option.bind_some, max_is, max_same _ v m m3]
            rw [m2', left_is ls hl ys hn (id / 32) K h1' h3' hp, x1]
            simp only [Option.bind_some]
            generalize wrap64 (n - mx (mx 0 (rd ls id)) m) = z
            refine ⟨_, ?_, rfl⟩
            have e0 : mx 0 z = (if z ≤ 0 then 0 else z) := by unfold mx; (repeat' split) <;> omega
            rw [e0]
            by_cases c1 : z ≤ 0
            · rw [if_pos c1, if_pos c1]
              by_cases c2 : x ≥ 0
              · rw [if_pos c2]; simp [c2]
              · rw [if_neg c2, if_neg (by omega)]; simp; omega
            · rw [if_neg c1, if_neg c1, if_pos (by omega)]
          · rw [if_neg g2]
            simp only [spec_RoomFor.j0, decide_eq_false g2, Bool.not_false, if_true]
            exact ⟨_, rfl, rfl⟩
        · rw [if_neg (show ¬ (0 ≤ id / 32 ∧ id / 32 ≤ (ls.length : Int) / 32 - 1) by omega), if_neg (show ¬ (0 ≤ id ∧ id ≤ (ls.length : Int) - 1) by omega)]
          simp only [spec_RoomFor.j0, if_true]
          exact ⟨_, rfl, rfl⟩
    · rw [if_neg hq, if_neg hq]
      simp only [Option.bind_some, Bool.false_eq_true, if_false, spec_RoomFor.j0, if_true]
      split <;> exact ⟨_, rfl, rfl⟩

theorem FnExactRoomFor (l0 : (List Int)) (l1 : (List S121)) (a2 : Int) (a3 : Int) (w0 : l0.length ≤ maxLen ∧ ∀ y0 ∈ l0, (Lit.int .i64 y0).wf = true) (w1 : l1.length ≤ maxLen ∧ ∀ y0 ∈ l1, ((Lit.int .i64 y0.f0).wf = true) ∧ ((Lit.int .i64 y0.f1).wf = true) ∧ ((Lit.int .i64 y0.f2).wf = true)) (w2 : (Lit.int .i64 a2).wf = true) (w3 : (Lit.int .i64 a3).wf = true) : ∃ k, laws_FnExactRoomFor.f k l0 l1 a2 a3 = some true := by
  have hm : l0.length ≤ 9223372036854775807 := w0.1
  have hm1 : l1.length ≤ 9223372036854775807 := w1.1
  obtain ⟨K, hK⟩ : ∃ K, K = l0.length + 4 * l1.length + 100 := ⟨_, rfl⟩
  refine ⟨K, ?_⟩
  unfold laws_FnExactRoomFor.f
  by_cases h : (l0.length : Int) > 1048576
  · rw [if_pos h]
  · rw [if_neg h]
    unfold laws_szHoldS.f
    rw [pw64 (by omega) (by omega)]
    by_cases h' : 1048576 - (l1.length : Int) < 0
    · rw [if_pos h']
      simp
    · rw [if_neg h']
      simp only [Option.bind_some]
      rw [if_neg h', toInt64S_some l0 (by omega) _ (by omega), toHoldS_some l1 (by omega) _ (by omega)]
      simp only [Option.bind_some]
      obtain ⟨r, h1, h2⟩ := both l0 (by omega) (l1.map cpHold) (by simp; omega) a2 a3 (bounds_i64 w2) K (by simp; omega)
      rw [h1, h2]
      simp only [Option.bind_some, if_true, bne_self_eq_false]
      rw [eqInt64S_same _ (by omega) _ (by omega), eqHoldS_same _ (by simp; omega) _ (by simp; omega)]
      simp

end Go.Proofs.Ytmggneijkhmigaa.Pure
