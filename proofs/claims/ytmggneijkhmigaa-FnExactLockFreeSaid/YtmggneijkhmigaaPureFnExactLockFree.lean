/- Proved: the pure form of FnExactLockFree: LockFree of the program answers as the reference at every list of locks and every transaction, and its answer owns its memory. Conditions: none beyond the statement. -/
import Derived.Test.YtmggneijkhmigaaQFnExactLockFreex5
import Derived.Test.YtmggneijkhmigaaPureBase
import Derived.OpenShut
namespace Go.Proofs.Ytmggneijkhmigaa.Pure
open Go.RowKit Go.Proofs.Ytmggneijkhmigaa.QFnExactLockFree Go.Proofs.YtmggneijkhmigaaW.PrintWords Go.Proofs.YtmggneijkhmigaaW.PrintLast Go.Proofs.Ytmggneijkhmigaa.PureBase
set_option linter.unusedVariables false
set_option linter.unusedSimpArgs false

theorem rd140_at (xs : List S140) (i : Nat) (h : i < xs.length) : rd_T140 xs (i : Int) = xs[i] := by
  unfold rd_T140
  rw [Int.toNat_natCast]
  exact getD_at xs i z140 h
theorem rd138_at (xs : List S138) (i : Nat) (h : i < xs.length) : rd_T138 xs (i : Int) = xs[i] := by
  unfold rd_T138
  rw [Int.toNat_natCast]
  exact getD_at xs i z138 h
def cpLock (x : S140) : S138 := ⟨x.f0, x.f1, x.f2⟩
theorem toLockS_some (xs : List S140) (hn : xs.length ≤ 1048576) (k : Nat) (hk : xs.length < k) : laws_toLockS.f k xs = some (xs.map cpLock) := by
  unfold laws_toLockS.f
  rw [if_pos (by omega), if_pos (by rw [Int.toNat_natCast]; omega)]
  exact map_all cpLock (fun k ys i => laws_toLockS.l0 k xs ys i) xs 0
    (by
      intro k i ys h _ hl
      simp only [laws_toLockS.l0, laws_toLock.f, Option.bind_some]
      rw [if_pos (by omega), if_pos (by omega), if_pos (by omega), pw64 (by omega) (by omega), rd140_at xs i h, Int.toNat_natCast]
      rfl)
    (by
      intro k ys _
      simp only [laws_toLockS.l0]
      rw [if_neg (by omega)]) k (List.replicate ((xs.length : Int)).toNat z138) (by simp) (by omega)
theorem eqLockS_same (xs : List S138) (hn : xs.length ≤ 1048576) (k : Nat) (hk : xs.length < k) : laws_eqLockS.f k xs xs = some true := by
  unfold laws_eqLockS.f
  rw [if_pos rfl]
  exact end_go (fun k i => laws_eqLockS.l0 k xs xs i) xs.length 0 true
    (by
      intro k i h _
      simp only [laws_eqLockS.l0, laws_eqLock.f]
      rw [if_pos (by omega), if_pos (by omega), if_pos (by omega), pw64 (by omega) (by omega)]
      simp)
    (by
      intro k _
      simp only [laws_eqLockS.l0]
      rw [if_neg (by omega)]) xs.length k 0 (by omega) (by omega) (by omega)

theorem in_is (a b c : Int) : impl_in.f a b c = some (decide (b ≤ a ∧ a ≤ c)) := by
  unfold impl_in.f
  by_cases h : a ≥ b
  · rw [if_pos h]; congr 1; simp; omega
  · rw [if_neg h]; congr 1; simp; omega
theorem in_is' (a b c : Int) : spec_l4In.f a b c = some (decide (b ≤ a ∧ a ≤ c)) := in_is a b c

theorem l2_both (xs : List S138) (hn : xs.length ≤ 1048576) (k i : Nat) (h1 : 1 ≤ i) (hk : xs.length < k) : ∃ r, spec_LocksFault.l2 k xs (i : Int) = some r ∧ impl_LocksFault.l2 k xs (i : Int) = some r := by
  have := same_all (fun k i => spec_LocksFault.l2 k xs (i + 1)) (fun k i => impl_LocksFault.l2 k xs (i + 1)) (xs.length - 1) 0
    (by
      intro k i h _
      simp only [spec_LocksFault.l2, impl_LocksFault.l2]
      rw [pw64 (x := (i : Int) + 1 - 1) (by omega) (by omega), pw64 (x := (i : Int) + 1 + 1) (by omega) (by omega)]
      simp only [if_pos (show (i : Int) + 1 < (xs.length : Int) by omega), if_pos (show 0 ≤ (i : Int) + 1 - 1 by omega), if_pos (show (i : Int) + 1 - 1 < (xs.length : Int) by omega), if_pos (show 0 ≤ (i : Int) + 1 by omega)]
      split
      · split
        · exact .inr ⟨_, rfl, rfl⟩
        · split
          · exact .inr ⟨_, rfl, rfl⟩
          · exact .inl ⟨rfl, rfl⟩
      · exact .inl ⟨rfl, rfl⟩)
    (by
      intro k i h hk
      simp only [spec_LocksFault.l2, impl_LocksFault.l2]
      rw [if_neg (by omega), if_neg (by omega)]
      exact ⟨_, rfl, rfl⟩) k (i - 1) (by omega)
  have e : ((i - 1 : Nat) : Int) + 1 = (i : Int) := by omega
  simpa [e] using this
theorem l1_both (xs : List S138) (hn : xs.length ≤ 1048576) (k i : Nat) (h1 : 1 ≤ i) (hk : xs.length + (xs.length + 1) < k) : ∃ r, spec_LocksFault.l1 k xs (i : Int) = some r ∧ impl_LocksFault.l1 k xs (i : Int) = some r := by
  have := same_all (fun k i => spec_LocksFault.l1 k xs (i + 1)) (fun k i => impl_LocksFault.l1 k xs (i + 1)) (xs.length - 1) (xs.length + 1)
    (by
      intro k i h _
      simp only [spec_LocksFault.l1, impl_LocksFault.l1]
      rw [pw64 (x := (i : Int) + 1 - 1) (by omega) (by omega), pw64 (x := (i : Int) + 1 + 1) (by omega) (by omega)]
      simp only [if_pos (show (i : Int) + 1 < (xs.length : Int) by omega), if_pos (show 0 ≤ (i : Int) + 1 - 1 by omega), if_pos (show (i : Int) + 1 - 1 < (xs.length : Int) by omega), if_pos (show 0 ≤ (i : Int) + 1 by omega)]
      split
      · exact .inr ⟨_, rfl, rfl⟩
      · split
        · split
          · exact .inr ⟨_, rfl, rfl⟩
          · exact .inl ⟨rfl, rfl⟩
        · exact .inl ⟨rfl, rfl⟩)
    (by
      intro k i h hk
      simp only [spec_LocksFault.l1, impl_LocksFault.l1]
      rw [if_neg (by omega), if_neg (by omega)]
      exact l2_both xs hn k 1 (by omega) (by omega)) k (i - 1) (by omega)
  have e : ((i - 1 : Nat) : Int) + 1 = (i : Int) := by omega
  simpa [e] using this
theorem l0_both (xs : List S138) (hn : xs.length ≤ 1048576) (k i : Nat) (hk : xs.length + (2 * xs.length + 2) < k) : ∃ r, spec_LocksFault.l0 k xs (i : Int) = some r ∧ impl_LocksFault.l0 k xs xs (xs.length : Int) (i : Int) = some r :=
  same_all (fun k i => spec_LocksFault.l0 k xs i) (fun k i => impl_LocksFault.l0 k xs xs (xs.length : Int) i) xs.length (2 * xs.length + 2)
    (by
      intro k i h _
      simp only [spec_LocksFault.l0, impl_LocksFault.l0, in_is, in_is', Option.bind_some, decide_eq_true_eq]
      simp only [if_pos (show (i : Int) < (xs.length : Int) by omega), if_pos (show 0 ≤ (i : Int) by omega)]
      rw [pw64 (by omega) (by omega)]
      split
      · split
        · split
          · exact .inl ⟨rfl, rfl⟩
          · exact .inr ⟨_, rfl, rfl⟩
        · exact .inr ⟨_, rfl, rfl⟩
      · exact .inr ⟨_, rfl, rfl⟩)
    (by
      intro k i h hk
      simp only [spec_LocksFault.l0, impl_LocksFault.l0]
      rw [if_neg (by omega), if_neg (by omega)]
      exact l1_both xs hn k 1 (by omega) (by omega)) k i (by omega)
theorem fault_both (xs : List S138) (hn : xs.length ≤ 1048576) (k : Nat) (hk : xs.length + (2 * xs.length + 2) < k) : ∃ r, spec_LocksFault.f k xs = some r ∧ impl_LocksFault.f k xs = some r := by
  unfold spec_LocksFault.f impl_LocksFault.f
  split
  · exact ⟨_, rfl, rfl⟩
  · exact l0_both xs hn k 0 hk

theorem rdset (xs : List S138) (i : Nat) (v : S138) (h : i < xs.length) : rd_T138 (xs.set i v) (i : Int) = v := by
  rw [rd138_at (xs.set i v) i (by simpa using h)]
  simp
def Marked3 (k : Int) (ys : List S138) : Prop := ∀ (i : Nat) (h : i < ys.length), ys[i] = ⟨k + 3 * (i : Int), k + 3 * (i : Int) + 1, k + 3 * (i : Int) + 2⟩
theorem mark_go (n : Nat) (k0 : Int) (h0 : 0 ≤ k0) (h1 : k0 ≤ 1048576) (hn : n ≤ 1048576) (d : Nat) : ∀ (K i : Nat) (ys : List S138), ys.length = n → (∀ (j : Nat) (h : j < ys.length), j < i → ys[j] = ⟨k0 + 3 * (j : Int), k0 + 3 * (j : Int) + 1, k0 + 3 * (j : Int) + 2⟩) → i ≤ n → n - i = d → d < K →
    ∃ zs, laws_markLockS.l0 K ys (k0 + 3 * (i : Int)) (i : Int) = some (k0 + 3 * (n : Int), zs) ∧ zs.length = n ∧ Marked3 k0 zs := by
  induction d with
  | zero =>
    intro K i ys hl hp hi hd hk
    obtain ⟨K, rfl⟩ : ∃ m, K = m + 1 := ⟨K - 1, by omega⟩
    simp only [laws_markLockS.l0]
    rw [if_neg (by omega)]
    obtain rfl : i = n := by omega
    exact ⟨ys, rfl, hl, fun j h => hp j h (by omega)⟩
  | succ d ih =>
    intro K i ys hl hp hi hd hk
    obtain ⟨K, rfl⟩ : ∃ m, K = m + 1 := ⟨K - 1, by omega⟩
    have hil : i < ys.length := by omega
    simp only [laws_markLockS.l0, Option.bind_some, Int.toNat_natCast]
    rw [if_pos (by omega), if_pos (by omega)]
    have e1 : wrap64 (k0 + 3 * (i : Int) + 1) = k0 + 3 * (i : Int) + 1 := pw64 (by omega) (by omega)
    have e2 : wrap64 (k0 + 3 * (i : Int) + 1 + 1) = k0 + 3 * (i : Int) + 2 := by rw [pw64 (by omega) (by omega)]; omega
    have e3 : wrap64 (k0 + 3 * (i : Int) + 2 + 1) = k0 + 3 * ((i + 1 : Nat) : Int) := by rw [pw64 (by omega) (by omega)]; omega
    have e4 : wrap64 ((i : Int) + 1) = ((i + 1 : Nat) : Int) := by rw [pw64 (by omega) (by omega)]; omega
    rw [e1, e2, e3, e4]
    clear e1 e2 e3 e4
    simp only [rdset _ i _ hil, rdset (ys.set i _) i _ (by simpa using hil), List.set_set]
    obtain ⟨zs, h, h2, h3⟩ := ih K (i + 1) (ys.set i ⟨k0 + 3 * (i : Int), k0 + 3 * (i : Int) + 1, k0 + 3 * (i : Int) + 2⟩) (by simp [hl]) (by
      intro j h hj
      rw [List.getElem_set]
      by_cases e : i = j
      · subst e
        rw [if_pos rfl]
      · rw [if_neg e]
        exact hp j (by simpa using h) (by omega)) (by omega) (by omega) (by omega)
    exact ⟨zs, h, h2, h3⟩
theorem held_go (ys : List S138) (k0 : Int) (h0 : 0 ≤ k0) (h1 : k0 ≤ 1048576) (hn : ys.length ≤ 1048576) (hm : Marked3 k0 ys) (d : Nat) : ∀ (K i : Nat), i ≤ ys.length → ys.length - i = d → d < K → laws_heldLockS.l0 K ys (k0 + 3 * (i : Int)) (i : Int) = some (k0 + 3 * (ys.length : Int)) := by
  induction d with
  | zero =>
    intro K i hi hd hk
    obtain ⟨K, rfl⟩ : ∃ m, K = m + 1 := ⟨K - 1, by omega⟩
    simp only [laws_heldLockS.l0]
    rw [if_neg (by omega)]
    obtain rfl : i = ys.length := by omega
    rfl
  | succ d ih =>
    intro K i hi hd hk
    obtain ⟨K, rfl⟩ : ∃ m, K = m + 1 := ⟨K - 1, by omega⟩
    have hil : i < ys.length := by omega
    simp only [laws_heldLockS.l0]
    have e1 : wrap64 (k0 + 3 * (i : Int) + 1) = k0 + 3 * (i : Int) + 1 := pw64 (by omega) (by omega)
    have e2 : wrap64 (k0 + 3 * (i : Int) + 1 + 1) = k0 + 3 * (i : Int) + 2 := by rw [pw64 (by omega) (by omega)]; omega
    have e3 : wrap64 (k0 + 3 * (i : Int) + 2 + 1) = k0 + 3 * ((i + 1 : Nat) : Int) := by rw [pw64 (by omega) (by omega)]; omega
    have e4 : wrap64 ((i : Int) + 1) = ((i + 1 : Nat) : Int) := by rw [pw64 (by omega) (by omega)]; omega
    rw [if_pos (by omega), if_pos (by omega), rd138_at ys i hil, hm i hil, e1, e2, e3, e4]
    clear e1 e2 e3 e4
    simp only [if_true]
    exact ih K (i + 1) (by omega) (by omega) (by omega)
theorem mark_some (xs : List S138) (hn : xs.length ≤ 1048576) (K : Nat) (hK : xs.length < K) :
    ∃ zs, laws_markLockS.f K xs 1 = some (1 + 3 * (xs.length : Int), zs) ∧ ∀ K', xs.length < K' → laws_heldLockS.f K' zs 1 = some (1 + 3 * (xs.length : Int)) := by
  obtain ⟨zs, h, h2, h3⟩ := mark_go xs.length 1 (by omega) (by omega) hn xs.length K 0 xs rfl (by intro j h hj; omega) (by omega) (by omega) hK
  refine ⟨zs, h, fun K' hK' => ?_⟩
  have := held_go zs 1 (by omega) (by omega) (by omega) h3 zs.length K' 0 (by omega) (by omega) (by omega)
  rw [h2] at this
  exact this

def keep (t : Int) (x : S138) : Bool := !(x.f1 == t)
theorem keep_t {t : Int} {x : S138} (h : x.f1 = t) : keep t x = false := by unfold keep; rw [h]; simp
theorem keep_f {t : Int} {x : S138} (h : ¬ x.f1 = t) : keep t x = true := by unfold keep; simpa using h
theorem take_snoc (xs : List S138) (j : Nat) (h : j < xs.length) : xs.take (j + 1) = xs.take j ++ [xs[j]] := by rw [List.take_succ_eq_append_getElem h]
theorem filter_in (t : Int) (xs : List S138) (j : Nat) (h : j < xs.length) (hk : keep t xs[j] = true) : (xs.take (j + 1)).filter (keep t) = (xs.take j).filter (keep t) ++ [xs[j]] := by rw [take_snoc xs j h, List.filter_append, List.filter_cons_of_pos hk, List.filter_nil]
theorem filter_out (t : Int) (xs : List S138) (j : Nat) (h : j < xs.length) (hk : keep t xs[j] = false) : (xs.take (j + 1)).filter (keep t) = (xs.take j).filter (keep t) := by rw [take_snoc xs j h, List.filter_append, List.filter_cons_of_neg (by simp [hk]), List.filter_nil, List.append_nil]
theorem idx_go (xs : List S138) (t : Int) (hn : xs.length ≤ 1048576) (d : Nat) : ∀ (K i : Nat), i ≤ xs.length → xs.length - i = d → d < K → (xs.take i).filter (keep t) = xs.take i →
    (∃ r : Nat, ∃ h : r < xs.length, keep t xs[r] = false ∧ (xs.take r).filter (keep t) = xs.take r ∧ impl_Lock_125.l0 K xs t (xs.length : Int) (i : Int) = some (r : Int)) ∨ (xs.filter (keep t) = xs ∧ impl_Lock_125.l0 K xs t (xs.length : Int) (i : Int) = some (-1)) := by
  induction d with
  | zero =>
    intro K i hi hd hk hf
    obtain ⟨K, rfl⟩ : ∃ m, K = m + 1 := ⟨K - 1, by omega⟩
    refine .inr ⟨?_, ?_⟩
    · rw [List.take_of_length_le (by omega)] at hf
      exact hf
    · simp only [impl_Lock_125.l0]
      rw [if_neg (by omega)]
  | succ d ih =>
    intro K i hi hd hk hf
    obtain ⟨K, rfl⟩ : ∃ m, K = m + 1 := ⟨K - 1, by omega⟩
    have hil : i < xs.length := by omega
    have e4 : wrap64 ((i : Int) + 1) = ((i + 1 : Nat) : Int) := by rw [pw64 (by omega) (by omega)]; omega
    simp only [impl_Lock_125.l0, impl_LockFree_1.f, Option.bind_some]
    rw [if_pos (by omega), if_pos (by omega), if_pos (by omega), rd138_at xs i hil, e4]
    clear e4
    by_cases c : (xs[i]).f1 = t
    · exact .inl ⟨i, hil, keep_t c, hf, by rw [if_pos (by simpa using c)]⟩
    · rw [if_neg (by simpa using c)]
      exact ih K (i + 1) (by omega) (by omega) (by omega) (by rw [filter_in t xs i hil (keep_f c), hf, take_snoc xs i hil])
theorem del_go (xs : List S138) (t : Int) (hn : xs.length ≤ 1048576) (d : Nat) : ∀ (K i j : Nat) (cur : List S138), cur.length = xs.length → i ≤ j → j ≤ xs.length → xs.length - j = d → d < K → cur.take i = (xs.take j).filter (keep t) → cur.drop j = xs.drop j →
    impl_Lock_107.l0 K cur t (i : Int) (j : Int) = some (xs.filter (keep t)) := by
  induction d with
  | zero =>
    intro K i j cur hl hij hj hd hk ht hdr
    obtain ⟨K, rfl⟩ : ∃ m, K = m + 1 := ⟨K - 1, by omega⟩
    simp only [impl_Lock_107.l0, Int.toNat_natCast]
    rw [if_neg (by omega), if_pos (by omega), if_pos (by omega), ht, List.take_of_length_le (by omega)]
  | succ d ih =>
    intro K i j cur hl hij hj hd hk ht hdr
    obtain ⟨K, rfl⟩ : ∃ m, K = m + 1 := ⟨K - 1, by omega⟩
    have hjl : j < xs.length := by omega
    have hcj : cur[j]'(by omega) = xs[j] := by
      rw [List.drop_eq_getElem_cons (show j < cur.length by omega), List.drop_eq_getElem_cons hjl] at hdr
      injection hdr
    have hdr1 : cur.drop (j + 1) = xs.drop (j + 1) := by
      rw [List.drop_eq_getElem_cons (show j < cur.length by omega), List.drop_eq_getElem_cons hjl] at hdr
      injection hdr
    have e4 : wrap64 ((j : Int) + 1) = ((j + 1 : Nat) : Int) := by rw [pw64 (by omega) (by omega)]; omega
    have e5 : wrap64 ((i : Int) + 1) = ((i + 1 : Nat) : Int) := by rw [pw64 (by omega) (by omega)]; omega
    simp only [impl_Lock_107.l0, impl_LockFree_1.f, Option.bind_some, Int.toNat_natCast]
    rw [if_pos (by omega), if_pos (by omega), rd138_at cur j (by omega), hcj, e4, e5]
    clear e4 e5
    by_cases c : (xs[j]).f1 = t
    · rw [if_pos (by simpa using c)]
      exact ih K i (j + 1) cur hl (by omega) (by omega) (by omega) (by omega) (by rw [ht, filter_out t xs j hjl (keep_t c)]) hdr1
    · rw [if_neg (by simpa using c), if_pos (by omega), if_pos (by omega)]
      refine ih K (i + 1) (j + 1) (cur.set i xs[j]) (by simp [hl]) (by omega) (by omega) (by omega) (by omega) ?_ ?_
      · rw [filter_in t xs j hjl (keep_f c), ← ht, List.take_succ_eq_append_getElem (by simp; omega), List.take_set_of_le (by omega)]
        simp
      · rw [List.drop_set_of_lt (by omega)]
        exact hdr1
theorem del_is (xs : List S138) (t : Int) (hn : xs.length ≤ 1048576) (K : Nat) (hK : xs.length + 1 < K) : impl_Lock_107.f K xs t = some (xs.filter (keep t)) := by
  unfold impl_Lock_107.f impl_Lock_125.f
  rcases idx_go xs t hn xs.length K 0 (by omega) (by omega) (by omega) (by simp) with ⟨r, hr, hkr, hf, h⟩ | ⟨hf, h⟩
  · have h' : impl_Lock_125.l0 K xs t (xs.length : Int) 0 = some (r : Int) := h
    rw [h', Option.bind_some, if_neg (by omega), show wrap64 ((r : Int) + 1) = ((r + 1 : Nat) : Int) by rw [pw64 (by omega) (by omega)]; omega]
    exact del_go xs t hn (xs.length - (r + 1)) K r (r + 1) xs rfl (by omega) (by omega) rfl (by omega) (by rw [filter_out t xs r hr hkr, hf]) rfl
  · have h' : impl_Lock_125.l0 K xs t (xs.length : Int) 0 = some (-1) := h
    rw [h', Option.bind_some, if_pos rfl, hf]
theorem clone_is (xs : List S138) (hn : xs.length ≤ 1048576) : impl_Lock_108.f xs = some xs := by
  unfold impl_Lock_108.f
  simp only [Option.bind_some, List.length_nil, Nat.zero_add, List.nil_append]
  rw [if_pos (by omega)]

theorem spec_go2 (xs : List S138) (t : Int) (hn : xs.length ≤ 1048576) (d : Nat) : ∀ (K j : Nat), j ≤ xs.length → xs.length - j = d → d < K → spec_LockFree.l0 K xs t ((xs.take j).filter (keep t)) (j : Int) = some (0, xs.filter (keep t)) := by
  induction d with
  | zero =>
    intro K j hj hd hk
    obtain ⟨K, rfl⟩ : ∃ m, K = m + 1 := ⟨K - 1, by omega⟩
    simp only [spec_LockFree.l0]
    rw [if_neg (by omega), List.take_of_length_le (by omega)]
  | succ d ih =>
    intro K j hj hd hk
    obtain ⟨K, rfl⟩ : ∃ m, K = m + 1 := ⟨K - 1, by omega⟩
    have hjl : j < xs.length := by omega
    have hlen : ((xs.take j).filter (keep t)).length ≤ 1048576 := by
      have := List.length_filter_le (keep t) (xs.take j)
      rw [List.length_take] at this
      omega
    have e4 : wrap64 ((j : Int) + 1) = ((j + 1 : Nat) : Int) := by rw [pw64 (by omega) (by omega)]; omega
    have := ih K (j + 1) (by omega) (by omega) (by omega)
    simp only [spec_LockFree.l0]
    rw [if_pos (by omega), if_pos (by omega), rd138_at xs j hjl, e4]
    by_cases c : (xs[j]).f1 = t
    · rw [if_pos c, ← this, filter_out t xs j hjl (keep_t c)]
    · rw [if_neg c, if_pos (by omega), ← this, filter_in t xs j hjl (keep_f c)]
theorem free_same (xs : List S138) (t : Int) (hn : xs.length ≤ 1048576) (K0 : Nat) (hK0 : xs.length + (2 * xs.length + 2) < K0) : ∃ (c : Int) (ys : List S138), ys.length ≤ 1048576 ∧ (∀ K, K0 ≤ K → spec_LockFree.f K xs t = some (c, ys)) ∧ (∀ K, K0 ≤ K → impl_LockFree.f K xs t = some (c, ys)) := by
  obtain ⟨r, h1, h2⟩ := fault_both xs hn K0 hK0
  have h1' : ∀ K, K0 ≤ K → spec_LocksFault.f K xs = some r := fun K hK => at_rounds (g := fun k => spec_LocksFault.f k xs) (spec_LocksFault.mono xs) hK h1
  have h2' : ∀ K, K0 ≤ K → impl_LocksFault.f K xs = some r := fun K hK => at_rounds (g := fun k => impl_LocksFault.f k xs) (impl_LocksFault.mono xs) hK h2
  have hfl := List.length_filter_le (keep t) xs
  by_cases hr : r = 0
  · refine ⟨0, xs.filter (keep t), by omega, fun K hK => ?_, fun K hK => ?_⟩
    · unfold spec_LockFree.f
      rw [h1' K hK, Option.bind_some, if_pos hr]
      exact spec_go2 xs t hn xs.length K 0 (by omega) (by omega) (by omega)
    · unfold impl_LockFree.f
      rw [h2' K hK, Option.bind_some, if_pos hr, clone_is xs hn, Option.bind_some, del_is xs t hn K (by omega)]
      rfl
  · refine ⟨2, [], by simp, fun K hK => ?_, fun K hK => ?_⟩
    · unfold spec_LockFree.f
      rw [h1' K hK, Option.bind_some, if_neg hr]
    · unfold impl_LockFree.f
      rw [h2' K hK, Option.bind_some, if_neg hr]
theorem eqRes (c : Int) (ys : List S138) (hy : ys.length ≤ 1048576) (K : Nat) (hK : ys.length < K) : laws_eqLockResult.f K c ys c ys = some true := by
  unfold laws_eqLockResult.f
  rw [if_pos rfl, eqLockS_same ys hy K hK]
  simp
theorem heldRes (c : Int) (zs : List S138) (n : Int) (h0 : 0 ≤ n) (K : Nat) (h : laws_heldLockS.f K zs 1 = some n) : laws_heldLockResult.f K c zs 1 = some n := by
  unfold laws_heldLockResult.f
  rw [h, Option.bind_some, if_neg (by omega)]

theorem FnExactLockFree (l0 : (List S140)) (a1 : Int) (w0 : l0.length ≤ maxLen ∧ ∀ y0 ∈ l0, ((Lit.int .i64 y0.f0).wf = true) ∧ ((Lit.int .i64 y0.f1).wf = true) ∧ ((Lit.int .i64 y0.f2).wf = true)) (w1 : (Lit.int .i64 a1).wf = true) : ∃ k, laws_FnExactLockFree.f k l0 a1 = some true := by
  have hm : l0.length ≤ 9223372036854775807 := w0.1
  obtain ⟨K, hK⟩ : ∃ K, K = l0.length + (2 * l0.length + 3) := ⟨_, rfl⟩
  refine ⟨K + 1 + 1048578, ?_⟩
  obtain ⟨L, hL⟩ : ∃ L, L = K + 1048578 := ⟨_, rfl⟩
  rw [show K + 1 + 1048578 = L + 1 by omega]
  unfold laws_FnExactLockFree.f laws_szLockS.f
  rw [pw64 (by omega) (by omega)]
  by_cases h : 1048576 - (l0.length : Int) < 0
  · rw [if_pos h]
    simp
  · rw [if_neg h]
    simp only [Option.bind_some]
    have hx : (l0.map cpLock).length = l0.length := by simp
    have htl := fun k hk => toLockS_some l0 (by omega) k hk
    rw [if_neg h, htl (L + 1) (by omega)]
    simp only [Option.bind_some]
    obtain ⟨c, ys, hy, h1, h2⟩ := free_same (l0.map cpLock) a1 (by omega) K (by omega)
    have hex := fun k hk => eqLockS_same (l0.map cpLock) (by omega) k hk
    have hey := fun k hk => eqRes c ys hy k hk
    obtain ⟨m0, g1, _⟩ := mark_some (l0.map cpLock) (by omega) (L + 1) (by omega)
    obtain ⟨zs, g2, g3⟩ := mark_some ys hy L (by omega)
    have hd := heldRes c zs (1 + 3 * (ys.length : Int)) (by omega) L (g3 L (by omega))
    rw [h1 (L + 1) (by omega)]
    simp only [Option.bind_some]
    rw [h2 (L + 1) (by omega)]
    simp only [Option.bind_some]
    rw [hey (L + 1) (by omega), Option.bind_some, if_pos rfl, hex (L + 1) (by omega), Option.bind_some, if_pos rfl, g1]
    simp only [Option.bind_some]
    rw [if_neg (by omega)]
    simp only [laws_FnExactLockFree.j0, laws_markLockResult.f, Bool.not_true]
    rw [if_neg (by decide), g2]
    simp only [Option.bind_some]
    rw [hd]
    simp only [Option.bind_some, if_true]
    rw [if_neg (by omega), htl L (by omega)]
    simp only [Option.bind_some]
    rw [h2 L (by omega)]
    simp only [Option.bind_some]
    rw [hey L (by omega)]
    simp only [Option.bind_some, if_true]
    rw [if_neg (by omega)]

end Go.Proofs.Ytmggneijkhmigaa.Pure
