/- Proved: the pure form of FnExactLogFlushed: LogFlushed of the program answers as the reference at every log; it leaves the log alone, and its answer owns its memory. Conditions: none beyond the statement. -/
import Derived.Test.YtmggneijkhmigaaQFnExactLogFlushedx4
import Derived.Test.YtmggneijkhmigaaPureBase
import Derived.OpenShut
namespace Go.Proofs.Ytmggneijkhmigaa.Pure
open Go.RowKit Go.Proofs.Ytmggneijkhmigaa.QFnExactLogFlushed Go.Proofs.YtmggneijkhmigaaW.PrintWords Go.Proofs.YtmggneijkhmigaaW.PrintLast Go.Proofs.Ytmggneijkhmigaa.PureBase
set_option linter.unusedVariables false
set_option linter.unusedSimpArgs false

theorem toByteS_some (xs : List Int) (hn : xs.length ≤ 281474976710656) (k : Nat) (hk : xs.length < k) : laws_toByteS.f k xs = some xs := by
  unfold laws_toByteS.f
  rw [if_pos (by omega), if_pos (by rw [Int.toNat_natCast]; omega)]
  have := map_all (fun x : Int => x) (fun k ys i => laws_toByteS.l0 k xs ys i) xs 0
    (by
      intro k i ys h _ hl
      simp only [laws_toByteS.l0]
      rw [if_pos (by omega), if_pos (by omega), if_pos (by omega), pw64 (by omega) (by omega), rdN, getD_at xs i 0 h, Int.toNat_natCast])
    (by
      intro k ys _
      simp only [laws_toByteS.l0]
      rw [if_neg (by omega)]) k (List.replicate ((xs.length : Int)).toNat 0) (by simp) (by omega)
  simpa using this

theorem eqByteS_same (xs : List Int) (hn : xs.length ≤ 281474976710656) (k : Nat) (hk : xs.length < k) : laws_eqByteS.f k xs xs = some true := by
  unfold laws_eqByteS.f
  rw [if_pos rfl]
  exact end_go (fun k i => laws_eqByteS.l0 k xs xs i) xs.length 0 true
    (by
      intro k i h _
      simp only [laws_eqByteS.l0]
      rw [if_pos (by omega), if_pos (by omega), if_pos (by omega), pw64 (by omega) (by omega)]
      simp)
    (by
      intro k _
      simp only [laws_eqByteS.l0]
      rw [if_neg (by omega)]) xs.length k 0 (by omega) (by omega) (by omega)

/-- What marks leave: from k on. -/
def Marked (k : Int) (ys : List Int) : Prop := ∀ (i : Nat) (h : i < ys.length), ys[i] = (k + (i : Int)) % 256
theorem markByteS_go (n : Nat) (k0 : Int) (h0 : 0 ≤ k0) (h1 : k0 ≤ 4611686018427387904) (hn : n ≤ 140737488355328) (d : Nat) : ∀ (K i : Nat) (ys : List Int), ys.length = n → (∀ (j : Nat) (h : j < ys.length), j < i → ys[j] = (k0 + (j : Int)) % 256) → i ≤ n → n - i = d → d < K →
    ∃ zs, laws_markByteS.l0 K ys (k0 + (i : Int)) (i : Int) = some (k0 + (n : Int), zs) ∧ zs.length = n ∧ Marked k0 zs := by
  induction d with
  | zero =>
    intro K i ys hl hp hi hd hk
    obtain ⟨K, rfl⟩ : ∃ m, K = m + 1 := ⟨K - 1, by omega⟩
    simp only [laws_markByteS.l0]
    rw [if_neg (by omega)]
    obtain rfl : i = n := by omega
    exact ⟨ys, rfl, hl, fun j h => hp j h (by omega)⟩
  | succ d ih =>
    intro K i ys hl hp hi hd hk
    obtain ⟨K, rfl⟩ : ∃ m, K = m + 1 := ⟨K - 1, by omega⟩
    simp only [laws_markByteS.l0]
    rw [if_pos (by omega), if_pos (by omega), pw64 (x := k0 + (i : Int) + 1) (by omega) (by omega), pw64 (x := (i : Int) + 1) (by omega) (by omega), Int.toNat_natCast]
    obtain ⟨zs, h, h2, h3⟩ := ih K (i + 1) (ys.set i ((k0 + (i : Int)) % 256)) (by simp [hl]) (by
      intro j h hj
      rw [List.getElem_set]
      by_cases e : i = j
      · subst e
        rw [if_pos rfl]
      · rw [if_neg e]
        exact hp j (by simpa using h) (by omega)) (by omega) (by omega) (by omega)
    refine ⟨zs, ?_, h2, h3⟩
    rw [← h]
    congr 1
    omega
theorem heldByteS_go (ys : List Int) (k0 : Int) (h0 : 0 ≤ k0) (h1 : k0 ≤ 4611686018427387904) (hn : ys.length ≤ 140737488355328) (hm : Marked k0 ys) (d : Nat) : ∀ (K i : Nat), i ≤ ys.length → ys.length - i = d → d < K → laws_heldByteS.l0 K ys (k0 + (i : Int)) (i : Int) = some (k0 + (ys.length : Int)) := by
  induction d with
  | zero =>
    intro K i hi hd hk
    obtain ⟨K, rfl⟩ : ∃ m, K = m + 1 := ⟨K - 1, by omega⟩
    simp only [laws_heldByteS.l0]
    rw [if_neg (by omega)]
    obtain rfl : i = ys.length := by omega
    rfl
  | succ d ih =>
    intro K i hi hd hk
    obtain ⟨K, rfl⟩ : ∃ m, K = m + 1 := ⟨K - 1, by omega⟩
    have hil : i < ys.length := by omega
    simp only [laws_heldByteS.l0]
    rw [if_pos (by omega), if_pos (by omega), rdN, getD_at ys i 0 hil, if_pos (hm i hil), pw64 (x := k0 + (i : Int) + 1) (by omega) (by omega), pw64 (x := (i : Int) + 1) (by omega) (by omega)]
    have := ih K (i + 1) (by omega) (by omega) (by omega)
    rw [← this]
    congr 1
    omega
theorem markByteS_some (xs : List Int) (k0 : Int) (h0 : 0 ≤ k0) (h1 : k0 ≤ 4611686018427387904) (hn : xs.length ≤ 140737488355328) (K : Nat) (hK : xs.length < K) :
    ∃ zs, laws_markByteS.f K xs k0 = some (k0 + (xs.length : Int), zs) ∧ zs.length = xs.length ∧ ∀ K', xs.length < K' → laws_heldByteS.f K' zs k0 = some (k0 + (xs.length : Int)) := by
  obtain ⟨zs, h, h2, h3⟩ := markByteS_go xs.length k0 h0 h1 hn xs.length K 0 xs rfl (by intro j h hj; omega) (by omega) (by omega) hK
  refine ⟨zs, ?_, h2, fun K' hK' => ?_⟩
  · unfold laws_markByteS.f
    simpa using h
  · have := heldByteS_go zs k0 h0 h1 (by omega) h3 zs.length K' 0 (by omega) (by omega) (by omega)
    unfold laws_heldByteS.f
    rw [h2] at this
    simpa using this

theorem in_is (a b c : Int) : impl_in.f a b c = some (decide (b ≤ a ∧ a ≤ c)) := by
  unfold impl_in.f
  by_cases h : a ≥ b
  · rw [if_pos h]; congr 1; simp; omega
  · rw [if_neg h]; congr 1; simp; omega
theorem in_is' (a b c : Int) : spec_l4In.f a b c = some (decide (b ≤ a ∧ a ≤ c)) := in_is a b c
theorem fault_both (a b c d : Int) (l : List Int) (k : Nat) (hk : 0 < k) : ∃ r, spec_LogFault.f k a b c d l = some r ∧ impl_LogFault.f k a b c d l = some r := by
  obtain ⟨k, rfl⟩ : ∃ m, k = m + 1 := ⟨k - 1, by omega⟩
  unfold spec_LogFault.f impl_LogFault.f
  simp only [in_is, in_is', Option.bind_some, decide_eq_true_eq, spec_LogFault.j0, impl_LogFault.j0, if_true]
  by_cases h1 : 16 ≤ a ∧ a ≤ 800
  · by_cases h2 : 1 ≤ b ∧ b ≤ 4294967295
    · rw [if_pos h1, if_pos h2, if_pos h1, if_pos h2]
      by_cases h3 : d < 512
      · rw [if_pos h3, if_neg (by omega)]; exact ⟨_, rfl, rfl⟩
      · by_cases h4 : c < d
        · rw [if_neg h3, if_pos h4]
          refine ⟨_, rfl, ?_⟩
          split
          · rw [if_pos (by simp; omega)]
          · rfl
        · by_cases h5 : c > 1099511627776
          · rw [if_neg h3, if_neg h4, if_pos (by simpa using h5)]
            refine ⟨_, rfl, ?_⟩
            split
            · rw [if_pos (by simp; omega)]
            · rfl
          · rw [if_neg h3, if_neg h4, if_neg (by simpa using h5), if_pos (show 512 ≤ d ∧ d ≤ 1099511627776 by omega), if_neg (show ¬ (!decide (d ≤ c ∧ c ≤ 1099511627776)) = true by simp; omega)]
            split <;> exact ⟨_, rfl, rfl⟩
    · rw [if_pos h1, if_neg h2, if_pos h1, if_neg h2]; exact ⟨_, rfl, rfl⟩
  · rw [if_neg h1, if_neg h1]; exact ⟨_, rfl, rfl⟩

theorem fault_zero (a b c d : Int) (l : List Int) (k : Nat) (h : spec_LogFault.f (k + 1) a b c d l = some 0) : 512 ≤ d ∧ d ≤ c ∧ c ≤ 1099511627776 ∧ (l.length : Int) = c - d + d % 512 := by
  unfold spec_LogFault.f at h
  simp only [in_is', Option.bind_some, decide_eq_true_eq, spec_LogFault.j0, if_true] at h
  by_cases h1 : 16 ≤ a ∧ a ≤ 800
  · by_cases h2 : 1 ≤ b ∧ b ≤ 4294967295
    · rw [if_pos h1, if_pos h2] at h
      by_cases h3 : d < 512
      · rw [if_pos h3] at h; simp at h
      · by_cases h4 : c < d
        · rw [if_neg h3, if_pos h4] at h; simp at h
        · by_cases h5 : c > 1099511627776
          · rw [if_neg h3, if_neg h4, if_pos (by simpa using h5)] at h; simp at h
          · rw [if_neg h3, if_neg h4, if_neg (by simpa using h5), Int.tmod_eq_emod_of_nonneg (by omega), pw64 (x := c - d) (by omega) (by omega), pw64 (by omega) (by omega)] at h
            split at h
            · rename_i he
              exact ⟨by omega, by omega, by omega, he⟩
            · simp at h
    · rw [if_pos h1, if_neg h2] at h; simp at h
  · rw [if_neg h1] at h; simp at h

theorem eqLog_same (a b c d : Int) (l : List Int) (hn : l.length ≤ 281474976710656) (k : Nat) (hk : l.length < k) : laws_eqLog.f k a b c d l a b c d l = some true := by
  unfold laws_eqLog.f
  rw [if_pos rfl, if_pos rfl, if_pos rfl, if_pos rfl, eqByteS_same l hn k hk]
  rfl

theorem both (a b c d : Int) (l : List Int) (hn : l.length ≤ 1048576) (k : Nat) (hk : 0 < k) : ∃ a' b' c' d' l', l'.length ≤ 1048576 ∧ spec_LogFlushed.f k a b c d l = some (a', b', c', d', l') ∧ impl_LogFlushed.f k a b c d l = some (a', b', c', d', l') := by
  obtain ⟨k, rfl⟩ : ∃ m, k = m + 1 := ⟨k - 1, by omega⟩
  obtain ⟨r, h1, h2⟩ := fault_both a b c d l (k + 1) (by omega)
  unfold spec_LogFlushed.f impl_LogFlushed.f spec_l1Copy.f slices_Clone_byte_byte.f
  rw [h1, h2]
  simp only [Option.bind_some]
  by_cases h : r = 0
  · subst h
    obtain ⟨g1, g2, g3, g4⟩ := fault_zero a b c d l k h1
    rw [Int.tmod_eq_emod_of_nonneg (by omega), pw64 (by omega) (by omega)]
    have z0 : 0 ≤ (l.length : Int) - c % 512 := by omega
    have z1 : (l.length : Int) - c % 512 ≤ (l.length : Int) := by omega
    have z2 : ([] : List Int).length + (l.drop ((l.length : Int) - c % 512).toNat).length < 140737488355328 := by simp; omega
    simp only [if_true, if_pos z0, if_pos z1, if_pos z2, Option.bind_some, List.nil_append]
    exact ⟨_, _, _, _, _, by simp; omega, rfl, rfl⟩
  · simp only [if_neg h]
    exact ⟨_, _, _, _, _, by simp, rfl, rfl⟩

theorem FnExactLogFlushed (a0_0 : Int) (a0_1 : Int) (a0_2 : Int) (a0_3 : Int) (l0_4 : (List Int)) (w0_0 : (Lit.int .i64 a0_0).wf = true) (w0_1 : (Lit.int .i64 a0_1).wf = true) (w0_2 : (Lit.int .i64 a0_2).wf = true) (w0_3 : (Lit.int .i64 a0_3).wf = true) (w0_4 : l0_4.length ≤ maxLen ∧ ∀ y0 ∈ l0_4, (Lit.int .u8 y0).wf = true) : ∃ k, laws_FnExactLogFlushed.f k a0_0 a0_1 a0_2 a0_3 l0_4 = some true := by
  have hm : l0_4.length ≤ 9223372036854775807 := w0_4.1
  obtain ⟨K, hK⟩ : ∃ K, K = l0_4.length + 1048580 := ⟨_, rfl⟩
  refine ⟨K, ?_⟩
  unfold laws_FnExactLogFlushed.f laws_szLog.f laws_szByteS.f laws_toLog.f
  rw [pw64 (by omega) (by omega)]
  by_cases h : 1048576 - (l0_4.length : Int) < 0
  · rw [if_pos h]
    simp
  · rw [if_neg h]
    simp only [Option.bind_some]
    rw [if_neg h]
    simp only [Option.bind_some]
    rw [if_neg h, toByteS_some l0_4 (by omega) _ (by omega)]
    simp only [Option.bind_some]
    obtain ⟨a', b', c', d', l', hl, h1, h2⟩ := both a0_0 a0_1 a0_2 a0_3 l0_4 (by omega) K (by omega)
    rw [h1, h2]
    simp only [Option.bind_some]
    rw [eqLog_same _ _ _ _ _ (by omega) _ (by omega), eqLog_same _ _ _ _ _ (by omega) _ (by omega)]
    simp only [Option.bind_some, if_true]
    obtain ⟨zs, g1, g2, g3⟩ := markByteS_some l0_4 1 (by omega) (by omega) (by omega) K (by omega)
    unfold laws_markLog.f
    rw [g1]
    simp only [Option.bind_some]
    rw [if_neg (by omega)]
    obtain ⟨K, rfl⟩ : ∃ m, K = m + 1 := ⟨K - 1, by omega⟩
    obtain ⟨b1, b2, b3, b4, b5, hl', e1, e2⟩ := both a0_0 a0_1 a0_2 a0_3 l0_4 (by omega) K (by omega)
    have em := spec_LogFlushed.mono a0_0 a0_1 a0_2 a0_3 l0_4 K _ e1
    rw [h1] at em
    obtain ⟨rfl, rfl, rfl, rfl, rfl⟩ : a' = b1 ∧ b' = b2 ∧ c' = b3 ∧ d' = b4 ∧ l' = b5 := by simpa using em
    obtain ⟨ys, m1, m2, m3⟩ := markByteS_some l' 1 (by omega) (by omega) (by omega) K (by omega)
    simp only [laws_FnExactLogFlushed.j0, Bool.not_true, Bool.false_eq_true, if_false]
    unfold laws_markLog.f laws_heldLog.f laws_toLog.f
    rw [m1]
    simp only [Option.bind_some]
    rw [m3 K (by omega)]
    simp only [Option.bind_some]
    rw [if_neg (by omega)]
    simp only [Option.bind_some]
    rw [if_neg (by omega)]
    simp only [if_true]
    rw [toByteS_some l0_4 (by omega) _ (by omega)]
    simp only [Option.bind_some, e2]
    rw [eqLog_same _ _ _ _ _ (by omega) _ (by omega)]
    simp only [Option.bind_some, if_true]
    rw [if_neg (by omega)]

end Go.Proofs.Ytmggneijkhmigaa.Pure
