/- Proved: the pure form of FnExactLogFlushOps: LogFlushOps of the program answers as the reference at every log; it leaves the log alone, and its answer owns its memory. Conditions: none beyond the statement. -/
import Derived.Test.YtjkhmagnlaijhaaQFnExactLogFlushOpsx6
import Derived.Test.YtjkhmagnlaijhaaPureBase
import Derived.OpenShut
namespace Go.Proofs.Ytjkhmagnlaijhaa.Pure
open Go.RowKit Go.Proofs.Ytjkhmagnlaijhaa.QFnExactLogFlushOps Go.Proofs.YtjkhmagnlaijhaaW.PrintWords Go.Proofs.YtjkhmagnlaijhaaW.PrintLast Go.Proofs.Ytjkhmagnlaijhaa.PureBase
set_option linter.unusedVariables false
set_option linter.unusedSimpArgs false

theorem toByteS_some (xs : List Int) (hn : xs.length ≤ 281474976710656) (k : Nat) (hk : xs.length < k) : laws_toByteS.f k xs = some xs := by
  unfold laws_toByteS.f
  rw [if_pos (by omega), if_pos (by rw [Int.toNat_natCast]; omega)]
  have := map_all (fun x : Int => x) (fun k ys i => laws_toByteS.l0 k xs ys i) xs 0
    (by
      intro k i ys h _ hl
      simp only [laws_toByteS.l0]
      rw [if_pos (by omega), if_pos (by omega), if_pos (by omega), pw64 (by omega) (by omega), rdN, getD_at xs i 0 h, Int.toNat_natCast])
    (by
      intro k ys _
      simp only [laws_toByteS.l0]
      rw [if_neg (by omega)]) k (List.replicate ((xs.length : Int)).toNat 0) (by simp) (by omega)
  simpa using this

theorem eqByteS_same (xs : List Int) (hn : xs.length ≤ 281474976710656) (k : Nat) (hk : xs.length < k) : laws_eqByteS.f k xs xs = some true := by
  unfold laws_eqByteS.f
  rw [if_pos rfl]
  exact end_go (fun k i => laws_eqByteS.l0 k xs xs i) xs.length 0 true
    (by
      intro k i h _
      simp only [laws_eqByteS.l0]
      rw [if_pos (by omega), if_pos (by omega), if_pos (by omega), pw64 (by omega) (by omega)]
      simp)
    (by
      intro k _
      simp only [laws_eqByteS.l0]
      rw [if_neg (by omega)]) xs.length k 0 (by omega) (by omega) (by omega)

/-- What marks leave: from k on. -/
def Marked (k : Int) (ys : List Int) : Prop := ∀ (i : Nat) (h : i < ys.length), ys[i] = (k + (i : Int)) % 256
theorem markByteS_go (n : Nat) (k0 : Int) (h0 : 0 ≤ k0) (h1 : k0 ≤ 4611686018427387904) (hn : n ≤ 140737488355328) (d : Nat) : ∀ (K i : Nat) (ys : List Int), ys.length = n → (∀ (j : Nat) (h : j < ys.length), j < i → ys[j] = (k0 + (j : Int)) % 256) → i ≤ n → n - i = d → d < K →
    ∃ zs, laws_markByteS.l0 K ys (k0 + (i : Int)) (i : Int) = some (k0 + (n : Int), zs) ∧ zs.length = n ∧ Marked k0 zs := by
  induction d with
  | zero =>
    intro K i ys hl hp hi hd hk
    obtain ⟨K, rfl⟩ : ∃ m, K = m + 1 := ⟨K - 1, by omega⟩
    simp only [laws_markByteS.l0]
    rw [if_neg (by omega)]
    obtain rfl : i = n := by omega
    exact ⟨ys, rfl, hl, fun j h => hp j h (by omega)⟩
  | succ d ih =>
    intro K i ys hl hp hi hd hk
    obtain ⟨K, rfl⟩ : ∃ m, K = m + 1 := ⟨K - 1, by omega⟩
    simp only [laws_markByteS.l0]
    rw [if_pos (by omega), if_pos (by omega), pw64 (x := k0 + (i : Int) + 1) (by omega) (by omega), pw64 (x := (i : Int) + 1) (by omega) (by omega), Int.toNat_natCast]
    obtain ⟨zs, h, h2, h3⟩ := ih K (i + 1) (ys.set i ((k0 + (i : Int)) % 256)) (by simp [hl]) (by
      intro j h hj
      rw [List.getElem_set]
      by_cases e : i = j
      · subst e
        rw [if_pos rfl]
      · rw [if_neg e]
        exact hp j (by simpa using h) (by omega)) (by omega) (by omega) (by omega)
    refine ⟨zs, ?_, h2, h3⟩
    rw [← h]
    congr 1
    omega
theorem heldByteS_go (ys : List Int) (k0 : Int) (h0 : 0 ≤ k0) (h1 : k0 ≤ 4611686018427387904) (hn : ys.length ≤ 140737488355328) (hm : Marked k0 ys) (d : Nat) : ∀ (K i : Nat), i ≤ ys.length → ys.length - i = d → d < K → laws_heldByteS.l0 K ys (k0 + (i : Int)) (i : Int) = some (k0 + (ys.length : Int)) := by
  induction d with
  | zero =>
    intro K i hi hd hk
    obtain ⟨K, rfl⟩ : ∃ m, K = m + 1 := ⟨K - 1, by omega⟩
    simp only [laws_heldByteS.l0]
    rw [if_neg (by omega)]
    obtain rfl : i = ys.length := by omega
    rfl
  | succ d ih =>
    intro K i hi hd hk
    obtain ⟨K, rfl⟩ : ∃ m, K = m + 1 := ⟨K - 1, by omega⟩
    have hil : i < ys.length := by omega
    simp only [laws_heldByteS.l0]
    rw [if_pos (by omega), if_pos (by omega), rdN, getD_at ys i 0 hil, if_pos (hm i hil), pw64 (x := k0 + (i : Int) + 1) (by omega) (by omega), pw64 (x := (i : Int) + 1) (by omega) (by omega)]
    have := ih K (i + 1) (by omega) (by omega) (by omega)
    rw [← this]
    congr 1
    omega
theorem markByteS_some (xs : List Int) (k0 : Int) (h0 : 0 ≤ k0) (h1 : k0 ≤ 4611686018427387904) (hn : xs.length ≤ 140737488355328) (K : Nat) (hK : xs.length < K) :
    ∃ zs, laws_markByteS.f K xs k0 = some (k0 + (xs.length : Int), zs) ∧ zs.length = xs.length ∧ ∀ K', xs.length < K' → laws_heldByteS.f K' zs k0 = some (k0 + (xs.length : Int)) := by
  obtain ⟨zs, h, h2, h3⟩ := markByteS_go xs.length k0 h0 h1 hn xs.length K 0 xs rfl (by intro j h hj; omega) (by omega) (by omega) hK
  refine ⟨zs, ?_, h2, fun K' hK' => ?_⟩
  · unfold laws_markByteS.f
    simpa using h
  · have := heldByteS_go zs k0 h0 h1 (by omega) h3 zs.length K' 0 (by omega) (by omega) (by omega)
    unfold laws_heldByteS.f
    rw [h2] at this
    simpa using this

theorem in_is (a b c : Int) : impl_in.f a b c = some (decide (b ≤ a ∧ a ≤ c)) := by
  unfold impl_in.f
  by_cases h : a ≥ b
  · rw [if_pos h]; congr 1; simp; omega
  · rw [if_neg h]; congr 1; simp; omega
theorem in_is' (a b c : Int) : spec_l4In.f a b c = some (decide (b ≤ a ∧ a ≤ c)) := in_is a b c

theorem w_succ (i : Nat) (h : i ≤ 4611686018427387904) : wrap64 ((i : Int) + 1) = ((i + 1 : Nat) : Int) := by rw [pw64 (by omega) (by omega)]; omega
theorem w_k1 (i : Nat) (h : i ≤ 4611686018427387904) : wrap64 ((i : Int) + 1) = (i : Int) + 1 := pw64 (by omega) (by omega)
theorem w_k2 (i : Nat) (h : i ≤ 4611686018427387904) : wrap64 ((i : Int) + 1 + 1) = (i : Int) + 2 := by rw [pw64 (by omega) (by omega)]; omega
theorem w_mul (i : Nat) (h : i ≤ 1048576) : wrap64 ((i : Int) * 512) = ((i * 512 : Nat) : Int) := by rw [pw64 (by omega) (by omega)]; omega
theorem fault_both (a b c d : Int) (l : List Int) (k : Nat) (hk : 0 < k) : ∃ r, spec_LogFault.f k a b c d l = some r ∧ impl_LogFault.f k a b c d l = some r := by
  obtain ⟨k, rfl⟩ : ∃ m, k = m + 1 := ⟨k - 1, by omega⟩
  unfold spec_LogFault.f impl_LogFault.f
  simp only [in_is, in_is', Option.bind_some, decide_eq_true_eq, spec_LogFault.j0, impl_LogFault.j0, if_true]
  by_cases h1 : 16 ≤ a ∧ a ≤ 800
  · by_cases h2 : 1 ≤ b ∧ b ≤ 4294967295
    · rw [if_pos h1, if_pos h2, if_pos h1, if_pos h2]
      by_cases h3 : d < 512
      · rw [if_pos h3, if_neg (by omega)]; exact ⟨_, rfl, rfl⟩
      · by_cases h4 : c < d
        · rw [if_neg h3, if_pos h4]
          refine ⟨_, rfl, ?_⟩
          split
          · rw [if_pos (by simp; omega)]
          · rfl
        · by_cases h5 : c > 1099511627776
          · rw [if_neg h3, if_neg h4, if_pos (by simpa using h5)]
            refine ⟨_, rfl, ?_⟩
            split
            · rw [if_pos (by simp; omega)]
            · rfl
          · rw [if_neg h3, if_neg h4, if_neg (by simpa using h5), if_pos (show 512 ≤ d ∧ d ≤ 1099511627776 by omega), if_neg (show ¬ (!decide (d ≤ c ∧ c ≤ 1099511627776)) = true by simp; omega)]
            split <;> exact ⟨_, rfl, rfl⟩
    · rw [if_pos h1, if_neg h2, if_pos h1, if_neg h2]; exact ⟨_, rfl, rfl⟩
  · rw [if_neg h1, if_neg h1]; exact ⟨_, rfl, rfl⟩

theorem fault_zero (a b c d : Int) (l : List Int) (k : Nat) (h : spec_LogFault.f (k + 1) a b c d l = some 0) : 512 ≤ d ∧ d ≤ c ∧ c ≤ 1099511627776 ∧ (l.length : Int) = c - d + d % 512 := by
  unfold spec_LogFault.f at h
  simp only [in_is', Option.bind_some, decide_eq_true_eq, spec_LogFault.j0, if_true] at h
  by_cases h1 : 16 ≤ a ∧ a ≤ 800
  · by_cases h2 : 1 ≤ b ∧ b ≤ 4294967295
    · rw [if_pos h1, if_pos h2] at h
      by_cases h3 : d < 512
      · rw [if_pos h3] at h; simp at h
      · by_cases h4 : c < d
        · rw [if_neg h3, if_pos h4] at h; simp at h
        · by_cases h5 : c > 1099511627776
          · rw [if_neg h3, if_neg h4, if_pos (by simpa using h5)] at h; simp at h
          · rw [if_neg h3, if_neg h4, if_neg (by simpa using h5), Int.tmod_eq_emod_of_nonneg (by omega), pw64 (x := c - d) (by omega) (by omega), pw64 (by omega) (by omega)] at h
            split at h
            · rename_i he
              exact ⟨by omega, by omega, by omega, he⟩
            · simp at h
    · rw [if_pos h1, if_neg h2] at h; simp at h
  · rw [if_neg h1] at h; simp at h

theorem eqLog_same (a b c d : Int) (l : List Int) (hn : l.length ≤ 281474976710656) (k : Nat) (hk : l.length < k) : laws_eqLog.f k a b c d l a b c d l = some true := by
  unfold laws_eqLog.f
  rw [if_pos rfl, if_pos rfl, if_pos rfl, if_pos rfl, eqByteS_same l hn k hk]
  rfl

theorem rd84_at (xs : List S84) (i : Nat) (h : i < xs.length) : rd_T84 xs (i : Int) = xs[i] := by
  unfold rd_T84
  rw [Int.toNat_natCast]
  exact getD_at xs i z84 h
theorem rdset (xs : List S84) (i : Nat) (v : S84) (h : i < xs.length) : rd_T84 (xs.set i v) (i : Int) = v := by
  rw [rd84_at (xs.set i v) i (by simpa using h)]
  simp
def Short (xs : List S84) : Prop := ∀ (i : Nat) (h : i < xs.length), (xs[i]).f2.length ≤ 512
def pre (xs : List S84) : Nat → Nat
  | 0 => 1
  | i + 1 => pre xs i + (2 + (xs.getD i z84).f2.length)
theorem pre_succ (xs : List S84) (i : Nat) (h : i < xs.length) : pre xs (i + 1) = pre xs i + (2 + (xs[i]).f2.length) := by
  simp only [pre]
  rw [getD_at xs i z84 h]
theorem pre_le (xs : List S84) (hs : Short xs) : ∀ i, i ≤ xs.length → pre xs i ≤ 1 + i * 514
  | 0, _ => by simp [pre]
  | i + 1, h => by
    have h1 := pre_le xs hs i (by omega)
    have h2 := hs i (by omega)
    rw [pre_succ xs i (by omega)]
    omega
theorem eqOpS_same (xs : List S84) (hn : xs.length ≤ 1048576) (hs : Short xs) (k : Nat) (hk : xs.length + 513 < k) : laws_eqOpS.f k xs xs = some true := by
  unfold laws_eqOpS.f
  rw [if_pos rfl]
  exact end_go (fun k i => laws_eqOpS.l0 k xs xs i) xs.length 513 true
    (by
      intro k i h hK
      have hb := hs i h
      simp only [laws_eqOpS.l0, laws_eqOp.f]
      rw [if_pos (by omega), if_pos (by omega), if_pos (by omega), rd84_at xs i h, eqByteS_same _ (by omega) k (by omega), pw64 (by omega) (by omega)]
      simp)
    (by
      intro k _
      simp only [laws_eqOpS.l0]
      rw [if_neg (by omega)]) xs.length k 0 (by omega) (by omega) (by omega)
def HeldAt (y : S84) (k : Int) : Prop := y.f0 = k ∧ y.f1 = k + 1 ∧ ∀ K, y.f2.length < K → laws_heldByteS.f K y.f2 (k + 2) = some (k + 2 + (y.f2.length : Int))
theorem mark_go (xs : List S84) (hn : xs.length ≤ 1048576) (hs : Short xs) (d : Nat) : ∀ (K i : Nat) (cur : List S84), cur.length = xs.length → (∀ (j : Nat) (h : j < cur.length) (h2 : j < xs.length), (cur[j]).f2.length = (xs[j]).f2.length) → (∀ (j : Nat) (h : j < cur.length), j < i → HeldAt cur[j] (pre xs j : Int)) → i ≤ xs.length → xs.length - i = d → d + 513 < K →
    ∃ zs, laws_markOpS.l0 K cur (pre xs i : Int) (i : Int) = some ((pre xs xs.length : Int), zs) ∧ zs.length = xs.length ∧ (∀ (j : Nat) (h : j < zs.length) (h2 : j < xs.length), (zs[j]).f2.length = (xs[j]).f2.length) ∧ ∀ (j : Nat) (h : j < zs.length), HeldAt zs[j] (pre xs j : Int) := by
  induction d with
  | zero =>
    intro K i cur hl hlen hp hi hd hk
    obtain ⟨K, rfl⟩ : ∃ m, K = m + 1 := ⟨K - 1, by omega⟩
    simp only [laws_markOpS.l0]
    rw [if_neg (by omega)]
    obtain rfl : i = xs.length := by omega
    exact ⟨cur, rfl, hl, hlen, fun j h => hp j h (by omega)⟩
  | succ d ih =>
    intro K i cur hl hlen hp hi hd hk
    obtain ⟨K, rfl⟩ : ∃ m, K = m + 1 := ⟨K - 1, by omega⟩
    have hil : i < xs.length := by omega
    have hic : i < cur.length := by omega
    have hb := hs i hil
    have hle := hlen i hic hil
    have hpre := pre_le xs hs i (by omega)
    have hps := pre_succ xs i hil
    obtain ⟨zs', g1, g2, g3⟩ := markByteS_some (cur[i]).f2 ((pre xs i : Int) + 2) (by omega) (by omega) (by omega) K (by omega)
    have hnext : (pre xs i : Int) + 2 + ((cur[i]).f2.length : Int) = ((pre xs (i + 1) : Nat) : Int) := by rw [hps, hle]; omega
    have hrec := ih K (i + 1) (cur.set i ⟨(pre xs i : Int), (pre xs i : Int) + 1, zs'⟩) (by simp [hl])
      (by
        intro j h h2
        rw [List.getElem_set]
        by_cases e : i = j
        · subst e
          rw [if_pos rfl]
          show zs'.length = _
          rw [g2, hle]
        · rw [if_neg e]
          exact hlen j (by simpa using h) h2)
      (by
        intro j h hj
        rw [List.getElem_set]
        by_cases e : i = j
        · subst e
          rw [if_pos rfl]
          refine ⟨rfl, rfl, fun K' hK' => ?_⟩
          show laws_heldByteS.f K' zs' _ = some (_ + ((zs'.length : Nat) : Int))
          rw [g3 K' (by rw [← g2]; exact hK'), g2]
        · rw [if_neg e]
          exact hp j (by simpa using h) (by omega)) (by omega) (by omega) (by omega)
    obtain ⟨zs, h, h2, h3, h4⟩ := hrec
    refine ⟨zs, ?_, h2, h3, h4⟩
    rw [← h]
    simp only [laws_markOpS.l0, Option.bind_some, Int.toNat_natCast]
    rw [if_pos (by omega), if_pos (by omega)]
    rw [w_succ i (by omega), w_k1 (pre xs i) (by omega), w_k2 (pre xs i) (by omega)]
    simp only [rdset _ i _ hic, rdset (cur.set i _) i _ (by simpa using hic), List.set_set]
    rw [rd84_at cur i hic, g1]
    simp only [Option.bind_some]
    rw [hnext]
theorem held_go (xs zs : List S84) (hl : zs.length = xs.length) (hn : xs.length ≤ 1048576) (hs : Short xs) (hlen : ∀ (j : Nat) (h : j < zs.length) (h2 : j < xs.length), (zs[j]).f2.length = (xs[j]).f2.length) (hh : ∀ (j : Nat) (h : j < zs.length), HeldAt zs[j] (pre xs j : Int)) (d : Nat) : ∀ (K i : Nat), i ≤ xs.length → xs.length - i = d → d + 513 < K →
    laws_heldOpS.l0 K zs (pre xs i : Int) (i : Int) = some (pre xs xs.length : Int) := by
  induction d with
  | zero =>
    intro K i hi hd hk
    obtain ⟨K, rfl⟩ : ∃ m, K = m + 1 := ⟨K - 1, by omega⟩
    simp only [laws_heldOpS.l0]
    rw [if_neg (by omega)]
    obtain rfl : i = xs.length := by omega
    rfl
  | succ d ih =>
    intro K i hi hd hk
    obtain ⟨K, rfl⟩ : ∃ m, K = m + 1 := ⟨K - 1, by omega⟩
    have hil : i < xs.length := by omega
    have hiz : i < zs.length := by omega
    have hb := hs i hil
    have hle := hlen i hiz hil
    have hpre := pre_le xs hs i (by omega)
    have hps := pre_succ xs i hil
    obtain ⟨f0, f1, f2⟩ := hh i hiz
    have hf2 := f2 K (by omega)
    have hnext : (pre xs i : Int) + 2 + ((zs[i]).f2.length : Int) = ((pre xs (i + 1) : Nat) : Int) := by rw [hps, hle]; omega
    have hrec := ih K (i + 1) (by omega) (by omega) (by omega)
    rw [← hrec]
    simp only [laws_heldOpS.l0]
    rw [if_pos (by omega), if_pos (by omega), rd84_at zs i hiz, f0, f1, w_succ i (by omega), w_k1 (pre xs i) (by omega), w_k2 (pre xs i) (by omega)]
    rw [if_pos rfl, if_pos rfl, hf2, hnext]
    simp only [Option.bind_some]
    rw [if_neg (by omega)]
theorem markOps_some (xs : List S84) (hn : xs.length ≤ 1048576) (hs : Short xs) (K : Nat) (hK : xs.length + 513 < K) :
    ∃ (zs : List S84) (m : Int), 0 ≤ m ∧ laws_markOpS.f K xs 1 = some (m, zs) ∧ ∀ K', xs.length + 513 < K' → laws_heldOpS.f K' zs 1 = some m := by
  obtain ⟨zs, h, h2, h3, h4⟩ := mark_go xs hn hs xs.length K 0 xs rfl (fun _ _ _ => rfl) (by intro j h hj; omega) (by omega) (by omega) hK
  exact ⟨zs, _, by omega, h, fun K' hK' => held_go xs zs h2 hn hs h3 h4 xs.length K' 0 (by omega) (by omega) hK'⟩

theorem copy_is (l : List Int) (h : l.length ≤ 1048576) : spec_l1Copy.f l = some l := by
  unfold spec_l1Copy.f
  simp only [Option.bind_some, List.length_nil, Nat.zero_add, List.nil_append]
  rw [if_pos (by omega)]

def placeOf (s x : Int) : Int := (impl_LogPlace.f s x).getD 0
theorem place_is (s x : Int) : impl_LogPlace.f s x = some (placeOf s x) := by
  have h : ∃ r, impl_LogPlace.f s x = some r := by
    unfold impl_LogPlace.f
    rw [in_is, in_is]
    simp only [Option.bind_some, decide_eq_true_eq]
    by_cases h1 : 16 ≤ s ∧ s ≤ 800
    · rw [if_pos h1]
      by_cases h2 : 512 ≤ x ∧ x ≤ 1099511627776
      · rw [if_pos h2, if_neg (by omega)]
        exact ⟨_, rfl⟩
      · rw [if_neg h2]
        exact ⟨_, rfl⟩
    · rw [if_neg h1]
      exact ⟨_, rfl⟩
  obtain ⟨r, h⟩ := h
  unfold placeOf
  rw [h]
  rfl
theorem place_spec (s x : Int) : spec_LogPlace.f s x = some (placeOf s x) := place_is s x
def blockOf (l : List Int) (j : Nat) : List Int := Copy.over (List.replicate 512 0) (l.drop (j * 512))
theorem block_len (l : List Int) (j : Nat) : (blockOf l j).length = 512 := by unfold blockOf; rw [Copy.over_length, List.length_replicate]
def opsTo (l : List Int) (s base : Int) (i : Nat) : List S84 := (List.range i).map fun (j : Nat) => ⟨1, placeOf s (base + ((j * 512 : Nat) : Int)), blockOf l j⟩
theorem opsTo_len (l : List Int) (s base : Int) (i : Nat) : (opsTo l s base i).length = i := by simp [opsTo]
theorem opsTo_succ (l : List Int) (s base : Int) (i : Nat) : opsTo l s base i ++ [⟨1, placeOf s (base + ((i * 512 : Nat) : Int)), blockOf l i⟩] = opsTo l s base (i + 1) := by
  unfold opsTo
  rw [List.range_succ, List.map_append]
  rfl
def allOps (l : List Int) (s base : Int) (m : Nat) : List S84 := opsTo l s base m ++ [⟨2, 0, []⟩]
theorem short_mem (xs : List S84) (h : ∀ x ∈ xs, x.f2.length ≤ 512) : Short xs := fun i hi => h _ (List.getElem_mem hi)
theorem allOps_short (l : List Int) (s base : Int) (m : Nat) : Short (allOps l s base m) := by
  refine short_mem _ (fun x hx => ?_)
  unfold allOps at hx
  rcases List.mem_append.1 hx with h | h
  · unfold opsTo at h
    obtain ⟨j, _, rfl⟩ := List.mem_map.1 h
    show (blockOf l j).length ≤ 512
    rw [block_len]
    omega
  · rw [List.mem_singleton.1 h]
    simp
theorem block_is (l : List Int) (m j : Nat) (hm : m = (l.length + 511) / 512) (hj : j < m) : ((l ++ List.replicate (m * 512 - l.length) (0 : Int)).drop (j * 512)).take 512 = blockOf l j := by
  have h1 : j * 512 ≤ l.length := by omega
  unfold blockOf Copy.over
  rw [List.drop_append_of_le_length h1, List.take_append, List.length_replicate, List.take_replicate, List.drop_replicate, List.length_drop]
  congr 2
  omega
theorem pad_go (l : List Int) (m : Nat) (hm : m = (l.length + 511) / 512) (h0 : 0 < l.length) (hn : l.length ≤ 1048576) (ops : List S84) (x a b c d : Int) (t : List Int) (e : Nat) : ∀ (K q : Nat), q + e = m * 512 - l.length → spec_LogFlushOps.l1 (K + e) ops (l ++ List.replicate q 0) x a b c d t = spec_LogFlushOps.l1 K ops (l ++ List.replicate (m * 512 - l.length) 0) x a b c d t := by
  induction e with
  | zero =>
    intro K q hq
    rw [show q = m * 512 - l.length by omega]
    rfl
  | succ e ih =>
    intro K q hq
    rw [← ih K (q + 1) (by omega)]
    have hlen : (l ++ List.replicate q (0 : Int)).length = l.length + q := by simp
    rw [show K + (e + 1) = (K + e) + 1 by omega]
    rw [spec_LogFlushOps.l1]
    rw [if_neg (by rw [hlen]; omega), if_pos (by rw [hlen]; omega), List.append_assoc, ← List.replicate_succ']
theorem one_block (l : List Int) (m i : Nat) (hm : m = (l.length + 511) / 512) (hi : i < m) (hn : l.length ≤ 1048576) (s base b c d : Int) (hb0 : 0 ≤ base) (hb1 : base ≤ 1099511627776) (t : List Int) (K : Nat) :
    spec_LogFlushOps.l1 (K + 1) (opsTo l s base i) ((l ++ List.replicate (m * 512 - l.length) 0).drop (i * 512)) (base + ((i * 512 : Nat) : Int)) s b c d t = spec_LogFlushOps.l0 K (opsTo l s base (i + 1)) ((l ++ List.replicate (m * 512 - l.length) 0).drop ((i + 1) * 512)) (base + (((i + 1) * 512 : Nat) : Int)) s b c d t := by
  have hlen : ((l ++ List.replicate (m * 512 - l.length) (0 : Int)).drop (i * 512)).length = (m - i) * 512 := by
    rw [List.length_drop, List.length_append, List.length_replicate]
    omega
  have hol := opsTo_len l s base i
  have hblk := block_is l m i hm hi
  rw [spec_LogFlushOps.l1]
  rw [if_pos (by rw [hlen]; omega), place_spec, Option.bind_some, if_pos (by rw [hlen]; omega), hblk, copy_is _ (by rw [block_len]; omega), Option.bind_some, if_pos (by omega), opsTo_succ, List.drop_drop, pw64 (x := base + ((i * 512 : Nat) : Int) + 512) (by omega) (by omega)]
  have e1 : i * 512 + (512 : Int).toNat = (i + 1) * 512 := by show i * 512 + 512 = _; omega
  have e2 : base + ((i * 512 : Nat) : Int) + 512 = base + (((i + 1) * 512 : Nat) : Int) := by omega
  rw [e1, e2]
theorem spec_go (l : List Int) (m : Nat) (hm : m = (l.length + 511) / 512) (hn : l.length ≤ 1048576) (s base b c d : Int) (hb0 : 0 ≤ base) (hb1 : base ≤ 1099511627776) (t : List Int) (e : Nat) : ∀ (K i : Nat), i ≤ m → m - i = e → 2 * e < K →
    spec_LogFlushOps.l0 K (opsTo l s base i) ((l ++ List.replicate (m * 512 - l.length) 0).drop (i * 512)) (base + ((i * 512 : Nat) : Int)) s b c d t = some (allOps l s base m) := by
  induction e with
  | zero =>
    intro K i hi he hk
    obtain ⟨K, rfl⟩ : ∃ x, K = x + 1 := ⟨K - 1, by omega⟩
    obtain rfl : i = m := by omega
    have hol := opsTo_len l s base i
    have hlen : ((l ++ List.replicate (i * 512 - l.length) (0 : Int)).drop (i * 512)).length = 0 := by
      rw [List.length_drop, List.length_append, List.length_replicate]
      omega
    rw [spec_LogFlushOps.l0]
    rw [if_neg (by rw [hlen]; omega), if_pos (by omega)]
    rfl
  | succ e ih =>
    intro K i hi he hk
    obtain ⟨K, rfl⟩ : ∃ x, K = x + 2 := ⟨K - 2, by omega⟩
    have hlen : ((l ++ List.replicate (m * 512 - l.length) (0 : Int)).drop (i * 512)).length = (m - i) * 512 := by
      rw [List.length_drop, List.length_append, List.length_replicate]
      omega
    rw [spec_LogFlushOps.l0]
    rw [if_pos (by rw [hlen]; omega), one_block l m i hm (by omega) hn s base b c d hb0 hb1 t K]
    exact ih K (i + 1) (by omega) (by omega) (by omega)
theorem spec_all (l : List Int) (hn : l.length ≤ 1048576) (s base b c d : Int) (hb0 : 0 ≤ base) (hb1 : base ≤ 1099511627776) (t : List Int) (K : Nat) (hK : 9000 < K) : spec_LogFlushOps.l0 K [] l base s b c d t = some (allOps l s base ((l.length + 511) / 512)) := by
  obtain ⟨m, hm⟩ : ∃ m, m = (l.length + 511) / 512 := ⟨_, rfl⟩
  rw [← hm]
  by_cases h0 : 0 < l.length
  · obtain ⟨K, rfl⟩ : ∃ x, K = (x + 1 + (m * 512 - l.length)) + 1 := ⟨K - 2 - (m * 512 - l.length), by omega⟩
    rw [spec_LogFlushOps.l0]
    rw [if_pos (by omega)]
    have hp := pad_go l m hm h0 hn [] base s b c d t (m * 512 - l.length) (K + 1) 0 (by omega)
    rw [List.replicate_zero, List.append_nil] at hp
    rw [hp]
    have h1 := one_block l m 0 hm (by omega) hn s base b c d hb0 hb1 t K
    rw [Nat.zero_mul, List.drop_zero] at h1
    have e0 : base + ((0 : Nat) : Int) = base := by omega
    rw [e0] at h1
    rw [show ([] : List S84) = opsTo l s base 0 from rfl, h1]
    exact spec_go l m hm hn s base b c d hb0 hb1 t (m - 1) K 1 (by omega) (by omega) (by omega)
  · obtain ⟨K, rfl⟩ : ∃ x, K = x + 1 := ⟨K - 1, by omega⟩
    obtain rfl : m = 0 := by omega
    rw [spec_LogFlushOps.l0]
    rw [if_neg (by omega), if_pos (by simp)]
    rfl
theorem impl_go (l : List Int) (m : Nat) (hm : m = (l.length + 511) / 512) (hn : l.length ≤ 1048576) (s base b c d : Int) (hb0 : 0 ≤ base) (hb1 : base ≤ 1099511627776) (e : Nat) : ∀ (K i : Nat), i ≤ m → m - i = e → e < K →
    impl_LogFlushOps.l0 K base (opsTo l s base i) ((i * 512 : Nat) : Int) s b c d l = some (allOps l s base m) := by
  induction e with
  | zero =>
    intro K i hi he hk
    obtain ⟨K, rfl⟩ : ∃ x, K = x + 1 := ⟨K - 1, by omega⟩
    obtain rfl : i = m := by omega
    have hol := opsTo_len l s base i
    rw [impl_LogFlushOps.l0]
    rw [if_neg (by omega), if_pos (by omega)]
    rfl
  | succ e ih =>
    intro K i hi he hk
    obtain ⟨K, rfl⟩ : ∃ x, K = x + 1 := ⟨K - 1, by omega⟩
    have hol := opsTo_len l s base i
    have hrl : (List.replicate 512 (0 : Int)).length = 512 := List.length_replicate
    rw [impl_LogFlushOps.l0]
    rw [if_pos (by omega), if_pos (by omega), Option.bind_some, if_pos (by omega), if_pos (by omega), if_pos (by omega), pw64 (x := base + ((i * 512 : Nat) : Int)) (by omega) (by omega), place_is, Option.bind_some, if_pos (by omega), Int.toNat_natCast]
    have hs := opsTo_succ l s base i
    unfold blockOf at hs
    rw [hs, pw64 (by omega) (by omega), show ((i * 512 : Nat) : Int) + 512 = (((i + 1) * 512 : Nat) : Int) by omega]
    exact ih K (i + 1) (by omega) (by omega) (by omega)
theorem ops_same (s b c d : Int) (l : List Int) (hn : l.length ≤ 1048576) : ∃ ys : List S84, ys.length ≤ 4000 ∧ Short ys ∧ (∀ K, 9001 < K → spec_LogFlushOps.f K s b c d l = some ys) ∧ (∀ K, 9001 < K → impl_LogFlushOps.f K s b c d l = some ys) := by
  obtain ⟨r, h1, h2⟩ := fault_both s b c d l 10 (by omega)
  have h1' : ∀ K, 10 ≤ K → spec_LogFault.f K s b c d l = some r := fun K hK => at_rounds (g := fun k => spec_LogFault.f k s b c d l) (spec_LogFault.mono s b c d l) hK h1
  have h2' : ∀ K, 10 ≤ K → impl_LogFault.f K s b c d l = some r := fun K hK => at_rounds (g := fun k => impl_LogFault.f k s b c d l) (impl_LogFault.mono s b c d l) hK h2
  by_cases hr : r = 0 ∧ ¬ d = c
  · obtain ⟨rfl, hdc⟩ := hr
    obtain ⟨g1, g2, g3, g4⟩ := fault_zero s b c d l 9 h1
    have ht : Int.tmod d 512 = d % 512 := Int.tmod_eq_emod_of_nonneg (by omega)
    have hb : wrap64 (d - Int.tmod d 512) = d - d % 512 := by rw [ht, pw64 (by omega) (by omega)]
    have hm : (l.length + 511) / 512 ≤ 2049 := by omega
    refine ⟨allOps l s (d - d % 512) ((l.length + 511) / 512), by unfold allOps; rw [List.length_append, opsTo_len]; simp; omega, allOps_short _ _ _ _, fun K hK => ?_, fun K hK => ?_⟩
    · obtain ⟨K, rfl⟩ : ∃ x, K = x + 1 := ⟨K - 1, by omega⟩
      unfold spec_LogFlushOps.f
      rw [h1' (K + 1) (by omega), Option.bind_some, if_pos rfl, show (d == c) = false by simpa using hdc, spec_LogFlushOps.j0, if_neg (by simp), copy_is l hn, Option.bind_some, hb]
      exact spec_all l hn s (d - d % 512) b c d (by omega) (by omega) l K (by omega)
    · obtain ⟨K, rfl⟩ : ∃ x, K = x + 1 := ⟨K - 1, by omega⟩
      unfold impl_LogFlushOps.f
      rw [h2' (K + 1) (by omega), Option.bind_some, if_pos rfl, show (d == c) = false by simpa using hdc, impl_LogFlushOps.j0, if_neg (by simp), hb]
      exact impl_go l _ rfl hn s (d - d % 512) b c d (by omega) (by omega) _ K 0 (by omega) rfl (by omega)
  · refine ⟨[], by simp, fun i h => by simp at h, fun K hK => ?_, fun K hK => ?_⟩
    · obtain ⟨K, rfl⟩ : ∃ x, K = x + 1 := ⟨K - 1, by omega⟩
      unfold spec_LogFlushOps.f
      rw [h1' (K + 1) (by omega), Option.bind_some]
      by_cases h0 : r = 0
      · rw [if_pos h0, show (d == c) = true by simp; omega, spec_LogFlushOps.j0, if_pos rfl]
      · rw [if_neg h0, spec_LogFlushOps.j0, if_pos rfl]
    · obtain ⟨K, rfl⟩ : ∃ x, K = x + 1 := ⟨K - 1, by omega⟩
      unfold impl_LogFlushOps.f
      rw [h2' (K + 1) (by omega), Option.bind_some]
      by_cases h0 : r = 0
      · rw [if_pos h0, show (d == c) = true by simp; omega, impl_LogFlushOps.j0, if_pos rfl]
      · rw [if_neg h0, impl_LogFlushOps.j0, if_pos rfl]

theorem FnExactLogFlushOps (a0_0 : Int) (a0_1 : Int) (a0_2 : Int) (a0_3 : Int) (l0_4 : (List Int)) (w0_0 : (Lit.int .i64 a0_0).wf = true) (w0_1 : (Lit.int .i64 a0_1).wf = true) (w0_2 : (Lit.int .i64 a0_2).wf = true) (w0_3 : (Lit.int .i64 a0_3).wf = true) (w0_4 : l0_4.length ≤ maxLen ∧ ∀ y0 ∈ l0_4, (Lit.int .u8 y0).wf = true) : ∃ k, laws_FnExactLogFlushOps.f k a0_0 a0_1 a0_2 a0_3 l0_4 = some true := by
  have hm : l0_4.length ≤ 9223372036854775807 := w0_4.1
  obtain ⟨K, hK⟩ : ∃ K, K = 2000000 := ⟨_, rfl⟩
  refine ⟨K + 1, ?_⟩
  unfold laws_FnExactLogFlushOps.f laws_szLog.f laws_szByteS.f laws_toLog.f
  rw [pw64 (by omega) (by omega)]
  by_cases h : 1048576 - (l0_4.length : Int) < 0
  · rw [if_pos h]
    simp
  · rw [if_neg h]
    simp only [Option.bind_some]
    rw [if_neg h]
    simp only [Option.bind_some]
    obtain ⟨ys, hy, hs, h1, h2⟩ := ops_same a0_0 a0_1 a0_2 a0_3 l0_4 (by omega)
    obtain ⟨m0, g1, _, _⟩ := markByteS_some l0_4 1 (by omega) (by omega) (by omega) (K + 1) (by omega)
    obtain ⟨zs, m, hm2, g2, g3⟩ := markOps_some ys (by omega) hs K (by omega)
    have ht := toByteS_some l0_4 (by omega)
    have he := eqLog_same a0_0 a0_1 a0_2 a0_3 l0_4 (by omega)
    have ho := eqOpS_same ys (by omega) hs
    rw [if_neg h, ht (K + 1) (by omega)]
    simp only [Option.bind_some]
    rw [h1 (K + 1) (by omega)]
    simp only [Option.bind_some]
    rw [h2 (K + 1) (by omega)]
    simp only [Option.bind_some]
    rw [ho (K + 1) (by omega)]
    simp only [Option.bind_some, if_true]
    rw [he (K + 1) (by omega)]
    simp only [Option.bind_some, if_true]
    unfold laws_markLog.f
    rw [g1]
    simp only [Option.bind_some]
    rw [if_neg (by omega)]
    simp only [laws_FnExactLogFlushOps.j0, laws_toLog.f, Bool.not_true]
    rw [if_neg (by decide), g2]
    simp only [Option.bind_some]
    rw [g3 K (by omega)]
    simp only [Option.bind_some, if_true]
    rw [if_neg (by omega), ht K (by omega)]
    simp only [Option.bind_some]
    rw [h2 K (by omega)]
    simp only [Option.bind_some]
    rw [ho K (by omega)]
    simp only [Option.bind_some, if_true]
    rw [if_neg (by omega)]

end Go.Proofs.Ytjkhmagnlaijhaa.Pure
