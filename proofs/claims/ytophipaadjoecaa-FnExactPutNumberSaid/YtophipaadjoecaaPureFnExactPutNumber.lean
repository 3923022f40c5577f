/- Proved: the pure form of FnExactPutNumber: PutNumber of the program answers as the reference at every pair of numbers, and its answer owns its memory. Conditions: none beyond the statement. -/
import Derived.Test.YtophipaadjoecaaQFnExactPutNumberx2
import Derived.Test.YtophipaadjoecaaPureBase
import Derived.OpenShut
namespace Go.Proofs.Ytophipaadjoecaa.Pure
open Go.RowKit Go.Proofs.Ytophipaadjoecaa.QFnExactPutNumber Go.Proofs.YtophipaadjoecaaW.PrintWords Go.Proofs.YtophipaadjoecaaW.PrintLast Go.Proofs.Ytophipaadjoecaa.PureBase
set_option linter.unusedVariables false
set_option linter.unusedSimpArgs false

theorem eqByteS_same (xs : List Int) (hn : xs.length ≤ 281474976710656) (k : Nat) (hk : xs.length < k) : laws_eqByteS.f k xs xs = some true := by
  unfold laws_eqByteS.f
  rw [if_pos rfl]
  exact end_go (fun k i => laws_eqByteS.l0 k xs xs i) xs.length 0 true
    (by
      intro k i h _
      simp only [laws_eqByteS.l0]
      rw [if_pos (by omega), if_pos (by omega), if_pos (by omega), pw64 (by omega) (by omega)]
      simp)
    (by
      intro k _
      simp only [laws_eqByteS.l0]
      rw [if_neg (by omega)]) xs.length k 0 (by omega) (by omega) (by omega)

/-- What marks leave: from k on. -/
def Marked (k : Int) (ys : List Int) : Prop := ∀ (i : Nat) (h : i < ys.length), ys[i] = (k + (i : Int)) % 256
theorem markByteS_go (n : Nat) (k0 : Int) (h0 : 0 ≤ k0) (h1 : k0 ≤ 4611686018427387904) (hn : n ≤ 140737488355328) (d : Nat) : ∀ (K i : Nat) (ys : List Int), ys.length = n → (∀ (j : Nat) (h : j < ys.length), j < i → ys[j] = (k0 + (j : Int)) % 256) → i ≤ n → n - i = d → d < K →
    ∃ zs, laws_markByteS.l0 K ys (k0 + (i : Int)) (i : Int) = some (k0 + (n : Int), zs) ∧ zs.length = n ∧ Marked k0 zs := by
  induction d with
  | zero =>
    intro K i ys hl hp hi hd hk
    obtain ⟨K, rfl⟩ : ∃ m, K = m + 1 := ⟨K - 1, by omega⟩
    simp only [laws_markByteS.l0]
    rw [if_neg (by omega)]
    obtain rfl : i = n := by omega
    exact ⟨ys, rfl, hl, fun j h => hp j h (by omega)⟩
  | succ d ih =>
    intro K i ys hl hp hi hd hk
    obtain ⟨K, rfl⟩ : ∃ m, K = m + 1 := ⟨K - 1, by omega⟩
    simp only [laws_markByteS.l0]
    rw [if_pos (by omega), if_pos (by omega), pw64 (x := k0 + (i : Int) + 1) (by omega) (by omega), pw64 (x := (i : Int) + 1) (by omega) (by omega), Int.toNat_natCast]
    obtain ⟨zs, h, h2, h3⟩ := ih K (i + 1) (ys.set i ((k0 + (i : Int)) % 256)) (by simp [hl]) (by
      intro j h hj
      rw [List.getElem_set]
      by_cases e : i = j
      · subst e
        rw [if_pos rfl]
      · rw [if_neg e]
        exact hp j (by simpa using h) (by omega)) (by omega) (by omega) (by omega)
    refine ⟨zs, ?_, h2, h3⟩
    rw [← h]
    congr 1
    omega
theorem heldByteS_go (ys : List Int) (k0 : Int) (h0 : 0 ≤ k0) (h1 : k0 ≤ 4611686018427387904) (hn : ys.length ≤ 140737488355328) (hm : Marked k0 ys) (d : Nat) : ∀ (K i : Nat), i ≤ ys.length → ys.length - i = d → d < K → laws_heldByteS.l0 K ys (k0 + (i : Int)) (i : Int) = some (k0 + (ys.length : Int)) := by
  induction d with
  | zero =>
    intro K i hi hd hk
    obtain ⟨K, rfl⟩ : ∃ m, K = m + 1 := ⟨K - 1, by omega⟩
    simp only [laws_heldByteS.l0]
    rw [if_neg (by omega)]
    obtain rfl : i = ys.length := by omega
    rfl
  | succ d ih =>
    intro K i hi hd hk
    obtain ⟨K, rfl⟩ : ∃ m, K = m + 1 := ⟨K - 1, by omega⟩
    have hil : i < ys.length := by omega
    simp only [laws_heldByteS.l0]
    rw [if_pos (by omega), if_pos (by omega), rdN, getD_at ys i 0 hil, if_pos (hm i hil), pw64 (x := k0 + (i : Int) + 1) (by omega) (by omega), pw64 (x := (i : Int) + 1) (by omega) (by omega)]
    have := ih K (i + 1) (by omega) (by omega) (by omega)
    rw [← this]
    congr 1
    omega
theorem markByteS_some (xs : List Int) (k0 : Int) (h0 : 0 ≤ k0) (h1 : k0 ≤ 4611686018427387904) (hn : xs.length ≤ 140737488355328) (K : Nat) (hK : xs.length < K) :
    ∃ zs, laws_markByteS.f K xs k0 = some (k0 + (xs.length : Int), zs) ∧ zs.length = xs.length ∧ ∀ K', xs.length < K' → laws_heldByteS.f K' zs k0 = some (k0 + (xs.length : Int)) := by
  obtain ⟨zs, h, h2, h3⟩ := markByteS_go xs.length k0 h0 h1 hn xs.length K 0 xs rfl (by intro j h hj; omega) (by omega) (by omega) hK
  refine ⟨zs, ?_, h2, fun K' hK' => ?_⟩
  · unfold laws_markByteS.f
    simpa using h
  · have := heldByteS_go zs k0 h0 h1 (by omega) h3 zs.length K' 0 (by omega) (by omega) (by omega)
    unfold laws_heldByteS.f
    rw [h2] at this
    simpa using this

def leI (k v : Nat) : List Int := (Lib.leBytes k v).map fun b => (b.toNat : Int)
theorem leI_succ (k v : Nat) : leI (k + 1) v = ((v % 256 : Nat) : Int) :: leI k (v / 256) := by
  unfold leI
  rw [Lib.leBytes, List.map_cons, Lib.toUInt8_mod]
theorem leI_take (m : Nat) : ∀ (k v : Nat), k ≤ m → (leI m v).take k = leI k v := by
  induction m with
  | zero =>
    intro k v h
    obtain rfl : k = 0 := by omega
    rfl
  | succ m ih =>
    intro k v h
    cases k with
    | zero => rfl
    | succ k => rw [leI_succ, leI_succ, List.take_succ_cons, ih k _ (by omega)]
theorem leI_length (k v : Nat) : (leI k v).length = k := by simp [leI, Lib.leBytes_length]
theorem beI_drop (v n : Nat) (hn : n ≤ 8) : (beI (v : Int)).drop (8 - n) = (leI n v).reverse := by
  have e : beI (v : Int) = (leI 8 v).reverse := by unfold beI leI Lib.beBytes; rw [Int.toNat_natCast, List.map_reverse]
  rw [e, List.drop_reverse, leI_length, show 8 - (8 - n) = n by omega, leI_take 8 n v hn]
theorem spec_go (j : Nat) : ∀ (v : Nat) (fr tail : List Int) (K : Nat), v < 9223372036854775808 → j ≤ 8 → fr.length = j → j < K → spec_PutNumber.l0 K (v : Int) (fr ++ tail) ((j : Int) - 1) = if v / 256 ^ j = 0 then some ((leI j v).reverse ++ tail) else some [] := by
  induction j with
  | zero =>
    intro v fr tail K hv hj hf hk
    obtain ⟨K, rfl⟩ : ∃ m, K = m + 1 := ⟨K - 1, by omega⟩
    simp only [spec_PutNumber.l0]
    obtain rfl : fr = [] := List.eq_nil_of_length_eq_zero hf
    rw [if_neg (by omega)]
    by_cases h : v = 0
    · subst h; rfl
    · rw [if_neg (by omega), if_neg (by simpa using h)]
  | succ j ih =>
    intro v fr tail K hv hj hf hk
    obtain ⟨K, rfl⟩ : ∃ m, K = m + 1 := ⟨K - 1, by omega⟩
    simp only [spec_PutNumber.l0]
    have e1 : (((j + 1 : Nat) : Int) - 1) = (j : Int) := by omega
    have e2 : Int.tdiv (v : Int) 256 = ((v / 256 : Nat) : Int) := by rw [Int.tdiv_eq_ediv_of_nonneg (by omega)]; omega
    have e3 : Int.tmod (v : Int) 256 % 256 = ((v % 256 : Nat) : Int) := by rw [Int.tmod_eq_emod_of_nonneg (by omega)]; omega
    have e4 : (fr ++ tail).set j ((v % 256 : Nat) : Int) = fr.take j ++ (((v % 256 : Nat) : Int) :: tail) := by
      rw [List.set_append_left _ _ (by omega), List.set_eq_take_append_cons_drop, if_pos (by omega), List.drop_eq_nil_of_le (by omega), List.append_assoc]
      rfl
    rw [e1, if_pos (by omega), if_pos (by omega), if_pos (by rw [List.length_append]; omega), e2, e3, pw64 (by omega) (by omega), pw64 (by omega) (by omega), Int.toNat_natCast, e4]
    rw [ih (v / 256) (fr.take j) _ K (by omega) (by omega) (by rw [List.length_take]; omega) (by omega)]
    rw [leI_succ, List.reverse_cons, List.append_assoc, Nat.div_div_eq_div_mul, Nat.pow_succ, Nat.mul_comm 256]
    rfl
theorem same (v n : Nat) (hv : v < 9223372036854775808) (h1 : 1 ≤ n) (h8 : n ≤ 8) (K : Nat) (hK : 20 < K) : ∃ l : List Int, l.length ≤ 8 ∧ spec_PutNumber.f K (v : Int) (n : Int) = some l ∧ impl_PutNumber.f (v : Int) (n : Int) = some l := by
  obtain ⟨K, rfl⟩ : ∃ m, K = m + 1 := ⟨K - 1, by omega⟩
  have hs : spec_PutNumber.f (K + 1) (v : Int) (n : Int) = if v / 256 ^ n = 0 then some ((leI n v).reverse) else some [] := by
    have h := spec_go n v (List.replicate n 0) [] K hv h8 (by simp) (by omega)
    unfold spec_PutNumber.f
    rw [if_neg (by omega), if_neg (by omega)]
    simp only [spec_PutNumber.j0]
    rw [if_neg (by simp), if_pos (by omega), if_pos (by omega), Int.toNat_natCast, pw64 (by omega) (by omega)]
    simpa using h
  have hcut : (beI (v : Int)).drop (wrap64 (8 - (n : Int))).toNat = (leI n v).reverse := by
    rw [pw64 (by omega) (by omega), show (8 - (n : Int)).toNat = 8 - n by omega]
    exact beI_drop v n h8
  have hbl : (beI (v : Int)).length = 8 := by unfold beI; rw [List.length_map, Lib.beBytes_length]
  have w1 : (0 : Int) ≤ wrap64 (8 - (n : Int)) := by rw [pw64 (by omega) (by omega)]; omega
  have w2 : wrap64 (8 - (n : Int)) ≤ ((beI (v : Int)).length : Int) := by rw [pw64 (by omega) (by omega), hbl]; omega
  have v1 : (v : Int) < 9223372036854775808 := by omega
  have hi : impl_PutNumber.f (v : Int) (n : Int) = if v / 256 ^ n = 0 then some ((leI n v).reverse) else some [] := by
    unfold impl_PutNumber.f
    rw [if_neg (by omega), if_neg (by omega), if_neg (by omega)]
    by_cases hn : n < 8
    · rw [if_pos (by omega)]
      have e : wrap64 (8 * (n : Int)) = 8 * (n : Int) := pw64 (by omega) (by omega)
      have es : (shr .i64 (v : Int) (8 * (n : Int)) = 0) ↔ v / 256 ^ n = 0 := by
        have hb : IntKind.i64.bits = 64 := rfl
        unfold shr
        rw [hb, show min (8 * (n : Int)).toNat 64 = 8 * n by omega]
        have : (v : Int) / 2 ^ (8 * n) = ((v / 256 ^ n : Nat) : Int) := by
          have e8 : (256 ^ n : Nat) = 2 ^ (8 * n) := by rw [Nat.pow_mul]
          rw [e8, Int.natCast_ediv, Int.natCast_pow]
          rfl
        rw [this]
        omega
      rw [e, if_pos (by omega)]
      by_cases hz : v / 256 ^ n = 0
      · rw [if_pos (es.2 hz), if_pos hz, if_pos v1, Option.bind_some, if_pos w1, if_pos w2, hcut]
      · rw [if_neg (fun h => hz (es.1 h)), if_neg hz]
    · obtain rfl : n = 8 := by omega
      have hz : v / 256 ^ 8 = 0 := Nat.div_eq_of_lt (by omega)
      rw [if_neg (by omega), if_pos hz, if_pos v1, Option.bind_some, if_pos w1, if_pos w2, hcut]
  by_cases hz : v / 256 ^ n = 0
  · rw [if_pos hz] at hs hi
    exact ⟨_, by rw [List.length_reverse, leI_length]; exact h8, hs, hi⟩
  · rw [if_neg hz] at hs hi
    exact ⟨[], by simp, hs, hi⟩
theorem same' (a b : Int) (ha : a ≤ 9223372036854775807) (K : Nat) (hK : 20 < K) : ∃ l : List Int, l.length ≤ 8 ∧ spec_PutNumber.f K a b = some l ∧ impl_PutNumber.f a b = some l := by
  by_cases h : 0 ≤ a ∧ 1 ≤ b ∧ b ≤ 8
  · obtain ⟨v, rfl⟩ : ∃ v : Nat, a = (v : Int) := ⟨a.toNat, by omega⟩
    obtain ⟨n, rfl⟩ : ∃ n : Nat, b = (n : Int) := ⟨b.toNat, by omega⟩
    exact same v n (by omega) (by omega) (by omega) K hK
  · obtain ⟨K, rfl⟩ : ∃ m, K = m + 1 := ⟨K - 1, by omega⟩
    refine ⟨[], by simp, ?_, ?_⟩
    · unfold spec_PutNumber.f
      simp only [spec_PutNumber.j0, if_true]
      by_cases h1 : b < 1
      · rw [if_pos h1]
      · rw [if_neg h1]
        by_cases h2 : b > 8
        · rw [if_pos h2]
        · rw [if_neg h2, if_pos (by simp; omega)]
    · unfold impl_PutNumber.f
      by_cases h1 : b < 1
      · rw [if_pos h1]
      · rw [if_neg h1]
        by_cases h2 : b > 8
        · rw [if_pos h2]
        · rw [if_neg h2, if_pos (by omega)]

theorem FnExactPutNumber (a0 : Int) (a1 : Int) (w0 : (Lit.int .i64 a0).wf = true) (w1 : (Lit.int .i64 a1).wf = true) : ∃ k, laws_FnExactPutNumber.f k a0 a1 = some true := by
  obtain ⟨K, hK⟩ : ∃ K, K = 30 := ⟨_, rfl⟩
  refine ⟨K, ?_⟩
  have hb : a0 ≤ 9223372036854775807 := by have h := w0; simp [Lit.wf] at h; have e2 : IntKind.i64.max = 9223372036854775807 := rfl; omega
  obtain ⟨l, hl, h1, h2⟩ := same' a0 a1 hb K (by omega)
  obtain ⟨zs, g1, g2, g3⟩ := markByteS_some l 1 (by omega) (by omega) (by omega) K (by omega)
  unfold laws_FnExactPutNumber.f
  simp only [h1, h2, Option.bind_some, eqByteS_same l (by omega) K (by omega), if_true, g1, g3 K (by omega)]
  rw [if_neg (by omega)]
  rw [if_neg (by omega)]

end Go.Proofs.Ytophipaadjoecaa.Pure
