/- Proved: the pure form of FnExactDecodeHex: DecodeHex of the program answers as the reference, and its answer owns its memory. Conditions: none beyond the statement. -/
import Derived.Test.YtophipaadjoecaaQFnExactDecodeHexx2
import Derived.Test.YtophipaadjoecaaPureBase
import Derived.OpenShut
namespace Go.Proofs.Ytophipaadjoecaa.Pure
open Go.RowKit Go.Proofs.Ytophipaadjoecaa.QFnExactDecodeHex Go.Proofs.YtophipaadjoecaaW.PrintWords Go.Proofs.YtophipaadjoecaaW.PrintLast Go.Proofs.Ytophipaadjoecaa.PureBase
set_option linter.unusedVariables false
set_option linter.unusedSimpArgs false

theorem eqByteS_same (xs : List Int) (hn : xs.length ≤ 281474976710656) (k : Nat) (hk : xs.length < k) : laws_eqByteS.f k xs xs = some true := by
  unfold laws_eqByteS.f
  rw [if_pos rfl]
  exact end_go (fun k i => laws_eqByteS.l0 k xs xs i) xs.length 0 true
    (by
      intro k i h _
      simp only [laws_eqByteS.l0]
      rw [if_pos (by omega), if_pos (by omega), if_pos (by omega), pw64 (by omega) (by omega)]
      simp)
    (by
      intro k _
      simp only [laws_eqByteS.l0]
      rw [if_neg (by omega)]) xs.length k 0 (by omega) (by omega) (by omega)

/-- What marks leave: from k on. -/
def Marked (k : Int) (ys : List Int) : Prop := ∀ (i : Nat) (h : i < ys.length), ys[i] = (k + (i : Int)) % 256
theorem markByteS_go (n : Nat) (k0 : Int) (h0 : 0 ≤ k0) (h1 : k0 ≤ 4611686018427387904) (hn : n ≤ 140737488355328) (d : Nat) : ∀ (K i : Nat) (ys : List Int), ys.length = n → (∀ (j : Nat) (h : j < ys.length), j < i → ys[j] = (k0 + (j : Int)) % 256) → i ≤ n → n - i = d → d < K →
    ∃ zs, laws_markByteS.l0 K ys (k0 + (i : Int)) (i : Int) = some (k0 + (n : Int), zs) ∧ zs.length = n ∧ Marked k0 zs := by
  induction d with
  | zero =>
    intro K i ys hl hp hi hd hk
    obtain ⟨K, rfl⟩ : ∃ m, K = m + 1 := ⟨K - 1, by omega⟩
    simp only [laws_markByteS.l0]
    rw [if_neg (by omega)]
    obtain rfl : i = n := by omega
    exact ⟨ys, rfl, hl, fun j h => hp j h (by omega)⟩
  | succ d ih =>
    intro K i ys hl hp hi hd hk
    obtain ⟨K, rfl⟩ : ∃ m, K = m + 1 := ⟨K - 1, by omega⟩
    simp only [laws_markByteS.l0]
    rw [if_pos (by omega), if_pos (by omega), pw64 (x := k0 + (i : Int) + 1) (by omega) (by omega), pw64 (x := (i : Int) + 1) (by omega) (by omega), Int.toNat_natCast]
    obtain ⟨zs, h, h2, h3⟩ := ih K (i + 1) (ys.set i ((k0 + (i : Int)) % 256)) (by simp [hl]) (by
      intro j h hj
      rw [List.getElem_set]
      by_cases e : i = j
      · subst e
        rw [if_pos rfl]
      · rw [if_neg e]
        exact hp j (by simpa using h) (by omega)) (by omega) (by omega) (by omega)
    refine ⟨zs, ?_, h2, h3⟩
    rw [← h]
    congr 1
    omega
theorem heldByteS_go (ys : List Int) (k0 : Int) (h0 : 0 ≤ k0) (h1 : k0 ≤ 4611686018427387904) (hn : ys.length ≤ 140737488355328) (hm : Marked k0 ys) (d : Nat) : ∀ (K i : Nat), i ≤ ys.length → ys.length - i = d → d < K → laws_heldByteS.l0 K ys (k0 + (i : Int)) (i : Int) = some (k0 + (ys.length : Int)) := by
  induction d with
  | zero =>
    intro K i hi hd hk
    obtain ⟨K, rfl⟩ : ∃ m, K = m + 1 := ⟨K - 1, by omega⟩
    simp only [laws_heldByteS.l0]
    rw [if_neg (by omega)]
    obtain rfl : i = ys.length := by omega
    rfl
  | succ d ih =>
    intro K i hi hd hk
    obtain ⟨K, rfl⟩ : ∃ m, K = m + 1 := ⟨K - 1, by omega⟩
    have hil : i < ys.length := by omega
    simp only [laws_heldByteS.l0]
    rw [if_pos (by omega), if_pos (by omega), rdN, getD_at ys i 0 hil, if_pos (hm i hil), pw64 (x := k0 + (i : Int) + 1) (by omega) (by omega), pw64 (x := (i : Int) + 1) (by omega) (by omega)]
    have := ih K (i + 1) (by omega) (by omega) (by omega)
    rw [← this]
    congr 1
    omega
theorem markByteS_some (xs : List Int) (k0 : Int) (h0 : 0 ≤ k0) (h1 : k0 ≤ 4611686018427387904) (hn : xs.length ≤ 140737488355328) (K : Nat) (hK : xs.length < K) :
    ∃ zs, laws_markByteS.f K xs k0 = some (k0 + (xs.length : Int), zs) ∧ zs.length = xs.length ∧ ∀ K', xs.length < K' → laws_heldByteS.f K' zs k0 = some (k0 + (xs.length : Int)) := by
  obtain ⟨zs, h, h2, h3⟩ := markByteS_go xs.length k0 h0 h1 hn xs.length K 0 xs rfl (by intro j h hj; omega) (by omega) (by omega) hK
  refine ⟨zs, ?_, h2, fun K' hK' => ?_⟩
  · unfold laws_markByteS.f
    simpa using h
  · have := heldByteS_go zs k0 h0 h1 (by omega) h3 zs.length K' 0 (by omega) (by omega) (by omega)
    unfold laws_heldByteS.f
    rw [h2] at this
    simpa using this

/-- The hexadecimal digit of a byte; -1 where it is none. -/
def dig (c : Int) : Int := if 48 ≤ c ∧ c ≤ 57 then c - 48 else if 97 ≤ c ∧ c ≤ 102 then c - 97 + 10 else -1
theorem dig_lt (c : Int) : dig c ≤ 15 := by
  unfold dig
  split
  · omega
  · split <;> omega
theorem dig_a (c : Int) (h : 48 ≤ c ∧ c ≤ 57) : dig c = c - 48 := by unfold dig; rw [if_pos h]
theorem dig_b (c : Int) (h : 97 ≤ c ∧ c ≤ 102) : dig c = c - 97 + 10 := by unfold dig; rw [if_neg (by omega), if_pos h]
theorem dig_c (c : Int) (h : ¬ (48 ≤ c ∧ c ≤ 57)) (h' : ¬ (97 ≤ c ∧ c ≤ 102)) : dig c = -1 := by unfold dig; rw [if_neg h, if_neg h']
theorem spec_dig (c : Int) (k : Nat) (hk : 0 < k) : spec_l14Digit.f k c = some (dig c) := by
  obtain ⟨k, rfl⟩ : ∃ m, k = m + 1 := ⟨k - 1, by omega⟩
  have tail : (if c ≥ 97 then (if c ≤ 102 then (some (((c - 97) % 256) + 10)) else (some (-1))) else (some (-1)) : Option Int) = if 97 ≤ c ∧ c ≤ 102 then some (c - 97 + 10) else some (-1) := by
    by_cases h3 : c ≥ 97
    · by_cases h4 : c ≤ 102
      · rw [if_pos h3, if_pos h4, if_pos ⟨h3, h4⟩]; congr 1; omega
      · rw [if_pos h3, if_neg h4, if_neg (by omega)]
    · rw [if_neg h3, if_neg (by omega)]
  unfold spec_l14Digit.f
  simp only [spec_l14Digit.j0]
  rw [tail]
  by_cases h1 : 48 ≤ c ∧ c ≤ 57
  · rw [if_pos h1.1, if_pos (by simpa using h1.2), dig_a c h1]
    congr 1; omega
  · have e : (if c ≥ 48 then (if decide (c ≤ 57) = true then some ((c - 48) % 256) else (if 97 ≤ c ∧ c ≤ 102 then some (c - 97 + 10) else some (-1))) else (if false = true then some ((c - 48) % 256) else (if 97 ≤ c ∧ c ≤ 102 then some (c - 97 + 10) else some (-1))) : Option Int) = if 97 ≤ c ∧ c ≤ 102 then some (c - 97 + 10) else some (-1) := by
      by_cases h2 : c ≥ 48
      · rw [if_pos h2, if_neg (by simp; omega)]
      · rw [if_neg h2, if_neg (by simp)]
    rw [e]
    by_cases h5 : 97 ≤ c ∧ c ≤ 102
    · rw [if_pos h5, dig_b c h5]
    · rw [if_neg h5, dig_c c h1 h5]
theorem hex_fin : ∀ n : Fin 256, Lib.indexByte (⟨#[48, 49, 50, 51, 52, 53, 54, 55, 56, 57, 97, 98, 99, 100, 101, 102]⟩ : ByteArray).data.toList (n.val.toUInt8) = dig (n.val : Int) := by decide +kernel
theorem impl_dig (c : Int) (h0 : 0 ≤ c) (h1 : c ≤ 255) : strings_IndexByte.f (⟨#[48, 49, 50, 51, 52, 53, 54, 55, 56, 57, 97, 98, 99, 100, 101, 102]⟩ : ByteArray) c = some (dig c) := by
  have := hex_fin ⟨c.toNat, by omega⟩
  unfold strings_IndexByte.f
  rw [this]
  congr 2
  show ((c.toNat : Nat) : Int) = c
  omega
theorem join_fin : ∀ a b : Fin 16, (Go.bits .or .i64 (wrap64 ((a.val : Int) * 16)) (b.val : Int)) % 256 = (wrap64 ((wrap64 (16 * (a.val : Int))) + (b.val : Int))) % 256 := by decide +kernel
theorem join_is (a b : Int) (h0 : 0 ≤ a) (h1 : a ≤ 15) (h2 : 0 ≤ b) (h3 : b ≤ 15) : (Go.bits .or .i64 (wrap64 (a * 16)) b) % 256 = (wrap64 ((wrap64 (16 * a)) + b)) % 256 := by
  have := join_fin ⟨a.toNat, by omega⟩ ⟨b.toNat, by omega⟩
  simpa only [Int.toNat_of_nonneg h0, Int.toNat_of_nonneg h2] using this
theorem loops (s : ByteArray) (m : Nat) (hm : s.size = 2 * m) (hs : s.size ≤ 1048576) (d : Nat) : ∀ (K i : Nat) (acc : List Int), i ≤ m → m - i = d → d + 1 < K → acc.length = i →
    ∃ r : Bool × List Int, spec_DecodeHex.l0 K s acc ((2 * i : Nat) : Int) = some r ∧ impl_DecodeHex.l0 K s acc ((2 * i : Nat) : Int) = some r ∧ r.2.length ≤ 1048576 := by
  induction d with
  | zero =>
    intro K i acc hi hd hk hl
    obtain ⟨K, rfl⟩ : ∃ m, K = m + 1 := ⟨K - 1, by omega⟩
    simp only [spec_DecodeHex.l0, impl_DecodeHex.l0]
    rw [if_neg (by omega), if_neg (by omega)]
    exact ⟨(true, acc), rfl, rfl, by show acc.length ≤ _; omega⟩
  | succ d ih =>
    intro K i acc hi hd hk hl
    obtain ⟨K, rfl⟩ : ∃ m, K = m + 1 := ⟨K - 1, by omega⟩
    simp only [spec_DecodeHex.l0, impl_DecodeHex.l0]
    have e1 : wrap64 (((2 * i : Nat) : Int) + 1) = ((2 * i + 1 : Nat) : Int) := by rw [pw64 (by omega) (by omega)]; omega
    have e2 : wrap64 (((2 * i : Nat) : Int) + 2) = ((2 * (i + 1) : Nat) : Int) := by rw [pw64 (by omega) (by omega)]; omega
    have b1 := bt_range s ((2 * i : Nat) : Int)
    have b2 := bt_range s ((2 * i + 1 : Nat) : Int)
    rw [e1, e2, spec_dig _ K (by omega), spec_dig _ K (by omega), impl_dig _ b1.1 b1.2, impl_dig _ b2.1 b2.2]
    simp only [Option.bind_some]
    have c1 : ((2 * i : Nat) : Int) < (s.size : Int) := by omega
    have c2 : (0 : Int) ≤ ((2 * i : Nat) : Int) := by omega
    have c3 : (0 : Int) ≤ ((2 * i + 1 : Nat) : Int) := by omega
    have c4 : ((2 * i + 1 : Nat) : Int) < (s.size : Int) := by omega
    have c5 : acc.length < 140737488355328 := by omega
    simp only [if_pos c1, if_pos c2, if_pos c3, if_pos c4, if_pos c5]
    have l1 := dig_lt (bt s ((2 * i : Nat) : Int))
    have l2 := dig_lt (bt s ((2 * i + 1 : Nat) : Int))
    by_cases n1 : dig (bt s ((2 * i : Nat) : Int)) < 0
    · simp only [if_pos n1]
      exact ⟨_, rfl, rfl, by simp⟩
    · by_cases n2 : dig (bt s ((2 * i + 1 : Nat) : Int)) < 0
      · simp only [if_neg n1, if_pos n2]
        exact ⟨_, rfl, rfl, by simp⟩
      · simp only [if_neg n1, if_neg n2]
        rw [join_is _ _ (by omega) l1 (by omega) l2]
        exact ih K (i + 1) _ (by omega) (by omega) (by omega) (by simp [hl])
theorem toList_nil (s : ByteArray) : s.toList = [] ↔ s.size = 0 := by
  rw [ByteArray.toList_eq, ← ByteArray.size_data]
  constructor
  · intro h; rw [← Array.length_toList, h]; rfl
  · intro h; exact List.eq_nil_of_length_eq_zero (by rw [Array.length_toList]; exact h)
theorem same (s : ByteArray) (hs : s.size ≤ 1048576) (K : Nat) (hK : s.size + 10 < K) : ∃ r : Bool × List Int, spec_DecodeHex.f K s = some r ∧ impl_DecodeHex.f K s = some r ∧ r.2.length ≤ 1048576 := by
  unfold spec_DecodeHex.f impl_DecodeHex.f
  by_cases h1 : s.toList = ([45] : List UInt8)
  · simp only [if_pos h1]
    exact ⟨_, rfl, rfl, by simp⟩
  · simp only [if_neg h1]
    obtain ⟨K, rfl⟩ : ∃ m, K = m + 1 := ⟨K - 1, by omega⟩
    by_cases h2 : s.size = 0
    · rw [if_pos (by omega), if_pos ((toList_nil s).2 h2)]
      simp only [spec_DecodeHex.j0, impl_DecodeHex.j0, if_true]
      exact ⟨_, rfl, rfl, by simp⟩
    · rw [if_neg (by omega), if_neg (fun h => h2 ((toList_nil s).1 h))]
      simp only [spec_DecodeHex.j0, impl_DecodeHex.j0]
      by_cases h3 : (s.size : Int) % 2 = 0
      · have a1 : ¬ ((((s.size : Int) % 2) != 0) = true) := by simp [h3]
        have a2 : ¬ (decide (((s.size : Int) % 2) > 0) = true) := by simp [h3]
        simp only [if_neg a1, if_neg a2]
        have := loops s (s.size / 2) (by omega) hs (s.size / 2) K 0 [] (by omega) (by omega) (by omega) rfl
        simpa using this
      · have a1 : (((s.size : Int) % 2) != 0) = true := by simp [h3]
        have a2 : decide (((s.size : Int) % 2) > 0) = true := by simp; omega
        simp only [if_pos a1, if_pos a2]
        exact ⟨_, rfl, rfl, by simp⟩
theorem FnExactDecodeHex (a0 : ByteArray) (w0 : a0.size ≤ 140737488351232) : ∃ k, laws_FnExactDecodeHex.f k a0 = some true := by
  by_cases hs : (a0.size : Int) > 1048576
  · exact ⟨0, by unfold laws_FnExactDecodeHex.f; rw [if_pos hs]⟩
  · obtain ⟨K, hK⟩ : ∃ K, K = 1048576 + 100 := ⟨_, rfl⟩
    refine ⟨K, ?_⟩
    obtain ⟨⟨b, l⟩, h1, h2, hl⟩ := same a0 (by omega) K (by omega)
    replace hl : l.length ≤ 1048576 := hl
    obtain ⟨zs, g1, g2, g3⟩ := markByteS_some l 1 (by omega) (by omega) (by omega) K (by omega)
    unfold laws_FnExactDecodeHex.f laws_eqHexResult.f laws_markHexResult.f laws_heldHexResult.f
    rw [if_neg hs]
    simp only [h1, h2, Option.bind_some, eqByteS_same l (by omega) K (by omega), if_true, g1, g3 K (by omega)]
    have n1 : ¬ ((b != b) = true) := by simp
    have n2 : ¬ (1 + (l.length : Int) < 0) := by omega
    simp only [if_neg n1, if_neg n2, Option.bind_some, if_true]

end Go.Proofs.Ytophipaadjoecaa.Pure
