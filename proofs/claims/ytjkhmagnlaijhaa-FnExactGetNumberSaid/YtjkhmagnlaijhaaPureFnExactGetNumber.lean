/- Proved: GetNumber of the program answers as GetNumber of the reference at every byte slice, and leaves its argument alone. Conditions: none beyond the statement. -/
import Derived.Test.YtjkhmagnlaijhaaPFnExactGetNumberx1
import Derived.Lib.EndianBits
namespace Go.Proofs.Ytjkhmagnlaijhaa.Pure
open Go.RowKit Go.Proofs.Ytjkhmagnlaijhaa.PFnExactGetNumber Go.Proofs.YtjkhmagnlaijhaaW.PrintWords Go.Proofs.YtjkhmagnlaijhaaW.PrintLast

theorem pw64 {x : Int} (h0 : -9223372036854775808 ≤ x) (h1 : x < 9223372036854775808) : wrap64 x = x := by unfold wrap64; omega
theorem rdN (xs : List Int) (i : Nat) : rd xs (i : Int) = xs.getD i 0 := by simp [rd]

theorem toByteS_go (xs : List Int) (hn : xs.length ≤ 281474976710656) (d : Nat) : ∀ (k i : Nat) (ys : List Int), ys.length = xs.length → (∀ j, j < i → ys[j]? = xs[j]?) → i ≤ xs.length → xs.length - i = d → d < k → laws_toByteS.l0 k xs ys (i : Int) = some xs := by
  induction d with
  | zero =>
    intro k i ys hl hp hi hd hk
    obtain ⟨k, rfl⟩ : ∃ m, k = m + 1 := ⟨k - 1, by omega⟩
    simp only [laws_toByteS.l0]
    rw [if_neg (by omega)]
    congr 1
    apply List.ext_getElem?
    intro j
    by_cases hj : j < i
    · exact hp j hj
    · rw [List.getElem?_eq_none (by omega), List.getElem?_eq_none (by omega)]
  | succ d ih =>
    intro k i ys hl hp hi hd hk
    obtain ⟨k, rfl⟩ : ∃ m, k = m + 1 := ⟨k - 1, by omega⟩
    simp only [laws_toByteS.l0]
    rw [if_pos (by omega), if_pos (by omega), if_pos (by omega), pw64 (by omega) (by omega)]
    have := ih k (i + 1) (ys.set i (rd xs i)) (by simp [hl]) (by
      intro j hj
      rw [List.getElem?_set]
      by_cases e : i = j
      · subst e
        rw [if_pos rfl, if_pos (by omega), rdN, List.getD_eq_getElem?_getD, List.getElem?_eq_getElem (by omega)]
        rfl
      · rw [if_neg e]
        exact hp j (by omega)) (by omega) (by omega) (by omega)
    simpa using this
theorem toByteS_some (xs : List Int) (hn : xs.length ≤ 281474976710656) (k : Nat) (hk : xs.length < k) : laws_toByteS.f k xs = some xs := by
  unfold laws_toByteS.f
  rw [if_pos (by omega), if_pos (by simpa using hn)]
  exact toByteS_go xs hn xs.length k 0 _ (by simp) (by intro j hj; omega) (by omega) (by omega) hk

theorem eqByteS_go (xs : List Int) (hn : xs.length ≤ 281474976710656) (d : Nat) : ∀ (k i : Nat), i ≤ xs.length → xs.length - i = d → d < k → laws_eqByteS.l0 k xs xs (i : Int) = some true := by
  induction d with
  | zero =>
    intro k i hi hd hk
    obtain ⟨k, rfl⟩ : ∃ m, k = m + 1 := ⟨k - 1, by omega⟩
    simp only [laws_eqByteS.l0]
    rw [if_neg (by omega)]
  | succ d ih =>
    intro k i hi hd hk
    obtain ⟨k, rfl⟩ : ∃ m, k = m + 1 := ⟨k - 1, by omega⟩
    simp only [laws_eqByteS.l0]
    rw [if_pos (by omega), if_pos (by omega), if_pos (by omega), pw64 (by omega) (by omega)]
    have := ih k (i + 1) (by omega) (by omega) (by omega)
    simpa using this
theorem eqByteS_same (xs : List Int) (hn : xs.length ≤ 281474976710656) (k : Nat) (hk : xs.length < k) : laws_eqByteS.f k xs xs = some true := by
  unfold laws_eqByteS.f
  rw [if_pos rfl]
  exact eqByteS_go xs hn xs.length k 0 (by omega) (by omega) hk

/-- The number that bytes spell, the greatest first. -/
def be (l : List Int) : Int := l.foldl (fun a b => a * 256 + b) 0
theorem be_snoc (l : List Int) (b : Int) : be (l ++ [b]) = be l * 256 + b := by simp [be]
theorem be_take (xs : List Int) (i : Nat) (h : i < xs.length) : be (xs.take (i + 1)) = be (xs.take i) * 256 + xs.getD i 0 := by
  rw [List.take_succ_eq_append_getElem h, be_snoc, List.getD_eq_getElem?_getD, List.getElem?_eq_getElem h]
  rfl
def Bytes (xs : List Int) : Prop := ∀ i : Nat, 0 ≤ xs.getD i 0 ∧ xs.getD i 0 ≤ 255
theorem be_bd (xs : List Int) (hb : Bytes xs) : ∀ i : Nat, i ≤ xs.length → 0 ≤ be (xs.take i) ∧ be (xs.take i) < 256 ^ i := by
  intro i
  induction i with
  | zero => intro _; simp [be]
  | succ i ih =>
    intro h
    have := ih (by omega)
    have b := hb i
    rw [be_take xs i (by omega), Int.pow_succ]
    omega
theorem pow_le8 (i : Nat) (h : i ≤ 7) : (256 : Int) ^ i ≤ 72057594037927936 := by
  rcases i with _ | _ | _ | _ | _ | _ | _ | _ | i <;> simp at * <;> omega
theorem be_lt7 (xs : List Int) (hb : Bytes xs) (i : Nat) (h : i ≤ xs.length) (h7 : i ≤ 7) : 0 ≤ be (xs.take i) ∧ be (xs.take i) < 72057594037927936 := by
  have := be_bd xs hb i h
  have := pow_le8 i h7
  omega
/-- Where the first of some bytes is at least 128, or not. -/
theorem be_top (xs : List Int) (hb : Bytes xs) : ∀ i : Nat, i + 1 ≤ xs.length → xs.getD 0 0 * 256 ^ i ≤ be (xs.take (i + 1)) ∧ be (xs.take (i + 1)) < (xs.getD 0 0 + 1) * 256 ^ i := by
  intro i
  induction i with
  | zero =>
    intro h
    rw [be_take xs 0 h]
    simp [be]
    omega
  | succ i ih =>
    intro h
    have := ih (by omega)
    have b := hb (i + 1)
    rw [be_take xs (i + 1) (by omega), Int.pow_succ, ← Int.mul_assoc, ← Int.mul_assoc]
    omega

theorem spec_go (xs : List Int) (hb : Bytes xs) (h8 : xs.length ≤ 8) (ht : xs.length = 8 → xs.getD 0 0 ≤ 127) (d : Nat) : ∀ (k i : Nat), i ≤ xs.length → xs.length - i = d → d < k → spec_GetNumber.l0 k xs (be (xs.take i)) (i : Int) = some (be xs) := by
  induction d with
  | zero =>
    intro k i hi hd hk
    obtain ⟨k, rfl⟩ : ∃ m, k = m + 1 := ⟨k - 1, by omega⟩
    simp only [spec_GetNumber.l0]
    rw [if_neg (by omega), List.take_of_length_le (by omega)]
  | succ d ih =>
    intro k i hi hd hk
    obtain ⟨k, rfl⟩ : ∃ m, k = m + 1 := ⟨k - 1, by omega⟩
    have h7 := be_lt7 xs hb i (by omega) (by omega)
    have b := hb i
    have hs := be_take xs i (by omega)
    have hlt : be (xs.take i) * 256 + xs.getD i 0 < 9223372036854775808 := by
      by_cases e : i = 7
      · subst e
        have := be_top xs hb 7 (by omega)
        have := ht (by omega)
        rw [hs] at *
        have : (256 : Int) ^ 7 = 72057594037927936 := by decide
        omega
      · have := be_lt7 xs hb (i + 1) (by omega) (by omega)
        omega
    simp only [spec_GetNumber.l0]
    rw [if_pos (by omega), if_pos (by omega), rdN, pw64 (x := be (xs.take i) * 256) (by omega) (by omega), pw64 (x := xs.getD i 0) (by omega) (by omega), pw64 (x := be (xs.take i) * 256 + xs.getD i 0) (by omega) (by omega), pw64 (x := (i : Int) + 1) (by omega) (by omega), ← hs]
    have := ih k (i + 1) (by omega) (by omega) (by omega)
    simpa using this

theorem u64_or_top {x y : Int} (hx₀ : 0 ≤ x) (hx : x % 256 = 0) (hx₁ : x < 18446744073709551616) (hy₀ : 0 ≤ y) (hy : y < 256) : Go.bits .or .u64 x y = x + y :=
  bits_join .u64 64 (by decide) Go.wraps_u64 8 x y hx₀ hx hx₁ hy₀ hy (by omega)
theorem or8 (x y : Int) (hx0 : 0 ≤ x) (hx : x < 72057594037927936) (hy0 : 0 ≤ y) (hy : y ≤ 255) : Go.bits .or .u64 (IntKind.u64.wrap (x * 256)) (IntKind.u64.wrap y) = x * 256 + y := by
  rw [Go.u64_wrap_id (x := x * 256) (by omega) (by omega), Go.u64_wrap_id (x := y) (by omega) (by omega)]
  exact u64_or_top (by omega) (by omega) (by omega) hy0 (by omega)
theorem impl_go (xs : List Int) (hb : Bytes xs) (h8 : xs.length ≤ 8) (d : Nat) : ∀ (k i : Nat), i ≤ xs.length → xs.length - i = d → d < k → impl_GetNumber.l0 k (be (xs.take i)) xs (xs.length : Int) (i : Int) = (if be xs > 9223372036854775807 then some (-1) else some (be xs)) := by
  induction d with
  | zero =>
    intro k i hi hd hk
    obtain ⟨k, rfl⟩ : ∃ m, k = m + 1 := ⟨k - 1, by omega⟩
    simp only [impl_GetNumber.l0]
    rw [if_neg (by omega), List.take_of_length_le (by omega)]
    by_cases h : be xs > 9223372036854775807
    · rw [if_pos h, if_pos h]
    · have := be_bd xs hb xs.length (by omega)
      rw [List.take_length] at this
      rw [if_neg h, if_neg h, pw64 (by omega) (by omega)]
  | succ d ih =>
    intro k i hi hd hk
    obtain ⟨k, rfl⟩ : ∃ m, k = m + 1 := ⟨k - 1, by omega⟩
    have h7 := be_lt7 xs hb i (by omega) (by omega)
    have b := hb i
    have hs := be_take xs i (by omega)
    simp only [impl_GetNumber.l0]
    rw [if_pos (by omega), if_pos (by omega), if_pos (by omega), rdN, or8 _ _ h7.1 h7.2 b.1 b.2, pw64 (x := (i : Int) + 1) (by omega) (by omega), ← hs]
    have := ih k (i + 1) (by omega) (by omega) (by omega)
    simpa using this

theorem both (xs : List Int) (hb : Bytes xs) (k : Nat) (hk : 10 ≤ k) : ∃ r, spec_GetNumber.f k xs = some r ∧ impl_GetNumber.f k xs = some r := by
  obtain ⟨k, rfl⟩ : ∃ m, k = m + 1 := ⟨k - 1, by omega⟩
  unfold spec_GetNumber.f impl_GetNumber.f
  by_cases h1 : (xs.length : Int) < 1
  · refine ⟨-1, ?_, ?_⟩
    · rw [if_pos h1]; simp only [spec_GetNumber.j0]; rfl
    · rw [if_pos h1]; simp only [impl_GetNumber.j0]; rfl
  · by_cases h2 : (xs.length : Int) > 8
    · refine ⟨-1, ?_, ?_⟩
      · rw [if_neg h1, if_pos h2]; simp only [spec_GetNumber.j0]; rfl
      · rw [if_neg h1]; simp only [impl_GetNumber.j0]; rw [if_pos (by simpa using h2)]
    · have hi := impl_go xs hb (by omega) xs.length k 0 (by omega) (by omega) (by omega)
      simp only [List.take_zero] at hi
      have hi2 : impl_GetNumber.l0 k 0 xs (xs.length : Int) 0 = (if be xs > 9223372036854775807 then some (-1) else some (be xs)) := hi
      have e2 : decide ((xs.length : Int) > 8) = false := by simp; omega
      by_cases h3 : (xs.length : Int) = 8
      · have h30 : 0 < (xs.length : Int) := by omega
        have hr : rd xs 0 = xs.getD 0 0 := rdN xs 0
        have top := be_top xs hb 7 (by omega)
        rw [List.take_of_length_le (by omega)] at top
        have p7 : (256 : Int) ^ 7 = 72057594037927936 := by decide
        rw [p7] at top
        by_cases h4 : xs.getD 0 0 > 127
        · refine ⟨-1, ?_, ?_⟩
          · rw [if_neg h1, if_neg h2, if_pos h3, if_pos h30, hr]; simp only [spec_GetNumber.j0]; rw [if_pos (by simpa using h4)]
          · rw [if_neg h1, e2]; simp only [impl_GetNumber.j0]; rw [if_neg (by decide), hi2, if_pos (by omega)]
        · have hs := spec_go xs hb (by omega) (by intro _; omega) xs.length k 0 (by omega) (by omega) (by omega)
          simp only [List.take_zero] at hs
          have hs2 : spec_GetNumber.l0 k xs 0 0 = some (be xs) := hs
          refine ⟨be xs, ?_, ?_⟩
          · rw [if_neg h1, if_neg h2, if_pos h3, if_pos h30, hr]; simp only [spec_GetNumber.j0]; rw [if_neg (by simpa using h4)]; exact hs2
          · rw [if_neg h1, e2]; simp only [impl_GetNumber.j0]; rw [if_neg (by decide), hi2, if_neg (by omega)]
      · have hs := spec_go xs hb (by omega) (by intro _; omega) xs.length k 0 (by omega) (by omega) (by omega)
        simp only [List.take_zero] at hs
        have hs2 : spec_GetNumber.l0 k xs 0 0 = some (be xs) := hs
        have h7 := be_lt7 xs hb xs.length (by omega) (by omega)
        rw [List.take_length] at h7
        refine ⟨be xs, ?_, ?_⟩
        · rw [if_neg h1, if_neg h2, if_neg h3]; simp only [spec_GetNumber.j0]; rw [if_neg (by decide)]; exact hs2
        · rw [if_neg h1, e2]; simp only [impl_GetNumber.j0]; rw [if_neg (by decide), hi2, if_neg (by omega)]

theorem FnExactGetNumber : laws_FnExactGetNumber.Pure := by
  intro xs _ _ hw
  have hb : Bytes xs := by
    intro i
    by_cases h : i < xs.length
    · have := hw (xs.getD i 0) (by rw [List.getD_eq_getElem?_getD, List.getElem?_eq_getElem h]; simp)
      simp only [Lit.wf, IntKind.min, IntKind.max, IntKind.signed, IntKind.bits, Bool.and_eq_true] at this
      constructor
      · simpa using this.1
      · simpa using this.2
    · rw [List.getD_eq_getElem?_getD, List.getElem?_eq_none (by omega)]; simp
  refine ⟨xs.length + 10, ?_⟩
  unfold laws_FnExactGetNumber.f
  by_cases h : (xs.length : Int) > 1048576
  · rw [if_pos h]
  · rw [if_neg h]
    have ht := toByteS_some xs (by omega) (xs.length + 10) (by omega)
    obtain ⟨r, h1, h2⟩ := both xs hb (xs.length + 10) (by omega)
    simp only [ht, h1, h2, Option.bind_some, if_true, eqByteS_same xs (by omega) (xs.length + 10) (by omega)]

end Go.Proofs.Ytjkhmagnlaijhaa.Pure
