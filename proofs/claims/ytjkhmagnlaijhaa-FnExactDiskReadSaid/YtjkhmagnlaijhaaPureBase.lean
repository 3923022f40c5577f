/- Proved: plain lemmas on printed loops (a function of a number of rounds): a loop that copies, one that compares, two that answer alike. No statement of the seat is proved here. -/
import Derived.Test.YtjkhmagnlaijhaaWWords
namespace Go.Proofs.Ytjkhmagnlaijhaa.PureBase
open Go.RowKit Go.Proofs.YtjkhmagnlaijhaaW.PrintWords
theorem pw64 {x : Int} (h0 : -9223372036854775808 ≤ x) (h1 : x < 9223372036854775808) : wrap64 x = x := by unfold wrap64; omega
theorem rdN (xs : List Int) (i : Nat) : rd xs (i : Int) = xs.getD i 0 := by simp [rd]
theorem getD_at {α : Type} (xs : List α) (i : Nat) (d : α) (h : i < xs.length) : xs.getD i d = xs[i] := by
  rw [List.getD_eq_getElem?_getD, List.getElem?_eq_getElem h]
  rfl
/-- A loop that goes on to n. -/
theorem end_go {R : Type} (L : Nat → Int → Option R) (n K : Nat) (r : R) (hs : ∀ (k i : Nat), i < n → K ≤ k → L (k + 1) (i : Int) = L k ((i : Int) + 1)) (he : ∀ k, K ≤ k → L (k + 1) (n : Int) = some r) (d : Nat) :
    ∀ (k i : Nat), i ≤ n → n - i = d → d + K < k → L k (i : Int) = some r := by
  induction d with
  | zero =>
    intro k i hi hd hk
    obtain ⟨k, rfl⟩ : ∃ m, k = m + 1 := ⟨k - 1, by omega⟩
    obtain rfl : i = n := by omega
    exact he k (by omega)
  | succ d ih =>
    intro k i hi hd hk
    obtain ⟨k, rfl⟩ : ∃ m, k = m + 1 := ⟨k - 1, by omega⟩
    rw [hs k i (by omega) (by omega)]
    have := ih k (i + 1) (by omega) (by omega) (by omega)
    simpa using this
/-- A loop that copies element for element. -/
theorem map_go {A B : Type} (g : A → B) (L : Nat → List B → Int → Option (List B)) (xs : List A) (K : Nat)
    (hs : ∀ (k i : Nat) (ys : List B) (h : i < xs.length), K ≤ k → ys.length = xs.length → L (k + 1) ys (i : Int) = L k (ys.set i (g xs[i])) ((i : Int) + 1))
    (he : ∀ (k : Nat) (ys : List B), ys.length = xs.length → L (k + 1) ys (xs.length : Int) = some ys) (d : Nat) :
    ∀ (k i : Nat) (ys : List B), ys.length = xs.length → (∀ j, j < i → ys[j]? = (xs.map g)[j]?) → i ≤ xs.length → xs.length - i = d → d + K < k → L k ys (i : Int) = some (xs.map g) := by
  induction d with
  | zero =>
    intro k i ys hl hp hi hd hk
    obtain ⟨k, rfl⟩ : ∃ m, k = m + 1 := ⟨k - 1, by omega⟩
    obtain rfl : i = xs.length := by omega
    rw [he k ys hl]
    congr 1
    apply List.ext_getElem?
    intro j
    by_cases hj : j < xs.length
    · exact hp j hj
    · rw [List.getElem?_eq_none (by omega), List.getElem?_eq_none (by simp; omega)]
  | succ d ih =>
    intro k i ys hl hp hi hd hk
    obtain ⟨k, rfl⟩ : ∃ m, k = m + 1 := ⟨k - 1, by omega⟩
    rw [hs k i ys (by omega) (by omega) hl]
    have := ih k (i + 1) (ys.set i (g (xs[i]'(by omega)))) (by simp [hl]) (by
      intro j hj
      rw [List.getElem?_set]
      by_cases e : i = j
      · subst e
        rw [if_pos rfl, if_pos (by omega), List.getElem?_map, List.getElem?_eq_getElem (by omega)]
        rfl
      · rw [if_neg e]
        exact hp j (by omega)) (by omega) (by omega) (by omega)
    simpa using this
theorem map_all {A B : Type} (g : A → B) (L : Nat → List B → Int → Option (List B)) (xs : List A) (K : Nat)
    (hs : ∀ (k i : Nat) (ys : List B) (h : i < xs.length), K ≤ k → ys.length = xs.length → L (k + 1) ys (i : Int) = L k (ys.set i (g xs[i])) ((i : Int) + 1))
    (he : ∀ (k : Nat) (ys : List B), ys.length = xs.length → L (k + 1) ys (xs.length : Int) = some ys) (k : Nat) (ys : List B) (hl : ys.length = xs.length) (hk : xs.length + K < k) : L k ys 0 = some (xs.map g) := by
  have := map_go g L xs K hs he xs.length k 0 ys hl (by intro j hj; omega) (by omega) (by omega) hk
  simpa using this
/-- Two loops that answer alike. -/
theorem same_go {R : Type} (L1 L2 : Nat → Int → Option R) (n K : Nat)
    (hs : ∀ (k i : Nat), i < n → K ≤ k → (L1 (k + 1) (i : Int) = L1 k ((i : Int) + 1) ∧ L2 (k + 1) (i : Int) = L2 k ((i : Int) + 1)) ∨ ∃ r, L1 (k + 1) (i : Int) = some r ∧ L2 (k + 1) (i : Int) = some r)
    (he : ∀ (k i : Nat), n ≤ i → K ≤ k → ∃ r, L1 (k + 1) (i : Int) = some r ∧ L2 (k + 1) (i : Int) = some r) (d : Nat) :
    ∀ (k i : Nat), n - i = d → d + K < k → ∃ r, L1 k (i : Int) = some r ∧ L2 k (i : Int) = some r := by
  induction d with
  | zero =>
    intro k i hd hk
    obtain ⟨k, rfl⟩ : ∃ m, k = m + 1 := ⟨k - 1, by omega⟩
    exact he k i (by omega) (by omega)
  | succ d ih =>
    intro k i hd hk
    obtain ⟨k, rfl⟩ : ∃ m, k = m + 1 := ⟨k - 1, by omega⟩
    rcases hs k i (by omega) (by omega) with ⟨h1, h2⟩ | h
    · have := ih k (i + 1) (by omega) (by omega)
      rw [h1, h2]
      simpa using this
    · exact h
theorem same_all {R : Type} (L1 L2 : Nat → Int → Option R) (n K : Nat)
    (hs : ∀ (k i : Nat), i < n → K ≤ k → (L1 (k + 1) (i : Int) = L1 k ((i : Int) + 1) ∧ L2 (k + 1) (i : Int) = L2 k ((i : Int) + 1)) ∨ ∃ r, L1 (k + 1) (i : Int) = some r ∧ L2 (k + 1) (i : Int) = some r)
    (he : ∀ (k i : Nat), n ≤ i → K ≤ k → ∃ r, L1 (k + 1) (i : Int) = some r ∧ L2 (k + 1) (i : Int) = some r) (k i : Nat) (hk : n + K < k) : ∃ r, L1 k (i : Int) = some r ∧ L2 k (i : Int) = some r :=
  same_go L1 L2 n K hs he (n - i) k i rfl (by omega)
end Go.Proofs.Ytjkhmagnlaijhaa.PureBase
