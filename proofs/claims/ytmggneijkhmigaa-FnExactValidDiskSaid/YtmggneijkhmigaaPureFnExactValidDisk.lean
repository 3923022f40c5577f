/- Proved: the pure form of FnExactValidDisk: ValidDisk of the program answers as the reference at every disk, and leaves it alone. Conditions: none beyond the statement. -/
import Derived.Test.YtmggneijkhmigaaMFnExactValidDiskx4
import Derived.Test.YtmggneijkhmigaaPureBase
import Derived.OpenShut
namespace Go.Proofs.Ytmggneijkhmigaa.Pure
open Go.RowKit Go.Proofs.Ytmggneijkhmigaa.PFnExactValidDisk Go.Proofs.YtmggneijkhmigaaW.PrintWords Go.Proofs.YtmggneijkhmigaaW.PrintLast Go.Proofs.Ytmggneijkhmigaa.PureBase
set_option linter.unusedVariables false
set_option linter.unusedSimpArgs false

theorem toByteS_some (xs : List Int) (hn : xs.length ≤ 281474976710656) (k : Nat) (hk : xs.length < k) : laws_toByteS.f k xs = some xs := by
  unfold laws_toByteS.f
  rw [if_pos (by omega), if_pos (by rw [Int.toNat_natCast]; omega)]
  have := map_all (fun x : Int => x) (fun k ys i => laws_toByteS.l0 k xs ys i) xs 0
    (by
      intro k i ys h _ hl
      simp only [laws_toByteS.l0]
      rw [if_pos (by omega), if_pos (by omega), if_pos (by omega), pw64 (by omega) (by omega), rdN, getD_at xs i 0 h, Int.toNat_natCast])
    (by
      intro k ys _
      simp only [laws_toByteS.l0]
      rw [if_neg (by omega)]) k (List.replicate ((xs.length : Int)).toNat 0) (by simp) (by omega)
  simpa using this

theorem eqByteS_same (xs : List Int) (hn : xs.length ≤ 281474976710656) (k : Nat) (hk : xs.length < k) : laws_eqByteS.f k xs xs = some true := by
  unfold laws_eqByteS.f
  rw [if_pos rfl]
  exact end_go (fun k i => laws_eqByteS.l0 k xs xs i) xs.length 0 true
    (by
      intro k i h _
      simp only [laws_eqByteS.l0]
      rw [if_pos (by omega), if_pos (by omega), if_pos (by omega), pw64 (by omega) (by omega)]
      simp)
    (by
      intro k _
      simp only [laws_eqByteS.l0]
      rw [if_neg (by omega)]) xs.length k 0 (by omega) (by omega) (by omega)

theorem rd146_at (xs : List S146) (i : Nat) (h : i < xs.length) : rd_T146 xs (i : Int) = xs[i] := by
  unfold rd_T146
  rw [Int.toNat_natCast]
  exact getD_at xs i z146 h
theorem rd107_at (xs : List S107) (i : Nat) (h : i < xs.length) : rd_T107 xs (i : Int) = xs[i] := by
  unfold rd_T107
  rw [Int.toNat_natCast]
  exact getD_at xs i z107 h
def cpSectorWrite (x : S146) : S107 := ⟨x.f0, x.f1⟩
def Small (N : Nat) (xs : List S146) : Prop := ∀ x ∈ xs, x.f1.length ≤ N
theorem toSectorWriteS_some (xs : List S146) (hn : xs.length ≤ 8796093022208) (N : Nat) (hN : N ≤ 281474976710656) (hs : Small N xs) (k : Nat) (hk : xs.length + (N + 1) < k) : laws_toSectorWriteS.f k xs = some (xs.map cpSectorWrite) := by
  unfold laws_toSectorWriteS.f
  rw [if_pos (by omega), if_pos (by rw [Int.toNat_natCast]; omega)]
  exact map_all cpSectorWrite (fun k ys i => laws_toSectorWriteS.l0 k xs ys i) xs (N + 1)
    (by
      intro k i ys h hK hl
      have hb : (xs[i]).f1.length ≤ N := hs _ (List.getElem_mem h)
      simp only [laws_toSectorWriteS.l0, laws_toSectorWrite.f]
      rw [if_pos (by omega), if_pos (by omega), rd146_at xs i h, toByteS_some _ (by omega) k (by omega)]
      simp only [Option.bind_some]
      rw [if_pos (by omega), pw64 (by omega) (by omega), Int.toNat_natCast]
      rfl)
    (by
      intro k ys _
      simp only [laws_toSectorWriteS.l0]
      rw [if_neg (by omega)]) k (List.replicate ((xs.length : Int)).toNat z107) (by simp) (by omega)
theorem eqSectorWriteS_same (xs : List S107) (hn : xs.length ≤ 8796093022208) (N : Nat) (hN : N ≤ 281474976710656) (hs : ∀ x ∈ xs, x.f1.length ≤ N) (k : Nat) (hk : xs.length + (N + 1) < k) : laws_eqSectorWriteS.f k xs xs = some true := by
  unfold laws_eqSectorWriteS.f
  rw [if_pos rfl]
  exact end_go (fun k i => laws_eqSectorWriteS.l0 k xs xs i) xs.length (N + 1) true
    (by
      intro k i h hK
      have hb : (xs[i]).f1.length ≤ N := hs _ (List.getElem_mem h)
      simp only [laws_eqSectorWriteS.l0, laws_eqSectorWrite.f]
      rw [if_pos (by omega), if_pos (by omega), if_pos (by omega), rd107_at xs i h, eqByteS_same _ (by omega) k (by omega), pw64 (by omega) (by omega)]
      simp)
    (by
      intro k _
      simp only [laws_eqSectorWriteS.l0]
      rw [if_neg (by omega)]) xs.length k 0 (by omega) (by omega) (by omega)
/-- The size of a list of writes: past the bound -1 comes back; else each write is short. -/
theorem szSectorWriteS_tells (xs : List S146) (hn : xs.length ≤ 9223372036854775807) (hs : ∀ x ∈ xs, x.f1.length ≤ 9223372036854775807) (d : Nat) : ∀ (k i : Nat) (a : Int), 0 ≤ a → a ≤ 1048576 → i ≤ xs.length → xs.length - i = d → d < k →
    ∃ r, laws_szSectorWriteS.l0 k xs a (i : Int) = some r ∧ r ≤ 1048576 ∧ (0 ≤ r → ∀ (j : Nat) (hj : j < xs.length), i ≤ j → (xs[j]).f1.length ≤ 1048576) := by
  induction d with
  | zero =>
    intro k i a h0 h1 hi hd hk
    obtain ⟨k, rfl⟩ : ∃ m, k = m + 1 := ⟨k - 1, by omega⟩
    simp only [laws_szSectorWriteS.l0]
    rw [if_neg (by omega)]
    exact ⟨a, rfl, h1, fun _ j hj hij => by omega⟩
  | succ d ih =>
    intro k i a h0 h1 hi hd hk
    obtain ⟨k, rfl⟩ : ∃ m, k = m + 1 := ⟨k - 1, by omega⟩
    have hil : i < xs.length := by omega
    have hb : (xs[i]).f1.length ≤ 9223372036854775807 := hs _ (List.getElem_mem hil)
    simp only [laws_szSectorWriteS.l0, laws_szSectorWrite.f, laws_szByteS.f]
    rw [if_pos (by omega), if_pos (by omega), rd146_at xs i hil, pw64 (x := a - ((xs[i]).f1.length : Int)) (by omega) (by omega)]
    by_cases h : a - ((xs[i]).f1.length : Int) < 0
    · rw [if_pos h]
      refine ⟨-1, by simp, by omega, fun h => by omega⟩
    · rw [if_neg h]
      simp only [Option.bind_some]
      rw [if_neg h]
      simp only [Option.bind_some]
      rw [if_neg h, pw64 (by omega) (by omega)]
      obtain ⟨r, hr, hr1, hr2⟩ := ih k (i + 1) (a - ((xs[i]).f1.length : Int)) (by omega) (by omega) (by omega) (by omega) (by omega)
      refine ⟨r, by simpa using hr, hr1, fun h0 j hj hij => ?_⟩
      rcases Nat.eq_or_lt_of_le hij with e | e
      · subst e
        omega
      · exact hr2 h0 j hj e

theorem szDisk_tells (l : List Int) (xs : List S146) (hl : l.length ≤ 9223372036854775807) (hn : xs.length ≤ 9223372036854775807) (hs : ∀ x ∈ xs, x.f1.length ≤ 9223372036854775807) (k : Nat) (hk : xs.length < k) :
    ∃ r, laws_szDisk.f k l xs 1048576 = some r ∧ (0 ≤ r → l.length ≤ 1048576 ∧ xs.length ≤ 1048576 ∧ Small 1048576 xs) := by
  unfold laws_szDisk.f laws_szByteS.f
  rw [pw64 (by omega) (by omega)]
  by_cases h : 1048576 - (l.length : Int) < 0
  · rw [if_pos h]
    exact ⟨-1, by simp, fun h => by omega⟩
  · rw [if_neg h]
    simp only [Option.bind_some]
    rw [if_neg h]
    unfold laws_szSectorWriteS.f
    rw [pw64 (by omega) (by omega)]
    by_cases h' : 1048576 - (l.length : Int) - (xs.length : Int) < 0
    · rw [if_pos h']
      exact ⟨-1, by simp, fun h => by omega⟩
    · rw [if_neg h']
      obtain ⟨r, hr, _, hr2⟩ := szSectorWriteS_tells xs hn hs xs.length k 0 (1048576 - (l.length : Int) - (xs.length : Int)) (by omega) (by omega) (by omega) (by omega) hk
      have hr' : laws_szSectorWriteS.l0 k xs (1048576 - (l.length : Int) - (xs.length : Int)) 0 = some r := hr
      rw [hr']
      simp only [Option.bind_some]
      by_cases h3 : r < 0
      · rw [if_pos h3]
        exact ⟨-1, rfl, fun h => by omega⟩
      · rw [if_neg h3]
        refine ⟨r, rfl, fun _ => ⟨by omega, by omega, fun x hx => ?_⟩⟩
        obtain ⟨j, hj, rfl⟩ := List.getElem_of_mem hx
        exact hr2 (by omega) j hj (Nat.zero_le _)

theorem loop_both (n : Nat) (hn : n ≤ 1048576) (l : List Int) (xs : List S107) (hx : xs.length ≤ 1048576) (k : Nat) (hk : xs.length < k) :
    ∃ r, spec_ValidDisk.l0 k ((n : Int) / 512) 0 l xs = some r ∧ impl_ValidDisk.l0 k (n : Int) xs (xs.length : Int) 0 = some r :=
  same_all (fun k i => spec_ValidDisk.l0 k ((n : Int) / 512) i l xs) (fun k i => impl_ValidDisk.l0 k (n : Int) xs (xs.length : Int) i) xs.length 0
    (by
      intro k i h _
      have e : wrap64 (Int.tdiv (n : Int) 512) = (n : Int) / 512 := by
        rw [Int.tdiv_eq_ediv_of_nonneg (by omega)]
        exact pw64 (by omega) (by omega)
      simp only [spec_ValidDisk.l0, impl_ValidDisk.l0, e]
      rw [if_pos (show (i : Int) < (xs.length : Int) by omega), if_pos (show 0 ≤ (i : Int) by omega), if_pos (show (i : Int) < (xs.length : Int) by omega), if_pos (show 0 ≤ (i : Int) by omega), if_pos (show (i : Int) < (xs.length : Int) by omega), pw64 (by omega) (by omega)]
      by_cases c1 : (rd_T107 xs (i : Int)).f0 < 0
      · rw [if_pos c1]
        refine .inr ⟨_, rfl, ?_⟩
        split <;> first | rfl | simp
      · by_cases c2 : (rd_T107 xs (i : Int)).f0 ≥ (n : Int) / 512
        · rw [if_neg c1, if_pos c2]
          refine .inr ⟨_, rfl, ?_⟩
          split <;> rfl
        · rw [if_neg c1, if_neg c2]
          by_cases c3 : (((rd_T107 xs (i : Int)).f1).length : Int) = 512
          · rw [if_pos c3, if_pos c3, if_neg c1, if_neg c2]
            exact .inl ⟨rfl, rfl⟩
          · rw [if_neg c3, if_neg c3]
            exact .inr ⟨_, rfl, rfl⟩)
    (by
      intro k i h _
      simp only [spec_ValidDisk.l0, impl_ValidDisk.l0]
      rw [if_neg (by omega), if_neg (by omega)]
      exact ⟨_, rfl, rfl⟩) k 0 (by omega)
theorem both (l : List Int) (xs : List S107) (hl : l.length ≤ 1048576) (hx : xs.length ≤ 1048576) (k : Nat) (hk : xs.length + 1 < k) : ∃ r, spec_ValidDisk.f k l xs = some r ∧ impl_ValidDisk.f k l xs = some r := by
  obtain ⟨k, rfl⟩ : ∃ m, k = m + 1 := ⟨k - 1, by omega⟩
  unfold spec_ValidDisk.f impl_ValidDisk.f spec_l1Sectors.f
  simp only [Option.bind_some, spec_ValidDisk.j0, impl_ValidDisk.j0, if_true]
  rw [pw64 (x := (l.length : Int) / 512) (by omega) (by omega)]
  by_cases h1 : (l.length : Int) % 512 = 0
  · rw [if_pos h1, if_pos h1]
    by_cases h2 : (l.length : Int) / 512 < 1
    · rw [if_pos h2, if_pos (by omega)]
      exact ⟨_, rfl, rfl⟩
    · by_cases h3 : (l.length : Int) / 512 > 1024
      · rw [if_neg h2, if_pos h3, if_neg (by omega), if_pos (by omega)]
        exact ⟨_, rfl, rfl⟩
      · rw [if_neg h2, if_neg h3, if_neg (show ¬ (l.length : Int) < 512 by omega), if_neg (show ¬ (l.length : Int) > 524288 by omega)]
        by_cases h4 : decide ((xs.length : Int) > 8192) = true
        · rw [if_pos h4, if_pos h4]
          exact ⟨_, rfl, rfl⟩
        · rw [if_neg h4, if_neg h4]
          exact loop_both l.length hl l xs hx k (by omega)
  · rw [if_neg h1, if_neg h1]
    exact ⟨_, rfl, rfl⟩

theorem FnExactValidDisk (l0_0 : (List Int)) (l0_1 : (List S146)) (w0_0 : l0_0.length ≤ maxLen ∧ ∀ y0 ∈ l0_0, (Lit.int .u8 y0).wf = true) (w0_1 : l0_1.length ≤ maxLen ∧ ∀ y0 ∈ l0_1, ((Lit.int .i64 y0.f0).wf = true) ∧ (y0.f1.length ≤ maxLen ∧ ∀ y2 ∈ y0.f1, (Lit.int .u8 y2).wf = true)) : ∃ k, laws_FnExactValidDisk.f k l0_0 l0_1 = some true := by
  have hm : l0_0.length ≤ 9223372036854775807 := w0_0.1
  have hm2 : l0_1.length ≤ 9223372036854775807 := w0_1.1
  have hm3 : ∀ x ∈ l0_1, x.f1.length ≤ 9223372036854775807 := fun x hx => (w0_1.2 x hx).2.1
  obtain ⟨K, hK⟩ : ∃ K, K = l0_0.length + l0_1.length + 1048580 := ⟨_, rfl⟩
  refine ⟨K, ?_⟩
  unfold laws_FnExactValidDisk.f
  obtain ⟨r, hr, hr2⟩ := szDisk_tells l0_0 l0_1 hm hm2 hm3 K (by omega)
  rw [hr]
  simp only [Option.bind_some]
  by_cases h : r < 0
  · rw [if_pos h]
  · rw [if_neg h]
    obtain ⟨b1, b2, b3⟩ := hr2 (by omega)
    unfold laws_toDisk.f laws_eqDisk.f
    rw [toByteS_some l0_0 (by omega) _ (by omega), toSectorWriteS_some l0_1 (by omega) 1048576 (by omega) b3 _ (by omega)]
    simp only [Option.bind_some]
    obtain ⟨q, h1, h2⟩ := both l0_0 (l0_1.map cpSectorWrite) b1 (by simpa using b2) K (by simp; omega)
    rw [h1, h2]
    simp only [Option.bind_some, bne_self_eq_false]
    rw [eqByteS_same _ (by omega) _ (by omega), eqSectorWriteS_same _ (by simp; omega) 1048576 (by omega) (by
      intro x hx
      obtain ⟨y, hy, rfl⟩ := List.mem_map.1 hx
      exact b3 y hy) _ (by simp; omega)]
    simp

end Go.Proofs.Ytmggneijkhmigaa.Pure
