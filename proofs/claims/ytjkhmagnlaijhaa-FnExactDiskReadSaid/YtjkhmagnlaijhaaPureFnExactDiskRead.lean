/- Proved: the pure form of FnExactDiskRead: Read of the program answers as the reference at every disk and sector, leaves the disk alone, and its answer owns its memory. Conditions: none beyond the statement. -/
import Derived.Test.YtjkhmagnlaijhaaQFnExactDiskReadx5
import Derived.Test.YtjkhmagnlaijhaaPureBase
import Derived.OpenShut
namespace Go.Proofs.Ytjkhmagnlaijhaa.Pure
open Go.RowKit Go.Proofs.Ytjkhmagnlaijhaa.QFnExactDiskRead Go.Proofs.YtjkhmagnlaijhaaW.PrintWords Go.Proofs.YtjkhmagnlaijhaaW.PrintLast Go.Proofs.Ytjkhmagnlaijhaa.PureBase
set_option linter.unusedVariables false
set_option linter.unusedSimpArgs false

theorem toByteS_some (xs : List Int) (hn : xs.length ≤ 281474976710656) (k : Nat) (hk : xs.length < k) : laws_toByteS.f k xs = some xs := by
  unfold laws_toByteS.f
  rw [if_pos (by omega), if_pos (by rw [Int.toNat_natCast]; omega)]
  have := map_all (fun x : Int => x) (fun k ys i => laws_toByteS.l0 k xs ys i) xs 0
    (by
      intro k i ys h _ hl
      simp only [laws_toByteS.l0]
      rw [if_pos (by omega), if_pos (by omega), if_pos (by omega), pw64 (by omega) (by omega), rdN, getD_at xs i 0 h, Int.toNat_natCast])
    (by
      intro k ys _
      simp only [laws_toByteS.l0]
      rw [if_neg (by omega)]) k (List.replicate ((xs.length : Int)).toNat 0) (by simp) (by omega)
  simpa using this

theorem eqByteS_same (xs : List Int) (hn : xs.length ≤ 281474976710656) (k : Nat) (hk : xs.length < k) : laws_eqByteS.f k xs xs = some true := by
  unfold laws_eqByteS.f
  rw [if_pos rfl]
  exact end_go (fun k i => laws_eqByteS.l0 k xs xs i) xs.length 0 true
    (by
      intro k i h _
      simp only [laws_eqByteS.l0]
      rw [if_pos (by omega), if_pos (by omega), if_pos (by omega), pw64 (by omega) (by omega)]
      simp)
    (by
      intro k _
      simp only [laws_eqByteS.l0]
      rw [if_neg (by omega)]) xs.length k 0 (by omega) (by omega) (by omega)

/-- What marks leave: from k on. -/
def Marked (k : Int) (ys : List Int) : Prop := ∀ (i : Nat) (h : i < ys.length), ys[i] = (k + (i : Int)) % 256
theorem markByteS_go (n : Nat) (k0 : Int) (h0 : 0 ≤ k0) (h1 : k0 ≤ 4611686018427387904) (hn : n ≤ 140737488355328) (d : Nat) : ∀ (K i : Nat) (ys : List Int), ys.length = n → (∀ (j : Nat) (h : j < ys.length), j < i → ys[j] = (k0 + (j : Int)) % 256) → i ≤ n → n - i = d → d < K →
    ∃ zs, laws_markByteS.l0 K ys (k0 + (i : Int)) (i : Int) = some (k0 + (n : Int), zs) ∧ zs.length = n ∧ Marked k0 zs := by
  induction d with
  | zero =>
    intro K i ys hl hp hi hd hk
    obtain ⟨K, rfl⟩ : ∃ m, K = m + 1 := ⟨K - 1, by omega⟩
    simp only [laws_markByteS.l0]
    rw [if_neg (by omega)]
    obtain rfl : i = n := by omega
    exact ⟨ys, rfl, hl, fun j h => hp j h (by omega)⟩
  | succ d ih =>
    intro K i ys hl hp hi hd hk
    obtain ⟨K, rfl⟩ : ∃ m, K = m + 1 := ⟨K - 1, by omega⟩
    simp only [laws_markByteS.l0]
    rw [if_pos (by omega), if_pos (by omega), pw64 (x := k0 + (i : Int) + 1) (by omega) (by omega), pw64 (x := (i : Int) + 1) (by omega) (by omega), Int.toNat_natCast]
    obtain ⟨zs, h, h2, h3⟩ := ih K (i + 1) (ys.set i ((k0 + (i : Int)) % 256)) (by simp [hl]) (by
      intro j h hj
      rw [List.getElem_set]
      by_cases e : i = j
      · subst e
        rw [if_pos rfl]
      · rw [if_neg e]
        exact hp j (by simpa using h) (by omega)) (by omega) (by omega) (by omega)
    refine ⟨zs, ?_, h2, h3⟩
    rw [← h]
    congr 1
    omega
theorem heldByteS_go (ys : List Int) (k0 : Int) (h0 : 0 ≤ k0) (h1 : k0 ≤ 4611686018427387904) (hn : ys.length ≤ 140737488355328) (hm : Marked k0 ys) (d : Nat) : ∀ (K i : Nat), i ≤ ys.length → ys.length - i = d → d < K → laws_heldByteS.l0 K ys (k0 + (i : Int)) (i : Int) = some (k0 + (ys.length : Int)) := by
  induction d with
  | zero =>
    intro K i hi hd hk
    obtain ⟨K, rfl⟩ : ∃ m, K = m + 1 := ⟨K - 1, by omega⟩
    simp only [laws_heldByteS.l0]
    rw [if_neg (by omega)]
    obtain rfl : i = ys.length := by omega
    rfl
  | succ d ih =>
    intro K i hi hd hk
    obtain ⟨K, rfl⟩ : ∃ m, K = m + 1 := ⟨K - 1, by omega⟩
    have hil : i < ys.length := by omega
    simp only [laws_heldByteS.l0]
    rw [if_pos (by omega), if_pos (by omega), rdN, getD_at ys i 0 hil, if_pos (hm i hil), pw64 (x := k0 + (i : Int) + 1) (by omega) (by omega), pw64 (x := (i : Int) + 1) (by omega) (by omega)]
    have := ih K (i + 1) (by omega) (by omega) (by omega)
    rw [← this]
    congr 1
    omega
theorem markByteS_some (xs : List Int) (k0 : Int) (h0 : 0 ≤ k0) (h1 : k0 ≤ 4611686018427387904) (hn : xs.length ≤ 140737488355328) (K : Nat) (hK : xs.length < K) :
    ∃ zs, laws_markByteS.f K xs k0 = some (k0 + (xs.length : Int), zs) ∧ zs.length = xs.length ∧ ∀ K', xs.length < K' → laws_heldByteS.f K' zs k0 = some (k0 + (xs.length : Int)) := by
  obtain ⟨zs, h, h2, h3⟩ := markByteS_go xs.length k0 h0 h1 hn xs.length K 0 xs rfl (by intro j h hj; omega) (by omega) (by omega) hK
  refine ⟨zs, ?_, h2, fun K' hK' => ?_⟩
  · unfold laws_markByteS.f
    simpa using h
  · have := heldByteS_go zs k0 h0 h1 (by omega) h3 zs.length K' 0 (by omega) (by omega) (by omega)
    unfold laws_heldByteS.f
    rw [h2] at this
    simpa using this

theorem rd88_at (xs : List S88) (i : Nat) (h : i < xs.length) : rd_T88 xs (i : Int) = xs[i] := by
  unfold rd_T88
  rw [Int.toNat_natCast]
  exact getD_at xs i z88 h
theorem rd89_at (xs : List S89) (i : Nat) (h : i < xs.length) : rd_T89 xs (i : Int) = xs[i] := by
  unfold rd_T89
  rw [Int.toNat_natCast]
  exact getD_at xs i z89 h
def cpSectorWrite (x : S88) : S89 := ⟨x.f0, x.f1⟩
def Small (N : Nat) (xs : List S88) : Prop := ∀ x ∈ xs, x.f1.length ≤ N
theorem toSectorWriteS_some (xs : List S88) (hn : xs.length ≤ 8796093022208) (N : Nat) (hN : N ≤ 281474976710656) (hs : Small N xs) (k : Nat) (hk : xs.length + (N + 1) < k) : laws_toSectorWriteS.f k xs = some (xs.map cpSectorWrite) := by
  unfold laws_toSectorWriteS.f
  rw [if_pos (by omega), if_pos (by rw [Int.toNat_natCast]; omega)]
  exact map_all cpSectorWrite (fun k ys i => laws_toSectorWriteS.l0 k xs ys i) xs (N + 1)
    (by
      intro k i ys h hK hl
      have hb : (xs[i]).f1.length ≤ N := hs _ (List.getElem_mem h)
      simp only [laws_toSectorWriteS.l0, laws_toSectorWrite.f]
      rw [if_pos (by omega), if_pos (by omega), rd88_at xs i h, toByteS_some _ (by omega) k (by omega)]
      simp only [Option.bind_some]
      rw [if_pos (by omega), pw64 (by omega) (by omega), Int.toNat_natCast]
      rfl)
    (by
      intro k ys _
      simp only [laws_toSectorWriteS.l0]
      rw [if_neg (by omega)]) k (List.replicate ((xs.length : Int)).toNat z89) (by simp) (by omega)
theorem eqSectorWriteS_same (xs : List S89) (hn : xs.length ≤ 8796093022208) (N : Nat) (hN : N ≤ 281474976710656) (hs : ∀ x ∈ xs, x.f1.length ≤ N) (k : Nat) (hk : xs.length + (N + 1) < k) : laws_eqSectorWriteS.f k xs xs = some true := by
  unfold laws_eqSectorWriteS.f
  rw [if_pos rfl]
  exact end_go (fun k i => laws_eqSectorWriteS.l0 k xs xs i) xs.length (N + 1) true
    (by
      intro k i h hK
      have hb : (xs[i]).f1.length ≤ N := hs _ (List.getElem_mem h)
      simp only [laws_eqSectorWriteS.l0, laws_eqSectorWrite.f]
      rw [if_pos (by omega), if_pos (by omega), if_pos (by omega), rd89_at xs i h, eqByteS_same _ (by omega) k (by omega), pw64 (by omega) (by omega)]
      simp)
    (by
      intro k _
      simp only [laws_eqSectorWriteS.l0]
      rw [if_neg (by omega)]) xs.length k 0 (by omega) (by omega) (by omega)
/-- The size of a list of writes: past the bound -1 comes back; else each write is short. -/
theorem szSectorWriteS_tells (xs : List S88) (hn : xs.length ≤ 9223372036854775807) (hs : ∀ x ∈ xs, x.f1.length ≤ 9223372036854775807) (d : Nat) : ∀ (k i : Nat) (a : Int), 0 ≤ a → a ≤ 1048576 → i ≤ xs.length → xs.length - i = d → d < k →
    ∃ r, laws_szSectorWriteS.l0 k xs a (i : Int) = some r ∧ r ≤ 1048576 ∧ (0 ≤ r → ∀ (j : Nat) (hj : j < xs.length), i ≤ j → (xs[j]).f1.length ≤ 1048576) := by
  induction d with
  | zero =>
    intro k i a h0 h1 hi hd hk
    obtain ⟨k, rfl⟩ : ∃ m, k = m + 1 := ⟨k - 1, by omega⟩
    simp only [laws_szSectorWriteS.l0]
    rw [if_neg (by omega)]
    exact ⟨a, rfl, h1, fun _ j hj hij => by omega⟩
  | succ d ih =>
    intro k i a h0 h1 hi hd hk
    obtain ⟨k, rfl⟩ : ∃ m, k = m + 1 := ⟨k - 1, by omega⟩
    have hil : i < xs.length := by omega
    have hb : (xs[i]).f1.length ≤ 9223372036854775807 := hs _ (List.getElem_mem hil)
    simp only [laws_szSectorWriteS.l0, laws_szSectorWrite.f, laws_szByteS.f]
    rw [if_pos (by omega), if_pos (by omega), rd88_at xs i hil, pw64 (x := a - ((xs[i]).f1.length : Int)) (by omega) (by omega)]
    by_cases h : a - ((xs[i]).f1.length : Int) < 0
    · rw [if_pos h]
      refine ⟨-1, by simp, by omega, fun h => by omega⟩
    · rw [if_neg h]
      simp only [Option.bind_some]
      rw [if_neg h]
      simp only [Option.bind_some]
      rw [if_neg h, pw64 (by omega) (by omega)]
      obtain ⟨r, hr, hr1, hr2⟩ := ih k (i + 1) (a - ((xs[i]).f1.length : Int)) (by omega) (by omega) (by omega) (by omega) (by omega)
      refine ⟨r, by simpa using hr, hr1, fun h0 j hj hij => ?_⟩
      rcases Nat.eq_or_lt_of_le hij with e | e
      · subst e
        omega
      · exact hr2 h0 j hj e

theorem szDisk_tells (l : List Int) (xs : List S88) (hl : l.length ≤ 9223372036854775807) (hn : xs.length ≤ 9223372036854775807) (hs : ∀ x ∈ xs, x.f1.length ≤ 9223372036854775807) (k : Nat) (hk : xs.length < k) :
    ∃ r, laws_szDisk.f k l xs 1048576 = some r ∧ (0 ≤ r → l.length ≤ 1048576 ∧ xs.length ≤ 1048576 ∧ Small 1048576 xs) := by
  unfold laws_szDisk.f laws_szByteS.f
  rw [pw64 (by omega) (by omega)]
  by_cases h : 1048576 - (l.length : Int) < 0
  · rw [if_pos h]
    exact ⟨-1, by simp, fun h => by omega⟩
  · rw [if_neg h]
    simp only [Option.bind_some]
    rw [if_neg h]
    unfold laws_szSectorWriteS.f
    rw [pw64 (by omega) (by omega)]
    by_cases h' : 1048576 - (l.length : Int) - (xs.length : Int) < 0
    · rw [if_pos h']
      exact ⟨-1, by simp, fun h => by omega⟩
    · rw [if_neg h']
      obtain ⟨r, hr, _, hr2⟩ := szSectorWriteS_tells xs hn hs xs.length k 0 (1048576 - (l.length : Int) - (xs.length : Int)) (by omega) (by omega) (by omega) (by omega) hk
      have hr' : laws_szSectorWriteS.l0 k xs (1048576 - (l.length : Int) - (xs.length : Int)) 0 = some r := hr
      rw [hr']
      simp only [Option.bind_some]
      by_cases h3 : r < 0
      · rw [if_pos h3]
        exact ⟨-1, rfl, fun h => by omega⟩
      · rw [if_neg h3]
        refine ⟨r, rfl, fun _ => ⟨by omega, by omega, fun x hx => ?_⟩⟩
        obtain ⟨j, hj, rfl⟩ := List.getElem_of_mem hx
        exact hr2 (by omega) j hj (Nat.zero_le _)
theorem loop_both (n : Nat) (hn : n ≤ 1048576) (l : List Int) (xs : List S89) (hx : xs.length ≤ 1048576) (k : Nat) (hk : xs.length < k) :
    ∃ r, spec_ValidDisk.l0 k ((n : Int) / 512) 0 l xs = some r ∧ impl_ValidDisk.l0 k (n : Int) xs (xs.length : Int) 0 = some r :=
  same_all (fun k i => spec_ValidDisk.l0 k ((n : Int) / 512) i l xs) (fun k i => impl_ValidDisk.l0 k (n : Int) xs (xs.length : Int) i) xs.length 0
    (by
      intro k i h _
      have e : wrap64 (Int.tdiv (n : Int) 512) = (n : Int) / 512 := by
        rw [Int.tdiv_eq_ediv_of_nonneg (by omega)]
        exact pw64 (by omega) (by omega)
      simp only [spec_ValidDisk.l0, impl_ValidDisk.l0, e]
      rw [if_pos (show (i : Int) < (xs.length : Int) by omega), if_pos (show 0 ≤ (i : Int) by omega), if_pos (show (i : Int) < (xs.length : Int) by omega), if_pos (show 0 ≤ (i : Int) by omega), if_pos (show (i : Int) < (xs.length : Int) by omega), pw64 (by omega) (by omega)]
      by_cases c1 : (rd_T89 xs (i : Int)).f0 < 0
      · rw [if_pos c1]
        refine .inr ⟨_, rfl, ?_⟩
        split <;> first | rfl | simp
      · by_cases c2 : (rd_T89 xs (i : Int)).f0 ≥ (n : Int) / 512
        · rw [if_neg c1, if_pos c2]
          refine .inr ⟨_, rfl, ?_⟩
          split <;> rfl
        · rw [if_neg c1, if_neg c2]
          by_cases c3 : (((rd_T89 xs (i : Int)).f1).length : Int) = 512
          · rw [if_pos c3, if_pos c3, if_neg c1, if_neg c2]
            exact .inl ⟨rfl, rfl⟩
          · rw [if_neg c3, if_neg c3]
            exact .inr ⟨_, rfl, rfl⟩)
    (by
      intro k i h _
      simp only [spec_ValidDisk.l0, impl_ValidDisk.l0]
      rw [if_neg (by omega), if_neg (by omega)]
      exact ⟨_, rfl, rfl⟩) k 0 (by omega)
theorem both (l : List Int) (xs : List S89) (hl : l.length ≤ 1048576) (hx : xs.length ≤ 1048576) (k : Nat) (hk : xs.length + 1 < k) : ∃ r, spec_ValidDisk.f k l xs = some r ∧ impl_ValidDisk.f k l xs = some r := by
  obtain ⟨k, rfl⟩ : ∃ m, k = m + 1 := ⟨k - 1, by omega⟩
  unfold spec_ValidDisk.f impl_ValidDisk.f spec_l1Sectors.f
  simp only [Option.bind_some, spec_ValidDisk.j0, impl_ValidDisk.j0, if_true]
  rw [pw64 (x := (l.length : Int) / 512) (by omega) (by omega)]
  by_cases h1 : (l.length : Int) % 512 = 0
  · rw [if_pos h1, if_pos h1]
    by_cases h2 : (l.length : Int) / 512 < 1
    · rw [if_pos h2, if_pos (by omega)]
      exact ⟨_, rfl, rfl⟩
    · by_cases h3 : (l.length : Int) / 512 > 1024
      · rw [if_neg h2, if_pos h3, if_neg (by omega), if_pos (by omega)]
        exact ⟨_, rfl, rfl⟩
      · rw [if_neg h2, if_neg h3, if_neg (show ¬ (l.length : Int) < 512 by omega), if_neg (show ¬ (l.length : Int) > 524288 by omega)]
        by_cases h4 : decide ((xs.length : Int) > 8192) = true
        · rw [if_pos h4, if_pos h4]
          exact ⟨_, rfl, rfl⟩
        · rw [if_neg h4, if_neg h4]
          exact loop_both l.length hl l xs hx k (by omega)
  · rw [if_neg h1, if_neg h1]
    exact ⟨_, rfl, rfl⟩

theorem copy_is (l : List Int) (h : l.length ≤ 1048576) : spec_l1Copy.f l = some l := by
  unfold spec_l1Copy.f
  simp only [Option.bind_some, List.length_nil, Nat.zero_add, List.nil_append]
  rw [if_pos (by omega)]

theorem clone_is (l : List Int) (h : l.length ≤ 1048576) : slices_Clone_byte_byte.f l = some l := by
  unfold slices_Clone_byte_byte.f
  simp only [Option.bind_some, List.length_nil, Nat.zero_add, List.nil_append]
  rw [if_pos (by omega)]
theorem seen_len (l : List Int) (ps : List S89) (a : Int) (hl : l.length ≤ 1048576) (hs : ∀ x ∈ ps, x.f1.length ≤ 1048576) : ∀ i, i ≤ ps.length → (Seen.seenAt l ps a i).length ≤ 1048576
  | 0, _ => by
    simp only [Seen.seenAt, List.length_drop, List.length_take]
    omega
  | i + 1, h => by
    simp only [Seen.seenAt]
    split
    · rw [rd89_at ps i (by omega)]
      exact hs _ (List.getElem_mem (by omega))
    · exact seen_len l ps a hl hs i (by omega)
theorem see_go (l : List Int) (ps : List S89) (a : Int) (h0 : 0 ≤ a) (h1 : (a + 1) * 512 ≤ l.length) (hl : l.length ≤ 1048576) (hp : ps.length ≤ 1048576) (hs : ∀ x ∈ ps, x.f1.length ≤ 1048576) (i : Nat) : ∀ K, i ≤ ps.length → i < K → spec_l1See.l0 K a ((i : Int) - 1) l ps = some (Seen.seenAt l ps a i) := by
  induction i with
  | zero =>
    intro K hi hk
    obtain ⟨K, rfl⟩ : ∃ m, K = m + 1 := ⟨K - 1, by omega⟩
    simp only [spec_l1See.l0, Seen.seenAt]
    rw [if_neg (by omega), pw64 (x := a * 512) (by omega) (by omega), pw64 (x := a + 1) (by omega) (by omega), pw64 (x := (a + 1) * 512) (by omega) (by omega), if_pos (by omega), if_pos (by omega), if_pos (by omega), copy_is _ (by rw [List.length_drop, List.length_take]; omega), Option.bind_some]
  | succ i ih =>
    intro K hi hk
    obtain ⟨K, rfl⟩ : ∃ m, K = m + 1 := ⟨K - 1, by omega⟩
    have e : ((i + 1 : Nat) : Int) - 1 = (i : Int) := by omega
    have hm : (ps[i]).f1.length ≤ 1048576 := hs _ (List.getElem_mem (by omega))
    rw [e]
    simp only [spec_l1See.l0, Seen.seenAt]
    rw [if_pos (by omega), if_pos (by omega), if_pos (by omega)]
    by_cases c : (rd_T89 ps (i : Int)).f0 = a
    · rw [if_pos c, if_pos c, rd89_at ps i (by omega), copy_is _ hm, Option.bind_some]
    · rw [if_neg c, if_neg c, pw64 (x := (i : Int) - 1) (by omega) (by omega)]
      exact ih K (by omega) (by omega)
theorem valid_up (l : List Int) (xs : List S89) (q : Bool) (k : Nat) (h1 : spec_ValidDisk.f k l xs = some q) (h2 : impl_ValidDisk.f k l xs = some q) (d : Nat) : spec_ValidDisk.f (k + d) l xs = some q ∧ impl_ValidDisk.f (k + d) l xs = some q := by
  induction d with
  | zero => exact ⟨h1, h2⟩
  | succ d ih => exact ⟨spec_ValidDisk.mono l xs (k + d) q ih.1, impl_ValidDisk.mono l xs (k + d) q ih.2⟩
theorem read_both (l : List Int) (xs : List S89) (a : Int) (hl : l.length ≤ 1048576) (hx : xs.length ≤ 1048576) (hs : ∀ x ∈ xs, x.f1.length ≤ 1048576) : ∃ r : List Int, r.length ≤ 1048576 ∧ ∀ K, xs.length + 2 < K → spec_DiskRead.f K l xs a = some r ∧ impl_DiskRead.f K l xs a = some r := by
  obtain ⟨q, v1, v2⟩ := both l xs hl hx (xs.length + 2) (by omega)
  have hv : ∀ K, xs.length + 2 < K → spec_ValidDisk.f K l xs = some q ∧ impl_ValidDisk.f K l xs = some q := fun K hK => by
    have := valid_up l xs q _ v1 v2 (K - (xs.length + 2))
    rw [show xs.length + 2 + (K - (xs.length + 2)) = K by omega] at this
    exact this
  by_cases hg : q = true ∧ 0 ≤ a ∧ a < (l.length : Int) / 512
  · obtain ⟨rfl, g1, g2⟩ := hg
    refine ⟨Seen.seenAt l xs a xs.length, seen_len l xs a hl hs _ (Nat.le_refl _), fun K hK => ?_⟩
    unfold spec_DiskRead.f impl_DiskRead.f spec_l1Sectors.f spec_l1See.f
    rw [(hv K hK).1, (hv K hK).2]
    simp only [Option.bind_some, if_true]
    rw [pw64 (x := (l.length : Int) / 512) (by omega) (by omega), if_neg (by omega), if_neg (by omega), pw64 (x := (xs.length : Int) - 1) (by omega) (by omega), see_go l xs a g1 (by omega) hl hx hs xs.length K (Nat.le_refl _) (by omega), if_pos ⟨trivial, g1, g2⟩, clone_is _ (seen_len l xs a hl hs _ (Nat.le_refl _))]
    exact ⟨rfl, rfl⟩
  · refine ⟨[], by simp, fun K hK => ?_⟩
    unfold spec_DiskRead.f impl_DiskRead.f spec_l1Sectors.f
    rw [(hv K hK).1, (hv K hK).2]
    simp only [Option.bind_some]
    rw [if_neg hg, pw64 (x := (l.length : Int) / 512) (by omega) (by omega)]
    refine ⟨?_, rfl⟩
    by_cases c1 : q = true
    · rw [if_pos c1]
      by_cases c2 : a < 0
      · rw [if_pos c2]
      · rw [if_neg c2, if_pos (by have h3 : ¬ (0 ≤ a ∧ a < (l.length : Int) / 512) := fun h => hg ⟨c1, h⟩; omega)]
    · rw [if_neg c1]
theorem rdset (xs : List S89) (i : Nat) (v : S89) (h : i < xs.length) : rd_T89 (xs.set i v) (i : Int) = v := by
  rw [rd89_at (xs.set i v) i (by simpa using h)]
  simp
theorem mark_go (n : Nat) (hn : n ≤ 1048576) (d : Nat) : ∀ (K i : Nat) (cur : List S89) (c : Int), cur.length = n → (∀ (j : Nat) (h : j < cur.length), (cur[j]).f1.length ≤ 1048576) → 0 ≤ c → c ≤ 2000000 + (i : Int) * 2000000 → i ≤ n → n - i = d → d + 1048578 < K → ∃ (m : Int) (zs : List S89), 0 ≤ m ∧ laws_markSectorWriteS.l0 K cur c (i : Int) = some (m, zs) := by
  induction d with
  | zero =>
    intro K i cur c hl hs h0 h1 hi hd hk
    obtain ⟨K, rfl⟩ : ∃ m, K = m + 1 := ⟨K - 1, by omega⟩
    simp only [laws_markSectorWriteS.l0]
    rw [if_neg (by omega)]
    exact ⟨c, cur, h0, rfl⟩
  | succ d ih =>
    intro K i cur c hl hs h0 h1 hi hd hk
    obtain ⟨K, rfl⟩ : ∃ m, K = m + 1 := ⟨K - 1, by omega⟩
    have hic : i < cur.length := by omega
    have hb := hs i hic
    obtain ⟨zs', g1, g2, _⟩ := markByteS_some (cur[i]).f1 (c + 1) (by omega) (by omega) (by omega) K (by omega)
    obtain ⟨m, zs, hm, h⟩ := ih K (i + 1) (cur.set i ⟨c, zs'⟩) (c + 1 + ((cur[i]).f1.length : Int)) (by simp [hl])
      (by
        intro j hj
        rw [List.getElem_set]
        by_cases e : i = j
        · subst e
          rw [if_pos rfl]
          show zs'.length ≤ _
          omega
        · rw [if_neg e]
          exact hs j (by simpa using hj)) (by omega) (by omega) (by omega) (by omega) (by omega)
    refine ⟨m, zs, hm, ?_⟩
    rw [← h]
    simp only [laws_markSectorWriteS.l0, Option.bind_some, Int.toNat_natCast]
    rw [if_pos (by omega), if_pos (by omega), pw64 (x := (i : Int) + 1) (by omega) (by omega), pw64 (x := c + 1) (by omega) (by omega)]
    simp only [rdset _ i _ hic, rdset (cur.set i _) i _ (by simpa using hic), List.set_set]
    rw [rd89_at cur i hic, g1]
    rfl
theorem markDisk_some (l : List Int) (xs : List S89) (hl : l.length ≤ 1048576) (hx : xs.length ≤ 1048576) (hs : ∀ x ∈ xs, x.f1.length ≤ 1048576) (K : Nat) (hK : 3000000 < K) : ∃ (m : Int) (zs : List Int) (ys : List S89), 0 ≤ m ∧ laws_markDisk.f K l xs 1 = some (m, zs, ys) := by
  obtain ⟨zs, g1, _, _⟩ := markByteS_some l 1 (by omega) (by omega) (by omega) K (by omega)
  obtain ⟨m, ys, hm, h⟩ := mark_go xs.length hx xs.length K 0 xs (1 + (l.length : Int)) rfl (fun j h => hs _ (List.getElem_mem h)) (by omega) (by omega) (by omega) (by omega) (by omega)
  refine ⟨m, zs, ys, hm, ?_⟩
  have h' : laws_markSectorWriteS.f K xs (1 + (l.length : Int)) = some (m, ys) := h
  unfold laws_markDisk.f
  rw [g1]
  simp only [Option.bind_some]
  rw [h']
  rfl

theorem FnExactDiskRead (l0_0 : (List Int)) (l0_1 : (List S88)) (a1 : Int) (w0_0 : l0_0.length ≤ maxLen ∧ ∀ y0 ∈ l0_0, (Lit.int .u8 y0).wf = true) (w0_1 : l0_1.length ≤ maxLen ∧ ∀ y0 ∈ l0_1, ((Lit.int .i64 y0.f0).wf = true) ∧ (y0.f1.length ≤ maxLen ∧ ∀ y2 ∈ y0.f1, (Lit.int .u8 y2).wf = true)) (w1 : (Lit.int .i64 a1).wf = true) : ∃ k, laws_FnExactDiskRead.f k l0_0 l0_1 a1 = some true := by
  have hm : l0_0.length ≤ 9223372036854775807 := w0_0.1
  have hm2 : l0_1.length ≤ 9223372036854775807 := w0_1.1
  have hm3 : ∀ x ∈ l0_1, x.f1.length ≤ 9223372036854775807 := fun x hx => (w0_1.2 x hx).2.1
  obtain ⟨K, hK⟩ : ∃ K, K = l0_0.length + l0_1.length + 5000000 := ⟨_, rfl⟩
  refine ⟨K + 1, ?_⟩
  unfold laws_FnExactDiskRead.f
  obtain ⟨r, hr, hr2⟩ := szDisk_tells l0_0 l0_1 hm hm2 hm3 (K + 1) (by omega)
  rw [hr]
  simp only [Option.bind_some]
  by_cases h : r < 0
  · rw [if_pos h]
  · rw [if_neg h]
    obtain ⟨b1, b2, b3⟩ := hr2 (by omega)
    have hd : ∀ k, 3000000 < k → laws_toDisk.f k l0_0 l0_1 = some (l0_0, l0_1.map cpSectorWrite) := fun k hk => by
      unfold laws_toDisk.f
      rw [toByteS_some l0_0 (by omega) _ (by omega), toSectorWriteS_some l0_1 (by omega) 1048576 (by omega) b3 _ (by omega)]
      rfl
    obtain ⟨xs, hxs⟩ : ∃ xs, xs = l0_1.map cpSectorWrite := ⟨_, rfl⟩
    have c2 : xs.length ≤ 1048576 := by rw [hxs]; simpa using b2
    have c3 : ∀ x ∈ xs, x.f1.length ≤ 1048576 := by
      rw [hxs]
      intro x hx
      obtain ⟨y, hy, rfl⟩ := List.mem_map.1 hx
      exact b3 y hy
    rw [← hxs] at hd
    clear hxs hr hr2 hm hm2 hm3 b3
    obtain ⟨t, ht, hb⟩ := read_both l0_0 xs a1 b1 c2 c3
    obtain ⟨m, zs, ys, hm0, hmk⟩ := markDisk_some l0_0 xs b1 c2 c3 (K + 1) (by omega)
    obtain ⟨us, q1, q2, q3⟩ := markByteS_some t 1 (by omega) (by omega) (by omega) K (by omega)
    have he := eqByteS_same t (by omega)
    have hed : laws_eqDisk.f (K + 1) l0_0 xs l0_0 xs = some true := by
      unfold laws_eqDisk.f
      rw [eqByteS_same l0_0 (by omega) _ (by omega), eqSectorWriteS_same xs (by omega) 1048576 (by omega) c3 _ (by omega)]
      simp
    rw [hd (K + 1) (by omega)]
    simp only [Option.bind_some]
    rw [(hb (K + 1) (by omega)).1]
    simp only [Option.bind_some]
    rw [(hb (K + 1) (by omega)).2]
    simp only [Option.bind_some]
    rw [he (K + 1) (by omega)]
    simp only [Option.bind_some, if_true, hed, hmk]
    rw [if_neg (by omega)]
    simp only [laws_FnExactDiskRead.j0, Bool.not_true]
    rw [if_neg (by decide), q1]
    simp only [Option.bind_some]
    rw [q3 K (by omega)]
    simp only [Option.bind_some, if_true]
    rw [if_neg (by omega), hd K (by omega)]
    simp only [Option.bind_some]
    rw [(hb K (by omega)).2]
    simp only [Option.bind_some]
    rw [he K (by omega)]
    simp only [Option.bind_some, if_true]
    rw [if_neg (by omega)]

end Go.Proofs.Ytjkhmagnlaijhaa.Pure
