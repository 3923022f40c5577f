/- Proved: the pure form of FnExactPageOps: PageOps of the program answers as the reference at every geometry, page number and row of bytes, and its answer owns its memory. Conditions: none beyond the statement. -/
import Derived.Test.YtmggneijkhmigaaQFnExactPageOpsx4
import Derived.Test.YtmggneijkhmigaaPureBase
import Derived.OpenShut
namespace Go.Proofs.Ytmggneijkhmigaa.Pure
open Go.RowKit Go.Proofs.Ytmggneijkhmigaa.QFnExactPageOps Go.Proofs.YtmggneijkhmigaaW.PrintWords Go.Proofs.YtmggneijkhmigaaW.PrintLast Go.Proofs.Ytmggneijkhmigaa.PureBase
set_option linter.unusedVariables false
set_option linter.unusedSimpArgs false

theorem toByteS_some (xs : List Int) (hn : xs.length ≤ 281474976710656) (k : Nat) (hk : xs.length < k) : laws_toByteS.f k xs = some xs := by
  unfold laws_toByteS.f
  rw [if_pos (by omega), if_pos (by rw [Int.toNat_natCast]; omega)]
  have := map_all (fun x : Int => x) (fun k ys i => laws_toByteS.l0 k xs ys i) xs 0
    (by
      intro k i ys h _ hl
      simp only [laws_toByteS.l0]
      rw [if_pos (by omega), if_pos (by omega), if_pos (by omega), pw64 (by omega) (by omega), rdN, getD_at xs i 0 h, Int.toNat_natCast])
    (by
      intro k ys _
      simp only [laws_toByteS.l0]
      rw [if_neg (by omega)]) k (List.replicate ((xs.length : Int)).toNat 0) (by simp) (by omega)
  simpa using this

theorem eqByteS_same (xs : List Int) (hn : xs.length ≤ 281474976710656) (k : Nat) (hk : xs.length < k) : laws_eqByteS.f k xs xs = some true := by
  unfold laws_eqByteS.f
  rw [if_pos rfl]
  exact end_go (fun k i => laws_eqByteS.l0 k xs xs i) xs.length 0 true
    (by
      intro k i h _
      simp only [laws_eqByteS.l0]
      rw [if_pos (by omega), if_pos (by omega), if_pos (by omega), pw64 (by omega) (by omega)]
      simp)
    (by
      intro k _
      simp only [laws_eqByteS.l0]
      rw [if_neg (by omega)]) xs.length k 0 (by omega) (by omega) (by omega)

/-- What marks leave: from k on. -/
def Marked (k : Int) (ys : List Int) : Prop := ∀ (i : Nat) (h : i < ys.length), ys[i] = (k + (i : Int)) % 256
theorem markByteS_go (n : Nat) (k0 : Int) (h0 : 0 ≤ k0) (h1 : k0 ≤ 4611686018427387904) (hn : n ≤ 140737488355328) (d : Nat) : ∀ (K i : Nat) (ys : List Int), ys.length = n → (∀ (j : Nat) (h : j < ys.length), j < i → ys[j] = (k0 + (j : Int)) % 256) → i ≤ n → n - i = d → d < K →
    ∃ zs, laws_markByteS.l0 K ys (k0 + (i : Int)) (i : Int) = some (k0 + (n : Int), zs) ∧ zs.length = n ∧ Marked k0 zs := by
  induction d with
  | zero =>
    intro K i ys hl hp hi hd hk
    obtain ⟨K, rfl⟩ : ∃ m, K = m + 1 := ⟨K - 1, by omega⟩
    simp only [laws_markByteS.l0]
    rw [if_neg (by omega)]
    obtain rfl : i = n := by omega
    exact ⟨ys, rfl, hl, fun j h => hp j h (by omega)⟩
  | succ d ih =>
    intro K i ys hl hp hi hd hk
    obtain ⟨K, rfl⟩ : ∃ m, K = m + 1 := ⟨K - 1, by omega⟩
    simp only [laws_markByteS.l0]
    rw [if_pos (by omega), if_pos (by omega), pw64 (x := k0 + (i : Int) + 1) (by omega) (by omega), pw64 (x := (i : Int) + 1) (by omega) (by omega), Int.toNat_natCast]
    obtain ⟨zs, h, h2, h3⟩ := ih K (i + 1) (ys.set i ((k0 + (i : Int)) % 256)) (by simp [hl]) (by
      intro j h hj
      rw [List.getElem_set]
      by_cases e : i = j
      · subst e
        rw [if_pos rfl]
      · rw [if_neg e]
        exact hp j (by simpa using h) (by omega)) (by omega) (by omega) (by omega)
    refine ⟨zs, ?_, h2, h3⟩
    rw [← h]
    congr 1
    omega
theorem heldByteS_go (ys : List Int) (k0 : Int) (h0 : 0 ≤ k0) (h1 : k0 ≤ 4611686018427387904) (hn : ys.length ≤ 140737488355328) (hm : Marked k0 ys) (d : Nat) : ∀ (K i : Nat), i ≤ ys.length → ys.length - i = d → d < K → laws_heldByteS.l0 K ys (k0 + (i : Int)) (i : Int) = some (k0 + (ys.length : Int)) := by
  induction d with
  | zero =>
    intro K i hi hd hk
    obtain ⟨K, rfl⟩ : ∃ m, K = m + 1 := ⟨K - 1, by omega⟩
    simp only [laws_heldByteS.l0]
    rw [if_neg (by omega)]
    obtain rfl : i = ys.length := by omega
    rfl
  | succ d ih =>
    intro K i hi hd hk
    obtain ⟨K, rfl⟩ : ∃ m, K = m + 1 := ⟨K - 1, by omega⟩
    have hil : i < ys.length := by omega
    simp only [laws_heldByteS.l0]
    rw [if_pos (by omega), if_pos (by omega), rdN, getD_at ys i 0 hil, if_pos (hm i hil), pw64 (x := k0 + (i : Int) + 1) (by omega) (by omega), pw64 (x := (i : Int) + 1) (by omega) (by omega)]
    have := ih K (i + 1) (by omega) (by omega) (by omega)
    rw [← this]
    congr 1
    omega
theorem markByteS_some (xs : List Int) (k0 : Int) (h0 : 0 ≤ k0) (h1 : k0 ≤ 4611686018427387904) (hn : xs.length ≤ 140737488355328) (K : Nat) (hK : xs.length < K) :
    ∃ zs, laws_markByteS.f K xs k0 = some (k0 + (xs.length : Int), zs) ∧ zs.length = xs.length ∧ ∀ K', xs.length < K' → laws_heldByteS.f K' zs k0 = some (k0 + (xs.length : Int)) := by
  obtain ⟨zs, h, h2, h3⟩ := markByteS_go xs.length k0 h0 h1 hn xs.length K 0 xs rfl (by intro j h hj; omega) (by omega) (by omega) hK
  refine ⟨zs, ?_, h2, fun K' hK' => ?_⟩
  · unfold laws_markByteS.f
    simpa using h
  · have := heldByteS_go zs k0 h0 h1 (by omega) h3 zs.length K' 0 (by omega) (by omega) (by omega)
    unfold laws_heldByteS.f
    rw [h2] at this
    simpa using this

theorem in_tot (a b c : Int) : ∃ r, impl_in.f a b c = some r := by unfold impl_in.f; split <;> exact ⟨_, rfl⟩

theorem min_tot (a : Int) : ∃ r, impl_MinLog.f a = some r := by
  obtain ⟨r, h⟩ := in_tot a 1 16
  unfold impl_MinLog.f
  rw [h, Option.bind_some]
  split <;> exact ⟨_, rfl⟩
theorem geo_tot (a b c : Int) : ∃ r, impl_GeometryFault.f a b c = some r := by
  unfold impl_GeometryFault.f
  obtain ⟨r1, h1⟩ := in_tot a 1 16
  obtain ⟨r2, h2⟩ := in_tot b 3 16
  obtain ⟨r3, h3⟩ := min_tot a
  obtain ⟨r4, h4⟩ := in_tot c r3 800
  rw [h1, h2, h3]
  simp only [Option.bind_some]
  rw [h4]
  simp only [Option.bind_some]
  split
  · split
    · split <;> exact ⟨_, rfl⟩
    · exact ⟨_, rfl⟩
  · exact ⟨_, rfl⟩
theorem geo_same (a b c : Int) : spec_GeometryFault.f a b c = impl_GeometryFault.f a b c := rfl

theorem w_succ (i : Nat) (h : i ≤ 4611686018427387904) : wrap64 ((i : Int) + 1) = ((i + 1 : Nat) : Int) := by rw [pw64 (by omega) (by omega)]; omega
theorem w_k1 (i : Nat) (h : i ≤ 4611686018427387904) : wrap64 ((i : Int) + 1) = (i : Int) + 1 := pw64 (by omega) (by omega)
theorem w_k2 (i : Nat) (h : i ≤ 4611686018427387904) : wrap64 ((i : Int) + 1 + 1) = (i : Int) + 2 := by rw [pw64 (by omega) (by omega)]; omega
theorem w_mul (i : Nat) (h : i ≤ 1048576) : wrap64 ((i : Int) * 512) = ((i * 512 : Nat) : Int) := by rw [pw64 (by omega) (by omega)]; omega

theorem rd128_at (xs : List S128) (i : Nat) (h : i < xs.length) : rd_T128 xs (i : Int) = xs[i] := by
  unfold rd_T128
  rw [Int.toNat_natCast]
  exact getD_at xs i z128 h
theorem rdset (xs : List S128) (i : Nat) (v : S128) (h : i < xs.length) : rd_T128 (xs.set i v) (i : Int) = v := by
  rw [rd128_at (xs.set i v) i (by simpa using h)]
  simp
def Short (xs : List S128) : Prop := ∀ (i : Nat) (h : i < xs.length), (xs[i]).f2.length ≤ 512
def pre (xs : List S128) : Nat → Nat
  | 0 => 1
  | i + 1 => pre xs i + (2 + (xs.getD i z128).f2.length)
theorem pre_succ (xs : List S128) (i : Nat) (h : i < xs.length) : pre xs (i + 1) = pre xs i + (2 + (xs[i]).f2.length) := by
  simp only [pre]
  rw [getD_at xs i z128 h]
theorem pre_le (xs : List S128) (hs : Short xs) : ∀ i, i ≤ xs.length → pre xs i ≤ 1 + i * 514
  | 0, _ => by simp [pre]
  | i + 1, h => by
    have h1 := pre_le xs hs i (by omega)
    have h2 := hs i (by omega)
    rw [pre_succ xs i (by omega)]
    omega
theorem eqOpS_same (xs : List S128) (hn : xs.length ≤ 1048576) (hs : Short xs) (k : Nat) (hk : xs.length + 513 < k) : laws_eqOpS.f k xs xs = some true := by
  unfold laws_eqOpS.f
  rw [if_pos rfl]
  exact end_go (fun k i => laws_eqOpS.l0 k xs xs i) xs.length 513 true
    (by
      intro k i h hK
      have hb := hs i h
      simp only [laws_eqOpS.l0, laws_eqOp.f]
      rw [if_pos (by omega), if_pos (by omega), if_pos (by omega), rd128_at xs i h, eqByteS_same _ (by omega) k (by omega), pw64 (by omega) (by omega)]
      simp)
    (by
      intro k _
      simp only [laws_eqOpS.l0]
      rw [if_neg (by omega)]) xs.length k 0 (by omega) (by omega) (by omega)
def HeldAt (y : S128) (k : Int) : Prop := y.f0 = k ∧ y.f1 = k + 1 ∧ ∀ K, y.f2.length < K → laws_heldByteS.f K y.f2 (k + 2) = some (k + 2 + (y.f2.length : Int))
theorem mark_go (xs : List S128) (hn : xs.length ≤ 1048576) (hs : Short xs) (d : Nat) : ∀ (K i : Nat) (cur : List S128), cur.length = xs.length → (∀ (j : Nat) (h : j < cur.length) (h2 : j < xs.length), (cur[j]).f2.length = (xs[j]).f2.length) → (∀ (j : Nat) (h : j < cur.length), j < i → HeldAt cur[j] (pre xs j : Int)) → i ≤ xs.length → xs.length - i = d → d + 513 < K →
    ∃ zs, laws_markOpS.l0 K cur (pre xs i : Int) (i : Int) = some ((pre xs xs.length : Int), zs) ∧ zs.length = xs.length ∧ (∀ (j : Nat) (h : j < zs.length) (h2 : j < xs.length), (zs[j]).f2.length = (xs[j]).f2.length) ∧ ∀ (j : Nat) (h : j < zs.length), HeldAt zs[j] (pre xs j : Int) := by
  induction d with
  | zero =>
    intro K i cur hl hlen hp hi hd hk
    obtain ⟨K, rfl⟩ : ∃ m, K = m + 1 := ⟨K - 1, by omega⟩
    simp only [laws_markOpS.l0]
    rw [if_neg (by omega)]
    obtain rfl : i = xs.length := by omega
    exact ⟨cur, rfl, hl, hlen, fun j h => hp j h (by omega)⟩
  | succ d ih =>
    intro K i cur hl hlen hp hi hd hk
    obtain ⟨K, rfl⟩ : ∃ m, K = m + 1 := ⟨K - 1, by omega⟩
    have hil : i < xs.length := by omega
    have hic : i < cur.length := by omega
    have hb := hs i hil
    have hle := hlen i hic hil
    have hpre := pre_le xs hs i (by omega)
    have hps := pre_succ xs i hil
    obtain ⟨zs', g1, g2, g3⟩ := markByteS_some (cur[i]).f2 ((pre xs i : Int) + 2) (by omega) (by omega) (by omega) K (by omega)
    have hnext : (pre xs i : Int) + 2 + ((cur[i]).f2.length : Int) = ((pre xs (i + 1) : Nat) : Int) := by rw [hps, hle]; omega
    have hrec := ih K (i + 1) (cur.set i ⟨(pre xs i : Int), (pre xs i : Int) + 1, zs'⟩) (by simp [hl])
      (by
        intro j h h2
        rw [List.getElem_set]
        by_cases e : i = j
        · subst e
          rw [if_pos rfl]
          show zs'.length = _
          rw [g2, hle]
        · rw [if_neg e]
          exact hlen j (by simpa using h) h2)
      (by
        intro j h hj
        rw [List.getElem_set]
        by_cases e : i = j
        · subst e
          rw [if_pos rfl]
          refine ⟨rfl, rfl, fun K' hK' => ?_⟩
          show laws_heldByteS.f K' zs' _ = some (_ + ((zs'.length : Nat) : Int))
          rw [g3 K' (by rw [← g2]; exact hK'), g2]
        · rw [if_neg e]
          exact hp j (by simpa using h) (by omega)) (by omega) (by omega) (by omega)
    obtain ⟨zs, h, h2, h3, h4⟩ := hrec
    refine ⟨zs, ?_, h2, h3, h4⟩
    rw [← h]
    simp only [laws_markOpS.l0, Option.bind_some, Int.toNat_natCast]
    rw [if_pos (by omega), if_pos (by omega)]
    rw [w_succ i (by omega), w_k1 (pre xs i) (by omega), w_k2 (pre xs i) (by omega)]
    simp only [rdset _ i _ hic, rdset (cur.set i _) i _ (by simpa using hic), List.set_set]
    rw [rd128_at cur i hic, g1]
    simp only [Option.bind_some]
    rw [hnext]
theorem held_go (xs zs : List S128) (hl : zs.length = xs.length) (hn : xs.length ≤ 1048576) (hs : Short xs) (hlen : ∀ (j : Nat) (h : j < zs.length) (h2 : j < xs.length), (zs[j]).f2.length = (xs[j]).f2.length) (hh : ∀ (j : Nat) (h : j < zs.length), HeldAt zs[j] (pre xs j : Int)) (d : Nat) : ∀ (K i : Nat), i ≤ xs.length → xs.length - i = d → d + 513 < K →
    laws_heldOpS.l0 K zs (pre xs i : Int) (i : Int) = some (pre xs xs.length : Int) := by
  induction d with
  | zero =>
    intro K i hi hd hk
    obtain ⟨K, rfl⟩ : ∃ m, K = m + 1 := ⟨K - 1, by omega⟩
    simp only [laws_heldOpS.l0]
    rw [if_neg (by omega)]
    obtain rfl : i = xs.length := by omega
    rfl
  | succ d ih =>
    intro K i hi hd hk
    obtain ⟨K, rfl⟩ : ∃ m, K = m + 1 := ⟨K - 1, by omega⟩
    have hil : i < xs.length := by omega
    have hiz : i < zs.length := by omega
    have hb := hs i hil
    have hle := hlen i hiz hil
    have hpre := pre_le xs hs i (by omega)
    have hps := pre_succ xs i hil
    obtain ⟨f0, f1, f2⟩ := hh i hiz
    have hf2 := f2 K (by omega)
    have hnext : (pre xs i : Int) + 2 + ((zs[i]).f2.length : Int) = ((pre xs (i + 1) : Nat) : Int) := by rw [hps, hle]; omega
    have hrec := ih K (i + 1) (by omega) (by omega) (by omega)
    rw [← hrec]
    simp only [laws_heldOpS.l0]
    rw [if_pos (by omega), if_pos (by omega), rd128_at zs i hiz, f0, f1, w_succ i (by omega), w_k1 (pre xs i) (by omega), w_k2 (pre xs i) (by omega)]
    rw [if_pos rfl, if_pos rfl, hf2, hnext]
    simp only [Option.bind_some]
    rw [if_neg (by omega)]
theorem markOps_some (xs : List S128) (hn : xs.length ≤ 1048576) (hs : Short xs) (K : Nat) (hK : xs.length + 513 < K) :
    ∃ (zs : List S128) (m : Int), 0 ≤ m ∧ laws_markOpS.f K xs 1 = some (m, zs) ∧ ∀ K', xs.length + 513 < K' → laws_heldOpS.f K' zs 1 = some m := by
  obtain ⟨zs, h, h2, h3, h4⟩ := mark_go xs hn hs xs.length K 0 xs rfl (fun _ _ _ => rfl) (by intro j h hj; omega) (by omega) (by omega) hK
  exact ⟨zs, _, by omega, h, fun K' hK' => held_go xs zs h2 hn hs h3 h4 xs.length K' 0 (by omega) (by omega) hK'⟩

theorem copy_is (l : List Int) (h : l.length ≤ 1048576) : spec_l1Copy.f l = some l := by
  unfold spec_l1Copy.f
  simp only [Option.bind_some, List.length_nil, Nat.zero_add, List.nil_append]
  rw [if_pos (by omega)]

theorem clone_is (l : List Int) (h : l.length ≤ 1048576) : slices_Clone_byte_byte.f l = some l := by
  unfold slices_Clone_byte_byte.f
  simp only [Option.bind_some, List.length_nil, Nat.zero_add, List.nil_append]
  rw [if_pos (by omega)]
theorem sector_both (a b c d : Int) : ∃ r, spec_PageSector.f a b c d = some r ∧ impl_PageSector.f a b c d = some r := by
  unfold spec_PageSector.f impl_PageSector.f
  obtain ⟨r, h⟩ := geo_tot a b c
  obtain ⟨q, h2⟩ := in_tot d 0 (wrap64 (a - 1))
  have h3 : spec_l4In.f d 0 (wrap64 (a - 1)) = some q := h2
  rw [geo_same, h]
  simp only [Option.bind_some]
  rw [h2, h3]
  simp only [Option.bind_some]
  split
  · split
    · refine ⟨_, rfl, ?_⟩
      rw [Int.mul_comm]
    · exact ⟨_, rfl, rfl⟩
  · exact ⟨_, rfl, rfl⟩
def opsTo (l : List Int) (s : Int) (i : Nat) : List S128 := (List.range i).map fun (j : Nat) => ⟨1, wrap64 (s + (j : Int)), (l.take ((j + 1) * 512)).drop (j * 512)⟩
theorem opsTo_len (l : List Int) (s : Int) (i : Nat) : (opsTo l s i).length = i := by simp [opsTo]
theorem opsTo_succ (l : List Int) (s : Int) (i : Nat) : opsTo l s i ++ [⟨1, wrap64 (s + (i : Int)), (l.take ((i + 1) * 512)).drop (i * 512)⟩] = opsTo l s (i + 1) := by
  unfold opsTo
  rw [List.range_succ, List.map_append]
  rfl
theorem opsTo_short (l : List Int) (s : Int) (i : Nat) : Short (opsTo l s i) := by
  intro j h
  simp only [opsTo, List.getElem_map, List.getElem_range, List.length_drop, List.length_take]
  omega
theorem spec_go (g1 g2 g3 p : Int) (l : List Int) (hl : l.length = 4096) (s : Int) (hs : spec_PageSector.f g1 g2 g3 p = some s) (d : Nat) : ∀ (K i : Nat), i ≤ 8 → 8 - i = d → d < K → spec_PageOps.l0 K p l (opsTo l s i) (i : Int) g1 g2 g3 = some (opsTo l s 8) := by
  induction d with
  | zero =>
    intro K i hi hd hk
    obtain ⟨K, rfl⟩ : ∃ m, K = m + 1 := ⟨K - 1, by omega⟩
    obtain rfl : i = 8 := by omega
    simp only [spec_PageOps.l0]
    rw [if_neg (by omega)]
  | succ d ih =>
    intro K i hi hd hk
    obtain ⟨K, rfl⟩ : ∃ m, K = m + 1 := ⟨K - 1, by omega⟩
    have hlen := opsTo_len l s i
    have hrec := ih K (i + 1) (by omega) (by omega) (by omega)
    rw [← hrec]
    simp only [spec_PageOps.l0]
    rw [if_pos (by omega), hs, Option.bind_some, w_succ i (by omega), w_mul i (by omega), w_mul (i + 1) (by omega)]
    rw [if_pos (by omega), if_pos (by omega), if_pos (by omega), Int.toNat_natCast, Int.toNat_natCast, copy_is _ (by rw [List.length_drop, List.length_take]; omega), Option.bind_some, if_pos (by omega), opsTo_succ]
theorem impl_go (l : List Int) (hl : l.length = 4096) (s : Int) (d : Nat) : ∀ (K i : Nat), i ≤ 8 → 8 - i = d → d < K → impl_PageOps.l0 K l s (opsTo l s i) (i : Int) = some (opsTo l s 8) := by
  induction d with
  | zero =>
    intro K i hi hd hk
    obtain ⟨K, rfl⟩ : ∃ m, K = m + 1 := ⟨K - 1, by omega⟩
    obtain rfl : i = 8 := by omega
    simp only [impl_PageOps.l0]
    rw [if_neg (by omega)]
  | succ d ih =>
    intro K i hi hd hk
    obtain ⟨K, rfl⟩ : ∃ m, K = m + 1 := ⟨K - 1, by omega⟩
    have hlen := opsTo_len l s i
    have hrec := ih K (i + 1) (by omega) (by omega) (by omega)
    rw [← hrec]
    simp only [impl_PageOps.l0]
    rw [if_pos (by omega), w_succ i (by omega), w_mul i (by omega), w_mul (i + 1) (by omega)]
    rw [if_pos (by omega), if_pos (by omega), if_pos (by omega), Int.toNat_natCast, Int.toNat_natCast, clone_is _ (by rw [List.length_drop, List.length_take]; omega), Option.bind_some, if_pos (by omega), opsTo_succ]
theorem ops_same (g1 g2 g3 p : Int) (l : List Int) : ∃ ys : List S128, ys.length ≤ 8 ∧ Short ys ∧ (∀ K, 20 < K → spec_PageOps.f K g1 g2 g3 p l = some ys) ∧ (∀ K, 20 < K → impl_PageOps.f K g1 g2 g3 p l = some ys) := by
  obtain ⟨s, h1, h2⟩ := sector_both g1 g2 g3 p
  by_cases hg : s < 0 ∨ l.length ≠ 4096
  · refine ⟨[], by simp, fun i h => by simp at h, fun K hK => ?_, fun K hK => ?_⟩
    · obtain ⟨K, rfl⟩ : ∃ m, K = m + 1 := ⟨K - 1, by omega⟩
      unfold spec_PageOps.f
      rw [Option.bind_some, h1, Option.bind_some]
      by_cases c : s < 0
      · rw [if_pos c]
        simp only [spec_PageOps.j0, if_true]
      · rw [if_neg c, show ((l.length : Int) != 4096) = true by simp; omega]
        simp only [spec_PageOps.j0, if_true]
    · obtain ⟨K, rfl⟩ : ∃ m, K = m + 1 := ⟨K - 1, by omega⟩
      unfold impl_PageOps.f
      rw [h2, Option.bind_some]
      by_cases c : s < 0
      · rw [if_pos c]
        simp only [impl_PageOps.j0, if_true]
      · rw [if_neg c, show ((l.length : Int) != 4096) = true by simp; omega]
        simp only [impl_PageOps.j0, if_true]
  · have hl : l.length = 4096 := by omega
    refine ⟨opsTo l s 8, by rw [opsTo_len]; omega, opsTo_short l s 8, fun K hK => ?_, fun K hK => ?_⟩
    · obtain ⟨K, rfl⟩ : ∃ m, K = m + 1 := ⟨K - 1, by omega⟩
      unfold spec_PageOps.f
      rw [Option.bind_some, h1, Option.bind_some, if_neg (by omega), show ((l.length : Int) != 4096) = false by simp; omega]
      simp only [spec_PageOps.j0]
      rw [if_neg (by simp)]
      exact spec_go g1 g2 g3 p l hl s h1 8 K 0 (by omega) (by omega) (by omega)
    · obtain ⟨K, rfl⟩ : ∃ m, K = m + 1 := ⟨K - 1, by omega⟩
      unfold impl_PageOps.f
      rw [h2, Option.bind_some, if_neg (by omega), show ((l.length : Int) != 4096) = false by simp; omega]
      simp only [impl_PageOps.j0]
      rw [if_neg (by simp)]
      exact impl_go l hl s 8 K 0 (by omega) (by omega) (by omega)

theorem FnExactPageOps (a0_0 : Int) (a0_1 : Int) (a0_2 : Int) (a1 : Int) (l2 : (List Int)) (w0_0 : (Lit.int .i64 a0_0).wf = true) (w0_1 : (Lit.int .i64 a0_1).wf = true) (w0_2 : (Lit.int .i64 a0_2).wf = true) (w1 : (Lit.int .i64 a1).wf = true) (w2 : l2.length ≤ maxLen ∧ ∀ y0 ∈ l2, (Lit.int .u8 y0).wf = true) : ∃ k, laws_FnExactPageOps.f k a0_0 a0_1 a0_2 a1 l2 = some true := by
  obtain ⟨K, hK⟩ : ∃ K, K = 2000000 := ⟨_, rfl⟩
  refine ⟨K + 1, ?_⟩
  unfold laws_FnExactPageOps.f laws_toGeometry.f
  by_cases h : (l2.length : Int) > 1048576
  · rw [if_pos h]
  · obtain ⟨ys, hy, hs, h1, h2⟩ := ops_same a0_0 a0_1 a0_2 a1 l2
    obtain ⟨m0, g1, _, _⟩ := markByteS_some l2 1 (by omega) (by omega) (by omega) (K + 1) (by omega)
    obtain ⟨zs, m, hm, g2, g3⟩ := markOps_some ys (by omega) hs K (by omega)
    have ht := toByteS_some l2 (by omega)
    have he := eqByteS_same l2 (by omega)
    have ho := eqOpS_same ys (by omega) hs
    rw [if_neg h]
    simp only [Option.bind_some]
    rw [ht (K + 1) (by omega)]
    simp only [Option.bind_some]
    rw [h1 (K + 1) (by omega)]
    simp only [Option.bind_some]
    rw [h2 (K + 1) (by omega)]
    simp only [Option.bind_some]
    rw [ho (K + 1) (by omega)]
    simp only [Option.bind_some, if_true, he (K + 1) (by omega), g1]
    rw [if_neg (by omega)]
    simp only [laws_FnExactPageOps.j0, laws_toGeometry.f, Option.bind_some, Bool.not_true]
    rw [if_neg (by decide), g2]
    simp only [Option.bind_some]
    rw [g3 K (by omega)]
    simp only [Option.bind_some, if_true, ht K (by omega)]
    rw [if_neg (by omega), h2 K (by omega)]
    simp only [Option.bind_some]
    rw [ho K (by omega)]
    simp only [Option.bind_some, if_true]
    rw [if_neg (by omega)]

end Go.Proofs.Ytmggneijkhmigaa.Pure
