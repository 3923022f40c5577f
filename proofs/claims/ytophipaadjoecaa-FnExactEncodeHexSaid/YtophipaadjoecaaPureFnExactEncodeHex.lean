/- Proved: the pure form of FnExactEncodeHex: EncodeHex of the program answers as the reference at every row of bytes, and leaves what it is given. Conditions: none beyond the statement. -/
import Derived.Test.YtophipaadjoecaaQFnExactEncodeHexx2
import Derived.Test.YtophipaadjoecaaPureBase
import Derived.OpenShut
namespace Go.Proofs.Ytophipaadjoecaa.Pure
open Go.RowKit Go.Proofs.Ytophipaadjoecaa.QFnExactEncodeHex Go.Proofs.YtophipaadjoecaaW.PrintWords Go.Proofs.YtophipaadjoecaaW.PrintLast Go.Proofs.Ytophipaadjoecaa.PureBase
set_option linter.unusedVariables false
set_option linter.unusedSimpArgs false

theorem eqByteS_same (xs : List Int) (hn : xs.length ≤ 281474976710656) (k : Nat) (hk : xs.length < k) : laws_eqByteS.f k xs xs = some true := by
  unfold laws_eqByteS.f
  rw [if_pos rfl]
  exact end_go (fun k i => laws_eqByteS.l0 k xs xs i) xs.length 0 true
    (by
      intro k i h _
      simp only [laws_eqByteS.l0]
      rw [if_pos (by omega), if_pos (by omega), if_pos (by omega), pw64 (by omega) (by omega)]
      simp)
    (by
      intro k _
      simp only [laws_eqByteS.l0]
      rw [if_neg (by omega)]) xs.length k 0 (by omega) (by omega) (by omega)

theorem toByteS_some (xs : List Int) (hn : xs.length ≤ 281474976710656) (k : Nat) (hk : xs.length < k) : laws_toByteS.f k xs = some xs := by
  unfold laws_toByteS.f
  rw [if_pos (by omega), if_pos (by rw [Int.toNat_natCast]; omega)]
  have := map_all (fun x : Int => x) (fun k ys i => laws_toByteS.l0 k xs ys i) xs 0
    (by
      intro k i ys h _ hl
      simp only [laws_toByteS.l0]
      rw [if_pos (by omega), if_pos (by omega), if_pos (by omega), pw64 (by omega) (by omega), rdN, getD_at xs i 0 h, Int.toNat_natCast])
    (by
      intro k ys _
      simp only [laws_toByteS.l0]
      rw [if_neg (by omega)]) k (List.replicate ((xs.length : Int)).toNat 0) (by simp) (by omega)
  simpa using this

theorem strOf (xs : List UInt8) : strOfNums (xs.map fun b => (b.toNat : Int)) = ⟨xs.toArray⟩ := by
  unfold strOfNums
  simp [List.map_map, Function.comp_def]
theorem spec_go (l : List Int) (hl : l.length ≤ 1048576) (hb : ∀ x ∈ l, 0 ≤ x ∧ x ≤ 255) (d : Nat) : ∀ (K i : Nat), i ≤ l.length → l.length - i = d → d < K →
    spec_EncodeHex.l0 K l ((hexes (l.take i)).map fun b => (b.toNat : Int)) (i : Int) = some ⟨(hexes l).toArray⟩ := by
  induction d with
  | zero =>
    intro K i hi hd hk
    obtain ⟨K, rfl⟩ : ∃ m, K = m + 1 := ⟨K - 1, by omega⟩
    obtain rfl : i = l.length := by omega
    simp only [spec_EncodeHex.l0]
    rw [if_neg (by omega), List.take_length, strOf]
  | succ d ih =>
    intro K i hi hd hk
    obtain ⟨K, rfl⟩ : ∃ m, K = m + 1 := ⟨K - 1, by omega⟩
    have hil : i < l.length := by omega
    have hr : rd l (i : Int) = l[i] := by rw [rdN, getD_at l i 0 hil]
    have hb' := hb l[i] (List.getElem_mem hil)
    have e1 : Int.tdiv (rd l (i : Int)) 16 % 256 = l[i] / 16 := by rw [hr, Int.tdiv_eq_ediv_of_nonneg hb'.1]; omega
    have e2 : Int.tmod (rd l (i : Int)) 16 = l[i] % 16 := by rw [hr, Int.tmod_eq_emod_of_nonneg hb'.1]
    simp only [spec_EncodeHex.l0, e1, e2, Option.bind_some]
    have hl2 : ((hexes (l.take i)).map fun b => (b.toNat : Int)).length = 2 * i := by rw [List.length_map, hexes_len, List.length_take]; omega
    rw [if_pos (by omega), if_pos (by omega), if_pos (by omega), if_pos (by omega), if_pos (by omega), if_pos (by omega), hex_bt _ (by omega) (by omega), hex_bt _ (by omega) (by omega), if_pos (by rw [hl2]; simp only [List.length_cons, List.length_nil]; omega), pw64 (by omega) (by omega)]
    have := ih K (i + 1) (by omega) (by omega) (by omega)
    rw [hexes_take l i hil, List.map_append] at this
    exact this
theorem spec_some (l : List Int) (hl : l.length ≤ 1048576) (hb : ∀ x ∈ l, 0 ≤ x ∧ x ≤ 255) (K : Nat) (hK : l.length < K) : ∃ r, spec_EncodeHex.f K l = some r ∧ impl_EncodeHex.f K l = some r := by
  unfold spec_EncodeHex.f impl_EncodeHex.f
  by_cases hz : (l.length : Int) = 0
  · rw [if_pos hz, if_pos hz]
    exact ⟨_, rfl, rfl⟩
  · rw [if_neg hz, if_neg hz, if_pos ⟨hl, hb⟩]
    refine ⟨_, ?_, rfl⟩
    simpa [hexes] using spec_go l hl hb l.length K 0 (by omega) (by omega) hK

theorem FnExactEncodeHex (l0 : (List Int)) (w0 : l0.length ≤ maxLen ∧ ∀ y0 ∈ l0, (Lit.int .u8 y0).wf = true) : ∃ k, laws_FnExactEncodeHex.f k l0 = some true := by
  by_cases hs : (l0.length : Int) > 1048576
  · exact ⟨0, by unfold laws_FnExactEncodeHex.f; rw [if_pos hs]⟩
  · refine ⟨1048600, ?_⟩
    obtain ⟨r, h1, h2⟩ := spec_some l0 (by omega) (fun x hx => by have h := w0.2 x hx; simp [Lit.wf] at h; have e1 : IntKind.u8.min = 0 := rfl; have e2 : IntKind.u8.max = 255 := rfl; omega) 1048600 (by omega)
    unfold laws_FnExactEncodeHex.f
    rw [if_neg hs]
    simp only [toByteS_some l0 (by omega) 1048600 (by omega), h1, h2, Option.bind_some, eqByteS_same l0 (by omega) 1048600 (by omega), if_true]

end Go.Proofs.Ytophipaadjoecaa.Pure
