/- Proved: the pure form of FnExactNewDisk: NewDisk of the program answers as the reference at every number of sectors, and its answer owns its memory. Conditions: none beyond the statement. -/
import Derived.Test.YtophipaadjoecaaQFnExactNewDiskx2
import Derived.Test.YtophipaadjoecaaPureBase
import Derived.OpenShut
namespace Go.Proofs.Ytophipaadjoecaa.Pure
open Go.RowKit Go.Proofs.Ytophipaadjoecaa.QFnExactNewDisk Go.Proofs.YtophipaadjoecaaW.PrintWords Go.Proofs.YtophipaadjoecaaW.PrintLast Go.Proofs.Ytophipaadjoecaa.PureBase
set_option linter.unusedVariables false
set_option linter.unusedSimpArgs false

theorem eqByteS_same (xs : List Int) (hn : xs.length ≤ 281474976710656) (k : Nat) (hk : xs.length < k) : laws_eqByteS.f k xs xs = some true := by
  unfold laws_eqByteS.f
  rw [if_pos rfl]
  exact end_go (fun k i => laws_eqByteS.l0 k xs xs i) xs.length 0 true
    (by
      intro k i h _
      simp only [laws_eqByteS.l0]
      rw [if_pos (by omega), if_pos (by omega), if_pos (by omega), pw64 (by omega) (by omega)]
      simp)
    (by
      intro k _
      simp only [laws_eqByteS.l0]
      rw [if_neg (by omega)]) xs.length k 0 (by omega) (by omega) (by omega)

/-- What marks leave: from k on. -/
def Marked (k : Int) (ys : List Int) : Prop := ∀ (i : Nat) (h : i < ys.length), ys[i] = (k + (i : Int)) % 256
theorem markByteS_go (n : Nat) (k0 : Int) (h0 : 0 ≤ k0) (h1 : k0 ≤ 4611686018427387904) (hn : n ≤ 140737488355328) (d : Nat) : ∀ (K i : Nat) (ys : List Int), ys.length = n → (∀ (j : Nat) (h : j < ys.length), j < i → ys[j] = (k0 + (j : Int)) % 256) → i ≤ n → n - i = d → d < K →
    ∃ zs, laws_markByteS.l0 K ys (k0 + (i : Int)) (i : Int) = some (k0 + (n : Int), zs) ∧ zs.length = n ∧ Marked k0 zs := by
  induction d with
  | zero =>
    intro K i ys hl hp hi hd hk
    obtain ⟨K, rfl⟩ : ∃ m, K = m + 1 := ⟨K - 1, by omega⟩
    simp only [laws_markByteS.l0]
    rw [if_neg (by omega)]
    obtain rfl : i = n := by omega
    exact ⟨ys, rfl, hl, fun j h => hp j h (by omega)⟩
  | succ d ih =>
    intro K i ys hl hp hi hd hk
    obtain ⟨K, rfl⟩ : ∃ m, K = m + 1 := ⟨K - 1, by omega⟩
    simp only [laws_markByteS.l0]
    rw [if_pos (by omega), if_pos (by omega), pw64 (x := k0 + (i : Int) + 1) (by omega) (by omega), pw64 (x := (i : Int) + 1) (by omega) (by omega), Int.toNat_natCast]
    obtain ⟨zs, h, h2, h3⟩ := ih K (i + 1) (ys.set i ((k0 + (i : Int)) % 256)) (by simp [hl]) (by
      intro j h hj
      rw [List.getElem_set]
      by_cases e : i = j
      · subst e
        rw [if_pos rfl]
      · rw [if_neg e]
        exact hp j (by simpa using h) (by omega)) (by omega) (by omega) (by omega)
    refine ⟨zs, ?_, h2, h3⟩
    rw [← h]
    congr 1
    omega
theorem heldByteS_go (ys : List Int) (k0 : Int) (h0 : 0 ≤ k0) (h1 : k0 ≤ 4611686018427387904) (hn : ys.length ≤ 140737488355328) (hm : Marked k0 ys) (d : Nat) : ∀ (K i : Nat), i ≤ ys.length → ys.length - i = d → d < K → laws_heldByteS.l0 K ys (k0 + (i : Int)) (i : Int) = some (k0 + (ys.length : Int)) := by
  induction d with
  | zero =>
    intro K i hi hd hk
    obtain ⟨K, rfl⟩ : ∃ m, K = m + 1 := ⟨K - 1, by omega⟩
    simp only [laws_heldByteS.l0]
    rw [if_neg (by omega)]
    obtain rfl : i = ys.length := by omega
    rfl
  | succ d ih =>
    intro K i hi hd hk
    obtain ⟨K, rfl⟩ : ∃ m, K = m + 1 := ⟨K - 1, by omega⟩
    have hil : i < ys.length := by omega
    simp only [laws_heldByteS.l0]
    rw [if_pos (by omega), if_pos (by omega), rdN, getD_at ys i 0 hil, if_pos (hm i hil), pw64 (x := k0 + (i : Int) + 1) (by omega) (by omega), pw64 (x := (i : Int) + 1) (by omega) (by omega)]
    have := ih K (i + 1) (by omega) (by omega) (by omega)
    rw [← this]
    congr 1
    omega
theorem markByteS_some (xs : List Int) (k0 : Int) (h0 : 0 ≤ k0) (h1 : k0 ≤ 4611686018427387904) (hn : xs.length ≤ 140737488355328) (K : Nat) (hK : xs.length < K) :
    ∃ zs, laws_markByteS.f K xs k0 = some (k0 + (xs.length : Int), zs) ∧ zs.length = xs.length ∧ ∀ K', xs.length < K' → laws_heldByteS.f K' zs k0 = some (k0 + (xs.length : Int)) := by
  obtain ⟨zs, h, h2, h3⟩ := markByteS_go xs.length k0 h0 h1 hn xs.length K 0 xs rfl (by intro j h hj; omega) (by omega) (by omega) hK
  refine ⟨zs, ?_, h2, fun K' hK' => ?_⟩
  · unfold laws_markByteS.f
    simpa using h
  · have := heldByteS_go zs k0 h0 h1 (by omega) h3 zs.length K' 0 (by omega) (by omega) (by omega)
    unfold laws_heldByteS.f
    rw [h2] at this
    simpa using this

theorem same (a : Int) : ∃ l : List Int, l.length ≤ 524288 ∧ spec_NewDisk.f a = some (l, []) ∧ impl_NewDisk.f a = some (l, []) := by
  unfold spec_NewDisk.f impl_NewDisk.f
  by_cases h1 : a < 1
  · simp only [if_pos h1]
    exact ⟨[], by simp, rfl, rfl⟩
  · by_cases h2 : a > 1024
    · simp only [if_neg h1, if_pos h2]
      exact ⟨[], by simp, rfl, rfl⟩
    · simp only [if_neg h1, if_neg h2]
      rw [pw64 (by omega) (by omega)]
      have z0 : 0 ≤ a * 512 := by omega
      have z1 : (a * 512).toNat ≤ 281474976710656 := by omega
      simp only [if_pos z0, if_pos z1]
      exact ⟨_, by simp; omega, rfl, rfl⟩
theorem eqD (l : List Int) (hl : l.length ≤ 524288) (k : Nat) (hk : l.length + 1 < k) : laws_eqDisk.f k l [] l [] = some true := by
  obtain ⟨k, rfl⟩ : ∃ m, k = m + 1 := ⟨k - 1, by omega⟩
  unfold laws_eqDisk.f laws_eqSectorWriteS.f
  rw [eqByteS_same l (by omega) _ (by omega)]
  simp [laws_eqSectorWriteS.l0]
theorem heldD (l : List Int) (n : Int) (h0 : 0 ≤ n) (k : Nat) (hk : 0 < k) (hh : laws_heldByteS.f k l 1 = some n) : laws_heldDisk.f k l [] 1 = some n := by
  obtain ⟨k, rfl⟩ : ∃ m, k = m + 1 := ⟨k - 1, by omega⟩
  unfold laws_heldDisk.f laws_heldSectorWriteS.f
  rw [hh]
  simp only [Option.bind_some]
  rw [if_neg (by omega)]
  simp only [laws_heldSectorWriteS.l0]
  rw [if_neg (by simp)]
  simp only [Option.bind_some]
  rw [if_neg (by omega)]

theorem FnExactNewDisk (a0 : Int) (w0 : (Lit.int .i64 a0).wf = true) : ∃ k, laws_FnExactNewDisk.f k a0 = some true := by
  obtain ⟨l, hl, h1, h2⟩ := same a0
  obtain ⟨K, hK⟩ : ∃ K, K = l.length + 10 := ⟨_, rfl⟩
  refine ⟨K, ?_⟩
  obtain ⟨zs, g1, g2, g3⟩ := markByteS_some l 1 (by omega) (by omega) (by omega) K (by omega)
  have hd := heldD zs (1 + (l.length : Int)) (by omega) K (by omega) (g3 K (by omega))
  unfold laws_FnExactNewDisk.f laws_markDisk.f laws_markSectorWriteS.f
  simp only [h1, h2, Option.bind_some, eqD l hl K (by omega), if_true, g1, List.length_nil, hd]
  rw [if_neg (by omega)]
  rw [if_neg (by omega)]

end Go.Proofs.Ytophipaadjoecaa.Pure
