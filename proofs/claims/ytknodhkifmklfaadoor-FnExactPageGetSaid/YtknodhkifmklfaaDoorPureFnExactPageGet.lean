/- Proved: the pure form of FnExactPageGet: PageGet of the program answers as the reference at every page and slot, and its answer owns its memory. Conditions: none beyond the statement. -/
import Derived.Test.YtknodhkifmklfaaDoorQFnExactPageGetx4
import Derived.Test.YtknodhkifmklfaaDoorPureBase
import Derived.OpenShut
namespace Go.Proofs.YtknodhkifmklfaaDoor.Pure
open Go.RowKit Go.Proofs.YtknodhkifmklfaaDoor.QFnExactPageGet Go.Proofs.YtknodhkifmklfaaDoorW.PrintWords Go.Proofs.YtknodhkifmklfaaDoorW.PrintLast Go.Proofs.YtknodhkifmklfaaDoor.PureBase
set_option linter.unusedVariables false
set_option linter.unusedSimpArgs false

theorem toByteS_some (xs : List Int) (hn : xs.length ≤ 281474976710656) (k : Nat) (hk : xs.length < k) : laws_toByteS.f k xs = some xs := by
  unfold laws_toByteS.f
  rw [if_pos (by omega), if_pos (by rw [Int.toNat_natCast]; omega)]
  have := map_all (fun x : Int => x) (fun k ys i => laws_toByteS.l0 k xs ys i) xs 0
    (by
      intro k i ys h _ hl
      simp only [laws_toByteS.l0]
      rw [if_pos (by omega), if_pos (by omega), if_pos (by omega), pw64 (by omega) (by omega), rdN, getD_at xs i 0 h, Int.toNat_natCast])
    (by
      intro k ys _
      simp only [laws_toByteS.l0]
      rw [if_neg (by omega)]) k (List.replicate ((xs.length : Int)).toNat 0) (by simp) (by omega)
  simpa using this

theorem eqByteS_same (xs : List Int) (hn : xs.length ≤ 281474976710656) (k : Nat) (hk : xs.length < k) : laws_eqByteS.f k xs xs = some true := by
  unfold laws_eqByteS.f
  rw [if_pos rfl]
  exact end_go (fun k i => laws_eqByteS.l0 k xs xs i) xs.length 0 true
    (by
      intro k i h _
      simp only [laws_eqByteS.l0]
      rw [if_pos (by omega), if_pos (by omega), if_pos (by omega), pw64 (by omega) (by omega)]
      simp)
    (by
      intro k _
      simp only [laws_eqByteS.l0]
      rw [if_neg (by omega)]) xs.length k 0 (by omega) (by omega) (by omega)

open Go.Proofs.YtknodhkifmklfaaDoor.Mine (Wf n2 n4 n8 wf_at n2_is n2_range n4_range badSlot headFault bodyFault pfault marks1 marksAll)
theorem get_go (l : List Int) (hb : ∀ x ∈ l, 0 ≤ x ∧ x ≤ 255) (d : Nat) (hl8 : l.length ≤ 8) : ∀ (K i : Nat) (acc : Int), i ≤ l.length → l.length - i = d → d < K → 0 ≤ acc → (acc + 1) * ((256 ^ d : Nat) : Int) ≤ 9223372036854775808 →
    spec_GetNumber.l0 K l acc (i : Int) = some (Lib.beFromZ acc (l.drop i)) := by
  induction d with
  | zero =>
    intro K i acc hi hd hk h0 h1
    obtain ⟨K, rfl⟩ : ∃ m, K = m + 1 := ⟨K - 1, by omega⟩
    simp only [spec_GetNumber.l0]
    rw [if_neg (by omega), List.drop_eq_nil_of_le (by omega)]
    rfl
  | succ d ih =>
    intro K i acc hi hd hk h0 h1
    obtain ⟨K, rfl⟩ : ∃ m, K = m + 1 := ⟨K - 1, by omega⟩
    have hil : i < l.length := by omega
    have hx := hb l[i] (List.getElem_mem hil)
    have hr : rd l (i : Int) = l[i] := by rw [rdN, getD_at l i 0 hil]
    have hpn : 1 ≤ 256 ^ d := Nat.pow_pos (by decide)
    have e1 : (acc + 1) * ((256 ^ (d + 1) : Nat) : Int) = ((acc + 1) * 256) * ((256 ^ d : Nat) : Int) := by rw [Nat.pow_succ, Nat.mul_comm, Int.natCast_mul, ← Int.mul_assoc]; rfl
    generalize 256 ^ d = P at hpn ih e1
    have hp : (1 : Int) ≤ (P : Int) := by omega
    rw [e1] at h1
    have h2 : (acc + 1) * 256 ≤ ((acc + 1) * 256) * (P : Int) := by
      have := Int.mul_le_mul_of_nonneg_left hp (show 0 ≤ (acc + 1) * 256 by omega)
      omega
    simp only [spec_GetNumber.l0]
    rw [if_pos (by omega), if_pos (by omega), hr, pw64 (x := l[i]) (by omega) (by omega), pw64 (x := acc * 256) (by omega) (by omega), pw64 (x := acc * 256 + l[i]) (by omega) (by omega), pw64 (by omega) (by omega)]
    have h3 : (acc * 256 + l[i] + 1) * (P : Int) ≤ ((acc + 1) * 256) * (P : Int) := Int.mul_le_mul_of_nonneg_right (by omega) (by omega)
    have := ih K (i + 1) (acc * 256 + l[i]) (by omega) (by omega) (by omega) (by omega) (by omega)
    rw [List.drop_eq_getElem_cons hil]
    simp only [Lib.beFromZ]
    simpa using this
theorem get_is (l : List Int) (hb : ∀ x ∈ l, 0 ≤ x ∧ x ≤ 255) (h1 : 1 ≤ l.length) (h7 : l.length ≤ 7) (K : Nat) (hK : 20 < K) : spec_GetNumber.f K l = some (Lib.beZ l) := by
  obtain ⟨K, rfl⟩ : ∃ m, K = m + 1 := ⟨K - 1, by omega⟩
  unfold spec_GetNumber.f
  rw [if_neg (by omega), if_neg (by omega), if_neg (by omega)]
  simp only [spec_GetNumber.j0]
  rw [if_neg (by simp)]
  have hp : 256 ^ l.length ≤ 256 ^ 7 := Nat.pow_le_pow_right (by decide) h7
  have := get_go l hb l.length (by omega) K 0 0 (by omega) (by omega) (by omega) (by omega) (by omega)
  simpa [Lib.beZ] using this
theorem get8 (l : List Int) (hb : ∀ x ∈ l, 0 ≤ x ∧ x ≤ 255) (h8 : l.length = 8) (K : Nat) (hK : 20 < K) : spec_GetNumber.f K l = some (if l.getD 0 0 > 127 then -1 else Lib.beZ l) := by
  obtain ⟨K, rfl⟩ : ∃ m, K = m + 1 := ⟨K - 1, by omega⟩
  have hr : rd l 0 = l.getD 0 0 := rfl
  unfold spec_GetNumber.f
  rw [if_neg (by omega), if_neg (by omega), if_pos (by omega), if_pos (by omega), hr]
  simp only [spec_GetNumber.j0]
  by_cases h : l.getD 0 0 > 127
  · rw [if_pos (by simpa using h), if_pos h]
  · rw [if_neg (by simpa using h), if_neg h]
    have h0 : l.getD 0 0 = l[0] := getD_at l 0 0 (by omega)
    have hx := hb l[0] (List.getElem_mem (by omega))
    obtain ⟨K, rfl⟩ : ∃ m, K = m + 1 := ⟨K - 1, by omega⟩
    have step : spec_GetNumber.l0 (K + 1) l 0 0 = spec_GetNumber.l0 K l l[0] ((1 : Nat) : Int) := by
      simp only [spec_GetNumber.l0]
      rw [if_pos (by omega), if_pos (by omega), hr, h0, pw64 (x := l[0]) (by omega) (by omega), pw64 (x := 0 * 256) (by omega) (by omega), Int.zero_mul, Int.zero_add, pw64 (x := l[0]) (by omega) (by omega), pw64 (by omega) (by omega)]
      rfl
    rw [step, get_go l hb 7 (by omega) K 1 l[0] (by omega) (by omega) (by omega) (by omega) (by omega)]
    have e : Lib.beZ l = Lib.beFromZ l[0] (l.drop 1) := by
      unfold Lib.beZ
      cases l with
      | nil => simp at h8
      | cons a m => simp only [Lib.beFromZ, Int.zero_mul, Int.zero_add, List.getElem_cons_zero, List.drop_succ_cons, List.drop_zero]
    rw [e]
theorem wf_bytes (zs : List Int) (hw : Wf zs) : ∀ x ∈ zs, 0 ≤ x ∧ x ≤ 255 := by
  intro x hx
  have h := hw x hx
  have e1 : IntKind.u8.min = 0 := rfl
  have e2 : IntKind.u8.max = 255 := rfl
  simp only [Lit.wf, Bool.and_eq_true, decide_eq_true_eq] at h
  omega
theorem num_cut (zs : List Int) (a m : Nat) (k : Nat) (ha : a + m ≤ zs.length) (hl : zs.length = 4096) (hm : 1 ≤ m) : spec_l3Number.f k zs (a : Int) (m : Int) = spec_GetNumber.f k ((zs.drop a).take m) := by
  unfold spec_l3Number.f
  rw [pw64 (by omega) (by omega), if_pos (by omega), if_pos (by omega), if_pos (by omega), show ((a : Int) + (m : Int)).toNat = a + m by omega, Int.toNat_natCast, List.drop_take, show a + m - a = m by omega]
  cases spec_GetNumber.f k ((zs.drop a).take m) <;> rfl
theorem sub_bytes (zs : List Int) (hw : Wf zs) (a m : Nat) : ∀ x ∈ (zs.drop a).take m, 0 ≤ x ∧ x ≤ 255 := fun x hx => wf_bytes zs hw x (List.mem_of_mem_drop (List.mem_of_mem_take hx))
theorem num2 (zs : List Int) (hw : Wf zs) (hl : zs.length = 4096) (a : Nat) (ha : a + 2 ≤ 4096) (K : Nat) (hK : 20 < K) : spec_l3Number.f K zs (a : Int) 2 = some (n2 zs a) := by
  have h := num_cut zs a 2 K (by omega) hl (by decide)
  rw [get_is _ (sub_bytes zs hw a 2) (by rw [List.length_take, List.length_drop]; omega) (by rw [List.length_take, List.length_drop]; omega) K hK] at h
  exact h
theorem num4 (zs : List Int) (hw : Wf zs) (hl : zs.length = 4096) (a : Nat) (ha : a + 4 ≤ 4096) (K : Nat) (hK : 20 < K) : spec_l3Number.f K zs (a : Int) 4 = some (n4 zs a) := by
  have h := num_cut zs a 4 K (by omega) hl (by decide)
  rw [get_is _ (sub_bytes zs hw a 4) (by rw [List.length_take, List.length_drop]; omega) (by rw [List.length_take, List.length_drop]; omega) K hK] at h
  exact h
theorem num8 (zs : List Int) (hw : Wf zs) (hl : zs.length = 4096) (a : Nat) (ha : a + 8 ≤ 4096) (K : Nat) (hK : 20 < K) : spec_l3Number.f K zs (a : Int) 8 = some (if zs.getD a 0 > 127 then -1 else n8 zs a) := by
  have h := num_cut zs a 8 K (by omega) hl (by decide)
  rw [get8 _ (sub_bytes zs hw a 8) (by rw [List.length_take, List.length_drop]; omega) K hK] at h
  have e : ((zs.drop a).take 8).getD 0 0 = zs.getD a 0 := by
    rw [List.getD_eq_getElem?_getD, List.getD_eq_getElem?_getD, List.getElem?_take_of_lt (by decide), List.getElem?_drop, Nat.add_zero]
  rw [e] at h
  exact h
def slotsOf (zs : List Int) (m : Nat) : List S36 := (List.range m).map fun i => ⟨n2 zs (20 + 4 * i), n2 zs (20 + 4 * i + 2)⟩
theorem slots_go (zs : List Int) (hw : Wf zs) (hl : zs.length = 4096) (d : Nat) : ∀ (K i : Nat), i ≤ 32 → 32 - i = d → d + 30 < K → spec_l3Slots.l0 K zs (slotsOf zs i) (i : Int) = some (slotsOf zs 32) := by
  induction d with
  | zero =>
    intro K i hi hd hk
    obtain ⟨K, rfl⟩ : ∃ m, K = m + 1 := ⟨K - 1, by omega⟩
    obtain rfl : i = 32 := by omega
    simp only [spec_l3Slots.l0]
    rw [if_neg (by omega)]
  | succ d ih =>
    intro K i hi hd hk
    obtain ⟨K, rfl⟩ : ∃ m, K = m + 1 := ⟨K - 1, by omega⟩
    have e1 : wrap64 (20 + wrap64 (4 * (i : Int))) = ((20 + 4 * i : Nat) : Int) := by rw [pw64 (x := 4 * (i : Int)) (by omega) (by omega), pw64 (by omega) (by omega)]; omega
    have e2 : wrap64 (((20 + 4 * i : Nat) : Int) + 2) = ((20 + 4 * i + 2 : Nat) : Int) := by rw [pw64 (by omega) (by omega)]; omega
    simp only [spec_l3Slots.l0]
    rw [if_pos (by omega), e1, e2, num2 zs hw hl _ (by omega) K (by omega), num2 zs hw hl _ (by omega) K (by omega)]
    simp only [Option.bind_some]
    have hlen : (slotsOf zs i).length = i := by simp [slotsOf]
    rw [if_pos (by omega), pw64 (by omega) (by omega)]
    have e3 : slotsOf zs i ++ [⟨n2 zs (20 + 4 * i), n2 zs (20 + 4 * i + 2)⟩] = slotsOf zs (i + 1) := by
      unfold slotsOf
      rw [List.range_succ, List.map_append]
      rfl
    rw [e3]
    exact ih K (i + 1) (by omega) (by omega) (by omega)
theorem slots_is (zs : List Int) (hw : Wf zs) (hl : zs.length = 4096) (K : Nat) (hK : 100 < K) : spec_l3Slots.f K zs = some (slotsOf zs 32) := slots_go zs hw hl 32 K 0 (by omega) (by omega) (by omega)
theorem slots_len (zs : List Int) (m : Nat) : (slotsOf zs m).length = m := by simp [slotsOf]
theorem slots_at (zs : List Int) (i : Nat) (hi : i < 32) : rd_T36 (slotsOf zs 32) (i : Int) = ⟨n2 zs (20 + 4 * i), n2 zs (20 + 4 * i + 2)⟩ := by
  unfold rd_T36
  rw [Int.toNat_natCast, getD_at _ _ _ (by rw [slots_len]; exact hi)]
  simp [slotsOf]

theorem marks1_len (m : Nat) : ∀ (t t' : List Bool) (k : Nat), marks1 m t k = some t' → t'.length = t.length := by
  induction m with
  | zero => intro t t' k h; cases h; rfl
  | succ m ih =>
    intro t t' k h
    simp only [marks1] at h
    by_cases hb : t.getD k false = true
    · rw [if_pos hb] at h; cases h
    · rw [if_neg hb] at h
      rw [ih _ _ _ h, List.length_set]
theorem in_go (zs : List Int) (i o n : Nat) (hi : i < 32) (ho : n2 zs (20 + 4 * i) = (o : Int)) (hn : n2 zs (20 + 4 * i + 2) = (n : Int)) (hfit : n = 0 ∨ o + n ≤ 4096) (ho2 : o < 65536) (R : Int) (M : Nat) (d : Nat) :
    ∀ (K j : Nat) (t : List Bool), j ≤ n → n - j = d → d + 1 + M < K → t.length = 4096 → (marks1 d t (o + j) = none → R = 6) → (∀ t', marks1 d t (o + j) = some t' → ∀ K', M < K' → spec_PageFault.l1 K' (slotsOf zs 32) t' ((i + 1 : Nat) : Int) = some R) →
    spec_PageFault.l2 K (slotsOf zs 32) t (i : Int) ((o + j : Nat) : Int) = some R := by
  have hlen := slots_len zs 32
  have hat := slots_at zs i hi
  rw [ho, hn] at hat
  induction d with
  | zero =>
    intro K j t hj hd hk hl h6 hs
    obtain ⟨K, rfl⟩ : ∃ m, K = m + 1 := ⟨K - 1, by omega⟩
    obtain rfl : j = n := by omega
    simp only [spec_PageFault.l2]
    rw [if_pos (by omega), if_pos (by omega), hat]
    simp only
    rw [pw64 (x := (o : Int) + (j : Int)) (by omega) (by omega), if_neg (by omega), pw64 (by omega) (by omega)]
    have := hs t rfl K (by omega)
    simpa using this
  | succ d ih =>
    intro K j t hj hd hk hl h6 hs
    obtain ⟨K, rfl⟩ : ∃ m, K = m + 1 := ⟨K - 1, by omega⟩
    simp only [spec_PageFault.l2]
    rw [if_pos (by omega), if_pos (by omega), hat]
    simp only
    rw [pw64 (x := (o : Int) + (n : Int)) (by omega) (by omega), if_pos (by omega), if_pos (by omega), if_pos (by omega)]
    have er : rdOf false t ((o + j : Nat) : Int) = t.getD (o + j) false := by unfold rdOf; rw [Int.toNat_natCast]
    rw [er, Int.toNat_natCast, pw64 (by omega) (by omega)]
    simp only [marks1] at h6 hs
    by_cases hb : t.getD (o + j) false = true
    · rw [if_pos hb] at h6 ⊢
      rw [h6 rfl]
    · rw [if_neg hb] at h6 ⊢
      rw [if_neg hb] at hs
      exact ih K (j + 1) (t.set (o + j) true) (by omega) (by omega) (by omega) (by rw [List.length_set]; exact hl) h6 hs
theorem all_go (zs : List Int) (hw : Wf zs) (hl : zs.length = 4096) (b : Int) (hg : ∀ j, j < 32 → badSlot zs b j = false) (d : Nat) :
    ∀ (K i : Nat) (t : List Bool), i ≤ 32 → 32 - i = d → 4200 * d + 5 < K → t.length = 4096 → spec_PageFault.l1 K (slotsOf zs 32) t (i : Int) = some (if (marksAll zs d i t).isNone then 6 else 0) := by
  have hlen := slots_len zs 32
  induction d with
  | zero =>
    intro K i t hi hd hk ht
    obtain ⟨K, rfl⟩ : ∃ m, K = m + 1 := ⟨K - 1, by omega⟩
    simp only [spec_PageFault.l1]
    rw [if_neg (by omega)]
    rfl
  | succ d ih =>
    intro K i t hi hd hk ht
    obtain ⟨K, rfl⟩ : ∃ m, K = m + 1 := ⟨K - 1, by omega⟩
    have hi' : i < 32 := by omega
    have r1 := n2_range zs hw (20 + 4 * i) (by omega)
    have r2 := n2_range zs hw (20 + 4 * i + 2) (by omega)
    have hfit := Mine.fits_of zs b i (hg i hi')
    obtain ⟨o, ho⟩ : ∃ o : Nat, n2 zs (20 + 4 * i) = (o : Int) := ⟨(n2 zs (20 + 4 * i)).toNat, by omega⟩
    obtain ⟨n, hn⟩ : ∃ n : Nat, n2 zs (20 + 4 * i + 2) = (n : Int) := ⟨(n2 zs (20 + 4 * i + 2)).toNat, by omega⟩
    simp only [spec_PageFault.l1]
    rw [if_pos (by omega), if_pos (by omega), slots_at zs i hi']
    simp only
    rw [ho]
    have hm : marksAll zs (d + 1) i t = (marks1 n t o).bind (marksAll zs d (i + 1)) := by
      simp only [marksAll, ho, hn, Int.toNat_natCast]
    rw [ho] at r1 hfit
    rw [hn] at r2 hfit
    have hn4 : n ≤ 4096 := by omega
    have := in_go zs i o n hi' ho hn (by omega) (by omega) (if (marksAll zs (d + 1) i t).isNone then 6 else 0) (4200 * d + 5) n K 0 t (by omega) (by omega) (by omega) ht
      (by
        intro h
        rw [hm, show marks1 n t o = none from h]
        rfl)
      (by
        intro t' h K' hK'
        rw [hm, show marks1 n t o = some t' from h]
        exact ih K' (i + 1) t' (by omega) (by omega) hK' ((marks1_len n t t' o h).trans ht))
    simpa using this
theorem chk_go (zs : List Int) (hw : Wf zs) (hl : zs.length = 4096) (b : Int) (d : Nat) :
    ∀ (K i : Nat), i ≤ 32 → 32 - i = d → 2 * d + 135000 < K → (∀ j, j < i → badSlot zs b j = false) →
    spec_PageFault.l0 K b (slotsOf zs 32) (i : Int) = some (if ∃ j : Fin 32, badSlot zs b j.val = true then 5 else if (marksAll zs 32 0 (List.replicate 4096 false)).isNone then 6 else 0) := by
  have hlen := slots_len zs 32
  induction d with
  | zero =>
    intro K i hi hd hk hg
    obtain ⟨K, rfl⟩ : ∃ m, K = m + 1 := ⟨K - 1, by omega⟩
    obtain rfl : i = 32 := by omega
    have hno : ¬ ∃ j : Fin 32, badSlot zs b j.val = true := by
      rintro ⟨j, hj⟩
      rw [hg j.val j.isLt] at hj
      cases hj
    rw [spec_PageFault.l0]
    rw [if_neg (by omega), if_pos (by omega), if_neg hno]
    exact all_go zs hw hl b hg 32 K 0 (List.replicate 4096 false) (by omega) (by omega) (by omega) List.length_replicate
  | succ d ih =>
    intro K i hi hd hk hg
    obtain ⟨K, rfl⟩ : ∃ m, K = m + 2 := ⟨K - 2, by omega⟩
    have hi' : i < 32 := by omega
    have r1 := n2_range zs hw (20 + 4 * i) (by omega)
    have r2 := n2_range zs hw (20 + 4 * i + 2) (by omega)
    have hbad : badSlot zs b i = true → ∃ j : Fin 32, badSlot zs b j.val = true := fun h => ⟨⟨i, hi'⟩, h⟩
    have next : badSlot zs b i = false → spec_PageFault.l0 K b (slotsOf zs 32) (wrap64 ((i : Int) + 1)) = some (if ∃ j : Fin 32, badSlot zs b j.val = true then 5 else if (marksAll zs 32 0 (List.replicate 4096 false)).isNone then 6 else 0) := by
      intro h
      rw [pw64 (by omega) (by omega)]
      have := ih K (i + 1) (by omega) (by omega) (by omega) (by
        intro j hj
        rcases Nat.lt_or_ge j i with e | e
        · exact hg j e
        · obtain rfl : j = i := by omega
          exact h)
      rw [show (i : Int) + 1 = ((i + 1 : Nat) : Int) by omega]
      exact this
    obtain ⟨V, hV⟩ : ∃ V : Int, (if ∃ j : Fin 32, badSlot zs b j.val = true then 5 else if (marksAll zs 32 0 (List.replicate 4096 false)).isNone then 6 else 0) = V := ⟨_, rfl⟩
    have h5 : badSlot zs b i = true → V = 5 := fun h => by rw [← hV, if_pos (hbad h)]
    rw [hV] at next ⊢
    rw [spec_PageFault.l0]
    rw [if_pos (by omega), if_pos (by omega), slots_at zs i hi']
    simp only
    have hbd : badSlot zs b i = ((n2 zs (20 + 4 * i) == 0 && n2 zs (20 + 4 * i + 2) != 0) || (n2 zs (20 + 4 * i) != 0 && (decide (n2 zs (20 + 4 * i + 2) > 1000) || decide (n2 zs (20 + 4 * i) < b) || decide (n2 zs (20 + 4 * i) + n2 zs (20 + 4 * i + 2) > 4096)))) := rfl
    rw [hbd] at h5 next
    clear hbd hbad hg
    generalize n2 zs (20 + 4 * i) = o at h5 next r1 ⊢
    generalize n2 zs (20 + 4 * i + 2) = n at h5 next r2 ⊢
    by_cases p1 : o = 0
    · rw [if_pos p1]
      simp only [spec_PageFault.j3]
      by_cases p2 : n = 0
      · rw [if_neg (by simp [p2]), if_pos p1]
        exact next (by simp [p1, p2])
      · rw [if_pos (by simpa using p2), h5 (by simp [p1, p2])]
    · rw [if_neg p1]
      simp only [spec_PageFault.j3]
      rw [if_neg (by simp), if_neg p1, pw64 (x := o + n) (by omega) (by omega)]
      by_cases p2 : n > 1000
      · rw [if_pos p2, h5 (by rw [decide_eq_true p2]; simp [p1])]
      · rw [if_neg p2]
        by_cases p3 : o < b
        · rw [if_pos p3, h5 (by rw [decide_eq_true p3]; simp [p1])]
        · rw [if_neg p3]
          by_cases p4 : o + n > 4096
          · rw [if_pos p4, h5 (by rw [decide_eq_true p4]; simp [p1])]
          · rw [if_neg p4]
            exact next (by rw [decide_eq_false p2, decide_eq_false p3, decide_eq_false p4]; simp [p1])
theorem beFrom_ge (l : List Int) (hb : ∀ x ∈ l, 0 ≤ x ∧ x ≤ 255) : ∀ acc : Int, 0 ≤ acc → acc * ((256 ^ l.length : Nat) : Int) ≤ Lib.beFromZ acc l := by
  induction l with
  | nil => intro acc h; simp [Lib.beFromZ]
  | cons x l ih =>
    intro acc h
    have hx := hb x (List.mem_cons_self ..)
    have := ih (fun y hy => hb y (List.mem_cons_of_mem _ hy)) (acc * 256 + x) (by omega)
    simp only [Lib.beFromZ]
    have e1 : acc * ((256 ^ (x :: l).length : Nat) : Int) = (acc * 256) * ((256 ^ l.length : Nat) : Int) := by rw [List.length_cons, Nat.pow_succ, Nat.mul_comm, Int.natCast_mul, ← Int.mul_assoc]; rfl
    rw [e1]
    refine Int.le_trans (Int.mul_le_mul_of_nonneg_right (by omega) (Int.natCast_nonneg _)) this
theorem n8_split (zs : List Int) (hw : Wf zs) (hl : zs.length = 4096) (a : Nat) (ha : a + 8 ≤ 4096) : 0 ≤ n8 zs a ∧ (zs.getD a 0 > 127 → n8 zs a > 1099511627776) := by
  have hx := wf_at zs hw a (by omega)
  have e : n8 zs a = Lib.beFromZ zs[a] ((zs.drop (a + 1)).take 7) := by
    unfold n8
    rw [List.drop_eq_getElem_cons (by omega)]
    show Lib.beFromZ 0 (zs[a] :: (zs.drop (a + 1)).take 7) = _
    simp only [Lib.beFromZ, Int.zero_mul, Int.zero_add]
  have h := beFrom_ge ((zs.drop (a + 1)).take 7) (sub_bytes zs hw (a + 1) 7) zs[a] (by omega)
  have hlen : ((zs.drop (a + 1)).take 7).length = 7 := by rw [List.length_take, List.length_drop]; omega
  rw [hlen] at h
  rw [e, getD_at zs a 0 (by omega)]
  have e7 : ((256 ^ 7 : Nat) : Int) = 72057594037927936 := rfl
  rw [e7] at h
  constructor <;> omega
theorem spec_is (zs : List Int) (hw : Wf zs) (hl : zs.length = 4096) (num : Int) (K : Nat) (hK : 140000 < K) : spec_PageFault.f K zs num = some (pfault zs num) := by
  have h12 : spec_l3Number.f K zs 12 4 = some (n4 zs 12) := num4 zs hw hl 12 (by omega) K (by omega)
  have h4 : spec_l3Number.f K zs 4 8 = some (if zs.getD 4 0 > 127 then -1 else n8 zs 4) := num8 zs hw hl 4 (by omega) K (by omega)
  have h8 := n8_split zs hw hl 4 (by omega)
  have r18 : rd zs 18 = zs[18] := by have := rdN zs 18; rw [getD_at zs 18 0 (by omega)] at this; exact this
  have r19 : rd zs 19 = zs[19] := by have := rdN zs 19; rw [getD_at zs 19 0 (by omega)] at this; exact this
  have w18 := wf_at zs hw 18 (by omega)
  have w19 := wf_at zs hw 19 (by omega)
  have e18 : n2 zs 18 = zs[18] * 256 + zs[19] := n2_is zs 18 (by omega)
  unfold spec_PageFault.f
  rw [if_pos (by omega), h12]
  simp only [Option.bind_some]
  by_cases q1 : n4 zs 12 = num
  · rw [if_pos q1, h4]
    simp only [Option.bind_some]
    have hj0 : ∀ k, 139000 < k → spec_PageFault.j0 k zs true = some 3 := by
      intro k hk
      obtain ⟨k, rfl⟩ : ∃ m, k = m + 1 := ⟨k - 1, by omega⟩
      simp only [spec_PageFault.j0, if_true]
    by_cases q2 : n8 zs 4 > 1099511627776 ∨ n2 zs 18 ≠ 0
    · have hp : pfault zs num = 3 := by
        unfold Mine.pfault Mine.headFault
        rw [if_neg (by simpa using q1), if_pos q2]
      rw [hp]
      by_cases g : zs.getD 4 0 > 127
      · rw [if_pos g, if_pos (by omega), hj0 K (by omega)]
      · rw [if_neg g, if_neg (by omega)]
        by_cases q3 : n8 zs 4 > 1099511627776
        · rw [if_pos q3, hj0 K (by omega)]
        · rw [if_neg q3, if_pos (by omega), r18, r19]
          by_cases z18 : zs[18] = 0
          · rw [if_pos z18, if_pos (by omega), show (zs[19] != 0) = true by simp only [bne_iff_ne]; omega, hj0 K (by omega)]
          · rw [if_neg z18, hj0 K (by omega)]
    · have z18 : zs[18] = 0 := by omega
      have z19 : zs[19] = 0 := by omega
      have ng : ¬ zs.getD 4 0 > 127 := fun g => by omega
      rw [if_neg ng, if_neg (show ¬ n8 zs 4 < 0 by omega), if_neg (show ¬ n8 zs 4 > 1099511627776 by omega), if_pos (show (18 : Int) < (zs.length : Int) by omega), r18, r19, if_pos z18, if_pos (show (19 : Int) < (zs.length : Int) by omega), z19, show ((0 : Int) != 0) = false from rfl]
      obtain ⟨K, rfl⟩ : ∃ m, K = m + 2 := ⟨K - 2, by omega⟩
      have h16 : ∀ k, 20 < k → spec_l3Bottom.f k zs = some (n2 zs 16) := by
        intro k hk
        unfold spec_l3Bottom.f
        rw [show spec_l3Number.f k zs 16 2 = some (n2 zs 16) from num2 zs hw hl 16 (by omega) k hk, Option.bind_some]
      simp only [spec_PageFault.j0]
      rw [if_neg (by simp), h16 (K + 1) (by omega)]
      simp only [Option.bind_some]
      by_cases q4 : n2 zs 16 < 148 ∨ n2 zs 16 > 4096
      · have hp : pfault zs num = 4 := by
          unfold Mine.pfault Mine.headFault
          rw [if_neg (by simpa using q1), if_neg q2, if_pos q4]
        rw [hp]
        simp only [spec_PageFault.j1]
        by_cases q5 : n2 zs 16 < 148
        · rw [if_pos q5, if_pos (by simp)]
        · rw [if_neg q5, if_pos (by simp; omega)]
      · have hp : pfault zs num = bodyFault zs := by
          unfold Mine.pfault Mine.headFault
          rw [if_neg (by simpa using q1), if_neg q2, if_neg q4]
        rw [hp, if_neg (by omega)]
        simp only [spec_PageFault.j1]
        rw [if_neg (by simp; omega), slots_is zs hw hl K (by omega), Option.bind_some]
        exact chk_go zs hw hl (n2 zs 16) 32 K 0 (by omega) (by omega) (by omega) (fun j hj => absurd hj (Nat.not_lt_zero _))
  · have hp : pfault zs num = 2 := by
      unfold Mine.pfault Mine.headFault
      rw [if_pos q1]
    rw [if_neg q1, hp]

/-- What marks leave: from k on. -/
def Marked (k : Int) (ys : List Int) : Prop := ∀ (i : Nat) (h : i < ys.length), ys[i] = (k + (i : Int)) % 256
theorem markByteS_go (n : Nat) (k0 : Int) (h0 : 0 ≤ k0) (h1 : k0 ≤ 4611686018427387904) (hn : n ≤ 140737488355328) (d : Nat) : ∀ (K i : Nat) (ys : List Int), ys.length = n → (∀ (j : Nat) (h : j < ys.length), j < i → ys[j] = (k0 + (j : Int)) % 256) → i ≤ n → n - i = d → d < K →
    ∃ zs, laws_markByteS.l0 K ys (k0 + (i : Int)) (i : Int) = some (k0 + (n : Int), zs) ∧ zs.length = n ∧ Marked k0 zs := by
  induction d with
  | zero =>
    intro K i ys hl hp hi hd hk
    obtain ⟨K, rfl⟩ : ∃ m, K = m + 1 := ⟨K - 1, by omega⟩
    simp only [laws_markByteS.l0]
    rw [if_neg (by omega)]
    obtain rfl : i = n := by omega
    exact ⟨ys, rfl, hl, fun j h => hp j h (by omega)⟩
  | succ d ih =>
    intro K i ys hl hp hi hd hk
    obtain ⟨K, rfl⟩ : ∃ m, K = m + 1 := ⟨K - 1, by omega⟩
    simp only [laws_markByteS.l0]
    rw [if_pos (by omega), if_pos (by omega), pw64 (x := k0 + (i : Int) + 1) (by omega) (by omega), pw64 (x := (i : Int) + 1) (by omega) (by omega), Int.toNat_natCast]
    obtain ⟨zs, h, h2, h3⟩ := ih K (i + 1) (ys.set i ((k0 + (i : Int)) % 256)) (by simp [hl]) (by
      intro j h hj
      rw [List.getElem_set]
      by_cases e : i = j
      · subst e
        rw [if_pos rfl]
      · rw [if_neg e]
        exact hp j (by simpa using h) (by omega)) (by omega) (by omega) (by omega)
    refine ⟨zs, ?_, h2, h3⟩
    rw [← h]
    congr 1
    omega
theorem heldByteS_go (ys : List Int) (k0 : Int) (h0 : 0 ≤ k0) (h1 : k0 ≤ 4611686018427387904) (hn : ys.length ≤ 140737488355328) (hm : Marked k0 ys) (d : Nat) : ∀ (K i : Nat), i ≤ ys.length → ys.length - i = d → d < K → laws_heldByteS.l0 K ys (k0 + (i : Int)) (i : Int) = some (k0 + (ys.length : Int)) := by
  induction d with
  | zero =>
    intro K i hi hd hk
    obtain ⟨K, rfl⟩ : ∃ m, K = m + 1 := ⟨K - 1, by omega⟩
    simp only [laws_heldByteS.l0]
    rw [if_neg (by omega)]
    obtain rfl : i = ys.length := by omega
    rfl
  | succ d ih =>
    intro K i hi hd hk
    obtain ⟨K, rfl⟩ : ∃ m, K = m + 1 := ⟨K - 1, by omega⟩
    have hil : i < ys.length := by omega
    simp only [laws_heldByteS.l0]
    rw [if_pos (by omega), if_pos (by omega), rdN, getD_at ys i 0 hil, if_pos (hm i hil), pw64 (x := k0 + (i : Int) + 1) (by omega) (by omega), pw64 (x := (i : Int) + 1) (by omega) (by omega)]
    have := ih K (i + 1) (by omega) (by omega) (by omega)
    rw [← this]
    congr 1
    omega
theorem markByteS_some (xs : List Int) (k0 : Int) (h0 : 0 ≤ k0) (h1 : k0 ≤ 4611686018427387904) (hn : xs.length ≤ 140737488355328) (K : Nat) (hK : xs.length < K) :
    ∃ zs, laws_markByteS.f K xs k0 = some (k0 + (xs.length : Int), zs) ∧ zs.length = xs.length ∧ ∀ K', xs.length < K' → laws_heldByteS.f K' zs k0 = some (k0 + (xs.length : Int)) := by
  obtain ⟨zs, h, h2, h3⟩ := markByteS_go xs.length k0 h0 h1 hn xs.length K 0 xs rfl (by intro j h hj; omega) (by omega) (by omega) hK
  refine ⟨zs, ?_, h2, fun K' hK' => ?_⟩
  · unfold laws_markByteS.f
    simpa using h
  · have := heldByteS_go zs k0 h0 h1 (by omega) h3 zs.length K' 0 (by omega) (by omega) (by omega)
    unfold laws_heldByteS.f
    rw [h2] at this
    simpa using this

theorem own_is (zs : List Int) (hw : Wf zs) (hl : zs.length = 4096) (K : Nat) (hK : 140000 < K) : spec_l3Own.f K zs = some (Mine.good zs) := by
  unfold spec_l3Own.f
  rw [if_pos (by omega), show spec_l3Number.f K zs 12 4 = some (n4 zs 12) from num4 zs hw hl 12 (by omega) K (by omega), Option.bind_some, spec_is zs hw hl _ K hK, Option.bind_some]
  rfl
theorem own_no (zs : List Int) (hl : zs.length ≠ 4096) (K : Nat) : spec_l3Own.f K zs = some false := by
  unfold spec_l3Own.f
  rw [if_neg (by omega)]
theorem good_n8 (zs : List Int) (h : Mine.good zs = true) : n8 zs 4 ≤ 1099511627776 := by
  unfold Mine.good at h
  have h0 : pfault zs (n4 zs 12) = 0 := by simpa using h
  unfold Mine.pfault Mine.headFault at h0
  rw [if_neg (by simp)] at h0
  by_cases q : n8 zs 4 > 1099511627776 ∨ n2 zs 18 ≠ 0
  · rw [if_pos q] at h0
    exact absurd h0 (by simp)
  · omega
theorem good_slots (zs : List Int) (h : Mine.good zs = true) (i : Nat) (hi : i < 32) : badSlot zs (n2 zs 16) i = false := by
  unfold Mine.good at h
  have h0 : pfault zs (n4 zs 12) = 0 := by simpa using h
  unfold Mine.pfault Mine.headFault at h0
  rw [if_neg (by simp)] at h0
  by_cases q : n8 zs 4 > 1099511627776 ∨ n2 zs 18 ≠ 0
  · rw [if_pos q] at h0
    exact absurd h0 (by simp)
  · rw [if_neg q] at h0
    by_cases q2 : n2 zs 16 < 148 ∨ n2 zs 16 > 4096
    · rw [if_pos q2] at h0
      exact absurd h0 (by simp)
    · rw [if_neg q2] at h0
      simp only at h0
      unfold Mine.bodyFault at h0
      by_cases e : ∃ j : Fin 32, badSlot zs (n2 zs 16) j.val = true
      · rw [if_pos e] at h0
        exact absurd h0 (by decide)
      · cases hb : badSlot zs (n2 zs 16) i with
        | false => rfl
        | true => exact absurd ⟨⟨i, hi⟩, hb⟩ e

theorem copy_is (l : List Int) (h : l.length ≤ 1048576) : spec_l1Copy.f l = some l := by
  unfold spec_l1Copy.f
  simp only [Option.bind_some, List.length_nil, Nat.zero_add, List.nil_append]
  rw [if_pos (by omega)]
theorem clone_is (l : List Int) (h : l.length ≤ 1048576) : slices_Clone_byte_byte.f l = some l := by
  unfold slices_Clone_byte_byte.f
  simp only [Option.bind_some, List.length_nil, Nat.zero_add, List.nil_append]
  rw [if_pos (by omega)]
theorem get_same (zs : List Int) (hw : Wf zs) (a : Int) : ∃ (b : Bool) (r : List Int), r.length ≤ 1048576 ∧ (∀ K, 140001 < K → spec_PageGet.f K zs a = some (b, r)) ∧ (∀ K, 140001 < K → impl_PageGet.f K zs a = some (b, r)) := by
  have hj : ∀ K, 140000 < K → spec_PageGet.j0 K zs a true = some (false, []) := by
    intro K hK
    obtain ⟨K, rfl⟩ : ∃ m, K = m + 1 := ⟨K - 1, by omega⟩
    simp only [spec_PageGet.j0, if_true]
  by_cases hl : zs.length = 4096
  · cases hg : Mine.good zs with
    | true =>
      by_cases hr : 0 ≤ a ∧ a < 32
      · obtain ⟨i, rfl⟩ : ∃ i : Nat, a = (i : Int) := ⟨a.toNat, by omega⟩
        have hi : i < 32 := by omega
        have r1 := n2_range zs hw (20 + 4 * i) (by omega)
        have r2 := n2_range zs hw (20 + 4 * i + 2) (by omega)
        have hfit := Mine.fits_of zs (n2 zs 16) i (good_slots zs hg i hi)
        have hlen := slots_len zs 32
        have hat := slots_at zs i hi
        have hsl : impl_slotOf.f zs (i : Int) = some (n2 zs (20 + 4 * i), n2 zs (20 + 4 * i + 2)) := by
          unfold impl_slotOf.f
          rw [if_pos ⟨by omega, by omega, hl, hw⟩, Int.toNat_natCast]
        generalize n2 zs (20 + 4 * i) = o at r1 hfit hat hsl
        generalize n2 zs (20 + 4 * i + 2) = n at r2 hfit hat hsl
        have hs : ∀ K, 140001 < K → spec_PageGet.f K zs (i : Int) = if o = 0 then some (false, []) else some (true, (zs.take (o + n).toNat).drop o.toNat) := by
          intro K hK
          unfold spec_PageGet.f
          rw [own_is zs hw hl K (by omega), hg]
          simp only [Option.bind_some, if_true]
          obtain ⟨K, rfl⟩ : ∃ m, K = m + 1 := ⟨K - 1, by omega⟩
          rw [if_neg (by omega)]
          simp only [spec_PageGet.j0]
          rw [if_neg (by simp; omega), slots_is zs hw hl K (by omega), Option.bind_some, if_pos (by omega), if_pos (by omega), hat]
          simp only
          by_cases p : o = 0
          · rw [if_pos p, if_pos p]
          · rw [if_neg p, if_neg p, pw64 (x := o + n) (by omega) (by omega), if_pos (by omega), if_pos (by omega), if_pos (by omega), copy_is _ (by rw [List.length_drop, List.length_take]; omega), Option.bind_some]
        have hi2 : ∀ K, 140001 < K → impl_PageGet.f K zs (i : Int) = if o = 0 then some (false, []) else some (true, (zs.take (o + n).toNat).drop o.toNat) := by
          intro K hK
          unfold impl_PageGet.f impl_wellFormed.f
          rw [if_neg (by simpa using hl), if_pos hw, hg]
          simp only [Option.bind_some, if_true]
          rw [if_neg (by omega), if_neg (by omega)]
          unfold impl_getSlot.f
          rw [hsl]
          simp only [Option.bind_some]
          by_cases p : o = 0
          · rw [if_pos p, if_pos p]
            rfl
          · rw [if_neg p, if_neg p, pw64 (x := o + n) (by omega) (by omega), if_pos (by omega), if_pos (by omega), if_pos (by omega), clone_is _ (by rw [List.length_drop, List.length_take]; omega)]
            rfl
        by_cases p : o = 0
        · simp only [if_pos p] at hs hi2
          exact ⟨_, _, by simp, hs, hi2⟩
        · simp only [if_neg p] at hs hi2
          exact ⟨_, _, by rw [List.length_drop, List.length_take]; omega, hs, hi2⟩
      · refine ⟨false, [], by simp, fun K hK => ?_, fun K hK => ?_⟩
        · unfold spec_PageGet.f
          rw [own_is zs hw hl K (by omega), hg]
          simp only [Option.bind_some, if_true]
          by_cases p : a < 0
          · rw [if_pos p, hj K (by omega)]
          · rw [if_neg p, show decide (a ≥ 32) = true from decide_eq_true (by omega), hj K (by omega)]
        · unfold impl_PageGet.f impl_wellFormed.f
          rw [if_neg (by simpa using hl), if_pos hw, hg]
          simp only [Option.bind_some, if_true]
          by_cases p : a < 0
          · rw [if_pos p]
          · rw [if_neg p, if_pos (by omega)]
    | false =>
      refine ⟨false, [], by simp, fun K hK => ?_, fun K hK => ?_⟩
      · unfold spec_PageGet.f
        rw [own_is zs hw hl K (by omega), hg, Option.bind_some, if_neg (by simp), hj K (by omega)]
      · unfold impl_PageGet.f impl_wellFormed.f
        rw [if_neg (by simpa using hl), if_pos hw, hg, Option.bind_some, if_neg (by simp)]
  · refine ⟨false, [], by simp, fun K hK => ?_, fun K hK => ?_⟩
    · unfold spec_PageGet.f
      rw [own_no zs hl, Option.bind_some, if_neg (by simp), hj K (by omega)]
    · unfold impl_PageGet.f impl_wellFormed.f
      rw [if_pos hl, Option.bind_some, if_neg (by simp)]
theorem eqRec (b : Bool) (r : List Int) (hr : r.length ≤ 1048576) (K : Nat) (hK : 1048576 < K) : laws_eqPageRecord.f K b r b r = some true := by
  unfold laws_eqPageRecord.f
  rw [if_neg (by simp), eqByteS_same r (by omega) K (by omega)]
  simp
theorem heldRec (b : Bool) (zs : List Int) (n : Int) (h0 : 0 ≤ n) (K : Nat) (h : laws_heldByteS.f K zs 1 = some n) : laws_heldPageRecord.f K b zs 1 = some n := by
  unfold laws_heldPageRecord.f
  rw [h, Option.bind_some, if_neg (by omega)]

theorem FnExactPageGet (l0 : (List Int)) (a1 : Int) (w0 : l0.length ≤ maxLen ∧ ∀ y0 ∈ l0, (Lit.int .u8 y0).wf = true) (w1 : (Lit.int .i64 a1).wf = true) : ∃ k, laws_FnExactPageGet.f k l0 a1 = some true := by
  obtain ⟨K, hK⟩ : ∃ K, K = 2000000 := ⟨_, rfl⟩
  refine ⟨K + 1, ?_⟩
  unfold laws_FnExactPageGet.f
  by_cases h : (l0.length : Int) > 1048576
  · rw [if_pos h]
  · obtain ⟨b, r, hr, h1, h2⟩ := get_same l0 w0.2 a1
    obtain ⟨m0, g1, _, _⟩ := markByteS_some l0 1 (by omega) (by omega) (by omega) (K + 1) (by omega)
    obtain ⟨zs, g2, g3, g4⟩ := markByteS_some r 1 (by omega) (by omega) (by omega) K (by omega)
    have hd := heldRec b zs (1 + (r.length : Int)) (by omega) K (g4 K (by omega))
    have ht := toByteS_some l0 (by omega)
    have he := eqByteS_same l0 (by omega)
    rw [if_neg h, ht (K + 1) (by omega)]
    simp only [Option.bind_some]
    rw [h1 (K + 1) (by omega)]
    simp only [Option.bind_some]
    rw [h2 (K + 1) (by omega)]
    simp only [Option.bind_some, eqRec b r hr (K + 1) (by omega), if_true, he (K + 1) (by omega), g1]
    rw [if_neg (by omega)]
    simp only [laws_FnExactPageGet.j0, laws_markPageRecord.f, Bool.not_true]
    rw [if_neg (by decide), g2]
    simp only [Option.bind_some, hd, if_true, ht K (by omega)]
    rw [if_neg (by omega), h2 K (by omega)]
    simp only [Option.bind_some, eqRec b r hr K (by omega), if_true]
    rw [if_neg (by omega)]

end Go.Proofs.YtknodhkifmklfaaDoor.Pure
