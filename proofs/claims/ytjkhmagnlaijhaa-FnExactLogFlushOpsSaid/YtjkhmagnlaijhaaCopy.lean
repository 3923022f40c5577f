/- Proved: the builtin copy into a row of bytes of the call's own. No statement of the seat is proved here. -/
import Derived.Test.YtjkhmagnlaijhaaWMore
import Derived.Laws.IdiomCopy
namespace Go.Proofs.Ytjkhmagnlaijhaa.Copy
open Go.RowKit Go.Proofs.YtjkhmagnlaijhaaW.PrintWords Go.Proofs.YtjkhmagnlaijhaaW.PrintLast Go.Proofs.YtjkhmagnlaijhaaW.PrintMore
set_option linter.unusedVariables false
variable {P : Program}
/-- What a row holds behind copy(row, ys). -/
def over (xs ys : List Int) : List Int := ys.take xs.length ++ xs.drop ys.length
theorem over_length (xs ys : List Int) : (over xs ys).length = xs.length := by
  unfold over
  rw [List.length_append, List.length_take, List.length_drop]
  omega
theorem copy_run (t e : TypeId) (ht : P.underlying t = some (.slice e)) (hs : (P.info? e).map (·.size) = some 1)
    {W : World} {base : Nat} {ok : Nat → Prop} {g n cap : Nat} {xs ys : List Int} (hn : n = xs.length) (h : Kd.R (Kd.int .u8) e W base ok (.slice (some ⟨g, 0, none⟩) n cap) xs) {A : Option Addr} {c : Nat} (hsrc : Kd.C (Kd.int .u8) W A ys.length ys) :
    ∃ (w1 : World) (v : Value), (∀ ty, (Builtin.copy_ #[t, t] ty #[.slice (some ⟨g, 0, none⟩) n cap, .slice A ys.length c]).run P W = .ok v w1) ∧ Kd.R (Kd.int .u8) e w1 base ok (.slice (some ⟨g, 0, none⟩) n cap) (over xs ys) ∧ W.grownBy w1 (some g) := by
  subst hn
  by_cases hk : Nat.min ys.length xs.length = 0
  · refine ⟨W, _, fun ty => run_copy_none W t t ty e (some ⟨g, 0, none⟩) A xs.length cap ys.length c ht hs hk, ?_, ⟨rfl, rfl, rfl, Nat.le_refl _, fun _ _ _ => rfl⟩⟩
    have hov : over xs ys = xs := by
      unfold over
      have : ys.length = 0 ∨ xs.length = 0 := by
        have h1 := Nat.min_def (n := ys.length) (m := xs.length)
        have h2 : min ys.length xs.length = 0 := hk
        omega
      rcases this with h0 | h0
      · rw [List.eq_nil_of_length_eq_zero h0]
        simp
      · rw [List.eq_nil_of_length_eq_zero h0]
        simp
    rw [hov]
    exact h
  · have hk2 : 0 < min ys.length xs.length := Nat.pos_of_ne_zero hk
    have hy : 0 < ys.length := by omega
    have hx : 0 < xs.length := by omega
    obtain ⟨ad, rfl, _⟩ := Kd.at_int hsrc 0 (by omega) (by omega)
    have hok := h.1
    have ho := Kd.own_of_R (enc := Value.int .u8) (h1 := fun _ => rfl) h
    obtain ⟨hl, ho2⟩ := ho
    rcases ho2 with ⟨hnil, _⟩ | ⟨g2, cap2, cur, hsl, hbg, hblk, hnc, hcm, hcs, hcur⟩
    · cases hnil
    · obtain ⟨rfl, rfl⟩ : g = g2 ∧ cap = cap2 := by
        injection hsl with e1 _ e3
        injection e1 with e1
        injection e1 with e1
        exact ⟨e1, e3⟩
      rw [Nat.mul_one] at hcs hcur hl
      have hcl : ((ys.take xs.length).map (Value.int .u8)).length = Nat.min ys.length xs.length := by
        rw [List.length_map, List.length_take]
        show min xs.length ys.length = min ys.length xs.length
        omega
      have hcle : ((ys.take xs.length).map (Value.int .u8)).length ≤ xs.length := by rw [List.length_map, List.length_take]; omega
      have hread : ∀ j v, ((ys.take xs.length).map (Value.int .u8))[j]? = some v → W.cell? (ad.add j) = some v := by
        intro j v hv
        rw [List.getElem?_map] at hv
        obtain ⟨y, hy1, rfl⟩ := Option.map_eq_some_iff.1 hv
        have hj : j < (ys.take xs.length).length := (List.getElem?_eq_some_iff.1 hy1).1
        rw [List.length_take] at hj
        rw [List.getElem?_take_of_lt (by omega)] at hy1
        obtain ⟨ad', e, hc⟩ := Kd.at_int hsrc (j : Int) (by omega) (by omega)
        injection e with e
        subst e
        rw [Int.toNat_natCast] at hc
        rw [hc]
        unfold rd
        rw [Int.toNat_natCast, List.getD_eq_getElem?_getD, hy1]
        rfl
      have hrun := fun ty => run_copy_cells W t t ty e g 0 xs.length cap ad ys.length c ((ys.take xs.length).map (Value.int .u8)) (P := P) ht hs hcl hread
        (fun j hj => by rw [Nat.zero_add, blk_cell hblk, Array.getElem?_eq_getElem (by omega)]; rfl) (fun j hj => blk_frozen hblk _) (by intro v hv; obtain ⟨y, _, rfl⟩ := List.mem_map.1 hv; rfl)
      obtain ⟨cur', hb', hs', hc'⟩ := setCells_row ((ys.take xs.length).map (Value.int .u8)) 0 W cur hblk (by omega)
      obtain ⟨q1, q2, q3, q4⟩ := setCells_same g ((ys.take xs.length).map (Value.int .u8)) 0 W
      refine ⟨W.setCells g 0 ((ys.take xs.length).map (Value.int .u8)), _, hrun, Kd.R_of_own ⟨by rw [encs, List.length_map, Nat.mul_one], .inr ⟨g, cap, cur', by rw [over_length], hbg, hb', by rw [over_length]; exact hnc, hcm, by rw [Nat.mul_one, hs', hcs], ?_⟩⟩ hok, ⟨q1, q2, q3, by rw [q4]; exact Nat.le_refl _, fun i hi hne => setCells_far _ _ i (fun e => hne (by rw [e]))⟩⟩
      rw [over_length, Nat.mul_one, hc', List.take_zero, List.nil_append, Nat.zero_add, List.take_append, List.take_of_length_le hcle, ← List.drop_take, hcur]
      unfold over encs
      rw [List.map_append, List.map_drop, List.length_map, List.length_take]
      congr 1
      by_cases hle : xs.length ≤ ys.length
      · rw [Nat.min_eq_left hle, List.drop_eq_nil_of_le (by simp), List.drop_eq_nil_of_le (by simp; omega)]
      · rw [Nat.min_eq_right (by omega)]
end Go.Proofs.Ytjkhmagnlaijhaa.Copy
