/- Proved: the builtin clear on what is left of a row of the call's own. No statement of the seat is proved here. -/
import Derived.Test.YtmggneijkhmigaaWMore
import Derived.Lib.SliceRun
namespace Go.Proofs.Ytmggneijkhmigaa.Clear
open Go.RowKit Go.Proofs.YtmggneijkhmigaaW.PrintWords Go.Proofs.YtmggneijkhmigaaW.PrintLast Go.Proofs.YtmggneijkhmigaaW.PrintMore
set_option linter.unusedVariables false
variable {P : Program}
theorem zeroCells_length (cs : Array Value) (n : Nat) : (Builtin.zeroCells cs n).toList.length = n * cs.size := by simp [Builtin.zeroCells]
theorem zeroCells_one (cs : Array Value) (n : Nat) (h1 : ∀ v ∈ cs.toList, v.oneCell' = true) : ∀ v ∈ (Builtin.zeroCells cs n).toList, v.oneCell' = true := by
  intro v hv
  simp only [Builtin.zeroCells, Array.toList_map, List.mem_map] at hv
  obtain ⟨i, hi, rfl⟩ := hv
  have hi' : i < n * cs.size := by simpa using hi
  have hpos : 0 < cs.size := by
    rcases Nat.eq_zero_or_pos cs.size with e | e
    · rw [e] at hi'; omega
    · exact e
  have hlt : i % cs.size < cs.size := Nat.mod_lt _ hpos
  rw [getElem!_pos cs _ hlt]
  exact h1 _ (by simp)
theorem clear_row {α : Type} {d : Kd α} (t e : TypeId) (z : Value) (ht : P.underlying t = some (.slice e)) (hv : ∀ w, (zeroValue e).run P w = .ok z w) (hz : z.cells.size = d.sz) (h1 : ∀ v ∈ z.cells.toList, v.oneCell' = true) (hs : 0 < d.sz) (hE : d.E = [])
    {w : World} {base : Nat} {ok : Nat → Prop} {A : Option Addr} {c : Nat} {xs : List α} (h : d.R e w base ok (.slice A xs.length c) xs) (j : Nat) (hj : j ≤ xs.length) :
    ∃ w1, (∀ ty, (Builtin.clear_ #[t] ty #[.slice (if c = j then A else A.map (·.add (j * d.sz))) (xs.length - j) (c - j)]).run P w = .ok (.tuple #[]) w1) ∧ d.R e w1 base ok (.slice A j c) (xs.take j) ∧ w.grownBy w1 (Value.slice A xs.length c).ownBlock := by
  have htake := Kd.R_take h hj
  rcases Nat.eq_or_lt_of_le hj with he | hlt
  · refine ⟨w, fun ty => ?_, htake, ⟨rfl, rfl, rfl, Nat.le_refl _, fun _ _ _ => rfl⟩⟩
    rw [he, Nat.sub_self]
    generalize (if c = xs.length then A else A.map (·.add (xs.length * d.sz))) = B
    cases B with
    | none => simp [Builtin.clear_, run_underlying ht]
    | some b => simp [Builtin.clear_, run_underlying ht]
  · obtain ⟨h0, inner, ho, hr⟩ := h
    obtain ⟨hl, ho2⟩ := ho
    rcases ho2 with ⟨hnil, hn0⟩ | ⟨g, cap, cur, hsl, hbg, hblk, hnc, hcm, hcs, hcur⟩
    · omega
    · obtain ⟨rfl, rfl⟩ : A = some ⟨g, 0, none⟩ ∧ c = cap := by
        injection hsl with e1 _ e3
        exact ⟨e1, e3⟩
      have hcj : ¬ c = j := by omega
      have hmul : xs.length * d.sz ≤ c * d.sz := Nat.mul_le_mul_right _ hnc
      have hmj : j * d.sz + (xs.length - j) * d.sz = xs.length * d.sz := by rw [← Nat.add_mul]; congr 1; omega
      have hzl : (Builtin.zeroCells z.cells (xs.length - j)).toList.length = (xs.length - j) * d.sz := by rw [zeroCells_length, hz]
      obtain ⟨cur', hb', hs', hc'⟩ := setCells_row (Builtin.zeroCells z.cells (xs.length - j)).toList (j * d.sz) w cur hblk (by rw [hzl]; omega)
      have hst := run_storeCells_cells (P := P) g (j * d.sz) (Builtin.zeroCells z.cells (xs.length - j)).toList 0 w
        (fun i hi => by
          rw [hzl] at hi
          rw [Nat.add_zero, blk_cell hblk, Array.getElem?_eq_getElem (by omega)]
          rfl)
        (fun i hi => blk_frozen hblk _) (zeroCells_one _ _ h1)
      rw [Nat.add_zero] at hst
      obtain ⟨q1, q2, q3, q4⟩ := setCells_same g (Builtin.zeroCells z.cells (xs.length - j)).toList (j * d.sz) w
      refine ⟨w.setCells g (j * d.sz) (Builtin.zeroCells z.cells (xs.length - j)).toList, fun ty => ?_, ?_, ⟨q1, q2, q3, by rw [q4]; exact Nat.le_refl _, fun i hi hne => setCells_far _ _ i (fun e => hne (by rw [e]; rfl))⟩⟩
      · rw [if_neg hcj]
        have ha : (some (⟨g, 0, none⟩ : Addr)).map (·.add (j * d.sz)) = some ⟨g, j * d.sz, none⟩ := by rw [Option.map_some, add_plain]
        rw [ha]
        obtain ⟨m, hm⟩ : ∃ m, xs.length - j = m + 1 := ⟨xs.length - j - 1, by omega⟩
        rw [hm] at hst ⊢
        simp [Builtin.clear_, run_underlying ht, hv, hst]
      · obtain ⟨t0, inner2, ⟨tl, tow⟩, tr⟩ := htake
        refine ⟨t0, inner2, ⟨tl, .inr ⟨g, c, cur', ?_, hbg, hb', by rw [List.length_take]; omega, hcm, by rw [hs', hcs], ?_⟩⟩, tr.imp_ (fun p q hp => d.M_mono (ok := fun _ => False) (fun k hk => hk.elim) (d.M_move (w := w) (ok := fun _ => False) (fun k hk => hk.elim) (d.M_mono (ok' := fun _ => False) (fun k hk => ?_) (d.M_bound hp))))⟩
        · rw [List.length_take, Nat.min_eq_left hj]
        · rcases tow with ⟨tn, _⟩ | ⟨g2, cap2, cur2, ts, _, tb, _, _, _, tc⟩
          · cases tn
          · obtain ⟨rfl, rfl⟩ : g = g2 ∧ c = cap2 := by
              injection ts with e1 _ e3
              injection e1 with e1
              injection e1 with e1
              exact ⟨e1, e3⟩
            obtain rfl : cur = cur2 := by rw [hblk] at tb; injection tb with tb; injection tb
            rw [← tc, hc', List.length_take, Nat.min_eq_left hj, List.append_assoc, List.take_append_of_le_length (by rw [List.length_take, Array.length_toList]; omega), List.take_take, Nat.min_self]
        · obtain ⟨_, _, _, q, hq, _⟩ := hk
          rw [hE] at hq
          cases hq
end Go.Proofs.Ytmggneijkhmigaa.Clear
