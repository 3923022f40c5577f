/- Proved: contracts of the functions that read a page (be's numbers, slotOf, usedOf), by hand: PageFault's loops. No statement of the seat is proved here. -/
import Derived.Test.YtknodhkifmklfaaDoorProg
import Derived.Test.YtknodhkifmklfaaDoorShelf
import Derived.Test.YtknodhkifmklfaaDoorProg
import Derived.Below
import Derived.Deep.Draws
import Derived.Deep.AppendLies
import Derived.Maps.AppendAt
import Derived.OwnWalk
import Derived.Laws.BytesArg
import Derived.Laws.MakeOwn
import Derived.Laws.OwnMore
import Derived.Deep.OwnRows
import Derived.Tactics
import Derived.Lib.ConvBytes
import Derived.Laws.Slices
import Derived.WalkKit
import Derived.KernelRfl
import Derived.RowKit3
import Derived.Deep.LoopGhost
import Derived.Deep.QuietTactic
import Derived.BigQuiet
import Derived.WideLaws
import Derived.Deep.DeepCutAuto
import Derived.Deep.CutBlock
import Derived.Deep.RegionHeld3
import Derived.Laws.Rows
import Derived.Lib.AppendStr
import Derived.ArgAppend
import Derived.Laws.IdiomCopy
import Derived.OrdersHeld
import Derived.Laws.BitsLemmas
import Derived.RowKit
import Derived.Test.YtknodhkifmklfaaDoorWWords
import Derived.Test.YtknodhkifmklfaaDoorWLast
import Derived.Test.YtknodhkifmklfaaDoorWTab
import Derived.Test.YtknodhkifmklfaaDoorWFour
import Derived.Test.YtknodhkifmklfaaDoorWQPut
import Derived.Test.YtknodhkifmklfaaDoorWApart
import Derived.Test.YtknodhkifmklfaaDoorWArr
import Derived.Test.YtknodhkifmklfaaDoorWZeros
import Derived.Test.YtknodhkifmklfaaDoorWFoot
import Derived.Test.YtknodhkifmklfaaDoorWKept
import Derived.Test.YtknodhkifmklfaaDoorWShare
import Derived.Test.YtknodhkifmklfaaDoorWN
import Derived.Test.YtknodhkifmklfaaDoorWFootNe
import Derived.Test.YtknodhkifmklfaaDoorWAt
import Derived.Test.YtknodhkifmklfaaDoorWEqStruct
import Derived.Test.YtknodhkifmklfaaDoorWRepsOne
import Derived.Test.YtknodhkifmklfaaDoorWInv
import Derived.Test.YtknodhkifmklfaaDoorWInvWords
import Derived.Test.YtknodhkifmklfaaDoorWGuard
import Derived.Test.YtknodhkifmklfaaDoorWNEv
import Derived.Test.YtknodhkifmklfaaDoorWMore
import Derived.Test.YtknodhkifmklfaaDoorMineFault
import Derived.RegionTactic
import Derived.WalkKit
import Derived.Lib.SliceRun
import Derived.WalkSpells
namespace Go.Proofs.YtknodhkifmklfaaDoor.Mine
open Go.RowKit Go.Proofs.YtknodhkifmklfaaDoorW.PrintWords Go.Proofs.YtknodhkifmklfaaDoorW.PrintLast Go.Proofs.YtknodhkifmklfaaDoorW.PrintMore
set_option linter.unusedVariables false
set_option linter.unusedSimpArgs false

theorem info51 : (Tryd.prog.info? 51).map (fun i => (i.zero, i.size)) = some (some (.agg (Array.replicate 4096 (.bool false))), 4096) := by kernel_rfl
theorem zero51 (w : World) : (zeroValue 51).run Tryd.prog w = .ok (.agg (Array.replicate 4096 (.bool false))) w := by
  obtain ⟨i, hi, hz⟩ := Option.map_eq_some_iff.1 info51
  injection hz with hz _
  simp only [zeroValue, typeInfo, Sem.run_bind, run_program, Result.andThen, hi, hz, Sem.run_pure]
def marks1 : Nat → List Bool → Nat → Option (List Bool)
  | 0, t, _ => some t
  | m + 1, t, k => if t.getD k false = true then none else marks1 m (t.set k true) (k + 1)
def marksAll (zs : List Int) : Nat → Nat → List Bool → Option (List Bool)
  | 0, _, t => some t
  | m + 1, i, t => (marks1 (n2 zs (20 + 4 * i + 2)).toNat t (n2 zs (20 + 4 * i)).toNat).bind (marksAll zs m (i + 1))
def bodyFault (zs : List Int) : Int := if ∃ i : Fin 32, badSlot zs (n2 zs 16) i.val = true then 5 else if (marksAll zs 32 0 (List.replicate 4096 false)).isNone then 6 else 0
theorem fits_of (zs : List Int) (b : Int) (i : Nat) (h : badSlot zs b i = false) : (n2 zs (20 + 4 * i) = 0 ∧ n2 zs (20 + 4 * i + 2) = 0) ∨ n2 zs (20 + 4 * i) + n2 zs (20 + 4 * i + 2) ≤ 4096 := by
  unfold badSlot at h
  generalize n2 zs (20 + 4 * i) = o at h ⊢
  generalize n2 zs (20 + 4 * i + 2) = n at h ⊢
  simp only [Bool.or_eq_false_iff, Bool.and_eq_false_iff, beq_eq_false_iff_ne, bne_eq_false_iff_eq, decide_eq_false_iff_not] at h
  omega
set_option maxHeartbeats 8000000 in
set_option maxRecDepth 100000 in
theorem pageBody (ad : Addr) (c : Nat) (zs : List Int) (w : World) (num : Int) (hr : Kd.C (Kd.int .u8) w (some ad) zs.length zs) (hc : 4096 ≤ c) (hw : Wf zs) (hl : zs.length = 4096) (hf : headFault zs num = none) (hn4 : 0 ≤ n4 zs 12 ∧ n4 zs 12 < 4294967296) :
    Calls Tryd.prog 16 #[.slice (some ad) 4096 c, .int .i64 num] w fun e w' => e = .returned (.int .i64 (bodyFault zs)) ∧ Below w.heap.size w w' := by
  obtain ⟨a1, ha1⟩ : ∃ a : Addr, a = ad.add (12) := ⟨_, rfl⟩
  obtain ⟨m1, hm1⟩ : ∃ m : Nat, m = 4096 - (12) := ⟨_, rfl⟩
  obtain ⟨c1, hc1⟩ : ∃ m : Nat, m = c - (12) := ⟨_, rfl⟩
  have h1 : ∀ W : World, (Instr.slice 22 (.slice (some ad) 4096 c) (some (.int .i64 (12))) none none).run Tryd.prog W = .ok (.slice (some a1) m1 c1) W := by
    have h := cutp ad 4096 c (12) (by  omega) (by  omega) hc
    rw [show (12 : Int).toNat = 12 by  omega] at h
    rw [ha1, hm1, hc1]
    exact h
  have u1 : ∀ W : World, Kd.C (Kd.int .u8) W (some ad) zs.length zs → Calls Tryd.prog 29 #[.agg #[], .slice (some a1) m1 c1] W fun e w' => e = .returned (.int .u32 (n4 zs (12))) ∧ Below W.heap.size W w' := by
    intro W hW
    rw [ha1]
    exact u32at ad zs W hW hw (12) m1 c1 (by omega) (by rw [hm1]; omega)
  clear ha1 hm1 hc1
  obtain ⟨a2, ha2⟩ : ∃ a : Addr, a = ad.add (4) := ⟨_, rfl⟩
  obtain ⟨m2, hm2⟩ : ∃ m : Nat, m = 4096 - (4) := ⟨_, rfl⟩
  obtain ⟨c2, hc2⟩ : ∃ m : Nat, m = c - (4) := ⟨_, rfl⟩
  have h2 : ∀ W : World, (Instr.slice 22 (.slice (some ad) 4096 c) (some (.int .i64 (4))) none none).run Tryd.prog W = .ok (.slice (some a2) m2 c2) W := by
    have h := cutp ad 4096 c (4) (by  omega) (by  omega) hc
    rw [show (4 : Int).toNat = 4 by  omega] at h
    rw [ha2, hm2, hc2]
    exact h
  have u2 : ∀ W : World, Kd.C (Kd.int .u8) W (some ad) zs.length zs → Calls Tryd.prog 30 #[.agg #[], .slice (some a2) m2 c2] W fun e w' => e = .returned (.int .u64 (n8 zs (4))) ∧ Below W.heap.size W w' := by
    intro W hW
    rw [ha2]
    exact u64at ad zs W hW hw (4) m2 c2 (by omega) (by rw [hm2]; omega)
  clear ha2 hm2 hc2
  obtain ⟨a3, ha3⟩ : ∃ a : Addr, a = ad.add (18) := ⟨_, rfl⟩
  obtain ⟨m3, hm3⟩ : ∃ m : Nat, m = 4096 - (18) := ⟨_, rfl⟩
  obtain ⟨c3, hc3⟩ : ∃ m : Nat, m = c - (18) := ⟨_, rfl⟩
  have h3 : ∀ W : World, (Instr.slice 22 (.slice (some ad) 4096 c) (some (.int .i64 (18))) none none).run Tryd.prog W = .ok (.slice (some a3) m3 c3) W := by
    have h := cutp ad 4096 c (18) (by  omega) (by  omega) hc
    rw [show (18 : Int).toNat = 18 by  omega] at h
    rw [ha3, hm3, hc3]
    exact h
  have u3 : ∀ W : World, Kd.C (Kd.int .u8) W (some ad) zs.length zs → Calls Tryd.prog 31 #[.agg #[], .slice (some a3) m3 c3] W fun e w' => e = .returned (.int .u16 (n2 zs (18))) ∧ Below W.heap.size W w' := by
    intro W hW
    rw [ha3]
    exact u16at ad zs W hW hw (18) m3 c3 (by omega) (by rw [hm3]; omega)
  clear ha3 hm3 hc3
  obtain ⟨a4, ha4⟩ : ∃ a : Addr, a = ad.add (16) := ⟨_, rfl⟩
  obtain ⟨m4, hm4⟩ : ∃ m : Nat, m = 4096 - (16) := ⟨_, rfl⟩
  obtain ⟨c4, hc4⟩ : ∃ m : Nat, m = c - (16) := ⟨_, rfl⟩
  have h4 : ∀ W : World, (Instr.slice 22 (.slice (some ad) 4096 c) (some (.int .i64 (16))) none none).run Tryd.prog W = .ok (.slice (some a4) m4 c4) W := by
    have h := cutp ad 4096 c (16) (by  omega) (by  omega) hc
    rw [show (16 : Int).toNat = 16 by  omega] at h
    rw [ha4, hm4, hc4]
    exact h
  have u4 : ∀ W : World, Kd.C (Kd.int .u8) W (some ad) zs.length zs → Calls Tryd.prog 31 #[.agg #[], .slice (some a4) m4 c4] W fun e w' => e = .returned (.int .u16 (n2 zs (16))) ∧ Below W.heap.size W w' := by
    intro W hW
    rw [ha4]
    exact u16at ad zs W hW hw (16) m4 c4 (by omega) (by rw [hm4]; omega)
  clear ha4 hm4 hc4
  have r4 := n2_range zs hw 16 (by omega)
  have HE : Aside0 (∀ i, i < 32 → badSlot zs (n2 zs 16) i = true → bodyFault zs = 5) := ⟨fun i hi hb => by unfold bodyFault; rw [if_pos ⟨⟨i, hi⟩, hb⟩]⟩
  have HF : Aside0 ((∀ i, i < 32 → badSlot zs (n2 zs 16) i = false) → bodyFault zs = if (marksAll zs 32 0 (List.replicate 4096 false)).isNone then 6 else 0) := ⟨fun h => by unfold bodyFault; rw [if_neg]; rintro ⟨i, hi⟩; rw [h i.val i.isLt] at hi; cases hi⟩
  generalize bodyFault zs = R at HE HF ⊢
  unfold headFault at hf
  generalize n4 zs 12 = y1 at u1 hf hn4
  generalize n8 zs 4 = y2 at u2 hf
  generalize n2 zs 18 = y3 at u3 hf
  generalize n2 zs 16 = y4 at u4 hf r4 HE HF
  have HR := Aside0.mk hr
  have HW := Aside0.mk hw
  have HL := Aside0.mk hl
  have HB := Aside0.mk (Below.refl w.heap.size w)
  have e1 : wrap64 y1 = y1 := by unfold wrap64; omega
  have e4 : wrap64 y4 = y4 := by unfold wrap64; omega
  clear hr hw hl hn4 r4
  by_cases q1 : y1 = num
  · rw [if_neg (by simpa using q1)] at hf
    have b1 : (y1 != num) = false := by simp [q1]
    by_cases q2 : y2 > 1099511627776 ∨ y3 ≠ 0
    · rw [if_pos q2] at hf
      cases hf
    · rw [if_neg q2] at hf
      have b2 : decide (1099511627776 < y2) = false := decide_eq_false (by omega)
      have b3 : (y3 != 0) = false := by simp; omega
      by_cases q3 : y4 < 148 ∨ y4 > 4096
      · rw [if_pos q3] at hf
        cases hf
      · have b4 : decide (y4 < 148) = false := decide_eq_false (by omega)
        have b5 : decide (4096 < y4) = false := decide_eq_false (by omega)
        clear q1 q2 hf
        go_enter Tryd.func16, Tryd.ntmps16
        go_wp2
        have n0_ := Aside0.mk (below_drew1 HB.out)
        clear HB
        have HB := n0_
        clear n0_
        refine start_ (n := 8) (S := fun w' => True) (ds := []) #[false, false, false, false, false, false, false, false] (by kernel_rfl) rfl rfl trivial (fun hHeld => ?_)
        refine pure_ (i := 1) (N := some 20) (v := ?_) (a' := ?_) #[false, true, false, false, false, false, false, false] rfl rfl (by kernel_rfl) (fun _ _ _ h => h) (Or.inl ⟨by rfl, ?_⟩) ?_ ?_
        rotate_left
        · intro w'
          go_simp
          with_reducible rfl
        rotate_left
        · simp only [Act.put, List.setIfInBounds_toArray, List.set_cons_zero, List.set_cons_succ, i64_w, i32_w]
          rfl
        refine pure_ (i := 2) (N := some 21) (v := ?_) (a' := ?_) #[false, true, true, false, false, false, false, false] rfl rfl (by kernel_rfl) (fun _ _ _ h => h) (Or.inl ⟨by rfl, ?_⟩) ?_ ?_
        rotate_left
        · intro w'
          go_simp
          with_reducible rfl
        rotate_left
        · simp only [Act.put, List.setIfInBounds_toArray, List.set_cons_zero, List.set_cons_succ, i64_w, i32_w]
          rfl
        refine pure_ (i := 5) (N := some 24) (v := ?_) (a' := ?_) #[false, true, true, false, false, true, false, false] rfl rfl (by kernel_rfl) (fun _ _ _ h => h) (Or.inl ⟨by rfl, ?_⟩) ?_ ?_
        rotate_left
        · intro w'
          go_simp
          with_reducible rfl
        rotate_left
        · simp only [Act.put, List.setIfInBounds_toArray, List.set_cons_zero, List.set_cons_succ, i64_w, i32_w]
          rfl
        refine take_ (i := 0) (N := some 19) (v := ?_) (a' := ?_) #[true, true, true, false, false, true, false, false] rfl rfl (by kernel_rfl) (fun _ _ _ h => h) (Or.inl ⟨by rfl, ?_⟩) hHeld ?_ ?_
        rotate_left
        · intro w' _
          go_simp
          with_reducible rfl
        rotate_left
        · simp only [Act.put, List.setIfInBounds_toArray, List.set_cons_zero, List.set_cons_succ, i64_w, i32_w]
          rfl
        refine one_ (i := 3) (N := some 22) #[true, true, true, true, false, true, false, false] rfl rfl (by kernel_rfl) (by decide) (fun K hK => ?_)
        refine goes_ Tryd.func29 (by kernel_rfl) rfl #[.agg #[], .slice (some a1) m1 c1] (by rfl) rfl rfl (by simp only [List.map_toArray, List.map_cons, List.map_nil]; rfl) ?_
        with_reducible refine (u1 _ (Kd.C_below HR.out HB.out)).mono ?_
        rintro e w1 ⟨rfl, hb⟩
        refine ⟨_, rfl, ?_⟩
        have n0_ := Aside0.mk (below_step HB.out hb)
        clear HB hb
        have HB := n0_
        clear n0_
        refine hK.out _ _ trivial (fun hHeld => ?_)
        clear hK K
        refine norm_ (a' := ?_) ?_ ?_
        rotate_left
        · show Act.put _ (some 22) _ = _
          simp only [Act.put, List.setIfInBounds_toArray, List.set_cons_zero, List.set_cons_succ, i64_w, i32_w]
          rfl
        refine pure_ (i := 4) (N := some 23) (v := ?_) (a' := ?_) #[true, true, true, true, true, true, false, false] rfl rfl (by kernel_rfl) (fun _ _ _ h => h) (Or.inl ⟨by rfl, ?_⟩) ?_ ?_
        rotate_left
        · intro w'
          go_simp
          with_reducible rfl
        rotate_left
        · simp only [Act.put, List.setIfInBounds_toArray, List.set_cons_zero, List.set_cons_succ, i64_w, i32_w]
          rfl
        refine pure_ (i := 6) (N := some 25) (v := ?_) (a' := ?_) #[true, true, true, true, true, true, true, false] rfl rfl (by kernel_rfl) (fun _ _ _ h => h) (Or.inl ⟨by rfl, ?_⟩) ?_ ?_
        rotate_left
        · intro w'
          go_simp
          with_reducible rfl
        rotate_left
        · simp only [Act.put, List.setIfInBounds_toArray, List.set_cons_zero, List.set_cons_succ, i64_w, i32_w]
          rfl
        refine pure_ (i := 7) (N := some 18) (v := ?_) (a' := ?_) #[true, true, true, true, true, true, true, true] rfl rfl (by kernel_rfl) (fun _ _ _ h => h) (Or.inl ⟨by rfl, ?_⟩) ?_ ?_
        rotate_left
        · intro w'
          go_simp
          with_reducible rfl
        rotate_left
        · simp only [Act.put, List.setIfInBounds_toArray, List.set_cons_zero, List.set_cons_succ, i64_w, i32_w]
          rfl
        refine done_ (by kernel_rfl) ?_
        go_wp2
        have n0_ := Aside0.mk (below_drew1 HB.out)
        clear HB
        have HB := n0_
        clear n0_
        refine start_ (n := 13) (S := fun w' => True) (ds := []) #[false, false, false, false, false, false, false, false, false, false, false, false, false] (by kernel_rfl) rfl rfl trivial (fun hHeld => ?_)
        refine pure_ (i := 1) (N := some 28) (v := ?_) (a' := ?_) #[false, true, false, false, false, false, false, false, false, false, false, false, false] rfl rfl (by kernel_rfl) (fun _ _ _ h => h) (Or.inl ⟨by rfl, ?_⟩) ?_ ?_
        rotate_left
        · intro w'
          go_simp
          with_reducible rfl
        rotate_left
        · simp only [Act.put, List.setIfInBounds_toArray, List.set_cons_zero, List.set_cons_succ, i64_w, i32_w]
          rfl
        refine pure_ (i := 2) (N := some 29) (v := ?_) (a' := ?_) #[false, true, true, false, false, false, false, false, false, false, false, false, false] rfl rfl (by kernel_rfl) (fun _ _ _ h => h) (Or.inl ⟨by rfl, ?_⟩) ?_ ?_
        rotate_left
        · intro w'
          go_simp
          with_reducible rfl
        rotate_left
        · simp only [Act.put, List.setIfInBounds_toArray, List.set_cons_zero, List.set_cons_succ, i64_w, i32_w]
          rfl
        refine take_ (i := 0) (N := some 27) (v := ?_) (a' := ?_) #[true, true, true, false, false, false, false, false, false, false, false, false, false] rfl rfl (by kernel_rfl) (fun _ _ _ h => h) (Or.inl ⟨by rfl, ?_⟩) hHeld ?_ ?_
        rotate_left
        · intro w' _
          go_simp
          with_reducible rfl
        rotate_left
        · simp only [Act.put, List.setIfInBounds_toArray, List.set_cons_zero, List.set_cons_succ, i64_w, i32_w]
          rfl
        refine one_ (i := 3) (N := some 30) #[true, true, true, true, false, false, false, false, false, false, false, false, false] rfl rfl (by kernel_rfl) (by decide) (fun K hK => ?_)
        refine goes_ Tryd.func30 (by kernel_rfl) rfl #[.agg #[], .slice (some a2) m2 c2] (by rfl) rfl rfl (by simp only [List.map_toArray, List.map_cons, List.map_nil]; rfl) ?_
        with_reducible refine (u2 _ (Kd.C_below HR.out HB.out)).mono ?_
        rintro e w2 ⟨rfl, hb⟩
        refine ⟨_, rfl, ?_⟩
        have n0_ := Aside0.mk (below_step HB.out hb)
        clear HB hb
        have HB := n0_
        clear n0_
        refine hK.out _ _ trivial (fun hHeld => ?_)
        clear hK K
        refine norm_ (a' := ?_) ?_ ?_
        rotate_left
        · show Act.put _ (some 30) _ = _
          simp only [Act.put, List.setIfInBounds_toArray, List.set_cons_zero, List.set_cons_succ, i64_w, i32_w]
          rfl
        refine pure_ (i := 4) (N := some 31) (v := ?_) (a' := ?_) #[true, true, true, true, true, false, false, false, false, false, false, false, false] rfl rfl (by kernel_rfl) (fun _ _ _ h => h) (Or.inl ⟨by rfl, ?_⟩) ?_ ?_
        rotate_left
        · intro w'
          go_simp
          with_reducible rfl
        rotate_left
        · simp only [Act.put, List.setIfInBounds_toArray, List.set_cons_zero, List.set_cons_succ, i64_w, i32_w]
          rfl
        refine pure_ (i := 5) (N := some 32) (v := ?_) (a' := ?_) #[true, true, true, true, true, true, false, false, false, false, false, false, false] rfl rfl (by kernel_rfl) (fun _ _ _ h => h) (Or.inl ⟨by rfl, ?_⟩) ?_ ?_
        rotate_left
        · intro w'
          go_simp
          with_reducible rfl
        rotate_left
        · simp only [Act.put, List.setIfInBounds_toArray, List.set_cons_zero, List.set_cons_succ, i64_w, i32_w]
          rfl
        refine pure_ (i := 7) (N := some 34) (v := ?_) (a' := ?_) #[true, true, true, true, true, true, false, true, false, false, false, false, false] rfl rfl (by kernel_rfl) (fun _ _ _ h => h) (Or.inl ⟨by rfl, ?_⟩) ?_ ?_
        rotate_left
        · intro w'
          go_simp
          with_reducible rfl
        rotate_left
        · simp only [Act.put, List.setIfInBounds_toArray, List.set_cons_zero, List.set_cons_succ, i64_w, i32_w]
          rfl
        refine pure_ (i := 8) (N := some 35) (v := ?_) (a' := ?_) #[true, true, true, true, true, true, false, true, true, false, false, false, false] rfl rfl (by kernel_rfl) (fun _ _ _ h => h) (Or.inl ⟨by rfl, ?_⟩) ?_ ?_
        rotate_left
        · intro w'
          go_simp
          with_reducible rfl
        rotate_left
        · simp only [Act.put, List.setIfInBounds_toArray, List.set_cons_zero, List.set_cons_succ, i64_w, i32_w]
          rfl
        refine take_ (i := 6) (N := some 33) (v := ?_) (a' := ?_) #[true, true, true, true, true, true, true, true, true, false, false, false, false] rfl rfl (by kernel_rfl) (fun _ _ _ h => h) (Or.inl ⟨by rfl, ?_⟩) hHeld ?_ ?_
        rotate_left
        · intro w' _
          go_simp
          with_reducible rfl
        rotate_left
        · simp only [Act.put, List.setIfInBounds_toArray, List.set_cons_zero, List.set_cons_succ, i64_w, i32_w]
          rfl
        refine one_ (i := 9) (N := some 36) #[true, true, true, true, true, true, true, true, true, true, false, false, false] rfl rfl (by kernel_rfl) (by decide) (fun K hK => ?_)
        refine goes_ Tryd.func31 (by kernel_rfl) rfl #[.agg #[], .slice (some a3) m3 c3] (by rfl) rfl rfl (by simp only [List.map_toArray, List.map_cons, List.map_nil]; rfl) ?_
        with_reducible refine (u3 _ (Kd.C_below HR.out HB.out)).mono ?_
        rintro e w3 ⟨rfl, hb⟩
        refine ⟨_, rfl, ?_⟩
        have n0_ := Aside0.mk (below_step HB.out hb)
        clear HB hb
        have HB := n0_
        clear n0_
        refine hK.out _ _ trivial (fun hHeld => ?_)
        clear hK K
        refine norm_ (a' := ?_) ?_ ?_
        rotate_left
        · show Act.put _ (some 36) _ = _
          simp only [Act.put, List.setIfInBounds_toArray, List.set_cons_zero, List.set_cons_succ, i64_w, i32_w]
          rfl
        refine pure_ (i := 10) (N := some 37) (v := ?_) (a' := ?_) #[true, true, true, true, true, true, true, true, true, true, true, false, false] rfl rfl (by kernel_rfl) (fun _ _ _ h => h) (Or.inl ⟨by rfl, ?_⟩) ?_ ?_
        rotate_left
        · intro w'
          go_simp
          with_reducible rfl
        rotate_left
        · simp only [Act.put, List.setIfInBounds_toArray, List.set_cons_zero, List.set_cons_succ, i64_w, i32_w]
          rfl
        refine pure_ (i := 11) (N := some 38) (v := ?_) (a' := ?_) #[true, true, true, true, true, true, true, true, true, true, true, true, false] rfl rfl (by kernel_rfl) (fun _ _ _ h => h) (Or.inl ⟨by rfl, ?_⟩) ?_ ?_
        rotate_left
        · intro w'
          go_simp
          with_reducible rfl
        rotate_left
        · simp only [Act.put, List.setIfInBounds_toArray, List.set_cons_zero, List.set_cons_succ, i64_w, i32_w]
          rfl
        refine pure_ (i := 12) (N := some 26) (v := ?_) (a' := ?_) #[true, true, true, true, true, true, true, true, true, true, true, true, true] rfl rfl (by kernel_rfl) (fun _ _ _ h => h) (Or.inl ⟨by rfl, ?_⟩) ?_ ?_
        rotate_left
        · intro w'
          go_simp
          with_reducible rfl
        rotate_left
        · simp only [Act.put, List.setIfInBounds_toArray, List.set_cons_zero, List.set_cons_succ, i64_w, i32_w]
          rfl
        refine done_ (by kernel_rfl) ?_
        go_wp2
        have n0_ := Aside0.mk (below_drew1 HB.out)
        clear HB
        have HB := n0_
        clear n0_
        refine start_ (n := 6) (S := fun w' => True) (ds := []) #[false, false, false, false, false, false] (by kernel_rfl) rfl rfl trivial (fun hHeld => ?_)
        refine pure_ (i := 1) (N := some 40) (v := ?_) (a' := ?_) #[false, true, false, false, false, false] rfl rfl (by kernel_rfl) (fun _ _ _ h => h) (Or.inl ⟨by rfl, ?_⟩) ?_ ?_
        rotate_left
        · intro w'
          go_simp
          with_reducible rfl
        rotate_left
        · simp only [Act.put, List.setIfInBounds_toArray, List.set_cons_zero, List.set_cons_succ, i64_w, i32_w]
          rfl
        refine pure_ (i := 2) (N := some 41) (v := ?_) (a' := ?_) #[false, true, true, false, false, false] rfl rfl (by kernel_rfl) (fun _ _ _ h => h) (Or.inl ⟨by rfl, ?_⟩) ?_ ?_
        rotate_left
        · intro w'
          go_simp
          with_reducible rfl
        rotate_left
        · simp only [Act.put, List.setIfInBounds_toArray, List.set_cons_zero, List.set_cons_succ, i64_w, i32_w]
          rfl
        refine take_ (i := 0) (N := some 39) (v := ?_) (a' := ?_) #[true, true, true, false, false, false] rfl rfl (by kernel_rfl) (fun _ _ _ h => h) (Or.inl ⟨by rfl, ?_⟩) hHeld ?_ ?_
        rotate_left
        · intro w' _
          go_simp
          with_reducible rfl
        rotate_left
        · simp only [Act.put, List.setIfInBounds_toArray, List.set_cons_zero, List.set_cons_succ, i64_w, i32_w]
          rfl
        refine one_ (i := 3) (N := some 42) #[true, true, true, true, false, false] rfl rfl (by kernel_rfl) (by decide) (fun K hK => ?_)
        refine goes_ Tryd.func31 (by kernel_rfl) rfl #[.agg #[], .slice (some a4) m4 c4] (by rfl) rfl rfl (by simp only [List.map_toArray, List.map_cons, List.map_nil]; rfl) ?_
        with_reducible refine (u4 _ (Kd.C_below HR.out HB.out)).mono ?_
        rintro e w4 ⟨rfl, hb⟩
        refine ⟨_, rfl, ?_⟩
        have n0_ := Aside0.mk (below_step HB.out hb)
        clear HB hb
        have HB := n0_
        clear n0_
        refine hK.out _ _ trivial (fun hHeld => ?_)
        clear hK K
        refine norm_ (a' := ?_) ?_ ?_
        rotate_left
        · show Act.put _ (some 42) _ = _
          simp only [Act.put, List.setIfInBounds_toArray, List.set_cons_zero, List.set_cons_succ, i64_w, i32_w]
          rfl
        refine pure_ (i := 4) (N := some 43) (v := ?_) (a' := ?_) #[true, true, true, true, true, false] rfl rfl (by kernel_rfl) (fun _ _ _ h => h) (Or.inl ⟨by rfl, ?_⟩) ?_ ?_
        rotate_left
        · intro w'
          go_simp
          with_reducible rfl
        rotate_left
        · simp only [Act.put, List.setIfInBounds_toArray, List.set_cons_zero, List.set_cons_succ, i64_w, i32_w]
          rfl
        refine pure_ (i := 5) (N := some 5) (v := ?_) (a' := ?_) #[true, true, true, true, true, true] rfl rfl (by kernel_rfl) (fun _ _ _ h => h) (Or.inl ⟨by rfl, ?_⟩) ?_ ?_
        rotate_left
        · intro w'
          go_simp
          with_reducible rfl
        rotate_left
        · simp only [Act.put, List.setIfInBounds_toArray, List.set_cons_zero, List.set_cons_succ, i64_w, i32_w]
          rfl
        refine done_ (by kernel_rfl) ?_
        go_wp2
        clear b1 b2 b3 b4 b5 e1 e4
        go_loopg [6, 7, 8] 32 (fun gg s6 _ _ wr => ∃ i : Nat, i ≤ 32 ∧ 32 - i ≤ gg ∧ s6 = .int .i64 (i : Int) ∧ Aside0 (∀ j, j < i → badSlot zs y4 j = false) ∧ Aside0 (Below w.heap.size w wr))
        case atStart => exact ⟨0, by omega, by omega, rfl, ⟨fun j hj => absurd hj (Nat.not_lt_zero _)⟩, HB⟩
        case round =>
          clear HB
          obtain ⟨i, hi, hg, rfl, HG, HB⟩ := hrel
          by_cases hlt : i < 32
          · have hltz : (i : Int) < 32 := by omega
            have r1 := n2_range zs HW.out (20 + 4 * i) (by have := HL.out; omega)
            have r2 := n2_range zs HW.out (20 + 4 * i + 2) (by have := HL.out; omega)
            have hcall := fun W (hC : Kd.C (Kd.int .u8) W (some ad) zs.length zs) => slotOf ad c zs W i hC hc HW.out hlt HL.out
            obtain ⟨o, ho⟩ : ∃ o, n2 zs (20 + 4 * i) = o := ⟨_, rfl⟩
            obtain ⟨n, hn⟩ : ∃ n, n2 zs (20 + 4 * i + 2) = n := ⟨_, rfl⟩
            rw [ho] at r1
            rw [hn] at r2
            simp only [ho, hn] at hcall
            have HO := Aside0.mk ho
            have HN := Aside0.mk hn
            clear ho hn
            by_cases p1 : o = 0
            · have d1 : (o == 0) = true := by simp [p1]
              have d3 : (o != 0) = false := by simp [p1]
              by_cases p2 : n = 0
              · have d2 : (n != 0) = false := by simp [p2]
                go_wp2_with (go_at_call 32; (with_reducible refine (hcall _ (Kd.C_below HR.out HB.out)).mono ?_); rintro e w' ⟨rfl, hb⟩; have n0_ := Aside0.mk (below_step HB.out hb); clear HB hb; have HB := n0_; clear n0_)
                go_roundg (32 - (i + 1))
                case measure => omega
                case rel =>
                  refine ⟨i + 1, by omega, by omega, by go_num, ⟨fun j hj => ?_⟩, HB⟩
                  rcases Nat.lt_or_ge j i with e | e
                  · exact HG.out j e
                  · obtain rfl : j = i := by omega
                    unfold badSlot
                    rw [HO.out, HN.out]
                    simp only [*]
                    first | done | rfl | simp
              · have d2 : (n != 0) = true := by simp [p2]

                go_wp2_with (go_at_call 32; (with_reducible refine (hcall _ (Kd.C_below HR.out HB.out)).mono ?_); rintro e w' ⟨rfl, hb⟩; have n0_ := Aside0.mk (below_step HB.out hb); clear HB hb; have HB := n0_; clear n0_)
                go_ret
                rw [HE.out i hlt (by unfold badSlot; rw [HO.out, HN.out]; simp only [*]; first | done | rfl | simp)]
                exact ⟨rfl, HB.out⟩
            · have d1 : (o == 0) = false := by simp [p1]
              have d3 : (o != 0) = true := by simp [p1]
              by_cases p2 : n > 1000
              · have d4 : decide (1000 < n) = true := decide_eq_true p2

                go_wp2_with (go_at_call 32; (with_reducible refine (hcall _ (Kd.C_below HR.out HB.out)).mono ?_); rintro e w' ⟨rfl, hb⟩; have n0_ := Aside0.mk (below_step HB.out hb); clear HB hb; have HB := n0_; clear n0_)
                go_ret
                rw [HE.out i hlt (by unfold badSlot; rw [HO.out, HN.out]; simp only [*]; first | done | rfl | simp)]
                exact ⟨rfl, HB.out⟩
              · have d4 : decide (1000 < n) = false := decide_eq_false p2
                by_cases p3 : o < y4
                · have d5 : decide (o < y4) = true := decide_eq_true p3

                  go_wp2_with (go_at_call 32; (with_reducible refine (hcall _ (Kd.C_below HR.out HB.out)).mono ?_); rintro e w' ⟨rfl, hb⟩; have n0_ := Aside0.mk (below_step HB.out hb); clear HB hb; have HB := n0_; clear n0_)
                  go_ret
                  rw [HE.out i hlt (by unfold badSlot; rw [HO.out, HN.out]; simp only [*]; first | done | rfl | simp)]
                  exact ⟨rfl, HB.out⟩
                · have d5 : decide (o < y4) = false := decide_eq_false p3
                  by_cases p4 : o + n > 4096
                  · have d6 : decide (4096 < o + n) = true := decide_eq_true p4

                    go_wp2_with (go_at_call 32; (with_reducible refine (hcall _ (Kd.C_below HR.out HB.out)).mono ?_); rintro e w' ⟨rfl, hb⟩; have n0_ := Aside0.mk (below_step HB.out hb); clear HB hb; have HB := n0_; clear n0_)
                    go_ret
                    rw [HE.out i hlt (by unfold badSlot; rw [HO.out, HN.out]; simp only [*]; first | done | rfl | simp)]
                    exact ⟨rfl, HB.out⟩
                  · have d6 : decide (4096 < o + n) = false := decide_eq_false p4
                    go_wp2_with (go_at_call 32; (with_reducible refine (hcall _ (Kd.C_below HR.out HB.out)).mono ?_); rintro e w' ⟨rfl, hb⟩; have n0_ := Aside0.mk (below_step HB.out hb); clear HB hb; have HB := n0_; clear n0_)
                    go_roundg (32 - (i + 1))
                    case measure => omega
                    case rel =>
                      refine ⟨i + 1, by omega, by omega, by go_num, ⟨fun j hj => ?_⟩, HB⟩
                      rcases Nat.lt_or_ge j i with e | e
                      · exact HG.out j e
                      · obtain rfl : j = i := by omega
                        unfold badSlot
                        rw [HO.out, HN.out]
                        simp only [*]
                        first | done | rfl | simp
          · obtain rfl : i = 32 := by omega
            clear hi hg
            go_wp2
            obtain ⟨Z, hZ⟩ : ∃ Z, Z = Array.replicate 4096 (Value.bool false) := ⟨_, rfl⟩
            have hz := zero51 wr
            rw [← hZ] at hz
            rw [hz]
            simp only [Result.andThen]
            rw [Oper.upon_value]
            have HK := Aside0.mk (show (wr.alloc (.cells Z 51)).heap[wr.heap.size]? = some (.cells ((List.replicate 4096 false).map Value.bool).toArray 51 (0, 0)) by rw [heap_alloc_new, hZ, List.map_replicate, List.toArray_replicate])
            have HB1 := Aside0.mk (below_alloc HB.out (.cells Z 51))
            have HW1 := Aside0.mk HB.out.size
            have HGB := HG
            have HX := Aside0.mk (HF.out (fun j hj => HG.out j hj))
            clear hz hZ HB HG
            generalize hgs : wr.heap.size = g at HK HW1 ⊢
            generalize wr.alloc (.cells Z 51) = wz at HK HB1 ⊢
            clear hgs
            go_wp2
            go_loopg [10, 11, 12, 13] 32 (fun gg s10 _ _ _ w2 => ∃ (i : Nat) (bs : List Bool), i ≤ 32 ∧ 32 - i ≤ gg ∧ s10 = .int .i64 (i : Int) ∧ Aside0 (marksAll zs 32 0 (List.replicate 4096 false) = marksAll zs (32 - i) i bs) ∧ Aside0 (bs.length = 4096) ∧ Aside0 (w2.heap[g]? = some (.cells (bs.map Value.bool).toArray 51 (0, 0))) ∧ Aside0 (Below w.heap.size w w2))
            case atStart => exact ⟨0, _, by omega, by omega, rfl, ⟨rfl⟩, ⟨List.length_replicate⟩, HK, HB1⟩
            case round =>
              clear HK HB1
              obtain ⟨i, bs, hi, hg, rfl, HM, HLB, HK, HB⟩ := hrel
              by_cases hlt : i < 32
              · have hltz : (i : Int) < 32 := by omega
                have r1 := n2_range zs HW.out (20 + 4 * i) (by have := HL.out; omega)
                have r2 := n2_range zs HW.out (20 + 4 * i + 2) (by have := HL.out; omega)
                have hcall := fun W (hC : Kd.C (Kd.int .u8) W (some ad) zs.length zs) => slotOf ad c zs W i hC hc HW.out hlt HL.out
                have hfit := fits_of zs y4 i (HGB.out i hlt)
                have hmark : marksAll zs (32 - i) i bs = (marks1 (n2 zs (20 + 4 * i + 2)).toNat bs (n2 zs (20 + 4 * i)).toNat).bind (marksAll zs (32 - (i + 1)) (i + 1)) := by
                  rw [show 32 - i = (32 - (i + 1)) + 1 by omega]
                  rfl
                obtain ⟨o, ho⟩ : ∃ o : Nat, n2 zs (20 + 4 * i) = (o : Int) := ⟨(n2 zs (20 + 4 * i)).toNat, by omega⟩
                obtain ⟨n, hn⟩ : ∃ n : Nat, n2 zs (20 + 4 * i + 2) = (n : Int) := ⟨(n2 zs (20 + 4 * i + 2)).toNat, by omega⟩
                rw [ho] at r1 hfit hmark
                rw [hn] at r2 hfit hmark
                simp only [ho, hn] at hcall
                rw [Int.toNat_natCast, Int.toNat_natCast] at hmark
                have HMK := Aside0.mk (HM.out.trans hmark)
                clear ho hn hmark HM
                have hfit' : n = 0 ∨ o + n ≤ 4096 := by omega
                clear hfit
                go_wp2_with (go_at_call 32; (with_reducible refine (hcall _ (Kd.C_below HR.out HB.out)).mono ?_); rintro e w' ⟨rfl, hb⟩; have n0_ := Aside0.mk (below_step HB.out hb); have n1_ := Aside0.mk ((hb.block g (blk_lt HK.out)).trans HK.out); clear HB HK hb; have HB := n0_; have HK := n1_; clear n0_ n1_)
                go_loopg [13] n (fun gg s13 w3 => ∃ (j : Nat) (cs : List Bool), j ≤ n ∧ n - j ≤ gg ∧ s13 = .int .i64 ((o + j : Nat) : Int) ∧ Aside0 (marks1 n bs o = marks1 (n - j) cs (o + j)) ∧ Aside0 (cs.length = 4096) ∧ Aside0 (w3.heap[g]? = some (.cells (cs.map Value.bool).toArray 51 (0, 0))) ∧ Aside0 (Below w.heap.size w w3))
                case atStart => exact ⟨0, bs, by omega, by omega, by go_num, ⟨rfl⟩, HLB, HK, HB⟩
                case round =>
                  clear HK HB
                  obtain ⟨j, cs, hj, hg3, rfl, HM3, HL3, HK, HB⟩ := hrel
                  by_cases hjl : j < n
                  · have hk : o + j < 4096 := by omega
                    have hk1 : ((o + j : Nat) : Int) < 4096 := by omega
                    have hk2 : ((o + j : Nat) : Int) < (o : Int) + (n : Int) := by omega
                    have hc0 : wr.cell? ⟨g, o + j, none⟩ = some (.bool (cs.getD (o + j) false)) := by
                      have hlc := HL3.out
                      rw [blk_cell HK.out, List.getElem?_toArray, List.getElem?_map, List.getD_eq_getElem?_getD, List.getElem?_eq_getElem (by omega)]
                      rfl
                    have hf0 := blk_frozen HK.out (o + j)
                    have hm : marks1 (n - j) cs (o + j) = if cs.getD (o + j) false = true then none else marks1 (n - (j + 1)) (cs.set (o + j) true) (o + (j + 1)) := by
                      rw [show n - j = (n - (j + 1)) + 1 by omega]
                      rfl
                    cases hb : cs.getD (o + j) false with
                    | true =>
                      rw [hb] at hc0 hm
                      rw [if_pos rfl] at hm
                      have HQ := Aside0.mk (show R = 6 by rw [HX.out, HMK.out, HM3.out, hm]; rfl)
                      clear hm hb
                      go_wp2
                      go_ret
                      rw [HQ.out]
                      exact ⟨rfl, HB.out⟩
                    | false =>
                      rw [hb] at hc0 hm
                      rw [if_neg (by decide)] at hm
                      have HMs := Aside0.mk (HM3.out.trans hm)
                      have HKs := Aside0.mk (blk_put HK.out (o + j) (.bool true) (cs' := ((cs.set (o + j) true).map Value.bool).toArray) (by rw [List.setIfInBounds_toArray, List.map_set]))
                      have HBs := Aside0.mk (below_set (j := o + j) (v := .bool true) HB.out HW1.out)
                      clear hm hb
                      go_wp2
                      go_roundg (n - (j + 1))
                      case measure => omega
                      case rel => exact ⟨j + 1, cs.set (o + j) true, by omega, by omega, by go_num, HMs, ⟨by rw [List.length_set]; exact HL3.out⟩, HKs, HBs⟩
                  · obtain rfl : j = n := by omega
                    have hk2 : ¬ ((o + j : Nat) : Int) < (o : Int) + (j : Int) := by omega
                    have HMe := Aside0.mk (show marksAll zs 32 0 (List.replicate 4096 false) = marksAll zs (32 - (i + 1)) (i + 1) cs by rw [HMK.out, HM3.out, Nat.sub_self]; rfl)
                    go_wp2
                    go_roundg (32 - (i + 1))
                    case measure => omega
                    case rel => exact ⟨i + 1, cs, by omega, by omega, by go_num, HMe, HL3, HK, HB⟩
              · obtain rfl : i = 32 := by omega
                clear hi hg
                have HQ := Aside0.mk (show R = 0 by rw [HX.out, HM.out]; rfl)
                go_wp2
                go_ret
                rw [HQ.out]
                exact ⟨rfl, HB.out⟩
  · rw [if_pos q1] at hf
    cases hf
end Go.Proofs.YtknodhkifmklfaaDoor.Mine
