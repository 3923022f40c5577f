/- Proved: contracts of the functions that read a page (be's numbers, slotOf, usedOf), by hand. No statement of the seat is proved here. -/
import Derived.Test.YtknodhkifmklfaaDoorProg
import Derived.Test.YtknodhkifmklfaaDoorShelf
import Derived.Test.YtknodhkifmklfaaDoorProg
import Derived.Below
import Derived.Deep.Draws
import Derived.Deep.AppendLies
import Derived.Maps.AppendAt
import Derived.OwnWalk
import Derived.Laws.BytesArg
import Derived.Laws.MakeOwn
import Derived.Laws.OwnMore
import Derived.Deep.OwnRows
import Derived.Tactics
import Derived.Lib.ConvBytes
import Derived.Laws.Slices
import Derived.WalkKit
import Derived.KernelRfl
import Derived.RowKit3
import Derived.Deep.LoopGhost
import Derived.Deep.QuietTactic
import Derived.BigQuiet
import Derived.WideLaws
import Derived.Deep.DeepCutAuto
import Derived.Deep.CutBlock
import Derived.Deep.RegionHeld3
import Derived.Laws.Rows
import Derived.Lib.AppendStr
import Derived.ArgAppend
import Derived.Laws.IdiomCopy
import Derived.OrdersHeld
import Derived.Laws.BitsLemmas
import Derived.RowKit
import Derived.Test.YtknodhkifmklfaaDoorWWords
import Derived.Test.YtknodhkifmklfaaDoorWLast
import Derived.Test.YtknodhkifmklfaaDoorWTab
import Derived.Test.YtknodhkifmklfaaDoorWFour
import Derived.Test.YtknodhkifmklfaaDoorWQPut
import Derived.Test.YtknodhkifmklfaaDoorWApart
import Derived.Test.YtknodhkifmklfaaDoorWArr
import Derived.Test.YtknodhkifmklfaaDoorWZeros
import Derived.Test.YtknodhkifmklfaaDoorWFoot
import Derived.Test.YtknodhkifmklfaaDoorWKept
import Derived.Test.YtknodhkifmklfaaDoorWShare
import Derived.Test.YtknodhkifmklfaaDoorWN
import Derived.Test.YtknodhkifmklfaaDoorWFootNe
import Derived.Test.YtknodhkifmklfaaDoorWAt
import Derived.Test.YtknodhkifmklfaaDoorWEqStruct
import Derived.Test.YtknodhkifmklfaaDoorWRepsOne
import Derived.Test.YtknodhkifmklfaaDoorWInv
import Derived.Test.YtknodhkifmklfaaDoorWInvWords
import Derived.Test.YtknodhkifmklfaaDoorWGuard
import Derived.Test.YtknodhkifmklfaaDoorWNEv
import Derived.Test.YtknodhkifmklfaaDoorWMore
import Derived.RegionTactic
import Derived.WalkKit
import Derived.Lib.SliceRun
import Derived.WalkSpells
namespace Go.Proofs.YtknodhkifmklfaaDoor.Mine
open Go.RowKit Go.Proofs.YtknodhkifmklfaaDoorW.PrintWords Go.Proofs.YtknodhkifmklfaaDoorW.PrintLast Go.Proofs.YtknodhkifmklfaaDoorW.PrintMore
set_option linter.unusedVariables false
set_option linter.unusedSimpArgs false

theorem info5 : (Tryd.prog.info? 5).map (fun i => (i.zero, i.size, i.bytes)) = some (some (.int .u8 0), 1, 1) := by kernel_rfl
/-- A page's bytes, as they lie. -/
def Wf (zs : List Int) : Prop := ∀ z ∈ zs, (Lit.int .u8 z).wf = true
theorem cutp (ad : Addr) (n c : Nat) (j : Int) (h0 : 0 ≤ j) (h1 : j < n) (h2 : n ≤ c) : ∀ W : World, (Instr.slice 22 (.slice (some ad) n c) (some (.int .i64 j)) none none).run Tryd.prog W = .ok (.slice (some (ad.add j.toNat)) (n - j.toNat) (c - j.toNat)) W := by
  intro W
  obtain ⟨i0, hi, _, hsz, _⟩ := info_parts info5
  rw [cut_from (P := Tryd.prog) 22 5 .i64 Tryd.underlying22 hi 1 hsz (some ad) n c j h0 (by omega) W, if_neg (by omega), Nat.mul_one]
  rfl
def n2 (zs : List Int) (i : Nat) : Int := Lib.beZ ((zs.drop i).take 2)
def n4 (zs : List Int) (i : Nat) : Int := Lib.beZ ((zs.drop i).take 4)
def n8 (zs : List Int) (i : Nat) : Int := Lib.beZ ((zs.drop i).take 8)
theorem cells_at (ad : Addr) (zs : List Int) (w : World) (h : Kd.C (Kd.int .u8) w (some ad) zs.length zs) (i : Nat) : ∀ j, j < (zs.drop i).length → w.cell? ((ad.add i).add j) = some (.int .u8 ((zs.drop i).getD j 0)) := by
  intro j hj
  rw [List.length_drop] at hj
  obtain ⟨ad', e, hc⟩ := Kd.at_int h ((i + j : Nat) : Int) (by omega) (by omega)
  injection e with e
  subst e
  rw [Int.toNat_natCast] at hc
  have e1 : (ad.add i).add j = ad.add (i + j) := by
    by_cases h1 : i = 0
    · subst h1; simp [Addr.add]
    · by_cases h2 : j = 0
      · subst h2; simp [Addr.add]
      · simp [Addr.add, h1, h2, Nat.add_assoc]
  have e2 : rd zs ((i + j : Nat) : Int) = (zs.drop i).getD j 0 := by
    unfold rd
    rw [Int.toNat_natCast, List.getD_eq_getElem?_getD, List.getD_eq_getElem?_getD, List.getElem?_drop]
  rw [e1, hc, e2]
theorem u16at (ad : Addr) (zs : List Int) (w : World) (h : Kd.C (Kd.int .u8) w (some ad) zs.length zs) (hw : Wf zs) (i m c' : Nat) (hi : i + 2 ≤ zs.length) (hm : 2 ≤ m) :
    Calls Tryd.prog 31 #[.agg #[], .slice (some (ad.add i)) m c'] w fun e w' => e = .returned (.int .u16 (n2 zs i)) ∧ Below w.heap.size w w' :=
  Tryd.binary_BE_Uint16_z (ad.add i) m c' (zs.drop i) w hm (by rw [List.length_drop]; omega) (cells_at ad zs w h i) (fun z hz => hw z (List.mem_of_mem_drop hz))
theorem u32at (ad : Addr) (zs : List Int) (w : World) (h : Kd.C (Kd.int .u8) w (some ad) zs.length zs) (hw : Wf zs) (i m c' : Nat) (hi : i + 4 ≤ zs.length) (hm : 4 ≤ m) :
    Calls Tryd.prog 29 #[.agg #[], .slice (some (ad.add i)) m c'] w fun e w' => e = .returned (.int .u32 (n4 zs i)) ∧ Below w.heap.size w w' :=
  Tryd.binary_BE_Uint32_z (ad.add i) m c' (zs.drop i) w hm (by rw [List.length_drop]; omega) (cells_at ad zs w h i) (fun z hz => hw z (List.mem_of_mem_drop hz))
theorem u64at (ad : Addr) (zs : List Int) (w : World) (h : Kd.C (Kd.int .u8) w (some ad) zs.length zs) (hw : Wf zs) (i m c' : Nat) (hi : i + 8 ≤ zs.length) (hm : 8 ≤ m) :
    Calls Tryd.prog 30 #[.agg #[], .slice (some (ad.add i)) m c'] w fun e w' => e = .returned (.int .u64 (n8 zs i)) ∧ Below w.heap.size w w' :=
  Tryd.binary_BE_Uint64_z (ad.add i) m c' (zs.drop i) w hm (by rw [List.length_drop]; omega) (cells_at ad zs w h i) (fun z hz => hw z (List.mem_of_mem_drop hz))

theorem wf_at (zs : List Int) (hw : Wf zs) (i : Nat) (hi : i < zs.length) : 0 ≤ zs[i] ∧ zs[i] ≤ 255 := by
  have h := hw zs[i] (List.getElem_mem hi)
  have e1 : IntKind.u8.min = 0 := rfl
  have e2 : IntKind.u8.max = 255 := rfl
  simp only [Lit.wf, Bool.and_eq_true, decide_eq_true_eq] at h
  omega
theorem n2_is (zs : List Int) (i : Nat) (hi : i + 2 ≤ zs.length) : n2 zs i = zs[i] * 256 + zs[i + 1] := by
  unfold n2
  rw [List.drop_eq_getElem_cons (by omega), List.drop_eq_getElem_cons (by omega)]
  show Lib.beFromZ 0 [zs[i], zs[i + 1]] = _
  simp only [Lib.beFromZ]
  omega
theorem n2_range (zs : List Int) (hw : Wf zs) (i : Nat) (hi : i + 2 ≤ zs.length) : 0 ≤ n2 zs i ∧ n2 zs i < 65536 := by
  have h1 := wf_at zs hw i (by omega)
  have h2 := wf_at zs hw (i + 1) (by omega)
  rw [n2_is zs i hi]
  omega
set_option maxHeartbeats 4000000 in
set_option maxRecDepth 100000 in
theorem slotOf (ad : Addr) (c : Nat) (zs : List Int) (w : World) (i : Nat) (hr : Kd.C (Kd.int .u8) w (some ad) zs.length zs) (hc : 4096 ≤ c) (hw : Wf zs) (hi : i < 32) (hl : zs.length = 4096) :
    Calls Tryd.prog 32 #[.slice (some ad) 4096 c, .int .i64 (i : Int)] w fun e w' => e = .returned (.tuple #[.int .i64 (n2 zs (20 + 4 * i)), .int .i64 (n2 zs (20 + 4 * i + 2))]) ∧ Below w.heap.size w w' := by
  obtain ⟨a1, ha1⟩ : ∃ a : Addr, a = ad.add (20 + 4 * i) := ⟨_, rfl⟩
  obtain ⟨m1, hm1⟩ : ∃ m : Nat, m = 4096 - (20 + 4 * i) := ⟨_, rfl⟩
  obtain ⟨c1, hc1⟩ : ∃ m : Nat, m = c - (20 + 4 * i) := ⟨_, rfl⟩
  have h1 : ∀ W : World, (Instr.slice 22 (.slice (some ad) 4096 c) (some (.int .i64 (20 + 4 * (i : Int)))) none none).run Tryd.prog W = .ok (.slice (some a1) m1 c1) W := by
    have h := cutp ad 4096 c (20 + 4 * (i : Int)) (by  omega) (by  omega) hc
    rw [show (20 + 4 * (i : Int) : Int).toNat = 20 + 4 * i by  omega] at h
    rw [ha1, hm1, hc1]
    exact h
  have u1 : ∀ W : World, Kd.C (Kd.int .u8) W (some ad) zs.length zs → Calls Tryd.prog 31 #[.agg #[], .slice (some a1) m1 c1] W fun e w' => e = .returned (.int .u16 (n2 zs (20 + 4 * i))) ∧ Below W.heap.size W w' := by
    intro W hW
    rw [ha1]
    exact u16at ad zs W hW hw (20 + 4 * i) m1 c1 (by omega) (by rw [hm1]; omega)
  clear ha1 hm1 hc1
  obtain ⟨a2, ha2⟩ : ∃ a : Addr, a = ad.add (20 + 4 * i + 2) := ⟨_, rfl⟩
  obtain ⟨m2, hm2⟩ : ∃ m : Nat, m = 4096 - (20 + 4 * i + 2) := ⟨_, rfl⟩
  obtain ⟨c2, hc2⟩ : ∃ m : Nat, m = c - (20 + 4 * i + 2) := ⟨_, rfl⟩
  have h2 : ∀ W : World, (Instr.slice 22 (.slice (some ad) 4096 c) (some (.int .i64 (wrap64 (20 + 4 * (i : Int) + 2)))) none none).run Tryd.prog W = .ok (.slice (some a2) m2 c2) W := by
    have h := cutp ad 4096 c (wrap64 (20 + 4 * (i : Int) + 2)) (by unfold wrap64; omega) (by unfold wrap64; omega) hc
    rw [show (wrap64 (20 + 4 * (i : Int) + 2) : Int).toNat = 20 + 4 * i + 2 by unfold wrap64; omega] at h
    rw [ha2, hm2, hc2]
    exact h
  have u2 : ∀ W : World, Kd.C (Kd.int .u8) W (some ad) zs.length zs → Calls Tryd.prog 31 #[.agg #[], .slice (some a2) m2 c2] W fun e w' => e = .returned (.int .u16 (n2 zs (20 + 4 * i + 2))) ∧ Below W.heap.size W w' := by
    intro W hW
    rw [ha2]
    exact u16at ad zs W hW hw (20 + 4 * i + 2) m2 c2 (by omega) (by rw [hm2]; omega)
  clear ha2 hm2 hc2
  have r1 := n2_range zs hw (20 + 4 * i) (by omega)
  have r2 := n2_range zs hw (20 + 4 * i + 2) (by omega)
  generalize n2 zs (20 + 4 * i) = y1 at u1 r1 ⊢
  generalize n2 zs (20 + 4 * i + 2) = y2 at u2 r2 ⊢
  have HR := Aside0.mk hr
  have HB := Aside0.mk (Below.refl w.heap.size w)
  have HY1 := Aside0.mk (show wrap64 y1 = y1 by unfold wrap64; omega)
  have HY2 := Aside0.mk (show wrap64 y2 = y2 by unfold wrap64; omega)
  clear hr hw hl r1 r2
  go_enter Tryd.func32, Tryd.ntmps32
  go_wp2
  have n0_ := Aside0.mk (below_drew1 HB.out)
  clear HB
  have HB := n0_
  clear n0_
  refine start_ (n := 15) (S := fun w' => True) (ds := []) #[false, false, false, false, false, false, false, false, false, false, false, false, false, false, false] (by kernel_rfl) rfl rfl trivial (fun hHeld => ?_)
  refine pure_ (i := 1) (N := some 11) (v := ?_) (a' := ?_) #[false, true, false, false, false, false, false, false, false, false, false, false, false, false, false] rfl rfl (by kernel_rfl) (fun _ _ _ h => h) (Or.inl ⟨by rfl, ?_⟩) ?_ ?_
  rotate_left
  · intro w'
    go_simp
    with_reducible rfl
  rotate_left
  · simp only [Act.put, List.setIfInBounds_toArray, List.set_cons_zero, List.set_cons_succ, i64_w, i32_w]
    rfl
  refine pure_ (i := 2) (N := some 12) (v := ?_) (a' := ?_) #[false, true, true, false, false, false, false, false, false, false, false, false, false, false, false] rfl rfl (by kernel_rfl) (fun _ _ _ h => h) (Or.inl ⟨by rfl, ?_⟩) ?_ ?_
  rotate_left
  · intro w'
    go_simp
    with_reducible rfl
  rotate_left
  · simp only [Act.put, List.setIfInBounds_toArray, List.set_cons_zero, List.set_cons_succ, i64_w, i32_w]
    rfl
  refine pure_ (i := 3) (N := some 13) (v := ?_) (a' := ?_) #[false, true, true, true, false, false, false, false, false, false, false, false, false, false, false] rfl rfl (by kernel_rfl) (fun _ _ _ h => h) (Or.inl ⟨by rfl, ?_⟩) ?_ ?_
  rotate_left
  · intro w'
    go_simp
    with_reducible rfl
  rotate_left
  · simp only [Act.put, List.setIfInBounds_toArray, List.set_cons_zero, List.set_cons_succ, i64_w, i32_w]
    rfl
  refine pure_ (i := 7) (N := some 17) (v := ?_) (a' := ?_) #[false, true, true, true, false, false, false, true, false, false, false, false, false, false, false] rfl rfl (by kernel_rfl) (fun _ _ _ h => h) (Or.inl ⟨by rfl, ?_⟩) ?_ ?_
  rotate_left
  · intro w'
    go_simp
    with_reducible rfl
  rotate_left
  · simp only [Act.put, List.setIfInBounds_toArray, List.set_cons_zero, List.set_cons_succ, i64_w, i32_w]
    rfl
  refine pure_ (i := 8) (N := some 18) (v := ?_) (a' := ?_) #[false, true, true, true, false, false, false, true, true, false, false, false, false, false, false] rfl rfl (by kernel_rfl) (fun _ _ _ h => h) (Or.inl ⟨by rfl, ?_⟩) ?_ ?_
  rotate_left
  · intro w'
    go_simp
    with_reducible rfl
  rotate_left
  · simp only [Act.put, List.setIfInBounds_toArray, List.set_cons_zero, List.set_cons_succ, i64_w, i32_w]
    rfl
  refine pure_ (i := 9) (N := some 19) (v := ?_) (a' := ?_) #[false, true, true, true, false, false, false, true, true, true, false, false, false, false, false] rfl rfl (by kernel_rfl) (fun _ _ _ h => h) (Or.inl ⟨by rfl, ?_⟩) ?_ ?_
  rotate_left
  · intro w'
    go_simp
    with_reducible rfl
  rotate_left
  · simp only [Act.put, List.setIfInBounds_toArray, List.set_cons_zero, List.set_cons_succ, i64_w, i32_w]
    rfl
  refine pure_ (i := 10) (N := some 20) (v := ?_) (a' := ?_) #[false, true, true, true, false, false, false, true, true, true, true, false, false, false, false] rfl rfl (by kernel_rfl) (fun _ _ _ h => h) (Or.inl ⟨by rfl, ?_⟩) ?_ ?_
  rotate_left
  · intro w'
    go_simp
    with_reducible rfl
  rotate_left
  · simp only [Act.put, List.setIfInBounds_toArray, List.set_cons_zero, List.set_cons_succ, i64_w, i32_w]
    rfl
  refine take_ (i := 0) (N := some 10) (v := ?_) (a' := ?_) #[true, true, true, true, false, false, false, true, true, true, true, false, false, false, false] rfl rfl (by kernel_rfl) (fun _ _ _ h => h) (Or.inl ⟨by rfl, ?_⟩) hHeld ?_ ?_
  rotate_left
  · intro w' _
    go_simp
    with_reducible rfl
  rotate_left
  · simp only [Act.put, List.setIfInBounds_toArray, List.set_cons_zero, List.set_cons_succ, i64_w, i32_w]
    rfl
  refine take_ (i := 6) (N := some 16) (v := ?_) (a' := ?_) #[true, true, true, true, false, false, true, true, true, true, true, false, false, false, false] rfl rfl (by kernel_rfl) (fun _ _ _ h => h) (Or.inl ⟨by rfl, ?_⟩) hHeld ?_ ?_
  rotate_left
  · intro w' _
    go_simp
    with_reducible rfl
  rotate_left
  · simp only [Act.put, List.setIfInBounds_toArray, List.set_cons_zero, List.set_cons_succ, i64_w, i32_w]
    rfl
  refine one_ (i := 4) (N := some 14) #[true, true, true, true, true, false, true, true, true, true, true, false, false, false, false] rfl rfl (by kernel_rfl) (by decide) (fun K hK => ?_)
  refine goes_ Tryd.func31 (by kernel_rfl) rfl #[.agg #[], .slice (some a1) m1 c1] (by rfl) rfl rfl (by simp only [List.map_toArray, List.map_cons, List.map_nil]; rfl) ?_
  with_reducible refine (u1 _ (Kd.C_below HR.out HB.out)).mono ?_
  rintro e w1 ⟨rfl, hb⟩
  refine ⟨_, rfl, ?_⟩
  have n0_ := Aside0.mk (below_step HB.out hb)
  clear HB hb
  have HB := n0_
  clear n0_
  refine hK.out _ _ trivial (fun hHeld => ?_)
  clear hK K
  refine norm_ (a' := ?_) ?_ ?_
  rotate_left
  · show Act.put _ (some 14) _ = _
    simp only [Act.put, List.setIfInBounds_toArray, List.set_cons_zero, List.set_cons_succ, i64_w, i32_w]
    rfl
  refine pure_ (i := 5) (N := some 15) (v := ?_) (a' := ?_) #[true, true, true, true, true, true, true, true, true, true, true, false, false, false, false] rfl rfl (by kernel_rfl) (fun _ _ _ h => h) (Or.inl ⟨by rfl, ?_⟩) ?_ ?_
  rotate_left
  · intro w'
    go_simp
    with_reducible rfl
  rotate_left
  · simp only [Act.put, List.setIfInBounds_toArray, List.set_cons_zero, List.set_cons_succ, i64_w, i32_w]
    rfl
  refine one_ (i := 11) (N := some 21) #[true, true, true, true, true, true, true, true, true, true, true, true, false, false, false] rfl rfl (by kernel_rfl) (by decide) (fun K hK => ?_)
  refine goes_ Tryd.func31 (by kernel_rfl) rfl #[.agg #[], .slice (some a2) m2 c2] (by rfl) rfl rfl (by simp only [List.map_toArray, List.map_cons, List.map_nil]; rfl) ?_
  with_reducible refine (u2 _ (Kd.C_below HR.out HB.out)).mono ?_
  rintro e w2 ⟨rfl, hb⟩
  refine ⟨_, rfl, ?_⟩
  have n0_ := Aside0.mk (below_step HB.out hb)
  clear HB hb
  have HB := n0_
  clear n0_
  refine hK.out _ _ trivial (fun hHeld => ?_)
  clear hK K
  refine norm_ (a' := ?_) ?_ ?_
  rotate_left
  · show Act.put _ (some 21) _ = _
    simp only [Act.put, List.setIfInBounds_toArray, List.set_cons_zero, List.set_cons_succ, i64_w, i32_w]
    rfl
  refine pure_ (i := 12) (N := some 22) (v := ?_) (a' := ?_) #[true, true, true, true, true, true, true, true, true, true, true, true, true, false, false] rfl rfl (by kernel_rfl) (fun _ _ _ h => h) (Or.inl ⟨by rfl, ?_⟩) ?_ ?_
  rotate_left
  · intro w'
    go_simp
    with_reducible rfl
  rotate_left
  · simp only [Act.put, List.setIfInBounds_toArray, List.set_cons_zero, List.set_cons_succ, i64_w, i32_w]
    rfl
  refine pure_ (i := 13) (N := some 4) (v := ?_) (a' := ?_) #[true, true, true, true, true, true, true, true, true, true, true, true, true, true, false] rfl rfl (by kernel_rfl) (fun _ _ _ h => h) (Or.inl ⟨by rfl, ?_⟩) ?_ ?_
  rotate_left
  · intro w'
    go_simp
    with_reducible rfl
  rotate_left
  · simp only [Act.put, List.setIfInBounds_toArray, List.set_cons_zero, List.set_cons_succ, i64_w, i32_w]
    rfl
  refine pure_ (i := 14) (N := some 5) (v := ?_) (a' := ?_) #[true, true, true, true, true, true, true, true, true, true, true, true, true, true, true] rfl rfl (by kernel_rfl) (fun _ _ _ h => h) (Or.inl ⟨by rfl, ?_⟩) ?_ ?_
  rotate_left
  · intro w'
    go_simp
    with_reducible rfl
  rotate_left
  · simp only [Act.put, List.setIfInBounds_toArray, List.set_cons_zero, List.set_cons_succ, i64_w, i32_w]
    rfl
  refine done_ (by kernel_rfl) ?_
  go_wp2
  go_ret2
  exact ⟨by show Ending.returned (.tuple #[.int .i64 (wrap64 y1), .int .i64 (wrap64 y2)]) = _; rw [HY1.out, HY2.out], HB.out⟩

/-- The lengths of the slots ahead of slot i. -/
def usedTo (zs : List Int) : Nat → Int
  | 0 => 0
  | i + 1 => usedTo zs i + n2 zs (20 + 4 * i + 2)
theorem usedTo_range (zs : List Int) (hw : Wf zs) (hl : zs.length = 4096) : ∀ i, i ≤ 32 → 0 ≤ usedTo zs i ∧ usedTo zs i ≤ 65536 * (i : Int)
  | 0, _ => by simp [usedTo]
  | i + 1, h => by
    have h1 := usedTo_range zs hw hl i (by omega)
    have h2 := n2_range zs hw (20 + 4 * i + 2) (by omega)
    simp only [usedTo]
    omega
set_option maxHeartbeats 4000000 in
set_option maxRecDepth 100000 in
theorem usedOf (ad : Addr) (c : Nat) (zs : List Int) (w : World) (hr : Kd.C (Kd.int .u8) w (some ad) zs.length zs) (hc : 4096 ≤ c) (hw : Wf zs) (hl : zs.length = 4096) :
    Calls Tryd.prog 33 #[.slice (some ad) 4096 c] w fun e w' => e = .returned (.int .i64 (usedTo zs 32)) ∧ Below w.heap.size w w' := by
  have HR := Aside0.mk hr
  have HW := Aside0.mk hw
  have HL := Aside0.mk hl
  clear hr hw hl
  go_enter Tryd.func33, Tryd.ntmps33
  go_wp2
  go_loopg [3, 4, 5, 6] 32 (fun gg s3 s4 _ _ wr => ∃ (i : Nat) (s : Int), i ≤ 32 ∧ 32 - i ≤ gg ∧ s3 = .int .i64 s ∧ s4 = .int .i64 (i : Int) ∧ Aside0 (s = usedTo zs i) ∧ Aside0 (Below w.heap.size w wr))
  case atStart => exact ⟨0, 0, by omega, by omega, rfl, rfl, ⟨rfl⟩, ⟨Below.refl _ _⟩⟩
  case round =>
    obtain ⟨i, s, hi, hg, rfl, rfl, HS, HB⟩ := hrel
    by_cases hlt : i < 32
    · have hltz : (i : Int) < 32 := by omega
      have hr := usedTo_range zs HW.out HL.out i (by omega)
      have h2 := n2_range zs HW.out (20 + 4 * i + 2) (by have := HL.out; omega)
      rw [← HS.out] at hr
      have hcall := fun W (hC : Kd.C (Kd.int .u8) W (some ad) zs.length zs) => slotOf ad c zs W i hC hc HW.out hlt HL.out
      have HN : Aside0 (usedTo zs (i + 1) = usedTo zs i + n2 zs (20 + 4 * i + 2)) := ⟨rfl⟩
      generalize n2 zs (20 + 4 * i + 2) = y2 at hcall h2 HN
      generalize n2 zs (20 + 4 * i) = y1 at hcall
      go_wp2_with (go_at_call 32; (with_reducible refine (hcall _ (Kd.C_below HR.out HB.out)).mono ?_); rintro e w' ⟨rfl, hb⟩; have n0_ := Aside0.mk (below_step HB.out hb); clear HB hb; have HB := n0_; clear n0_)
      go_roundg (32 - (i + 1))
      case measure => omega
      case rel => exact ⟨i + 1, s + y2, by omega, by omega, by go_num, by go_num, ⟨by rw [HN.out, HS.out]⟩, HB⟩
    · obtain rfl : i = 32 := by omega
      clear hi hg
      go_wp2
      go_ret
      rw [HS.out]
      refine ⟨?_, HB.out⟩
      generalize usedTo zs 32 = q
      rfl
end Go.Proofs.YtknodhkifmklfaaDoor.Mine
