/- Proved: contracts of the functions that read a page (be's numbers, slotOf, usedOf), by hand: PageLSN. No statement of the seat is proved here. -/
import Derived.Test.YtknodhkifmklfaaDoorProg
import Derived.Test.YtknodhkifmklfaaDoorShelf
import Derived.Test.YtknodhkifmklfaaDoorProg
import Derived.Below
import Derived.Deep.Draws
import Derived.Deep.AppendLies
import Derived.Maps.AppendAt
import Derived.OwnWalk
import Derived.Laws.BytesArg
import Derived.Laws.MakeOwn
import Derived.Laws.OwnMore
import Derived.Deep.OwnRows
import Derived.Tactics
import Derived.Lib.ConvBytes
import Derived.Laws.Slices
import Derived.WalkKit
import Derived.KernelRfl
import Derived.RowKit3
import Derived.Deep.LoopGhost
import Derived.Deep.QuietTactic
import Derived.BigQuiet
import Derived.WideLaws
import Derived.Deep.DeepCutAuto
import Derived.Deep.CutBlock
import Derived.Deep.RegionHeld3
import Derived.Laws.Rows
import Derived.Lib.AppendStr
import Derived.ArgAppend
import Derived.Laws.IdiomCopy
import Derived.OrdersHeld
import Derived.Laws.BitsLemmas
import Derived.RowKit
import Derived.Test.YtknodhkifmklfaaDoorWWords
import Derived.Test.YtknodhkifmklfaaDoorWLast
import Derived.Test.YtknodhkifmklfaaDoorWTab
import Derived.Test.YtknodhkifmklfaaDoorWFour
import Derived.Test.YtknodhkifmklfaaDoorWQPut
import Derived.Test.YtknodhkifmklfaaDoorWApart
import Derived.Test.YtknodhkifmklfaaDoorWArr
import Derived.Test.YtknodhkifmklfaaDoorWZeros
import Derived.Test.YtknodhkifmklfaaDoorWFoot
import Derived.Test.YtknodhkifmklfaaDoorWKept
import Derived.Test.YtknodhkifmklfaaDoorWShare
import Derived.Test.YtknodhkifmklfaaDoorWN
import Derived.Test.YtknodhkifmklfaaDoorWFootNe
import Derived.Test.YtknodhkifmklfaaDoorWAt
import Derived.Test.YtknodhkifmklfaaDoorWEqStruct
import Derived.Test.YtknodhkifmklfaaDoorWRepsOne
import Derived.Test.YtknodhkifmklfaaDoorWInv
import Derived.Test.YtknodhkifmklfaaDoorWInvWords
import Derived.Test.YtknodhkifmklfaaDoorWGuard
import Derived.Test.YtknodhkifmklfaaDoorWNEv
import Derived.Test.YtknodhkifmklfaaDoorWMore
import Derived.Test.YtknodhkifmklfaaDoorMineUse
import Derived.RegionTactic
import Derived.WalkKit
import Derived.Lib.SliceRun
import Derived.WalkSpells
namespace Go.Proofs.YtknodhkifmklfaaDoor.Mine
open Go.RowKit Go.Proofs.YtknodhkifmklfaaDoorW.PrintWords Go.Proofs.YtknodhkifmklfaaDoorW.PrintLast Go.Proofs.YtknodhkifmklfaaDoorW.PrintMore
set_option linter.unusedVariables false
set_option linter.unusedSimpArgs false

set_option maxHeartbeats 4000000 in
set_option maxRecDepth 100000 in
theorem pageLSN1 (ad : Addr) (c : Nat) (zs : List Int) (w : World) (hr : Kd.C (Kd.int .u8) w (some ad) zs.length zs) (hc : 4096 ≤ c) (hw : Wf zs) (hl : zs.length = 4096) (hg : good zs = true) :
    Calls Tryd.prog 18 #[.slice (some ad) 4096 c] w fun e w' => e = .returned (.int .i64 (wrap64 (n8 zs 4))) ∧ Below w.heap.size w w' := by
  obtain ⟨a1, ha1⟩ : ∃ a : Addr, a = ad.add (4) := ⟨_, rfl⟩
  obtain ⟨m1, hm1⟩ : ∃ m : Nat, m = 4096 - (4) := ⟨_, rfl⟩
  obtain ⟨c1, hc1⟩ : ∃ m : Nat, m = c - (4) := ⟨_, rfl⟩
  have h1 : ∀ W : World, (Instr.slice 22 (.slice (some ad) 4096 c) (some (.int .i64 (4))) none none).run Tryd.prog W = .ok (.slice (some a1) m1 c1) W := by
    have h := cutp ad 4096 c (4) (by  omega) (by  omega) hc
    rw [show (4 : Int).toNat = 4 by  omega] at h
    rw [ha1, hm1, hc1]
    exact h
  have u1 : ∀ W : World, Kd.C (Kd.int .u8) W (some ad) zs.length zs → Calls Tryd.prog 30 #[.agg #[], .slice (some a1) m1 c1] W fun e w' => e = .returned (.int .u64 (n8 zs (4))) ∧ Below W.heap.size W w' := by
    intro W hW
    rw [ha1]
    exact u64at ad zs W hW hw (4) m1 c1 (by omega) (by rw [hm1]; omega)
  clear ha1 hm1 hc1
  have hcall : ∀ W : World, Kd.C (Kd.int .u8) W (some ad) zs.length zs → Calls Tryd.prog 24 #[.slice (some ad) 4096 c] W fun e w' => e = .returned (.bool true) ∧ Below W.heap.size W w' := by
    intro W hW
    rw [← hg]
    exact wellFormed ad c zs W hW hc hw hl
  generalize n8 zs 4 = y1 at u1 ⊢
  have HR := Aside0.mk hr
  have HB := Aside0.mk (Below.refl w.heap.size w)
  clear hr hw hl hg
  go_enter Tryd.func18, Tryd.ntmps18
  go_wp2_with (go_at_call 24; (with_reducible refine (hcall _ (Kd.C_below HR.out HB.out)).mono ?_); rintro e w' ⟨rfl, hb⟩; have n0_ := Aside0.mk (below_step HB.out hb); clear HB hb; have HB := n0_; clear n0_)
  have n0_ := Aside0.mk (below_drew1 HB.out)
  clear HB
  have HB := n0_
  clear n0_
  refine start_ (n := 6) (S := fun w' => True) (ds := []) #[false, false, false, false, false, false] (by kernel_rfl) rfl rfl trivial (fun hHeld => ?_)
  refine pure_ (i := 1) (N := some 7) (v := ?_) (a' := ?_) #[false, true, false, false, false, false] rfl rfl (by kernel_rfl) (fun _ _ _ h => h) (Or.inl ⟨by rfl, ?_⟩) ?_ ?_
  rotate_left
  · intro w'
    go_simp
    with_reducible rfl
  rotate_left
  · simp only [Act.put, List.setIfInBounds_toArray, List.set_cons_zero, List.set_cons_succ, i64_w, i32_w]
    rfl
  refine pure_ (i := 2) (N := some 8) (v := ?_) (a' := ?_) #[false, true, true, false, false, false] rfl rfl (by kernel_rfl) (fun _ _ _ h => h) (Or.inl ⟨by rfl, ?_⟩) ?_ ?_
  rotate_left
  · intro w'
    go_simp
    with_reducible rfl
  rotate_left
  · simp only [Act.put, List.setIfInBounds_toArray, List.set_cons_zero, List.set_cons_succ, i64_w, i32_w]
    rfl
  refine take_ (i := 0) (N := some 6) (v := ?_) (a' := ?_) #[true, true, true, false, false, false] rfl rfl (by kernel_rfl) (fun _ _ _ h => h) (Or.inl ⟨by rfl, ?_⟩) hHeld ?_ ?_
  rotate_left
  · intro w' _
    go_simp
    with_reducible rfl
  rotate_left
  · simp only [Act.put, List.setIfInBounds_toArray, List.set_cons_zero, List.set_cons_succ, i64_w, i32_w]
    rfl
  refine one_ (i := 3) (N := some 9) #[true, true, true, true, false, false] rfl rfl (by kernel_rfl) (by decide) (fun K hK => ?_)
  refine goes_ Tryd.func30 (by kernel_rfl) rfl #[.agg #[], .slice (some a1) m1 c1] (by rfl) rfl rfl (by simp only [List.map_toArray, List.map_cons, List.map_nil]; rfl) ?_
  with_reducible refine (u1 _ (Kd.C_below HR.out HB.out)).mono ?_
  rintro e w1 ⟨rfl, hb⟩
  refine ⟨_, rfl, ?_⟩
  have n0_ := Aside0.mk (below_step HB.out hb)
  clear HB hb
  have HB := n0_
  clear n0_
  refine hK.out _ _ trivial (fun hHeld => ?_)
  clear hK K
  refine norm_ (a' := ?_) ?_ ?_
  rotate_left
  · show Act.put _ (some 9) _ = _
    simp only [Act.put, List.setIfInBounds_toArray, List.set_cons_zero, List.set_cons_succ, i64_w, i32_w]
    rfl
  refine pure_ (i := 4) (N := some 10) (v := ?_) (a' := ?_) #[true, true, true, true, true, false] rfl rfl (by kernel_rfl) (fun _ _ _ h => h) (Or.inl ⟨by rfl, ?_⟩) ?_ ?_
  rotate_left
  · intro w'
    go_simp
    with_reducible rfl
  rotate_left
  · simp only [Act.put, List.setIfInBounds_toArray, List.set_cons_zero, List.set_cons_succ, i64_w, i32_w]
    rfl
  refine pure_ (i := 5) (N := some 2) (v := ?_) (a' := ?_) #[true, true, true, true, true, true] rfl rfl (by kernel_rfl) (fun _ _ _ h => h) (Or.inl ⟨by rfl, ?_⟩) ?_ ?_
  rotate_left
  · intro w'
    go_simp
    with_reducible rfl
  rotate_left
  · simp only [Act.put, List.setIfInBounds_toArray, List.set_cons_zero, List.set_cons_succ, i64_w, i32_w]
    rfl
  refine done_ (by kernel_rfl) ?_
  go_wp2
  go_ret
  exact ⟨rfl, HB.out⟩
set_option maxHeartbeats 4000000 in
set_option maxRecDepth 100000 in
theorem pageLSN0 (A : Option Addr) (n c : Nat) (w : World) (hcall : Calls Tryd.prog 24 #[.slice A n c] w fun e w' => e = .returned (.bool false) ∧ Below w.heap.size w w') :
    Calls Tryd.prog 18 #[.slice A n c] w fun e w' => e = .returned (.int .i64 (-1)) ∧ Below w.heap.size w w' := by
  go_enter Tryd.func18, Tryd.ntmps18
  go_wp2_with (go_at_call 24; (with_reducible refine hcall.mono ?_); rintro e w' ⟨rfl, hb⟩; have HB := Aside0.mk hb; clear hb)
  go_ret
  exact ⟨rfl, HB.out⟩
end Go.Proofs.YtknodhkifmklfaaDoor.Mine
