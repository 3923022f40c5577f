-- PRINTED BY print.sh 35421559b90ae4d0a3588c463048766b98c2df88dd9212a6774a882060cdf62d: not written by this session
import Derived.Test.YtmggneijkhmigaaPFnExactStepFaultx0
import Derived.Test.YtmggneijkhmigaaPFnExactStepFaultx1
namespace Go.Proofs.Ytmggneijkhmigaa.PFnExactStepFault
open Go.RowKit Go.Proofs.YtmggneijkhmigaaW.PrintWords Go.Proofs.YtmggneijkhmigaaW.PrintLast Go.Proofs.YtmggneijkhmigaaW.PrintMore
attribute [local go_sem] max2_int min2_int max_two min_two max_three min_three max_four min_four   -- for this text's walks alone
set_option linter.unusedVariables false
set_option linter.unusedSimpArgs false

/-! ### spec_StepFault: function 19 -/
mutual
def spec_StepFault.j0 : Nat → Bool → Int → Int → Int → Int → List Int → List Int → Option (Int)
  | 0, _, _, _, _, _, _, _ => none
  | k + 1, x3, x105000, x105001, x105002, x105003, x105004, x105005 => if x105000 ≥ 3 then (spec_StepFault.j1 k x3 (decide (x105000 ≤ 5)) x105000 x105001 x105002 x105003 x105004 x105005) else (spec_StepFault.j1 k x3 false x105000 x105001 x105002 x105003 x105004 x105005)
def spec_StepFault.j1 : Nat → Bool → Bool → Int → Int → Int → Int → List Int → List Int → Option (Int)
  | 0, _, _, _, _, _, _, _, _ => none
  | k + 1, x3, x4, x105000, x105001, x105002, x105003, x105004, x105005 => if x105000 = 2 then (spec_StepFault.j2 k x3 x4 true x105000 x105001 x105002 x105003 x105004 x105005) else (spec_StepFault.j2 k x3 x4 (x105000 == 3) x105000 x105001 x105002 x105003 x105004 x105005)
def spec_StepFault.j2 : Nat → Bool → Bool → Bool → Int → Int → Int → Int → List Int → List Int → Option (Int)
  | 0, _, _, _, _, _, _, _, _, _ => none
  | k + 1, x3, x4, x5, x105000, x105001, x105002, x105003, x105004, x105005 => if x3 = true then (if x4 = true then (if x5 = true then (if x105000 = 10 then (if x105000 = 11 then (spec_StepFault.j3 k false x105000 x105001 x105002 x105003 x105004 x105005) else (spec_StepFault.j3 k (x105003 != 0) x105000 x105001 x105002 x105003 x105004 x105005)) else (if (x105005.length : Int) > 0 then (spec_StepFault.j3 k true x105000 x105001 x105002 x105003 x105004 x105005) else (if x105000 = 11 then (spec_StepFault.j3 k false x105000 x105001 x105002 x105003 x105004 x105005) else (spec_StepFault.j3 k (x105003 != 0) x105000 x105001 x105002 x105003 x105004 x105005)))) else (if (x105004.length : Int) > 0 then (spec_StepFault.j3 k true x105000 x105001 x105002 x105003 x105004 x105005) else (if x105000 = 10 then (if x105000 = 11 then (spec_StepFault.j3 k false x105000 x105001 x105002 x105003 x105004 x105005) else (spec_StepFault.j3 k (x105003 != 0) x105000 x105001 x105002 x105003 x105004 x105005)) else (if (x105005.length : Int) > 0 then (spec_StepFault.j3 k true x105000 x105001 x105002 x105003 x105004 x105005) else (if x105000 = 11 then (spec_StepFault.j3 k false x105000 x105001 x105002 x105003 x105004 x105005) else (spec_StepFault.j3 k (x105003 != 0) x105000 x105001 x105002 x105003 x105004 x105005)))))) else (if x105002 = 0 then (if x5 = true then (if x105000 = 10 then (if x105000 = 11 then (spec_StepFault.j3 k false x105000 x105001 x105002 x105003 x105004 x105005) else (spec_StepFault.j3 k (x105003 != 0) x105000 x105001 x105002 x105003 x105004 x105005)) else (if (x105005.length : Int) > 0 then (spec_StepFault.j3 k true x105000 x105001 x105002 x105003 x105004 x105005) else (if x105000 = 11 then (spec_StepFault.j3 k false x105000 x105001 x105002 x105003 x105004 x105005) else (spec_StepFault.j3 k (x105003 != 0) x105000 x105001 x105002 x105003 x105004 x105005)))) else (if (x105004.length : Int) > 0 then (spec_StepFault.j3 k true x105000 x105001 x105002 x105003 x105004 x105005) else (if x105000 = 10 then (if x105000 = 11 then (spec_StepFault.j3 k false x105000 x105001 x105002 x105003 x105004 x105005) else (spec_StepFault.j3 k (x105003 != 0) x105000 x105001 x105002 x105003 x105004 x105005)) else (if (x105005.length : Int) > 0 then (spec_StepFault.j3 k true x105000 x105001 x105002 x105003 x105004 x105005) else (if x105000 = 11 then (spec_StepFault.j3 k false x105000 x105001 x105002 x105003 x105004 x105005) else (spec_StepFault.j3 k (x105003 != 0) x105000 x105001 x105002 x105003 x105004 x105005)))))) else (spec_StepFault.j3 k true x105000 x105001 x105002 x105003 x105004 x105005))) else (if x105001 = 0 then (if x4 = true then (if x5 = true then (if x105000 = 10 then (if x105000 = 11 then (spec_StepFault.j3 k false x105000 x105001 x105002 x105003 x105004 x105005) else (spec_StepFault.j3 k (x105003 != 0) x105000 x105001 x105002 x105003 x105004 x105005)) else (if (x105005.length : Int) > 0 then (spec_StepFault.j3 k true x105000 x105001 x105002 x105003 x105004 x105005) else (if x105000 = 11 then (spec_StepFault.j3 k false x105000 x105001 x105002 x105003 x105004 x105005) else (spec_StepFault.j3 k (x105003 != 0) x105000 x105001 x105002 x105003 x105004 x105005)))) else (if (x105004.length : Int) > 0 then (spec_StepFault.j3 k true x105000 x105001 x105002 x105003 x105004 x105005) else (if x105000 = 10 then (if x105000 = 11 then (spec_StepFault.j3 k false x105000 x105001 x105002 x105003 x105004 x105005) else (spec_StepFault.j3 k (x105003 != 0) x105000 x105001 x105002 x105003 x105004 x105005)) else (if (x105005.length : Int) > 0 then (spec_StepFault.j3 k true x105000 x105001 x105002 x105003 x105004 x105005) else (if x105000 = 11 then (spec_StepFault.j3 k false x105000 x105001 x105002 x105003 x105004 x105005) else (spec_StepFault.j3 k (x105003 != 0) x105000 x105001 x105002 x105003 x105004 x105005)))))) else (if x105002 = 0 then (if x5 = true then (if x105000 = 10 then (if x105000 = 11 then (spec_StepFault.j3 k false x105000 x105001 x105002 x105003 x105004 x105005) else (spec_StepFault.j3 k (x105003 != 0) x105000 x105001 x105002 x105003 x105004 x105005)) else (if (x105005.length : Int) > 0 then (spec_StepFault.j3 k true x105000 x105001 x105002 x105003 x105004 x105005) else (if x105000 = 11 then (spec_StepFault.j3 k false x105000 x105001 x105002 x105003 x105004 x105005) else (spec_StepFault.j3 k (x105003 != 0) x105000 x105001 x105002 x105003 x105004 x105005)))) else (if (x105004.length : Int) > 0 then (spec_StepFault.j3 k true x105000 x105001 x105002 x105003 x105004 x105005) else (if x105000 = 10 then (if x105000 = 11 then (spec_StepFault.j3 k false x105000 x105001 x105002 x105003 x105004 x105005) else (spec_StepFault.j3 k (x105003 != 0) x105000 x105001 x105002 x105003 x105004 x105005)) else (if (x105005.length : Int) > 0 then (spec_StepFault.j3 k true x105000 x105001 x105002 x105003 x105004 x105005) else (if x105000 = 11 then (spec_StepFault.j3 k false x105000 x105001 x105002 x105003 x105004 x105005) else (spec_StepFault.j3 k (x105003 != 0) x105000 x105001 x105002 x105003 x105004 x105005)))))) else (spec_StepFault.j3 k true x105000 x105001 x105002 x105003 x105004 x105005))) else (spec_StepFault.j3 k true x105000 x105001 x105002 x105003 x105004 x105005))
def spec_StepFault.j3 : Nat → Bool → Int → Int → Int → Int → List Int → List Int → Option (Int)
  | 0, _, _, _, _, _, _, _ => none
  | k + 1, x80, x105000, x105001, x105002, x105003, x105004, x105005 => if x80 = true then (some 2) else ((spec_l4In.f x105003 (-1) 1000000).bind fun t106 => (if t106 = true then (if (x105005.length : Int) > 8192 then (some 4) else (some 0)) else (some 3)))
end
def spec_StepFault.f (k : Nat) (a0_0 : Int) (a0_1 : Int) (a0_2 : Int) (a0_3 : Int) (l0_4 : List Int) (l0_5 : List Int) : Option (Int) := (spec_l4In.f a0_0 1 11).bind fun t105 => (if t105 = true then (if a0_0 ≥ 2 then (spec_StepFault.j0 k (decide (a0_0 ≤ 7)) a0_0 a0_1 a0_2 a0_3 l0_4 l0_5) else (spec_StepFault.j0 k false a0_0 a0_1 a0_2 a0_3 l0_4 l0_5)) else (some 1))
theorem spec_StepFault.mono_l : ∀ k, (∀ y0 y1 y2 y3 y4 y5 y6, LeO (spec_StepFault.j0 k y0 y1 y2 y3 y4 y5 y6) (spec_StepFault.j0 (k + 1) y0 y1 y2 y3 y4 y5 y6)) ∧ (∀ y0 y1 y2 y3 y4 y5 y6 y7, LeO (spec_StepFault.j1 k y0 y1 y2 y3 y4 y5 y6 y7) (spec_StepFault.j1 (k + 1) y0 y1 y2 y3 y4 y5 y6 y7)) ∧ (∀ y0 y1 y2 y3 y4 y5 y6 y7 y8, LeO (spec_StepFault.j2 k y0 y1 y2 y3 y4 y5 y6 y7 y8) (spec_StepFault.j2 (k + 1) y0 y1 y2 y3 y4 y5 y6 y7 y8)) ∧ (∀ y0 y1 y2 y3 y4 y5 y6, LeO (spec_StepFault.j3 k y0 y1 y2 y3 y4 y5 y6) (spec_StepFault.j3 (k + 1) y0 y1 y2 y3 y4 y5 y6))
  | 0 => ⟨fun _ _ _ _ _ _ _ r h => by simp [spec_StepFault.j0] at h, fun _ _ _ _ _ _ _ _ r h => by simp [spec_StepFault.j1] at h, fun _ _ _ _ _ _ _ _ _ r h => by simp [spec_StepFault.j2] at h, fun _ _ _ _ _ _ _ r h => by simp [spec_StepFault.j3] at h⟩
  | k + 1 => by
    obtain ⟨ih0, ih1, ih2, ih3⟩ := spec_StepFault.mono_l k
    refine ⟨?_, ?_, ?_, ?_⟩
    · intro y0 y1 y2 y3 y4 y5 y6
      unfold spec_StepFault.j0
      repeat' first
      | (with_reducible exact ih0 _ _ _ _ _ _ _)
      | (with_reducible exact ih1 _ _ _ _ _ _ _ _)
      | (with_reducible exact ih2 _ _ _ _ _ _ _ _ _)
      | (with_reducible exact ih3 _ _ _ _ _ _ _)
      | (with_reducible exact LeO.refl _)
      | (with_reducible exact LeO.none _)
      | (with_reducible refine LeO.ite ?_ ?_)
      | (with_reducible refine LeO.bind ?_ (fun _ => ?_))
      | exact ih0 _ _ _ _ _ _ _
      | exact ih1 _ _ _ _ _ _ _ _
      | exact ih2 _ _ _ _ _ _ _ _ _
      | exact ih3 _ _ _ _ _ _ _
      | exact LeO.none _
      | refine LeO.ite ?_ ?_
      | refine LeO.bind ?_ (fun _ => ?_)
    · intro y0 y1 y2 y3 y4 y5 y6 y7
      unfold spec_StepFault.j1
      repeat' first
      | (with_reducible exact ih0 _ _ _ _ _ _ _)
      | (with_reducible exact ih1 _ _ _ _ _ _ _ _)
      | (with_reducible exact ih2 _ _ _ _ _ _ _ _ _)
      | (with_reducible exact ih3 _ _ _ _ _ _ _)
      | (with_reducible exact LeO.refl _)
      | (with_reducible exact LeO.none _)
      | (with_reducible refine LeO.ite ?_ ?_)
      | (with_reducible refine LeO.bind ?_ (fun _ => ?_))
      | exact ih0 _ _ _ _ _ _ _
      | exact ih1 _ _ _ _ _ _ _ _
      | exact ih2 _ _ _ _ _ _ _ _ _
      | exact ih3 _ _ _ _ _ _ _
      | exact LeO.none _
      | refine LeO.ite ?_ ?_
      | refine LeO.bind ?_ (fun _ => ?_)
    · intro y0 y1 y2 y3 y4 y5 y6 y7 y8
      unfold spec_StepFault.j2
      repeat' first
      | (with_reducible exact ih0 _ _ _ _ _ _ _)
      | (with_reducible exact ih1 _ _ _ _ _ _ _ _)
      | (with_reducible exact ih2 _ _ _ _ _ _ _ _ _)
      | (with_reducible exact ih3 _ _ _ _ _ _ _)
      | (with_reducible exact LeO.refl _)
      | (with_reducible exact LeO.none _)
      | (with_reducible refine LeO.ite ?_ ?_)
      | (with_reducible refine LeO.bind ?_ (fun _ => ?_))
      | exact ih0 _ _ _ _ _ _ _
      | exact ih1 _ _ _ _ _ _ _ _
      | exact ih2 _ _ _ _ _ _ _ _ _
      | exact ih3 _ _ _ _ _ _ _
      | exact LeO.none _
      | refine LeO.ite ?_ ?_
      | refine LeO.bind ?_ (fun _ => ?_)
    · intro y0 y1 y2 y3 y4 y5 y6
      unfold spec_StepFault.j3
      repeat' first
      | (with_reducible exact ih0 _ _ _ _ _ _ _)
      | (with_reducible exact ih1 _ _ _ _ _ _ _ _)
      | (with_reducible exact ih2 _ _ _ _ _ _ _ _ _)
      | (with_reducible exact ih3 _ _ _ _ _ _ _)
      | (with_reducible exact LeO.refl _)
      | (with_reducible exact LeO.none _)
      | (with_reducible refine LeO.ite ?_ ?_)
      | (with_reducible refine LeO.bind ?_ (fun _ => ?_))
      | exact ih0 _ _ _ _ _ _ _
      | exact ih1 _ _ _ _ _ _ _ _
      | exact ih2 _ _ _ _ _ _ _ _ _
      | exact ih3 _ _ _ _ _ _ _
      | exact LeO.none _
      | refine LeO.ite ?_ ?_
      | refine LeO.bind ?_ (fun _ => ?_)
theorem spec_StepFault.mono : ∀ a0 a1 a2 a3 a4 a5 k, LeO (spec_StepFault.f k a0 a1 a2 a3 a4 a5) (spec_StepFault.f (k + 1) a0 a1 a2 a3 a4 a5) := by
  intro a0 a1 a2 a3 a4 a5 k
  obtain ⟨ih0, ih1, ih2, ih3⟩ := spec_StepFault.mono_l k
  unfold spec_StepFault.f
  repeat' first
      | (with_reducible exact ih0 _ _ _ _ _ _ _)
      | (with_reducible exact ih1 _ _ _ _ _ _ _ _)
      | (with_reducible exact ih2 _ _ _ _ _ _ _ _ _)
      | (with_reducible exact ih3 _ _ _ _ _ _ _)
      | (with_reducible exact LeO.refl _)
      | (with_reducible exact LeO.none _)
      | (with_reducible refine LeO.ite ?_ ?_)
      | (with_reducible refine LeO.bind ?_ (fun _ => ?_))
      | exact ih0 _ _ _ _ _ _ _
      | exact ih1 _ _ _ _ _ _ _ _
      | exact ih2 _ _ _ _ _ _ _ _ _
      | exact ih3 _ _ _ _ _ _ _
      | exact LeO.none _
      | refine LeO.ite ?_ ?_
      | refine LeO.bind ?_ (fun _ => ?_)
set_option maxHeartbeats 8000000 in
set_option maxRecDepth 100000 in
theorem spec_StepFault.calls (k : Nat) (a0_0 : Int) (a0_1 : Int) (a0_2 : Int) (a0_3 : Int) (A0_4 : Option Addr) (c0_4 : Nat) (l0_4 : List Int) (A0_5 : Option Addr) (c0_5 : Nat) (l0_5 : List Int) (r : Int) (w : World) (hr0_4 : Kd.C (Kd.int .u8) w A0_4 l0_4.length l0_4) (hc0_4 : l0_4.length ≤ c0_4) (hr0_5 : Kd.C (Kd.int .i64) w A0_5 l0_5.length l0_5) (hc0_5 : l0_5.length ≤ c0_5) (h : spec_StepFault.f k a0_0 a0_1 a0_2 a0_3 l0_4 l0_5 = some r) :
    Calls Try.prog 19 #[.agg #[.int .i64 a0_0, .int .i64 a0_1, .int .i64 a0_2, .int .i64 a0_3, .slice A0_4 l0_4.length c0_4, .slice A0_5 l0_5.length c0_5]] w fun e w' => e = .returned (.int .i64 r) ∧ Below w.heap.size w w' := by
  have hu39 := Try.underlying39
  have HR0_4 := Aside0.mk hr0_4
  have HC0_4 := Aside0.mk hc0_4
  clear hr0_4 hc0_4
  have HR0_5 := Aside0.mk hr0_5
  have HC0_5 := Aside0.mk hc0_5
  clear hr0_5 hc0_5
  have HB := Aside0.mk (Below.refl w.heap.size w)
  have H : ((spec_l4In.f a0_0 1 11).bind fun t105 => (if t105 = true then (if a0_0 ≥ 2 then (spec_StepFault.j0 k (decide (a0_0 ≤ 7)) a0_0 a0_1 a0_2 a0_3 l0_4 l0_5) else (spec_StepFault.j0 k false a0_0 a0_1 a0_2 a0_3 l0_4 l0_5)) else (some 1))) = some r := h
  clear h
  replace H := Option.bind_eq_some_iff.mp H
  obtain ⟨t105, A20, H⟩ := H
  replace H : (if t105 = true then (if a0_0 ≥ 2 then (spec_StepFault.j0 k (decide (a0_0 ≤ 7)) a0_0 a0_1 a0_2 a0_3 l0_4 l0_5) else (spec_StepFault.j0 k false a0_0 a0_1 a0_2 a0_3 l0_4 l0_5)) else (some 1)) = some r := H
  have A2 := Aside0.mk A20
  clear A20
  by_cases c3 : t105 = true
  · subst c3
    have H1 : (if a0_0 ≥ 2 then (spec_StepFault.j0 k (decide (a0_0 ≤ 7)) a0_0 a0_1 a0_2 a0_3 l0_4 l0_5) else (spec_StepFault.j0 k false a0_0 a0_1 a0_2 a0_3 l0_4 l0_5)) = some r := by rw [if_pos rfl] at H; exact H
    clear H
    have H := H1
    clear H1
    have HC4 := Aside0.mk H
    clear H
    go_enter Try.func19, Try.ntmps19
    go_upto_region 3 with (first | ((with_reducible refine gate_dst (N := 1) rfl ?_); (try (refine gate_guard (by rfl) ?_; dsimp only)); refine box_event ?hg (N := 1) ?hd (cs := #[.int .i64 a0_0, .int .i64 a0_1, .int .i64 a0_2, .int .i64 a0_3, .slice A0_4 l0_4.length c0_4, .slice A0_5 l0_5.length c0_5]) (t := 39) ?hr ?_; (case hd => rfl); (case hg => rfl); (case hr => first | (go_simp; done) | (go_simp; rfl)); intro gb104 hg w5 hbox hb; have n0_ := Aside0.mk (below_step (by repeat (first | (with_reducible first | exact HB.out | apply below_alloc | apply pw_below_drewN | apply below_drew1) | exact HB.out)) hb); have n1_ := Aside0.mk (hbox); have n2_ := Aside0.mk ((by rw [hg]; exact (below_size (by repeat (first | (with_reducible first | exact HB.out | apply below_alloc | apply pw_below_drewN | apply below_drew1) | exact HB.out))) : w.heap.size ≤ gb104)); have n3_ := Aside0.mk ((by rw [hg]; exact (below_size (by repeat (first | (with_reducible first | exact HB.out | apply below_alloc | apply pw_below_drewN | apply below_drew1) | exact HB.out))) : w.heap.size ≤ gb104)); clear HB; have HB := n0_; have BK104 := n1_; have GW104 := n2_; have GE104 := n3_; clear n0_ n1_ n2_ n3_; clear hb hbox hg; have hcz6_0 : w5.cell? ⟨gb104, 0, none⟩ = some (.int .i64 a0_0) := (blk_cell BK104.out 0).trans rfl; have hcz6_1 : w5.cell? ⟨gb104, 1, none⟩ = some (.int .i64 a0_1) := (blk_cell BK104.out 1).trans rfl; have hcz6_2 : w5.cell? ⟨gb104, 2, none⟩ = some (.int .i64 a0_2) := (blk_cell BK104.out 2).trans rfl; have hcz6_3 : w5.cell? ⟨gb104, 3, none⟩ = some (.int .i64 a0_3) := (blk_cell BK104.out 3).trans rfl; have hcz6_4 : w5.cell? ⟨gb104, 4, none⟩ = some (.slice A0_4 l0_4.length c0_4) := (blk_cell BK104.out 4).trans rfl; have hcz6_5 : w5.cell? ⟨gb104, 5, none⟩ = some (.slice A0_5 l0_5.length c0_5) := (blk_cell BK104.out 5).trans rfl; have hfz6_0 := blk_frozen BK104.out 0; have hfz6_1 := blk_frozen BK104.out 1; have hfz6_2 := blk_frozen BK104.out 2; have hfz6_3 := blk_frozen BK104.out 3; have hfz6_4 := blk_frozen BK104.out 4; have hfz6_5 := blk_frozen BK104.out 5) | ((with_reducible refine gate_callee (f := 76) rfl ?_); refine goesL_ (some 8) rfl rfl Try.func76 (by kernel_rfl) rfl #[.int .i64 a0_0, .int .i64 1, .int .i64 11] rfl (by (try simp only [List.map_toArray, List.map_cons, List.map_nil]); first | done | rfl | (simp only [List.length_drop, List.length_take]; rfl)) ?_; (with_reducible refine (spec_l4In.calls a0_0 1 11 true _ A2.out).mono ?_); rintro e w' ⟨rfl, ⟨nd, rfl⟩⟩; refine ⟨_, rfl, ?_⟩))
    (try simp only [Act.put, List.setIfInBounds_toArray, List.set_cons_zero, List.set_cons_succ])
    go_cut [3] (fun v3 wc => ∃ (kq : Nat) (x3_3 : Bool), v3 = .bool x3_3 ∧ Aside0 (spec_StepFault.j0 kq x3_3 a0_0 a0_1 a0_2 a0_3 l0_4 l0_5 = some r) ∧ Aside0 (kq ≤ k) ∧ Aside0 (wc.heap[gb104]? = some (.cells #[.int .i64 a0_0, .int .i64 a0_1, .int .i64 a0_2, .int .i64 a0_3, (.slice A0_4 l0_4.length c0_4), (.slice A0_5 l0_5.length c0_5)] 39 (0, 0))) ∧ Aside0 (Below w.heap.size w wc))
    case first =>
      have H := HC4.out
      clear HC4
      by_cases c7 : a0_0 ≥ 2
      · rw [if_pos c7] at H
        have c7b0 : decide (2 ≤ a0_0) = true := decide_eq_true c7
        clear c7
        (first | rw [c7b0] | (simp only [i64_w, i32_w]; rw [c7b0]) | skip)
        have H' := Aside0.mk H
        clear H
        have hcz8_0 : w5.cell? ⟨gb104, 0, none⟩ = some (.int .i64 a0_0) := (blk_cell BK104.out 0).trans rfl
        have hcz8_1 : w5.cell? ⟨gb104, 1, none⟩ = some (.int .i64 a0_1) := (blk_cell BK104.out 1).trans rfl
        have hcz8_2 : w5.cell? ⟨gb104, 2, none⟩ = some (.int .i64 a0_2) := (blk_cell BK104.out 2).trans rfl
        have hcz8_3 : w5.cell? ⟨gb104, 3, none⟩ = some (.int .i64 a0_3) := (blk_cell BK104.out 3).trans rfl
        have hcz8_4 : w5.cell? ⟨gb104, 4, none⟩ = some (.slice A0_4 l0_4.length c0_4) := (blk_cell BK104.out 4).trans rfl
        have hcz8_5 : w5.cell? ⟨gb104, 5, none⟩ = some (.slice A0_5 l0_5.length c0_5) := (blk_cell BK104.out 5).trans rfl
        have hfz8_0 := blk_frozen BK104.out 0
        have hfz8_1 := blk_frozen BK104.out 1
        have hfz8_2 := blk_frozen BK104.out 2
        have hfz8_3 := blk_frozen BK104.out 3
        have hfz8_4 := blk_frozen BK104.out 4
        have hfz8_5 := blk_frozen BK104.out 5
        go_wp2
        go_meet
        case rel => exact ⟨_, (decide (a0_0 ≤ 7)), (by first | rfl | (simp; done) | (simp [*]; done)), H', ⟨by first | omega | exact Nat.le_refl _⟩, ⟨by (with_reducible repeat (first | refine blk_drewN ?_ _ | refine blk_drew ?_ | refine blk_alloc ?_ _)); exact BK104.out⟩, ⟨by repeat (first | (with_reducible first | exact HB.out | apply below_alloc | apply pw_below_drewN | apply below_drew1 | refine below_set ?_ GE104.out) | exact HB.out)⟩⟩
      · rw [if_neg c7] at H
        have c7b0 : decide (2 ≤ a0_0) = false := decide_eq_false c7
        clear c7
        (first | rw [c7b0] | (simp only [i64_w, i32_w]; rw [c7b0]) | skip)
        have H' := Aside0.mk H
        clear H
        have hcz9_0 : w5.cell? ⟨gb104, 0, none⟩ = some (.int .i64 a0_0) := (blk_cell BK104.out 0).trans rfl
        have hcz9_1 : w5.cell? ⟨gb104, 1, none⟩ = some (.int .i64 a0_1) := (blk_cell BK104.out 1).trans rfl
        have hcz9_2 : w5.cell? ⟨gb104, 2, none⟩ = some (.int .i64 a0_2) := (blk_cell BK104.out 2).trans rfl
        have hcz9_3 : w5.cell? ⟨gb104, 3, none⟩ = some (.int .i64 a0_3) := (blk_cell BK104.out 3).trans rfl
        have hcz9_4 : w5.cell? ⟨gb104, 4, none⟩ = some (.slice A0_4 l0_4.length c0_4) := (blk_cell BK104.out 4).trans rfl
        have hcz9_5 : w5.cell? ⟨gb104, 5, none⟩ = some (.slice A0_5 l0_5.length c0_5) := (blk_cell BK104.out 5).trans rfl
        have hfz9_0 := blk_frozen BK104.out 0
        have hfz9_1 := blk_frozen BK104.out 1
        have hfz9_2 := blk_frozen BK104.out 2
        have hfz9_3 := blk_frozen BK104.out 3
        have hfz9_4 := blk_frozen BK104.out 4
        have hfz9_5 := blk_frozen BK104.out 5
        go_wp2
        go_meet
        case rel => exact ⟨_, (false), (by first | rfl | (simp; done) | (simp [*]; done)), H', ⟨by first | omega | exact Nat.le_refl _⟩, ⟨by (with_reducible repeat (first | refine blk_drewN ?_ _ | refine blk_drew ?_ | refine blk_alloc ?_ _)); exact BK104.out⟩, ⟨by repeat (first | (with_reducible first | exact HB.out | apply below_alloc | apply pw_below_drewN | apply below_drew1 | refine below_set ?_ GE104.out) | exact HB.out)⟩⟩
    case rest =>
      clear HC4
      try clear c1
      try clear p2
      try clear c3
      try clear c7
      try clear c7b0
      try clear hcz6_0
      try clear hcz6_1
      try clear hcz6_2
      try clear hcz6_3
      try clear hcz6_4
      try clear hcz6_5
      try clear hcz8_0
      try clear hcz8_1
      try clear hcz8_2
      try clear hcz8_3
      try clear hcz8_4
      try clear hcz8_5
      try clear hcz9_0
      try clear hcz9_1
      try clear hcz9_2
      try clear hcz9_3
      try clear hcz9_4
      try clear hcz9_5
      try clear hfz6_0
      try clear hfz6_1
      try clear hfz6_2
      try clear hfz6_3
      try clear hfz6_4
      try clear hfz6_5
      try clear hfz8_0
      try clear hfz8_1
      try clear hfz8_2
      try clear hfz8_3
      try clear hfz8_4
      try clear hfz8_5
      try clear hfz9_0
      try clear hfz9_1
      try clear hfz9_2
      try clear hfz9_3
      try clear hfz9_4
      try clear hfz9_5
      obtain ⟨kq, x3_3, rfl, HA, HJ3, BK104, HB⟩ := hcut
      cases kq with
      | zero => exact absurd HA.out (by simp [spec_StepFault.j0])
      | succ kj3 =>
        have H := HA.out
        clear HA
        simp only [spec_StepFault.j0] at H
        have HC10 := Aside0.mk H
        clear H
        go_upto_region 4 with (fail)
        go_cut [4] (fun v4 wc => ∃ (kq : Nat) (x4_9 : Bool), v4 = .bool x4_9 ∧ Aside0 (spec_StepFault.j1 kq x3_3 x4_9 a0_0 a0_1 a0_2 a0_3 l0_4 l0_5 = some r) ∧ Aside0 (kq ≤ kj3) ∧ Aside0 (wc.heap[gb104]? = some (.cells #[.int .i64 a0_0, .int .i64 a0_1, .int .i64 a0_2, .int .i64 a0_3, (.slice A0_4 l0_4.length c0_4), (.slice A0_5 l0_5.length c0_5)] 39 (0, 0))) ∧ Aside0 (Below w.heap.size w wc))
        case first =>
          have H := HC10.out
          clear HC10
          by_cases c11 : a0_0 ≥ 3
          · rw [if_pos c11] at H
            have c11b0 : decide (3 ≤ a0_0) = true := decide_eq_true c11
            clear c11
            (first | rw [c11b0] | (simp only [i64_w, i32_w]; rw [c11b0]) | skip)
            have H' := Aside0.mk H
            clear H
            have hcz12_0 : wc.cell? ⟨gb104, 0, none⟩ = some (.int .i64 a0_0) := (blk_cell BK104.out 0).trans rfl
            have hcz12_1 : wc.cell? ⟨gb104, 1, none⟩ = some (.int .i64 a0_1) := (blk_cell BK104.out 1).trans rfl
            have hcz12_2 : wc.cell? ⟨gb104, 2, none⟩ = some (.int .i64 a0_2) := (blk_cell BK104.out 2).trans rfl
            have hcz12_3 : wc.cell? ⟨gb104, 3, none⟩ = some (.int .i64 a0_3) := (blk_cell BK104.out 3).trans rfl
            have hcz12_4 : wc.cell? ⟨gb104, 4, none⟩ = some (.slice A0_4 l0_4.length c0_4) := (blk_cell BK104.out 4).trans rfl
            have hcz12_5 : wc.cell? ⟨gb104, 5, none⟩ = some (.slice A0_5 l0_5.length c0_5) := (blk_cell BK104.out 5).trans rfl
            have hfz12_0 := blk_frozen BK104.out 0
            have hfz12_1 := blk_frozen BK104.out 1
            have hfz12_2 := blk_frozen BK104.out 2
            have hfz12_3 := blk_frozen BK104.out 3
            have hfz12_4 := blk_frozen BK104.out 4
            have hfz12_5 := blk_frozen BK104.out 5
            go_wp2
            go_meet
            case rel => exact ⟨_, (decide (a0_0 ≤ 5)), (by first | rfl | (simp; done) | (simp [*]; done)), H', ⟨by have := HJ3.out; first | omega | exact Nat.le_refl _⟩, ⟨by (with_reducible repeat (first | refine blk_drewN ?_ _ | refine blk_drew ?_ | refine blk_alloc ?_ _)); exact BK104.out⟩, ⟨by repeat (first | (with_reducible first | exact HB.out | apply below_alloc | apply pw_below_drewN | apply below_drew1 | refine below_set ?_ GE104.out) | exact HB.out)⟩⟩
          · rw [if_neg c11] at H
            have c11b0 : decide (3 ≤ a0_0) = false := decide_eq_false c11
            clear c11
            (first | rw [c11b0] | (simp only [i64_w, i32_w]; rw [c11b0]) | skip)
            have H' := Aside0.mk H
            clear H
            have hcz13_0 : wc.cell? ⟨gb104, 0, none⟩ = some (.int .i64 a0_0) := (blk_cell BK104.out 0).trans rfl
            have hcz13_1 : wc.cell? ⟨gb104, 1, none⟩ = some (.int .i64 a0_1) := (blk_cell BK104.out 1).trans rfl
            have hcz13_2 : wc.cell? ⟨gb104, 2, none⟩ = some (.int .i64 a0_2) := (blk_cell BK104.out 2).trans rfl
            have hcz13_3 : wc.cell? ⟨gb104, 3, none⟩ = some (.int .i64 a0_3) := (blk_cell BK104.out 3).trans rfl
            have hcz13_4 : wc.cell? ⟨gb104, 4, none⟩ = some (.slice A0_4 l0_4.length c0_4) := (blk_cell BK104.out 4).trans rfl
            have hcz13_5 : wc.cell? ⟨gb104, 5, none⟩ = some (.slice A0_5 l0_5.length c0_5) := (blk_cell BK104.out 5).trans rfl
            have hfz13_0 := blk_frozen BK104.out 0
            have hfz13_1 := blk_frozen BK104.out 1
            have hfz13_2 := blk_frozen BK104.out 2
            have hfz13_3 := blk_frozen BK104.out 3
            have hfz13_4 := blk_frozen BK104.out 4
            have hfz13_5 := blk_frozen BK104.out 5
            go_wp2
            go_meet
            case rel => exact ⟨_, (false), (by first | rfl | (simp; done) | (simp [*]; done)), H', ⟨by have := HJ3.out; first | omega | exact Nat.le_refl _⟩, ⟨by (with_reducible repeat (first | refine blk_drewN ?_ _ | refine blk_drew ?_ | refine blk_alloc ?_ _)); exact BK104.out⟩, ⟨by repeat (first | (with_reducible first | exact HB.out | apply below_alloc | apply pw_below_drewN | apply below_drew1 | refine below_set ?_ GE104.out) | exact HB.out)⟩⟩
        case rest =>
          clear HC10
          try clear c1
          try clear p2
          try clear c3
          try clear c7
          try clear c7b0
          try clear c11
          try clear c11b0
          try clear hcz12_0
          try clear hcz12_1
          try clear hcz12_2
          try clear hcz12_3
          try clear hcz12_4
          try clear hcz12_5
          try clear hcz13_0
          try clear hcz13_1
          try clear hcz13_2
          try clear hcz13_3
          try clear hcz13_4
          try clear hcz13_5
          try clear hcz6_0
          try clear hcz6_1
          try clear hcz6_2
          try clear hcz6_3
          try clear hcz6_4
          try clear hcz6_5
          try clear hcz8_0
          try clear hcz8_1
          try clear hcz8_2
          try clear hcz8_3
          try clear hcz8_4
          try clear hcz8_5
          try clear hcz9_0
          try clear hcz9_1
          try clear hcz9_2
          try clear hcz9_3
          try clear hcz9_4
          try clear hcz9_5
          try clear hfz12_0
          try clear hfz12_1
          try clear hfz12_2
          try clear hfz12_3
          try clear hfz12_4
          try clear hfz12_5
          try clear hfz13_0
          try clear hfz13_1
          try clear hfz13_2
          try clear hfz13_3
          try clear hfz13_4
          try clear hfz13_5
          try clear hfz6_0
          try clear hfz6_1
          try clear hfz6_2
          try clear hfz6_3
          try clear hfz6_4
          try clear hfz6_5
          try clear hfz8_0
          try clear hfz8_1
          try clear hfz8_2
          try clear hfz8_3
          try clear hfz8_4
          try clear hfz8_5
          try clear hfz9_0
          try clear hfz9_1
          try clear hfz9_2
          try clear hfz9_3
          try clear hfz9_4
          try clear hfz9_5
          try clear p2
          obtain ⟨kq, x4_9, rfl, HA, HJ9, BK104, HB⟩ := hcut
          cases kq with
          | zero => exact absurd HA.out (by simp [spec_StepFault.j1])
          | succ kj9 =>
            have H := HA.out
            clear HA
            simp only [spec_StepFault.j1] at H
            have HC14 := Aside0.mk H
            clear H
            go_upto_region 5 with (fail)
            go_cut [5] (fun v5 wc => ∃ (kq : Nat) (x5_13 : Bool), v5 = .bool x5_13 ∧ Aside0 (spec_StepFault.j2 kq x3_3 x4_9 x5_13 a0_0 a0_1 a0_2 a0_3 l0_4 l0_5 = some r) ∧ Aside0 (kq ≤ kj9) ∧ Aside0 (wc.heap[gb104]? = some (.cells #[.int .i64 a0_0, .int .i64 a0_1, .int .i64 a0_2, .int .i64 a0_3, (.slice A0_4 l0_4.length c0_4), (.slice A0_5 l0_5.length c0_5)] 39 (0, 0))) ∧ Aside0 (Below w.heap.size w wc))
            case first =>
              have H := HC14.out
              clear HC14
              by_cases c15 : a0_0 = 2
              · rw [if_pos c15] at H
                have c15b0 : (a0_0 == 2) = true := beq_iff_eq.mpr c15
                have c15b1 : (a0_0 != 2) = false := bne_eq_false_iff_eq.mpr c15
                clear c15
                (first | rw [c15b0] | (simp only [i64_w, i32_w]; rw [c15b0]) | skip)
                have H' := Aside0.mk H
                clear H
                have hcz16_0 : wc.cell? ⟨gb104, 0, none⟩ = some (.int .i64 a0_0) := (blk_cell BK104.out 0).trans rfl
                have hcz16_1 : wc.cell? ⟨gb104, 1, none⟩ = some (.int .i64 a0_1) := (blk_cell BK104.out 1).trans rfl
                have hcz16_2 : wc.cell? ⟨gb104, 2, none⟩ = some (.int .i64 a0_2) := (blk_cell BK104.out 2).trans rfl
                have hcz16_3 : wc.cell? ⟨gb104, 3, none⟩ = some (.int .i64 a0_3) := (blk_cell BK104.out 3).trans rfl
                have hcz16_4 : wc.cell? ⟨gb104, 4, none⟩ = some (.slice A0_4 l0_4.length c0_4) := (blk_cell BK104.out 4).trans rfl
                have hcz16_5 : wc.cell? ⟨gb104, 5, none⟩ = some (.slice A0_5 l0_5.length c0_5) := (blk_cell BK104.out 5).trans rfl
                have hfz16_0 := blk_frozen BK104.out 0
                have hfz16_1 := blk_frozen BK104.out 1
                have hfz16_2 := blk_frozen BK104.out 2
                have hfz16_3 := blk_frozen BK104.out 3
                have hfz16_4 := blk_frozen BK104.out 4
                have hfz16_5 := blk_frozen BK104.out 5
                go_wp2
                go_meet
                case rel => exact ⟨_, (true), (by first | rfl | (simp; done) | (simp [*]; done)), H', ⟨by have := HJ3.out; have := HJ9.out; first | omega | exact Nat.le_refl _⟩, ⟨by (with_reducible repeat (first | refine blk_drewN ?_ _ | refine blk_drew ?_ | refine blk_alloc ?_ _)); exact BK104.out⟩, ⟨by repeat (first | (with_reducible first | exact HB.out | apply below_alloc | apply pw_below_drewN | apply below_drew1 | refine below_set ?_ GE104.out) | exact HB.out)⟩⟩
              · rw [if_neg c15] at H
                have c15b0 : (a0_0 == 2) = false := beq_eq_false_iff_ne.mpr c15
                have c15b1 : (a0_0 != 2) = true := bne_iff_ne.mpr c15
                (first | rw [c15b0] | (simp only [i64_w, i32_w]; rw [c15b0]) | skip)
                have H' := Aside0.mk H
                clear H
                have hcz17_0 : wc.cell? ⟨gb104, 0, none⟩ = some (.int .i64 a0_0) := (blk_cell BK104.out 0).trans rfl
                have hcz17_1 : wc.cell? ⟨gb104, 1, none⟩ = some (.int .i64 a0_1) := (blk_cell BK104.out 1).trans rfl
                have hcz17_2 : wc.cell? ⟨gb104, 2, none⟩ = some (.int .i64 a0_2) := (blk_cell BK104.out 2).trans rfl
                have hcz17_3 : wc.cell? ⟨gb104, 3, none⟩ = some (.int .i64 a0_3) := (blk_cell BK104.out 3).trans rfl
                have hcz17_4 : wc.cell? ⟨gb104, 4, none⟩ = some (.slice A0_4 l0_4.length c0_4) := (blk_cell BK104.out 4).trans rfl
                have hcz17_5 : wc.cell? ⟨gb104, 5, none⟩ = some (.slice A0_5 l0_5.length c0_5) := (blk_cell BK104.out 5).trans rfl
                have hfz17_0 := blk_frozen BK104.out 0
                have hfz17_1 := blk_frozen BK104.out 1
                have hfz17_2 := blk_frozen BK104.out 2
                have hfz17_3 := blk_frozen BK104.out 3
                have hfz17_4 := blk_frozen BK104.out 4
                have hfz17_5 := blk_frozen BK104.out 5
                go_wp2
                go_meet
                case rel => exact ⟨_, ((a0_0 == 3)), (by first | rfl | (simp; done) | (simp [*]; done)), H', ⟨by have := HJ3.out; have := HJ9.out; first | omega | exact Nat.le_refl _⟩, ⟨by (with_reducible repeat (first | refine blk_drewN ?_ _ | refine blk_drew ?_ | refine blk_alloc ?_ _)); exact BK104.out⟩, ⟨by repeat (first | (with_reducible first | exact HB.out | apply below_alloc | apply pw_below_drewN | apply below_drew1 | refine below_set ?_ GE104.out) | exact HB.out)⟩⟩
            case rest =>
              clear HC14
              try clear c1
              try clear p2
              try clear c3
              try clear c7
              try clear c7b0
              try clear c11
              try clear c11b0
              try clear c15
              try clear c15b0
              try clear c15b1
              try clear hcz12_0
              try clear hcz12_1
              try clear hcz12_2
              try clear hcz12_3
              try clear hcz12_4
              try clear hcz12_5
              try clear hcz13_0
              try clear hcz13_1
              try clear hcz13_2
              try clear hcz13_3
              try clear hcz13_4
              try clear hcz13_5
              try clear hcz16_0
              try clear hcz16_1
              try clear hcz16_2
              try clear hcz16_3
              try clear hcz16_4
              try clear hcz16_5
              try clear hcz17_0
              try clear hcz17_1
              try clear hcz17_2
              try clear hcz17_3
              try clear hcz17_4
              try clear hcz17_5
              try clear hcz6_0
              try clear hcz6_1
              try clear hcz6_2
              try clear hcz6_3
              try clear hcz6_4
              try clear hcz6_5
              try clear hcz8_0
              try clear hcz8_1
              try clear hcz8_2
              try clear hcz8_3
              try clear hcz8_4
              try clear hcz8_5
              try clear hcz9_0
              try clear hcz9_1
              try clear hcz9_2
              try clear hcz9_3
              try clear hcz9_4
              try clear hcz9_5
              try clear hfz12_0
              try clear hfz12_1
              try clear hfz12_2
              try clear hfz12_3
              try clear hfz12_4
              try clear hfz12_5
              try clear hfz13_0
              try clear hfz13_1
              try clear hfz13_2
              try clear hfz13_3
              try clear hfz13_4
              try clear hfz13_5
              try clear hfz16_0
              try clear hfz16_1
              try clear hfz16_2
              try clear hfz16_3
              try clear hfz16_4
              try clear hfz16_5
              try clear hfz17_0
              try clear hfz17_1
              try clear hfz17_2
              try clear hfz17_3
              try clear hfz17_4
              try clear hfz17_5
              try clear hfz6_0
              try clear hfz6_1
              try clear hfz6_2
              try clear hfz6_3
              try clear hfz6_4
              try clear hfz6_5
              try clear hfz8_0
              try clear hfz8_1
              try clear hfz8_2
              try clear hfz8_3
              try clear hfz8_4
              try clear hfz8_5
              try clear hfz9_0
              try clear hfz9_1
              try clear hfz9_2
              try clear hfz9_3
              try clear hfz9_4
              try clear hfz9_5
              try clear p2
              obtain ⟨kq, x5_13, rfl, HA, HJ13, BK104, HB⟩ := hcut
              cases kq with
              | zero => exact absurd HA.out (by simp [spec_StepFault.j2])
              | succ kj13 =>
                have H := HA.out
                clear HA
                simp only [spec_StepFault.j2] at H
                have HC18 := Aside0.mk H
                clear H
                go_upto_region 6 with (fail)
                go_cut [80] (fun v80 wc => ∃ (kq : Nat) (x80_17 : Bool), v80 = .bool x80_17 ∧ Aside0 (spec_StepFault.j3 kq x80_17 a0_0 a0_1 a0_2 a0_3 l0_4 l0_5 = some r) ∧ Aside0 (kq ≤ kj13) ∧ Aside0 (wc.heap[gb104]? = some (.cells #[.int .i64 a0_0, .int .i64 a0_1, .int .i64 a0_2, .int .i64 a0_3, (.slice A0_4 l0_4.length c0_4), (.slice A0_5 l0_5.length c0_5)] 39 (0, 0))) ∧ Aside0 (Below w.heap.size w wc))
                case first =>
                  have H := HC18.out
                  clear HC18
                  by_cases c19 : x3_3 = true
                  · subst c19
                    have H1 : (if x4_9 = true then (if x5_13 = true then (if a0_0 = 10 then (if a0_0 = 11 then (spec_StepFault.j3 kj13 false a0_0 a0_1 a0_2 a0_3 l0_4 l0_5) else (spec_StepFault.j3 kj13 (a0_3 != 0) a0_0 a0_1 a0_2 a0_3 l0_4 l0_5)) else (if (l0_5.length : Int) > 0 then (spec_StepFault.j3 kj13 true a0_0 a0_1 a0_2 a0_3 l0_4 l0_5) else (if a0_0 = 11 then (spec_StepFault.j3 kj13 false a0_0 a0_1 a0_2 a0_3 l0_4 l0_5) else (spec_StepFault.j3 kj13 (a0_3 != 0) a0_0 a0_1 a0_2 a0_3 l0_4 l0_5)))) else (if (l0_4.length : Int) > 0 then (spec_StepFault.j3 kj13 true a0_0 a0_1 a0_2 a0_3 l0_4 l0_5) else (if a0_0 = 10 then (if a0_0 = 11 then (spec_StepFault.j3 kj13 false a0_0 a0_1 a0_2 a0_3 l0_4 l0_5) else (spec_StepFault.j3 kj13 (a0_3 != 0) a0_0 a0_1 a0_2 a0_3 l0_4 l0_5)) else (if (l0_5.length : Int) > 0 then (spec_StepFault.j3 kj13 true a0_0 a0_1 a0_2 a0_3 l0_4 l0_5) else (if a0_0 = 11 then (spec_StepFault.j3 kj13 false a0_0 a0_1 a0_2 a0_3 l0_4 l0_5) else (spec_StepFault.j3 kj13 (a0_3 != 0) a0_0 a0_1 a0_2 a0_3 l0_4 l0_5)))))) else (if a0_2 = 0 then (if x5_13 = true then (if a0_0 = 10 then (if a0_0 = 11 then (spec_StepFault.j3 kj13 false a0_0 a0_1 a0_2 a0_3 l0_4 l0_5) else (spec_StepFault.j3 kj13 (a0_3 != 0) a0_0 a0_1 a0_2 a0_3 l0_4 l0_5)) else (if (l0_5.length : Int) > 0 then (spec_StepFault.j3 kj13 true a0_0 a0_1 a0_2 a0_3 l0_4 l0_5) else (if a0_0 = 11 then (spec_StepFault.j3 kj13 false a0_0 a0_1 a0_2 a0_3 l0_4 l0_5) else (spec_StepFault.j3 kj13 (a0_3 != 0) a0_0 a0_1 a0_2 a0_3 l0_4 l0_5)))) else (if (l0_4.length : Int) > 0 then (spec_StepFault.j3 kj13 true a0_0 a0_1 a0_2 a0_3 l0_4 l0_5) else (if a0_0 = 10 then (if a0_0 = 11 then (spec_StepFault.j3 kj13 false a0_0 a0_1 a0_2 a0_3 l0_4 l0_5) else (spec_StepFault.j3 kj13 (a0_3 != 0) a0_0 a0_1 a0_2 a0_3 l0_4 l0_5)) else (if (l0_5.length : Int) > 0 then (spec_StepFault.j3 kj13 true a0_0 a0_1 a0_2 a0_3 l0_4 l0_5) else (if a0_0 = 11 then (spec_StepFault.j3 kj13 false a0_0 a0_1 a0_2 a0_3 l0_4 l0_5) else (spec_StepFault.j3 kj13 (a0_3 != 0) a0_0 a0_1 a0_2 a0_3 l0_4 l0_5)))))) else (spec_StepFault.j3 kj13 true a0_0 a0_1 a0_2 a0_3 l0_4 l0_5))) = some r := by rw [if_pos rfl] at H; exact H
                    clear H
                    have H := H1
                    clear H1
                    by_cases c20 : x4_9 = true
                    · subst c20
                      have H1 : (if x5_13 = true then (if a0_0 = 10 then (if a0_0 = 11 then (spec_StepFault.j3 kj13 false a0_0 a0_1 a0_2 a0_3 l0_4 l0_5) else (spec_StepFault.j3 kj13 (a0_3 != 0) a0_0 a0_1 a0_2 a0_3 l0_4 l0_5)) else (if (l0_5.length : Int) > 0 then (spec_StepFault.j3 kj13 true a0_0 a0_1 a0_2 a0_3 l0_4 l0_5) else (if a0_0 = 11 then (spec_StepFault.j3 kj13 false a0_0 a0_1 a0_2 a0_3 l0_4 l0_5) else (spec_StepFault.j3 kj13 (a0_3 != 0) a0_0 a0_1 a0_2 a0_3 l0_4 l0_5)))) else (if (l0_4.length : Int) > 0 then (spec_StepFault.j3 kj13 true a0_0 a0_1 a0_2 a0_3 l0_4 l0_5) else (if a0_0 = 10 then (if a0_0 = 11 then (spec_StepFault.j3 kj13 false a0_0 a0_1 a0_2 a0_3 l0_4 l0_5) else (spec_StepFault.j3 kj13 (a0_3 != 0) a0_0 a0_1 a0_2 a0_3 l0_4 l0_5)) else (if (l0_5.length : Int) > 0 then (spec_StepFault.j3 kj13 true a0_0 a0_1 a0_2 a0_3 l0_4 l0_5) else (if a0_0 = 11 then (spec_StepFault.j3 kj13 false a0_0 a0_1 a0_2 a0_3 l0_4 l0_5) else (spec_StepFault.j3 kj13 (a0_3 != 0) a0_0 a0_1 a0_2 a0_3 l0_4 l0_5)))))) = some r := by rw [if_pos rfl] at H; exact H
                      clear H
                      have H := H1
                      clear H1
                      by_cases c21 : x5_13 = true
                      · subst c21
                        have H1 : (if a0_0 = 10 then (if a0_0 = 11 then (spec_StepFault.j3 kj13 false a0_0 a0_1 a0_2 a0_3 l0_4 l0_5) else (spec_StepFault.j3 kj13 (a0_3 != 0) a0_0 a0_1 a0_2 a0_3 l0_4 l0_5)) else (if (l0_5.length : Int) > 0 then (spec_StepFault.j3 kj13 true a0_0 a0_1 a0_2 a0_3 l0_4 l0_5) else (if a0_0 = 11 then (spec_StepFault.j3 kj13 false a0_0 a0_1 a0_2 a0_3 l0_4 l0_5) else (spec_StepFault.j3 kj13 (a0_3 != 0) a0_0 a0_1 a0_2 a0_3 l0_4 l0_5)))) = some r := by rw [if_pos rfl] at H; exact H
                        clear H
                        have H := H1
                        clear H1
                        by_cases c22 : a0_0 = 10
                        · rw [if_pos c22] at H
                          have c22b0 : (a0_0 == 10) = true := beq_iff_eq.mpr c22
                          have c22b1 : (a0_0 != 10) = false := bne_eq_false_iff_eq.mpr c22
                          clear c22
                          (first | rw [c22b0] | (simp only [i64_w, i32_w]; rw [c22b0]) | skip)
                          by_cases c23 : a0_0 = 11
                          · rw [if_pos c23] at H
                            have c23b0 : (a0_0 == 11) = true := beq_iff_eq.mpr c23
                            have c23b1 : (a0_0 != 11) = false := bne_eq_false_iff_eq.mpr c23
                            clear c23
                            have H' := Aside0.mk H
                            clear H
                            have hcz24_0 : wc.cell? ⟨gb104, 0, none⟩ = some (.int .i64 a0_0) := (blk_cell BK104.out 0).trans rfl
                            have hcz24_1 : wc.cell? ⟨gb104, 1, none⟩ = some (.int .i64 a0_1) := (blk_cell BK104.out 1).trans rfl
                            have hcz24_2 : wc.cell? ⟨gb104, 2, none⟩ = some (.int .i64 a0_2) := (blk_cell BK104.out 2).trans rfl
                            have hcz24_3 : wc.cell? ⟨gb104, 3, none⟩ = some (.int .i64 a0_3) := (blk_cell BK104.out 3).trans rfl
                            have hcz24_4 : wc.cell? ⟨gb104, 4, none⟩ = some (.slice A0_4 l0_4.length c0_4) := (blk_cell BK104.out 4).trans rfl
                            have hcz24_5 : wc.cell? ⟨gb104, 5, none⟩ = some (.slice A0_5 l0_5.length c0_5) := (blk_cell BK104.out 5).trans rfl
                            have hfz24_0 := blk_frozen BK104.out 0
                            have hfz24_1 := blk_frozen BK104.out 1
                            have hfz24_2 := blk_frozen BK104.out 2
                            have hfz24_3 := blk_frozen BK104.out 3
                            have hfz24_4 := blk_frozen BK104.out 4
                            have hfz24_5 := blk_frozen BK104.out 5
                            go_wp2
                            go_meet
                            case rel => exact ⟨_, (false), (by first | rfl | (simp; done) | (simp [*]; done)), H', ⟨by have := HJ3.out; have := HJ9.out; have := HJ13.out; first | omega | exact Nat.le_refl _⟩, ⟨by (with_reducible repeat (first | refine blk_drewN ?_ _ | refine blk_drew ?_ | refine blk_alloc ?_ _)); exact BK104.out⟩, ⟨by repeat (first | (with_reducible first | exact HB.out | apply below_alloc | apply pw_below_drewN | apply below_drew1 | refine below_set ?_ GE104.out) | exact HB.out)⟩⟩
                          · rw [if_neg c23] at H
                            have c23b0 : (a0_0 == 11) = false := beq_eq_false_iff_ne.mpr c23
                            have c23b1 : (a0_0 != 11) = true := bne_iff_ne.mpr c23
                            have H' := Aside0.mk H
                            clear H
                            have hcz25_0 : wc.cell? ⟨gb104, 0, none⟩ = some (.int .i64 a0_0) := (blk_cell BK104.out 0).trans rfl
                            have hcz25_1 : wc.cell? ⟨gb104, 1, none⟩ = some (.int .i64 a0_1) := (blk_cell BK104.out 1).trans rfl
                            have hcz25_2 : wc.cell? ⟨gb104, 2, none⟩ = some (.int .i64 a0_2) := (blk_cell BK104.out 2).trans rfl
                            have hcz25_3 : wc.cell? ⟨gb104, 3, none⟩ = some (.int .i64 a0_3) := (blk_cell BK104.out 3).trans rfl
                            have hcz25_4 : wc.cell? ⟨gb104, 4, none⟩ = some (.slice A0_4 l0_4.length c0_4) := (blk_cell BK104.out 4).trans rfl
                            have hcz25_5 : wc.cell? ⟨gb104, 5, none⟩ = some (.slice A0_5 l0_5.length c0_5) := (blk_cell BK104.out 5).trans rfl
                            have hfz25_0 := blk_frozen BK104.out 0
                            have hfz25_1 := blk_frozen BK104.out 1
                            have hfz25_2 := blk_frozen BK104.out 2
                            have hfz25_3 := blk_frozen BK104.out 3
                            have hfz25_4 := blk_frozen BK104.out 4
                            have hfz25_5 := blk_frozen BK104.out 5
                            go_wp2
                            go_meet
                            case rel => exact ⟨_, ((a0_3 != 0)), (by first | rfl | (simp; done) | (simp [*]; done)), H', ⟨by have := HJ3.out; have := HJ9.out; have := HJ13.out; first | omega | exact Nat.le_refl _⟩, ⟨by (with_reducible repeat (first | refine blk_drewN ?_ _ | refine blk_drew ?_ | refine blk_alloc ?_ _)); exact BK104.out⟩, ⟨by repeat (first | (with_reducible first | exact HB.out | apply below_alloc | apply pw_below_drewN | apply below_drew1 | refine below_set ?_ GE104.out) | exact HB.out)⟩⟩
                        · rw [if_neg c22] at H
                          have c22b0 : (a0_0 == 10) = false := beq_eq_false_iff_ne.mpr c22
                          have c22b1 : (a0_0 != 10) = true := bne_iff_ne.mpr c22
                          (first | rw [c22b0] | (simp only [i64_w, i32_w]; rw [c22b0]) | skip)
                          by_cases c26 : (l0_5.length : Int) > 0
                          · rw [if_pos c26] at H
                            have c26b0 : decide (0 < (l0_5.length : Int)) = true := decide_eq_true c26
                            have c26b1 : decide (0 < l0_5.length) = true := decide_eq_true (by omega)
                            clear c26
                            have H' := Aside0.mk H
                            clear H
                            have hcz27_0 : wc.cell? ⟨gb104, 0, none⟩ = some (.int .i64 a0_0) := (blk_cell BK104.out 0).trans rfl
                            have hcz27_1 : wc.cell? ⟨gb104, 1, none⟩ = some (.int .i64 a0_1) := (blk_cell BK104.out 1).trans rfl
                            have hcz27_2 : wc.cell? ⟨gb104, 2, none⟩ = some (.int .i64 a0_2) := (blk_cell BK104.out 2).trans rfl
                            have hcz27_3 : wc.cell? ⟨gb104, 3, none⟩ = some (.int .i64 a0_3) := (blk_cell BK104.out 3).trans rfl
                            have hcz27_4 : wc.cell? ⟨gb104, 4, none⟩ = some (.slice A0_4 l0_4.length c0_4) := (blk_cell BK104.out 4).trans rfl
                            have hcz27_5 : wc.cell? ⟨gb104, 5, none⟩ = some (.slice A0_5 l0_5.length c0_5) := (blk_cell BK104.out 5).trans rfl
                            have hfz27_0 := blk_frozen BK104.out 0
                            have hfz27_1 := blk_frozen BK104.out 1
                            have hfz27_2 := blk_frozen BK104.out 2
                            have hfz27_3 := blk_frozen BK104.out 3
                            have hfz27_4 := blk_frozen BK104.out 4
                            have hfz27_5 := blk_frozen BK104.out 5
                            go_wp2
                            go_meet
                            case rel => exact ⟨_, (true), (by first | rfl | (simp; done) | (simp [*]; done)), H', ⟨by have := HJ3.out; have := HJ9.out; have := HJ13.out; first | omega | exact Nat.le_refl _⟩, ⟨by (with_reducible repeat (first | refine blk_drewN ?_ _ | refine blk_drew ?_ | refine blk_alloc ?_ _)); exact BK104.out⟩, ⟨by repeat (first | (with_reducible first | exact HB.out | apply below_alloc | apply pw_below_drewN | apply below_drew1 | refine below_set ?_ GE104.out) | exact HB.out)⟩⟩
                          · rw [if_neg c26] at H
                            have c26b0 : decide (0 < (l0_5.length : Int)) = false := decide_eq_false c26
                            have c26b1 : decide (0 < l0_5.length) = false := decide_eq_false (by omega)
                            clear c26
                            by_cases c28 : a0_0 = 11
                            · rw [if_pos c28] at H
                              have c28b0 : (a0_0 == 11) = true := beq_iff_eq.mpr c28
                              have c28b1 : (a0_0 != 11) = false := bne_eq_false_iff_eq.mpr c28
                              clear c28
                              have H' := Aside0.mk H
                              clear H
                              have hcz29_0 : wc.cell? ⟨gb104, 0, none⟩ = some (.int .i64 a0_0) := (blk_cell BK104.out 0).trans rfl
                              have hcz29_1 : wc.cell? ⟨gb104, 1, none⟩ = some (.int .i64 a0_1) := (blk_cell BK104.out 1).trans rfl
                              have hcz29_2 : wc.cell? ⟨gb104, 2, none⟩ = some (.int .i64 a0_2) := (blk_cell BK104.out 2).trans rfl
                              have hcz29_3 : wc.cell? ⟨gb104, 3, none⟩ = some (.int .i64 a0_3) := (blk_cell BK104.out 3).trans rfl
                              have hcz29_4 : wc.cell? ⟨gb104, 4, none⟩ = some (.slice A0_4 l0_4.length c0_4) := (blk_cell BK104.out 4).trans rfl
                              have hcz29_5 : wc.cell? ⟨gb104, 5, none⟩ = some (.slice A0_5 l0_5.length c0_5) := (blk_cell BK104.out 5).trans rfl
                              have hfz29_0 := blk_frozen BK104.out 0
                              have hfz29_1 := blk_frozen BK104.out 1
                              have hfz29_2 := blk_frozen BK104.out 2
                              have hfz29_3 := blk_frozen BK104.out 3
                              have hfz29_4 := blk_frozen BK104.out 4
                              have hfz29_5 := blk_frozen BK104.out 5
                              go_wp2
                              go_meet
                              case rel => exact ⟨_, (false), (by first | rfl | (simp; done) | (simp [*]; done)), H', ⟨by have := HJ3.out; have := HJ9.out; have := HJ13.out; first | omega | exact Nat.le_refl _⟩, ⟨by (with_reducible repeat (first | refine blk_drewN ?_ _ | refine blk_drew ?_ | refine blk_alloc ?_ _)); exact BK104.out⟩, ⟨by repeat (first | (with_reducible first | exact HB.out | apply below_alloc | apply pw_below_drewN | apply below_drew1 | refine below_set ?_ GE104.out) | exact HB.out)⟩⟩
                            · rw [if_neg c28] at H
                              have c28b0 : (a0_0 == 11) = false := beq_eq_false_iff_ne.mpr c28
                              have c28b1 : (a0_0 != 11) = true := bne_iff_ne.mpr c28
                              have H' := Aside0.mk H
                              clear H
                              have hcz30_0 : wc.cell? ⟨gb104, 0, none⟩ = some (.int .i64 a0_0) := (blk_cell BK104.out 0).trans rfl
                              have hcz30_1 : wc.cell? ⟨gb104, 1, none⟩ = some (.int .i64 a0_1) := (blk_cell BK104.out 1).trans rfl
                              have hcz30_2 : wc.cell? ⟨gb104, 2, none⟩ = some (.int .i64 a0_2) := (blk_cell BK104.out 2).trans rfl
                              have hcz30_3 : wc.cell? ⟨gb104, 3, none⟩ = some (.int .i64 a0_3) := (blk_cell BK104.out 3).trans rfl
                              have hcz30_4 : wc.cell? ⟨gb104, 4, none⟩ = some (.slice A0_4 l0_4.length c0_4) := (blk_cell BK104.out 4).trans rfl
                              have hcz30_5 : wc.cell? ⟨gb104, 5, none⟩ = some (.slice A0_5 l0_5.length c0_5) := (blk_cell BK104.out 5).trans rfl
                              have hfz30_0 := blk_frozen BK104.out 0
                              have hfz30_1 := blk_frozen BK104.out 1
                              have hfz30_2 := blk_frozen BK104.out 2
                              have hfz30_3 := blk_frozen BK104.out 3
                              have hfz30_4 := blk_frozen BK104.out 4
                              have hfz30_5 := blk_frozen BK104.out 5
                              go_wp2
                              go_meet
                              case rel => exact ⟨_, ((a0_3 != 0)), (by first | rfl | (simp; done) | (simp [*]; done)), H', ⟨by have := HJ3.out; have := HJ9.out; have := HJ13.out; first | omega | exact Nat.le_refl _⟩, ⟨by (with_reducible repeat (first | refine blk_drewN ?_ _ | refine blk_drew ?_ | refine blk_alloc ?_ _)); exact BK104.out⟩, ⟨by repeat (first | (with_reducible first | exact HB.out | apply below_alloc | apply pw_below_drewN | apply below_drew1 | refine below_set ?_ GE104.out) | exact HB.out)⟩⟩
                      · replace c21 := Bool.eq_false_iff.mpr c21
                        subst c21
                        have H1 : (if (l0_4.length : Int) > 0 then (spec_StepFault.j3 kj13 true a0_0 a0_1 a0_2 a0_3 l0_4 l0_5) else (if a0_0 = 10 then (if a0_0 = 11 then (spec_StepFault.j3 kj13 false a0_0 a0_1 a0_2 a0_3 l0_4 l0_5) else (spec_StepFault.j3 kj13 (a0_3 != 0) a0_0 a0_1 a0_2 a0_3 l0_4 l0_5)) else (if (l0_5.length : Int) > 0 then (spec_StepFault.j3 kj13 true a0_0 a0_1 a0_2 a0_3 l0_4 l0_5) else (if a0_0 = 11 then (spec_StepFault.j3 kj13 false a0_0 a0_1 a0_2 a0_3 l0_4 l0_5) else (spec_StepFault.j3 kj13 (a0_3 != 0) a0_0 a0_1 a0_2 a0_3 l0_4 l0_5))))) = some r := by rw [if_neg (show ¬ (false = true) by decide)] at H; exact H
                        clear H
                        have H := H1
                        clear H1
                        by_cases c31 : (l0_4.length : Int) > 0
                        · rw [if_pos c31] at H
                          have c31b0 : decide (0 < (l0_4.length : Int)) = true := decide_eq_true c31
                          have c31b1 : decide (0 < l0_4.length) = true := decide_eq_true (by omega)
                          clear c31
                          have H' := Aside0.mk H
                          clear H
                          have hcz32_0 : wc.cell? ⟨gb104, 0, none⟩ = some (.int .i64 a0_0) := (blk_cell BK104.out 0).trans rfl
                          have hcz32_1 : wc.cell? ⟨gb104, 1, none⟩ = some (.int .i64 a0_1) := (blk_cell BK104.out 1).trans rfl
                          have hcz32_2 : wc.cell? ⟨gb104, 2, none⟩ = some (.int .i64 a0_2) := (blk_cell BK104.out 2).trans rfl
                          have hcz32_3 : wc.cell? ⟨gb104, 3, none⟩ = some (.int .i64 a0_3) := (blk_cell BK104.out 3).trans rfl
                          have hcz32_4 : wc.cell? ⟨gb104, 4, none⟩ = some (.slice A0_4 l0_4.length c0_4) := (blk_cell BK104.out 4).trans rfl
                          have hcz32_5 : wc.cell? ⟨gb104, 5, none⟩ = some (.slice A0_5 l0_5.length c0_5) := (blk_cell BK104.out 5).trans rfl
                          have hfz32_0 := blk_frozen BK104.out 0
                          have hfz32_1 := blk_frozen BK104.out 1
                          have hfz32_2 := blk_frozen BK104.out 2
                          have hfz32_3 := blk_frozen BK104.out 3
                          have hfz32_4 := blk_frozen BK104.out 4
                          have hfz32_5 := blk_frozen BK104.out 5
                          go_wp2
                          go_meet
                          case rel => exact ⟨_, (true), (by first | rfl | (simp; done) | (simp [*]; done)), H', ⟨by have := HJ3.out; have := HJ9.out; have := HJ13.out; first | omega | exact Nat.le_refl _⟩, ⟨by (with_reducible repeat (first | refine blk_drewN ?_ _ | refine blk_drew ?_ | refine blk_alloc ?_ _)); exact BK104.out⟩, ⟨by repeat (first | (with_reducible first | exact HB.out | apply below_alloc | apply pw_below_drewN | apply below_drew1 | refine below_set ?_ GE104.out) | exact HB.out)⟩⟩
                        · rw [if_neg c31] at H
                          have c31b0 : decide (0 < (l0_4.length : Int)) = false := decide_eq_false c31
                          have c31b1 : decide (0 < l0_4.length) = false := decide_eq_false (by omega)
                          clear c31
                          by_cases c33 : a0_0 = 10
                          · rw [if_pos c33] at H
                            have c33b0 : (a0_0 == 10) = true := beq_iff_eq.mpr c33
                            have c33b1 : (a0_0 != 10) = false := bne_eq_false_iff_eq.mpr c33
                            clear c33
                            by_cases c34 : a0_0 = 11
                            · rw [if_pos c34] at H
                              have c34b0 : (a0_0 == 11) = true := beq_iff_eq.mpr c34
                              have c34b1 : (a0_0 != 11) = false := bne_eq_false_iff_eq.mpr c34
                              clear c34
                              have H' := Aside0.mk H
                              clear H
                              have hcz35_0 : wc.cell? ⟨gb104, 0, none⟩ = some (.int .i64 a0_0) := (blk_cell BK104.out 0).trans rfl
                              have hcz35_1 : wc.cell? ⟨gb104, 1, none⟩ = some (.int .i64 a0_1) := (blk_cell BK104.out 1).trans rfl
                              have hcz35_2 : wc.cell? ⟨gb104, 2, none⟩ = some (.int .i64 a0_2) := (blk_cell BK104.out 2).trans rfl
                              have hcz35_3 : wc.cell? ⟨gb104, 3, none⟩ = some (.int .i64 a0_3) := (blk_cell BK104.out 3).trans rfl
                              have hcz35_4 : wc.cell? ⟨gb104, 4, none⟩ = some (.slice A0_4 l0_4.length c0_4) := (blk_cell BK104.out 4).trans rfl
                              have hcz35_5 : wc.cell? ⟨gb104, 5, none⟩ = some (.slice A0_5 l0_5.length c0_5) := (blk_cell BK104.out 5).trans rfl
                              have hfz35_0 := blk_frozen BK104.out 0
                              have hfz35_1 := blk_frozen BK104.out 1
                              have hfz35_2 := blk_frozen BK104.out 2
                              have hfz35_3 := blk_frozen BK104.out 3
                              have hfz35_4 := blk_frozen BK104.out 4
                              have hfz35_5 := blk_frozen BK104.out 5
                              go_wp2
                              go_meet
                              case rel => exact ⟨_, (false), (by first | rfl | (simp; done) | (simp [*]; done)), H', ⟨by have := HJ3.out; have := HJ9.out; have := HJ13.out; first | omega | exact Nat.le_refl _⟩, ⟨by (with_reducible repeat (first | refine blk_drewN ?_ _ | refine blk_drew ?_ | refine blk_alloc ?_ _)); exact BK104.out⟩, ⟨by repeat (first | (with_reducible first | exact HB.out | apply below_alloc | apply pw_below_drewN | apply below_drew1 | refine below_set ?_ GE104.out) | exact HB.out)⟩⟩
                            · rw [if_neg c34] at H
                              have c34b0 : (a0_0 == 11) = false := beq_eq_false_iff_ne.mpr c34
                              have c34b1 : (a0_0 != 11) = true := bne_iff_ne.mpr c34
                              have H' := Aside0.mk H
                              clear H
                              have hcz36_0 : wc.cell? ⟨gb104, 0, none⟩ = some (.int .i64 a0_0) := (blk_cell BK104.out 0).trans rfl
                              have hcz36_1 : wc.cell? ⟨gb104, 1, none⟩ = some (.int .i64 a0_1) := (blk_cell BK104.out 1).trans rfl
                              have hcz36_2 : wc.cell? ⟨gb104, 2, none⟩ = some (.int .i64 a0_2) := (blk_cell BK104.out 2).trans rfl
                              have hcz36_3 : wc.cell? ⟨gb104, 3, none⟩ = some (.int .i64 a0_3) := (blk_cell BK104.out 3).trans rfl
                              have hcz36_4 : wc.cell? ⟨gb104, 4, none⟩ = some (.slice A0_4 l0_4.length c0_4) := (blk_cell BK104.out 4).trans rfl
                              have hcz36_5 : wc.cell? ⟨gb104, 5, none⟩ = some (.slice A0_5 l0_5.length c0_5) := (blk_cell BK104.out 5).trans rfl
                              have hfz36_0 := blk_frozen BK104.out 0
                              have hfz36_1 := blk_frozen BK104.out 1
                              have hfz36_2 := blk_frozen BK104.out 2
                              have hfz36_3 := blk_frozen BK104.out 3
                              have hfz36_4 := blk_frozen BK104.out 4
                              have hfz36_5 := blk_frozen BK104.out 5
                              go_wp2
                              go_meet
                              case rel => exact ⟨_, ((a0_3 != 0)), (by first | rfl | (simp; done) | (simp [*]; done)), H', ⟨by have := HJ3.out; have := HJ9.out; have := HJ13.out; first | omega | exact Nat.le_refl _⟩, ⟨by (with_reducible repeat (first | refine blk_drewN ?_ _ | refine blk_drew ?_ | refine blk_alloc ?_ _)); exact BK104.out⟩, ⟨by repeat (first | (with_reducible first | exact HB.out | apply below_alloc | apply pw_below_drewN | apply below_drew1 | refine below_set ?_ GE104.out) | exact HB.out)⟩⟩
                          · rw [if_neg c33] at H
                            have c33b0 : (a0_0 == 10) = false := beq_eq_false_iff_ne.mpr c33
                            have c33b1 : (a0_0 != 10) = true := bne_iff_ne.mpr c33
                            by_cases c37 : (l0_5.length : Int) > 0
                            · rw [if_pos c37] at H
                              have c37b0 : decide (0 < (l0_5.length : Int)) = true := decide_eq_true c37
                              have c37b1 : decide (0 < l0_5.length) = true := decide_eq_true (by omega)
                              clear c37
                              have H' := Aside0.mk H
                              clear H
                              have hcz38_0 : wc.cell? ⟨gb104, 0, none⟩ = some (.int .i64 a0_0) := (blk_cell BK104.out 0).trans rfl
                              have hcz38_1 : wc.cell? ⟨gb104, 1, none⟩ = some (.int .i64 a0_1) := (blk_cell BK104.out 1).trans rfl
                              have hcz38_2 : wc.cell? ⟨gb104, 2, none⟩ = some (.int .i64 a0_2) := (blk_cell BK104.out 2).trans rfl
                              have hcz38_3 : wc.cell? ⟨gb104, 3, none⟩ = some (.int .i64 a0_3) := (blk_cell BK104.out 3).trans rfl
                              have hcz38_4 : wc.cell? ⟨gb104, 4, none⟩ = some (.slice A0_4 l0_4.length c0_4) := (blk_cell BK104.out 4).trans rfl
                              have hcz38_5 : wc.cell? ⟨gb104, 5, none⟩ = some (.slice A0_5 l0_5.length c0_5) := (blk_cell BK104.out 5).trans rfl
                              have hfz38_0 := blk_frozen BK104.out 0
                              have hfz38_1 := blk_frozen BK104.out 1
                              have hfz38_2 := blk_frozen BK104.out 2
                              have hfz38_3 := blk_frozen BK104.out 3
                              have hfz38_4 := blk_frozen BK104.out 4
                              have hfz38_5 := blk_frozen BK104.out 5
                              go_wp2
                              go_meet
                              case rel => exact ⟨_, (true), (by first | rfl | (simp; done) | (simp [*]; done)), H', ⟨by have := HJ3.out; have := HJ9.out; have := HJ13.out; first | omega | exact Nat.le_refl _⟩, ⟨by (with_reducible repeat (first | refine blk_drewN ?_ _ | refine blk_drew ?_ | refine blk_alloc ?_ _)); exact BK104.out⟩, ⟨by repeat (first | (with_reducible first | exact HB.out | apply below_alloc | apply pw_below_drewN | apply below_drew1 | refine below_set ?_ GE104.out) | exact HB.out)⟩⟩
                            · rw [if_neg c37] at H
                              have c37b0 : decide (0 < (l0_5.length : Int)) = false := decide_eq_false c37
                              have c37b1 : decide (0 < l0_5.length) = false := decide_eq_false (by omega)
                              clear c37
                              by_cases c39 : a0_0 = 11
                              · rw [if_pos c39] at H
                                have c39b0 : (a0_0 == 11) = true := beq_iff_eq.mpr c39
                                have c39b1 : (a0_0 != 11) = false := bne_eq_false_iff_eq.mpr c39
                                clear c39
                                have H' := Aside0.mk H
                                clear H
                                have hcz40_0 : wc.cell? ⟨gb104, 0, none⟩ = some (.int .i64 a0_0) := (blk_cell BK104.out 0).trans rfl
                                have hcz40_1 : wc.cell? ⟨gb104, 1, none⟩ = some (.int .i64 a0_1) := (blk_cell BK104.out 1).trans rfl
                                have hcz40_2 : wc.cell? ⟨gb104, 2, none⟩ = some (.int .i64 a0_2) := (blk_cell BK104.out 2).trans rfl
                                have hcz40_3 : wc.cell? ⟨gb104, 3, none⟩ = some (.int .i64 a0_3) := (blk_cell BK104.out 3).trans rfl
                                have hcz40_4 : wc.cell? ⟨gb104, 4, none⟩ = some (.slice A0_4 l0_4.length c0_4) := (blk_cell BK104.out 4).trans rfl
                                have hcz40_5 : wc.cell? ⟨gb104, 5, none⟩ = some (.slice A0_5 l0_5.length c0_5) := (blk_cell BK104.out 5).trans rfl
                                have hfz40_0 := blk_frozen BK104.out 0
                                have hfz40_1 := blk_frozen BK104.out 1
                                have hfz40_2 := blk_frozen BK104.out 2
                                have hfz40_3 := blk_frozen BK104.out 3
                                have hfz40_4 := blk_frozen BK104.out 4
                                have hfz40_5 := blk_frozen BK104.out 5
                                go_wp2
                                go_meet
                                case rel => exact ⟨_, (false), (by first | rfl | (simp; done) | (simp [*]; done)), H', ⟨by have := HJ3.out; have := HJ9.out; have := HJ13.out; first | omega | exact Nat.le_refl _⟩, ⟨by (with_reducible repeat (first | refine blk_drewN ?_ _ | refine blk_drew ?_ | refine blk_alloc ?_ _)); exact BK104.out⟩, ⟨by repeat (first | (with_reducible first | exact HB.out | apply below_alloc | apply pw_below_drewN | apply below_drew1 | refine below_set ?_ GE104.out) | exact HB.out)⟩⟩
                              · rw [if_neg c39] at H
                                have c39b0 : (a0_0 == 11) = false := beq_eq_false_iff_ne.mpr c39
                                have c39b1 : (a0_0 != 11) = true := bne_iff_ne.mpr c39
                                have H' := Aside0.mk H
                                clear H
                                have hcz41_0 : wc.cell? ⟨gb104, 0, none⟩ = some (.int .i64 a0_0) := (blk_cell BK104.out 0).trans rfl
                                have hcz41_1 : wc.cell? ⟨gb104, 1, none⟩ = some (.int .i64 a0_1) := (blk_cell BK104.out 1).trans rfl
                                have hcz41_2 : wc.cell? ⟨gb104, 2, none⟩ = some (.int .i64 a0_2) := (blk_cell BK104.out 2).trans rfl
                                have hcz41_3 : wc.cell? ⟨gb104, 3, none⟩ = some (.int .i64 a0_3) := (blk_cell BK104.out 3).trans rfl
                                have hcz41_4 : wc.cell? ⟨gb104, 4, none⟩ = some (.slice A0_4 l0_4.length c0_4) := (blk_cell BK104.out 4).trans rfl
                                have hcz41_5 : wc.cell? ⟨gb104, 5, none⟩ = some (.slice A0_5 l0_5.length c0_5) := (blk_cell BK104.out 5).trans rfl
                                have hfz41_0 := blk_frozen BK104.out 0
                                have hfz41_1 := blk_frozen BK104.out 1
                                have hfz41_2 := blk_frozen BK104.out 2
                                have hfz41_3 := blk_frozen BK104.out 3
                                have hfz41_4 := blk_frozen BK104.out 4
                                have hfz41_5 := blk_frozen BK104.out 5
                                go_wp2
                                go_meet
                                case rel => exact ⟨_, ((a0_3 != 0)), (by first | rfl | (simp; done) | (simp [*]; done)), H', ⟨by have := HJ3.out; have := HJ9.out; have := HJ13.out; first | omega | exact Nat.le_refl _⟩, ⟨by (with_reducible repeat (first | refine blk_drewN ?_ _ | refine blk_drew ?_ | refine blk_alloc ?_ _)); exact BK104.out⟩, ⟨by repeat (first | (with_reducible first | exact HB.out | apply below_alloc | apply pw_below_drewN | apply below_drew1 | refine below_set ?_ GE104.out) | exact HB.out)⟩⟩
                    · replace c20 := Bool.eq_false_iff.mpr c20
                      subst c20
                      have H1 : (if a0_2 = 0 then (if x5_13 = true then (if a0_0 = 10 then (if a0_0 = 11 then (spec_StepFault.j3 kj13 false a0_0 a0_1 a0_2 a0_3 l0_4 l0_5) else (spec_StepFault.j3 kj13 (a0_3 != 0) a0_0 a0_1 a0_2 a0_3 l0_4 l0_5)) else (if (l0_5.length : Int) > 0 then (spec_StepFault.j3 kj13 true a0_0 a0_1 a0_2 a0_3 l0_4 l0_5) else (if a0_0 = 11 then (spec_StepFault.j3 kj13 false a0_0 a0_1 a0_2 a0_3 l0_4 l0_5) else (spec_StepFault.j3 kj13 (a0_3 != 0) a0_0 a0_1 a0_2 a0_3 l0_4 l0_5)))) else (if (l0_4.length : Int) > 0 then (spec_StepFault.j3 kj13 true a0_0 a0_1 a0_2 a0_3 l0_4 l0_5) else (if a0_0 = 10 then (if a0_0 = 11 then (spec_StepFault.j3 kj13 false a0_0 a0_1 a0_2 a0_3 l0_4 l0_5) else (spec_StepFault.j3 kj13 (a0_3 != 0) a0_0 a0_1 a0_2 a0_3 l0_4 l0_5)) else (if (l0_5.length : Int) > 0 then (spec_StepFault.j3 kj13 true a0_0 a0_1 a0_2 a0_3 l0_4 l0_5) else (if a0_0 = 11 then (spec_StepFault.j3 kj13 false a0_0 a0_1 a0_2 a0_3 l0_4 l0_5) else (spec_StepFault.j3 kj13 (a0_3 != 0) a0_0 a0_1 a0_2 a0_3 l0_4 l0_5)))))) else (spec_StepFault.j3 kj13 true a0_0 a0_1 a0_2 a0_3 l0_4 l0_5)) = some r := by rw [if_neg (show ¬ (false = true) by decide)] at H; exact H
                      clear H
                      have H := H1
                      clear H1
                      by_cases c42 : a0_2 = 0
                      · rw [if_pos c42] at H
                        have c42b0 : (a0_2 == 0) = true := beq_iff_eq.mpr c42
                        have c42b1 : (a0_2 != 0) = false := bne_eq_false_iff_eq.mpr c42
                        clear c42
                        by_cases c43 : x5_13 = true
                        · subst c43
                          have H1 : (if a0_0 = 10 then (if a0_0 = 11 then (spec_StepFault.j3 kj13 false a0_0 a0_1 a0_2 a0_3 l0_4 l0_5) else (spec_StepFault.j3 kj13 (a0_3 != 0) a0_0 a0_1 a0_2 a0_3 l0_4 l0_5)) else (if (l0_5.length : Int) > 0 then (spec_StepFault.j3 kj13 true a0_0 a0_1 a0_2 a0_3 l0_4 l0_5) else (if a0_0 = 11 then (spec_StepFault.j3 kj13 false a0_0 a0_1 a0_2 a0_3 l0_4 l0_5) else (spec_StepFault.j3 kj13 (a0_3 != 0) a0_0 a0_1 a0_2 a0_3 l0_4 l0_5)))) = some r := by rw [if_pos rfl] at H; exact H
                          clear H
                          have H := H1
                          clear H1
                          by_cases c44 : a0_0 = 10
                          · rw [if_pos c44] at H
                            have c44b0 : (a0_0 == 10) = true := beq_iff_eq.mpr c44
                            have c44b1 : (a0_0 != 10) = false := bne_eq_false_iff_eq.mpr c44
                            clear c44
                            by_cases c45 : a0_0 = 11
                            · rw [if_pos c45] at H
                              have c45b0 : (a0_0 == 11) = true := beq_iff_eq.mpr c45
                              have c45b1 : (a0_0 != 11) = false := bne_eq_false_iff_eq.mpr c45
                              clear c45
                              have H' := Aside0.mk H
                              clear H
                              have hcz46_0 : wc.cell? ⟨gb104, 0, none⟩ = some (.int .i64 a0_0) := (blk_cell BK104.out 0).trans rfl
                              have hcz46_1 : wc.cell? ⟨gb104, 1, none⟩ = some (.int .i64 a0_1) := (blk_cell BK104.out 1).trans rfl
                              have hcz46_2 : wc.cell? ⟨gb104, 2, none⟩ = some (.int .i64 a0_2) := (blk_cell BK104.out 2).trans rfl
                              have hcz46_3 : wc.cell? ⟨gb104, 3, none⟩ = some (.int .i64 a0_3) := (blk_cell BK104.out 3).trans rfl
                              have hcz46_4 : wc.cell? ⟨gb104, 4, none⟩ = some (.slice A0_4 l0_4.length c0_4) := (blk_cell BK104.out 4).trans rfl
                              have hcz46_5 : wc.cell? ⟨gb104, 5, none⟩ = some (.slice A0_5 l0_5.length c0_5) := (blk_cell BK104.out 5).trans rfl
                              have hfz46_0 := blk_frozen BK104.out 0
                              have hfz46_1 := blk_frozen BK104.out 1
                              have hfz46_2 := blk_frozen BK104.out 2
                              have hfz46_3 := blk_frozen BK104.out 3
                              have hfz46_4 := blk_frozen BK104.out 4
                              have hfz46_5 := blk_frozen BK104.out 5
                              go_wp2
                              go_meet
                              case rel => exact ⟨_, (false), (by first | rfl | (simp; done) | (simp [*]; done)), H', ⟨by have := HJ3.out; have := HJ9.out; have := HJ13.out; first | omega | exact Nat.le_refl _⟩, ⟨by (with_reducible repeat (first | refine blk_drewN ?_ _ | refine blk_drew ?_ | refine blk_alloc ?_ _)); exact BK104.out⟩, ⟨by repeat (first | (with_reducible first | exact HB.out | apply below_alloc | apply pw_below_drewN | apply below_drew1 | refine below_set ?_ GE104.out) | exact HB.out)⟩⟩
                            · rw [if_neg c45] at H
                              have c45b0 : (a0_0 == 11) = false := beq_eq_false_iff_ne.mpr c45
                              have c45b1 : (a0_0 != 11) = true := bne_iff_ne.mpr c45
                              have H' := Aside0.mk H
                              clear H
                              have hcz47_0 : wc.cell? ⟨gb104, 0, none⟩ = some (.int .i64 a0_0) := (blk_cell BK104.out 0).trans rfl
                              have hcz47_1 : wc.cell? ⟨gb104, 1, none⟩ = some (.int .i64 a0_1) := (blk_cell BK104.out 1).trans rfl
                              have hcz47_2 : wc.cell? ⟨gb104, 2, none⟩ = some (.int .i64 a0_2) := (blk_cell BK104.out 2).trans rfl
                              have hcz47_3 : wc.cell? ⟨gb104, 3, none⟩ = some (.int .i64 a0_3) := (blk_cell BK104.out 3).trans rfl
                              have hcz47_4 : wc.cell? ⟨gb104, 4, none⟩ = some (.slice A0_4 l0_4.length c0_4) := (blk_cell BK104.out 4).trans rfl
                              have hcz47_5 : wc.cell? ⟨gb104, 5, none⟩ = some (.slice A0_5 l0_5.length c0_5) := (blk_cell BK104.out 5).trans rfl
                              have hfz47_0 := blk_frozen BK104.out 0
                              have hfz47_1 := blk_frozen BK104.out 1
                              have hfz47_2 := blk_frozen BK104.out 2
                              have hfz47_3 := blk_frozen BK104.out 3
                              have hfz47_4 := blk_frozen BK104.out 4
                              have hfz47_5 := blk_frozen BK104.out 5
                              go_wp2
                              go_meet
                              case rel => exact ⟨_, ((a0_3 != 0)), (by first | rfl | (simp; done) | (simp [*]; done)), H', ⟨by have := HJ3.out; have := HJ9.out; have := HJ13.out; first | omega | exact Nat.le_refl _⟩, ⟨by (with_reducible repeat (first | refine blk_drewN ?_ _ | refine blk_drew ?_ | refine blk_alloc ?_ _)); exact BK104.out⟩, ⟨by repeat (first | (with_reducible first | exact HB.out | apply below_alloc | apply pw_below_drewN | apply below_drew1 | refine below_set ?_ GE104.out) | exact HB.out)⟩⟩
                          · rw [if_neg c44] at H
                            have c44b0 : (a0_0 == 10) = false := beq_eq_false_iff_ne.mpr c44
                            have c44b1 : (a0_0 != 10) = true := bne_iff_ne.mpr c44
                            by_cases c48 : (l0_5.length : Int) > 0
                            · rw [if_pos c48] at H
                              have c48b0 : decide (0 < (l0_5.length : Int)) = true := decide_eq_true c48
                              have c48b1 : decide (0 < l0_5.length) = true := decide_eq_true (by omega)
                              clear c48
                              have H' := Aside0.mk H
                              clear H
                              have hcz49_0 : wc.cell? ⟨gb104, 0, none⟩ = some (.int .i64 a0_0) := (blk_cell BK104.out 0).trans rfl
                              have hcz49_1 : wc.cell? ⟨gb104, 1, none⟩ = some (.int .i64 a0_1) := (blk_cell BK104.out 1).trans rfl
                              have hcz49_2 : wc.cell? ⟨gb104, 2, none⟩ = some (.int .i64 a0_2) := (blk_cell BK104.out 2).trans rfl
                              have hcz49_3 : wc.cell? ⟨gb104, 3, none⟩ = some (.int .i64 a0_3) := (blk_cell BK104.out 3).trans rfl
                              have hcz49_4 : wc.cell? ⟨gb104, 4, none⟩ = some (.slice A0_4 l0_4.length c0_4) := (blk_cell BK104.out 4).trans rfl
                              have hcz49_5 : wc.cell? ⟨gb104, 5, none⟩ = some (.slice A0_5 l0_5.length c0_5) := (blk_cell BK104.out 5).trans rfl
                              have hfz49_0 := blk_frozen BK104.out 0
                              have hfz49_1 := blk_frozen BK104.out 1
                              have hfz49_2 := blk_frozen BK104.out 2
                              have hfz49_3 := blk_frozen BK104.out 3
                              have hfz49_4 := blk_frozen BK104.out 4
                              have hfz49_5 := blk_frozen BK104.out 5
                              go_wp2
                              go_meet
                              case rel => exact ⟨_, (true), (by first | rfl | (simp; done) | (simp [*]; done)), H', ⟨by have := HJ3.out; have := HJ9.out; have := HJ13.out; first | omega | exact Nat.le_refl _⟩, ⟨by (with_reducible repeat (first | refine blk_drewN ?_ _ | refine blk_drew ?_ | refine blk_alloc ?_ _)); exact BK104.out⟩, ⟨by repeat (first | (with_reducible first | exact HB.out | apply below_alloc | apply pw_below_drewN | apply below_drew1 | refine below_set ?_ GE104.out) | exact HB.out)⟩⟩
                            · rw [if_neg c48] at H
                              have c48b0 : decide (0 < (l0_5.length : Int)) = false := decide_eq_false c48
                              have c48b1 : decide (0 < l0_5.length) = false := decide_eq_false (by omega)
                              clear c48
                              by_cases c50 : a0_0 = 11
                              · rw [if_pos c50] at H
                                have c50b0 : (a0_0 == 11) = true := beq_iff_eq.mpr c50
                                have c50b1 : (a0_0 != 11) = false := bne_eq_false_iff_eq.mpr c50
                                clear c50
                                have H' := Aside0.mk H
                                clear H
                                have hcz51_0 : wc.cell? ⟨gb104, 0, none⟩ = some (.int .i64 a0_0) := (blk_cell BK104.out 0).trans rfl
                                have hcz51_1 : wc.cell? ⟨gb104, 1, none⟩ = some (.int .i64 a0_1) := (blk_cell BK104.out 1).trans rfl
                                have hcz51_2 : wc.cell? ⟨gb104, 2, none⟩ = some (.int .i64 a0_2) := (blk_cell BK104.out 2).trans rfl
                                have hcz51_3 : wc.cell? ⟨gb104, 3, none⟩ = some (.int .i64 a0_3) := (blk_cell BK104.out 3).trans rfl
                                have hcz51_4 : wc.cell? ⟨gb104, 4, none⟩ = some (.slice A0_4 l0_4.length c0_4) := (blk_cell BK104.out 4).trans rfl
                                have hcz51_5 : wc.cell? ⟨gb104, 5, none⟩ = some (.slice A0_5 l0_5.length c0_5) := (blk_cell BK104.out 5).trans rfl
                                have hfz51_0 := blk_frozen BK104.out 0
                                have hfz51_1 := blk_frozen BK104.out 1
                                have hfz51_2 := blk_frozen BK104.out 2
                                have hfz51_3 := blk_frozen BK104.out 3
                                have hfz51_4 := blk_frozen BK104.out 4
                                have hfz51_5 := blk_frozen BK104.out 5
                                go_wp2
                                go_meet
                                case rel => exact ⟨_, (false), (by first | rfl | (simp; done) | (simp [*]; done)), H', ⟨by have := HJ3.out; have := HJ9.out; have := HJ13.out; first | omega | exact Nat.le_refl _⟩, ⟨by (with_reducible repeat (first | refine blk_drewN ?_ _ | refine blk_drew ?_ | refine blk_alloc ?_ _)); exact BK104.out⟩, ⟨by repeat (first | (with_reducible first | exact HB.out | apply below_alloc | apply pw_below_drewN | apply below_drew1 | refine below_set ?_ GE104.out) | exact HB.out)⟩⟩
                              · rw [if_neg c50] at H
                                have c50b0 : (a0_0 == 11) = false := beq_eq_false_iff_ne.mpr c50
                                have c50b1 : (a0_0 != 11) = true := bne_iff_ne.mpr c50
                                have H' := Aside0.mk H
                                clear H
                                have hcz52_0 : wc.cell? ⟨gb104, 0, none⟩ = some (.int .i64 a0_0) := (blk_cell BK104.out 0).trans rfl
                                have hcz52_1 : wc.cell? ⟨gb104, 1, none⟩ = some (.int .i64 a0_1) := (blk_cell BK104.out 1).trans rfl
                                have hcz52_2 : wc.cell? ⟨gb104, 2, none⟩ = some (.int .i64 a0_2) := (blk_cell BK104.out 2).trans rfl
                                have hcz52_3 : wc.cell? ⟨gb104, 3, none⟩ = some (.int .i64 a0_3) := (blk_cell BK104.out 3).trans rfl
                                have hcz52_4 : wc.cell? ⟨gb104, 4, none⟩ = some (.slice A0_4 l0_4.length c0_4) := (blk_cell BK104.out 4).trans rfl
                                have hcz52_5 : wc.cell? ⟨gb104, 5, none⟩ = some (.slice A0_5 l0_5.length c0_5) := (blk_cell BK104.out 5).trans rfl
                                have hfz52_0 := blk_frozen BK104.out 0
                                have hfz52_1 := blk_frozen BK104.out 1
                                have hfz52_2 := blk_frozen BK104.out 2
                                have hfz52_3 := blk_frozen BK104.out 3
                                have hfz52_4 := blk_frozen BK104.out 4
                                have hfz52_5 := blk_frozen BK104.out 5
                                go_wp2
                                go_meet
                                case rel => exact ⟨_, ((a0_3 != 0)), (by first | rfl | (simp; done) | (simp [*]; done)), H', ⟨by have := HJ3.out; have := HJ9.out; have := HJ13.out; first | omega | exact Nat.le_refl _⟩, ⟨by (with_reducible repeat (first | refine blk_drewN ?_ _ | refine blk_drew ?_ | refine blk_alloc ?_ _)); exact BK104.out⟩, ⟨by repeat (first | (with_reducible first | exact HB.out | apply below_alloc | apply pw_below_drewN | apply below_drew1 | refine below_set ?_ GE104.out) | exact HB.out)⟩⟩
                        · replace c43 := Bool.eq_false_iff.mpr c43
                          subst c43
                          have H1 : (if (l0_4.length : Int) > 0 then (spec_StepFault.j3 kj13 true a0_0 a0_1 a0_2 a0_3 l0_4 l0_5) else (if a0_0 = 10 then (if a0_0 = 11 then (spec_StepFault.j3 kj13 false a0_0 a0_1 a0_2 a0_3 l0_4 l0_5) else (spec_StepFault.j3 kj13 (a0_3 != 0) a0_0 a0_1 a0_2 a0_3 l0_4 l0_5)) else (if (l0_5.length : Int) > 0 then (spec_StepFault.j3 kj13 true a0_0 a0_1 a0_2 a0_3 l0_4 l0_5) else (if a0_0 = 11 then (spec_StepFault.j3 kj13 false a0_0 a0_1 a0_2 a0_3 l0_4 l0_5) else (spec_StepFault.j3 kj13 (a0_3 != 0) a0_0 a0_1 a0_2 a0_3 l0_4 l0_5))))) = some r := by rw [if_neg (show ¬ (false = true) by decide)] at H; exact H
                          clear H
                          have H := H1
                          clear H1
                          by_cases c53 : (l0_4.length : Int) > 0
                          · rw [if_pos c53] at H
                            have c53b0 : decide (0 < (l0_4.length : Int)) = true := decide_eq_true c53
                            have c53b1 : decide (0 < l0_4.length) = true := decide_eq_true (by omega)
                            clear c53
                            have H' := Aside0.mk H
                            clear H
                            have hcz54_0 : wc.cell? ⟨gb104, 0, none⟩ = some (.int .i64 a0_0) := (blk_cell BK104.out 0).trans rfl
                            have hcz54_1 : wc.cell? ⟨gb104, 1, none⟩ = some (.int .i64 a0_1) := (blk_cell BK104.out 1).trans rfl
                            have hcz54_2 : wc.cell? ⟨gb104, 2, none⟩ = some (.int .i64 a0_2) := (blk_cell BK104.out 2).trans rfl
                            have hcz54_3 : wc.cell? ⟨gb104, 3, none⟩ = some (.int .i64 a0_3) := (blk_cell BK104.out 3).trans rfl
                            have hcz54_4 : wc.cell? ⟨gb104, 4, none⟩ = some (.slice A0_4 l0_4.length c0_4) := (blk_cell BK104.out 4).trans rfl
                            have hcz54_5 : wc.cell? ⟨gb104, 5, none⟩ = some (.slice A0_5 l0_5.length c0_5) := (blk_cell BK104.out 5).trans rfl
                            have hfz54_0 := blk_frozen BK104.out 0
                            have hfz54_1 := blk_frozen BK104.out 1
                            have hfz54_2 := blk_frozen BK104.out 2
                            have hfz54_3 := blk_frozen BK104.out 3
                            have hfz54_4 := blk_frozen BK104.out 4
                            have hfz54_5 := blk_frozen BK104.out 5
                            go_wp2
                            go_meet
                            case rel => exact ⟨_, (true), (by first | rfl | (simp; done) | (simp [*]; done)), H', ⟨by have := HJ3.out; have := HJ9.out; have := HJ13.out; first | omega | exact Nat.le_refl _⟩, ⟨by (with_reducible repeat (first | refine blk_drewN ?_ _ | refine blk_drew ?_ | refine blk_alloc ?_ _)); exact BK104.out⟩, ⟨by repeat (first | (with_reducible first | exact HB.out | apply below_alloc | apply pw_below_drewN | apply below_drew1 | refine below_set ?_ GE104.out) | exact HB.out)⟩⟩
                          · rw [if_neg c53] at H
                            have c53b0 : decide (0 < (l0_4.length : Int)) = false := decide_eq_false c53
                            have c53b1 : decide (0 < l0_4.length) = false := decide_eq_false (by omega)
                            clear c53
                            by_cases c55 : a0_0 = 10
                            · rw [if_pos c55] at H
                              have c55b0 : (a0_0 == 10) = true := beq_iff_eq.mpr c55
                              have c55b1 : (a0_0 != 10) = false := bne_eq_false_iff_eq.mpr c55
                              clear c55
                              by_cases c56 : a0_0 = 11
                              · rw [if_pos c56] at H
                                have c56b0 : (a0_0 == 11) = true := beq_iff_eq.mpr c56
                                have c56b1 : (a0_0 != 11) = false := bne_eq_false_iff_eq.mpr c56
                                clear c56
                                have H' := Aside0.mk H
                                clear H
                                have hcz57_0 : wc.cell? ⟨gb104, 0, none⟩ = some (.int .i64 a0_0) := (blk_cell BK104.out 0).trans rfl
                                have hcz57_1 : wc.cell? ⟨gb104, 1, none⟩ = some (.int .i64 a0_1) := (blk_cell BK104.out 1).trans rfl
                                have hcz57_2 : wc.cell? ⟨gb104, 2, none⟩ = some (.int .i64 a0_2) := (blk_cell BK104.out 2).trans rfl
                                have hcz57_3 : wc.cell? ⟨gb104, 3, none⟩ = some (.int .i64 a0_3) := (blk_cell BK104.out 3).trans rfl
                                have hcz57_4 : wc.cell? ⟨gb104, 4, none⟩ = some (.slice A0_4 l0_4.length c0_4) := (blk_cell BK104.out 4).trans rfl
                                have hcz57_5 : wc.cell? ⟨gb104, 5, none⟩ = some (.slice A0_5 l0_5.length c0_5) := (blk_cell BK104.out 5).trans rfl
                                have hfz57_0 := blk_frozen BK104.out 0
                                have hfz57_1 := blk_frozen BK104.out 1
                                have hfz57_2 := blk_frozen BK104.out 2
                                have hfz57_3 := blk_frozen BK104.out 3
                                have hfz57_4 := blk_frozen BK104.out 4
                                have hfz57_5 := blk_frozen BK104.out 5
                                go_wp2
                                go_meet
                                case rel => exact ⟨_, (false), (by first | rfl | (simp; done) | (simp [*]; done)), H', ⟨by have := HJ3.out; have := HJ9.out; have := HJ13.out; first | omega | exact Nat.le_refl _⟩, ⟨by (with_reducible repeat (first | refine blk_drewN ?_ _ | refine blk_drew ?_ | refine blk_alloc ?_ _)); exact BK104.out⟩, ⟨by repeat (first | (with_reducible first | exact HB.out | apply below_alloc | apply pw_below_drewN | apply below_drew1 | refine below_set ?_ GE104.out) | exact HB.out)⟩⟩
                              · rw [if_neg c56] at H
                                have c56b0 : (a0_0 == 11) = false := beq_eq_false_iff_ne.mpr c56
                                have c56b1 : (a0_0 != 11) = true := bne_iff_ne.mpr c56
                                have H' := Aside0.mk H
                                clear H
                                have hcz58_0 : wc.cell? ⟨gb104, 0, none⟩ = some (.int .i64 a0_0) := (blk_cell BK104.out 0).trans rfl
                                have hcz58_1 : wc.cell? ⟨gb104, 1, none⟩ = some (.int .i64 a0_1) := (blk_cell BK104.out 1).trans rfl
                                have hcz58_2 : wc.cell? ⟨gb104, 2, none⟩ = some (.int .i64 a0_2) := (blk_cell BK104.out 2).trans rfl
                                have hcz58_3 : wc.cell? ⟨gb104, 3, none⟩ = some (.int .i64 a0_3) := (blk_cell BK104.out 3).trans rfl
                                have hcz58_4 : wc.cell? ⟨gb104, 4, none⟩ = some (.slice A0_4 l0_4.length c0_4) := (blk_cell BK104.out 4).trans rfl
                                have hcz58_5 : wc.cell? ⟨gb104, 5, none⟩ = some (.slice A0_5 l0_5.length c0_5) := (blk_cell BK104.out 5).trans rfl
                                have hfz58_0 := blk_frozen BK104.out 0
                                have hfz58_1 := blk_frozen BK104.out 1
                                have hfz58_2 := blk_frozen BK104.out 2
                                have hfz58_3 := blk_frozen BK104.out 3
                                have hfz58_4 := blk_frozen BK104.out 4
                                have hfz58_5 := blk_frozen BK104.out 5
                                go_wp2
                                go_meet
                                case rel => exact ⟨_, ((a0_3 != 0)), (by first | rfl | (simp; done) | (simp [*]; done)), H', ⟨by have := HJ3.out; have := HJ9.out; have := HJ13.out; first | omega | exact Nat.le_refl _⟩, ⟨by (with_reducible repeat (first | refine blk_drewN ?_ _ | refine blk_drew ?_ | refine blk_alloc ?_ _)); exact BK104.out⟩, ⟨by repeat (first | (with_reducible first | exact HB.out | apply below_alloc | apply pw_below_drewN | apply below_drew1 | refine below_set ?_ GE104.out) | exact HB.out)⟩⟩
                            · rw [if_neg c55] at H
                              have c55b0 : (a0_0 == 10) = false := beq_eq_false_iff_ne.mpr c55
                              have c55b1 : (a0_0 != 10) = true := bne_iff_ne.mpr c55
                              by_cases c59 : (l0_5.length : Int) > 0
                              · rw [if_pos c59] at H
                                have c59b0 : decide (0 < (l0_5.length : Int)) = true := decide_eq_true c59
                                have c59b1 : decide (0 < l0_5.length) = true := decide_eq_true (by omega)
                                clear c59
                                have H' := Aside0.mk H
                                clear H
                                have hcz60_0 : wc.cell? ⟨gb104, 0, none⟩ = some (.int .i64 a0_0) := (blk_cell BK104.out 0).trans rfl
                                have hcz60_1 : wc.cell? ⟨gb104, 1, none⟩ = some (.int .i64 a0_1) := (blk_cell BK104.out 1).trans rfl
                                have hcz60_2 : wc.cell? ⟨gb104, 2, none⟩ = some (.int .i64 a0_2) := (blk_cell BK104.out 2).trans rfl
                                have hcz60_3 : wc.cell? ⟨gb104, 3, none⟩ = some (.int .i64 a0_3) := (blk_cell BK104.out 3).trans rfl
                                have hcz60_4 : wc.cell? ⟨gb104, 4, none⟩ = some (.slice A0_4 l0_4.length c0_4) := (blk_cell BK104.out 4).trans rfl
                                have hcz60_5 : wc.cell? ⟨gb104, 5, none⟩ = some (.slice A0_5 l0_5.length c0_5) := (blk_cell BK104.out 5).trans rfl
                                have hfz60_0 := blk_frozen BK104.out 0
                                have hfz60_1 := blk_frozen BK104.out 1
                                have hfz60_2 := blk_frozen BK104.out 2
                                have hfz60_3 := blk_frozen BK104.out 3
                                have hfz60_4 := blk_frozen BK104.out 4
                                have hfz60_5 := blk_frozen BK104.out 5
                                go_wp2
                                go_meet
                                case rel => exact ⟨_, (true), (by first | rfl | (simp; done) | (simp [*]; done)), H', ⟨by have := HJ3.out; have := HJ9.out; have := HJ13.out; first | omega | exact Nat.le_refl _⟩, ⟨by (with_reducible repeat (first | refine blk_drewN ?_ _ | refine blk_drew ?_ | refine blk_alloc ?_ _)); exact BK104.out⟩, ⟨by repeat (first | (with_reducible first | exact HB.out | apply below_alloc | apply pw_below_drewN | apply below_drew1 | refine below_set ?_ GE104.out) | exact HB.out)⟩⟩
                              · rw [if_neg c59] at H
                                have c59b0 : decide (0 < (l0_5.length : Int)) = false := decide_eq_false c59
                                have c59b1 : decide (0 < l0_5.length) = false := decide_eq_false (by omega)
                                clear c59
                                by_cases c61 : a0_0 = 11
                                · rw [if_pos c61] at H
                                  have c61b0 : (a0_0 == 11) = true := beq_iff_eq.mpr c61
                                  have c61b1 : (a0_0 != 11) = false := bne_eq_false_iff_eq.mpr c61
                                  clear c61
                                  have H' := Aside0.mk H
                                  clear H
                                  have hcz62_0 : wc.cell? ⟨gb104, 0, none⟩ = some (.int .i64 a0_0) := (blk_cell BK104.out 0).trans rfl
                                  have hcz62_1 : wc.cell? ⟨gb104, 1, none⟩ = some (.int .i64 a0_1) := (blk_cell BK104.out 1).trans rfl
                                  have hcz62_2 : wc.cell? ⟨gb104, 2, none⟩ = some (.int .i64 a0_2) := (blk_cell BK104.out 2).trans rfl
                                  have hcz62_3 : wc.cell? ⟨gb104, 3, none⟩ = some (.int .i64 a0_3) := (blk_cell BK104.out 3).trans rfl
                                  have hcz62_4 : wc.cell? ⟨gb104, 4, none⟩ = some (.slice A0_4 l0_4.length c0_4) := (blk_cell BK104.out 4).trans rfl
                                  have hcz62_5 : wc.cell? ⟨gb104, 5, none⟩ = some (.slice A0_5 l0_5.length c0_5) := (blk_cell BK104.out 5).trans rfl
                                  have hfz62_0 := blk_frozen BK104.out 0
                                  have hfz62_1 := blk_frozen BK104.out 1
                                  have hfz62_2 := blk_frozen BK104.out 2
                                  have hfz62_3 := blk_frozen BK104.out 3
                                  have hfz62_4 := blk_frozen BK104.out 4
                                  have hfz62_5 := blk_frozen BK104.out 5
                                  go_wp2
                                  go_meet
                                  case rel => exact ⟨_, (false), (by first | rfl | (simp; done) | (simp [*]; done)), H', ⟨by have := HJ3.out; have := HJ9.out; have := HJ13.out; first | omega | exact Nat.le_refl _⟩, ⟨by (with_reducible repeat (first | refine blk_drewN ?_ _ | refine blk_drew ?_ | refine blk_alloc ?_ _)); exact BK104.out⟩, ⟨by repeat (first | (with_reducible first | exact HB.out | apply below_alloc | apply pw_below_drewN | apply below_drew1 | refine below_set ?_ GE104.out) | exact HB.out)⟩⟩
                                · rw [if_neg c61] at H
                                  have c61b0 : (a0_0 == 11) = false := beq_eq_false_iff_ne.mpr c61
                                  have c61b1 : (a0_0 != 11) = true := bne_iff_ne.mpr c61
                                  have H' := Aside0.mk H
                                  clear H
                                  have hcz63_0 : wc.cell? ⟨gb104, 0, none⟩ = some (.int .i64 a0_0) := (blk_cell BK104.out 0).trans rfl
                                  have hcz63_1 : wc.cell? ⟨gb104, 1, none⟩ = some (.int .i64 a0_1) := (blk_cell BK104.out 1).trans rfl
                                  have hcz63_2 : wc.cell? ⟨gb104, 2, none⟩ = some (.int .i64 a0_2) := (blk_cell BK104.out 2).trans rfl
                                  have hcz63_3 : wc.cell? ⟨gb104, 3, none⟩ = some (.int .i64 a0_3) := (blk_cell BK104.out 3).trans rfl
                                  have hcz63_4 : wc.cell? ⟨gb104, 4, none⟩ = some (.slice A0_4 l0_4.length c0_4) := (blk_cell BK104.out 4).trans rfl
                                  have hcz63_5 : wc.cell? ⟨gb104, 5, none⟩ = some (.slice A0_5 l0_5.length c0_5) := (blk_cell BK104.out 5).trans rfl
                                  have hfz63_0 := blk_frozen BK104.out 0
                                  have hfz63_1 := blk_frozen BK104.out 1
                                  have hfz63_2 := blk_frozen BK104.out 2
                                  have hfz63_3 := blk_frozen BK104.out 3
                                  have hfz63_4 := blk_frozen BK104.out 4
                                  have hfz63_5 := blk_frozen BK104.out 5
                                  go_wp2
                                  go_meet
                                  case rel => exact ⟨_, ((a0_3 != 0)), (by first | rfl | (simp; done) | (simp [*]; done)), H', ⟨by have := HJ3.out; have := HJ9.out; have := HJ13.out; first | omega | exact Nat.le_refl _⟩, ⟨by (with_reducible repeat (first | refine blk_drewN ?_ _ | refine blk_drew ?_ | refine blk_alloc ?_ _)); exact BK104.out⟩, ⟨by repeat (first | (with_reducible first | exact HB.out | apply below_alloc | apply pw_below_drewN | apply below_drew1 | refine below_set ?_ GE104.out) | exact HB.out)⟩⟩
                      · rw [if_neg c42] at H
                        have c42b0 : (a0_2 == 0) = false := beq_eq_false_iff_ne.mpr c42
                        have c42b1 : (a0_2 != 0) = true := bne_iff_ne.mpr c42
                        have H' := Aside0.mk H
                        clear H
                        have hcz64_0 : wc.cell? ⟨gb104, 0, none⟩ = some (.int .i64 a0_0) := (blk_cell BK104.out 0).trans rfl
                        have hcz64_1 : wc.cell? ⟨gb104, 1, none⟩ = some (.int .i64 a0_1) := (blk_cell BK104.out 1).trans rfl
                        have hcz64_2 : wc.cell? ⟨gb104, 2, none⟩ = some (.int .i64 a0_2) := (blk_cell BK104.out 2).trans rfl
                        have hcz64_3 : wc.cell? ⟨gb104, 3, none⟩ = some (.int .i64 a0_3) := (blk_cell BK104.out 3).trans rfl
                        have hcz64_4 : wc.cell? ⟨gb104, 4, none⟩ = some (.slice A0_4 l0_4.length c0_4) := (blk_cell BK104.out 4).trans rfl
                        have hcz64_5 : wc.cell? ⟨gb104, 5, none⟩ = some (.slice A0_5 l0_5.length c0_5) := (blk_cell BK104.out 5).trans rfl
                        have hfz64_0 := blk_frozen BK104.out 0
                        have hfz64_1 := blk_frozen BK104.out 1
                        have hfz64_2 := blk_frozen BK104.out 2
                        have hfz64_3 := blk_frozen BK104.out 3
                        have hfz64_4 := blk_frozen BK104.out 4
                        have hfz64_5 := blk_frozen BK104.out 5
                        go_wp2
                        go_meet
                        case rel => exact ⟨_, (true), (by first | rfl | (simp; done) | (simp [*]; done)), H', ⟨by have := HJ3.out; have := HJ9.out; have := HJ13.out; first | omega | exact Nat.le_refl _⟩, ⟨by (with_reducible repeat (first | refine blk_drewN ?_ _ | refine blk_drew ?_ | refine blk_alloc ?_ _)); exact BK104.out⟩, ⟨by repeat (first | (with_reducible first | exact HB.out | apply below_alloc | apply pw_below_drewN | apply below_drew1 | refine below_set ?_ GE104.out) | exact HB.out)⟩⟩
                  · replace c19 := Bool.eq_false_iff.mpr c19
                    subst c19
                    have H1 : (if a0_1 = 0 then (if x4_9 = true then (if x5_13 = true then (if a0_0 = 10 then (if a0_0 = 11 then (spec_StepFault.j3 kj13 false a0_0 a0_1 a0_2 a0_3 l0_4 l0_5) else (spec_StepFault.j3 kj13 (a0_3 != 0) a0_0 a0_1 a0_2 a0_3 l0_4 l0_5)) else (if (l0_5.length : Int) > 0 then (spec_StepFault.j3 kj13 true a0_0 a0_1 a0_2 a0_3 l0_4 l0_5) else (if a0_0 = 11 then (spec_StepFault.j3 kj13 false a0_0 a0_1 a0_2 a0_3 l0_4 l0_5) else (spec_StepFault.j3 kj13 (a0_3 != 0) a0_0 a0_1 a0_2 a0_3 l0_4 l0_5)))) else (if (l0_4.length : Int) > 0 then (spec_StepFault.j3 kj13 true a0_0 a0_1 a0_2 a0_3 l0_4 l0_5) else (if a0_0 = 10 then (if a0_0 = 11 then (spec_StepFault.j3 kj13 false a0_0 a0_1 a0_2 a0_3 l0_4 l0_5) else (spec_StepFault.j3 kj13 (a0_3 != 0) a0_0 a0_1 a0_2 a0_3 l0_4 l0_5)) else (if (l0_5.length : Int) > 0 then (spec_StepFault.j3 kj13 true a0_0 a0_1 a0_2 a0_3 l0_4 l0_5) else (if a0_0 = 11 then (spec_StepFault.j3 kj13 false a0_0 a0_1 a0_2 a0_3 l0_4 l0_5) else (spec_StepFault.j3 kj13 (a0_3 != 0) a0_0 a0_1 a0_2 a0_3 l0_4 l0_5)))))) else (if a0_2 = 0 then (if x5_13 = true then (if a0_0 = 10 then (if a0_0 = 11 then (spec_StepFault.j3 kj13 false a0_0 a0_1 a0_2 a0_3 l0_4 l0_5) else (spec_StepFault.j3 kj13 (a0_3 != 0) a0_0 a0_1 a0_2 a0_3 l0_4 l0_5)) else (if (l0_5.length : Int) > 0 then (spec_StepFault.j3 kj13 true a0_0 a0_1 a0_2 a0_3 l0_4 l0_5) else (if a0_0 = 11 then (spec_StepFault.j3 kj13 false a0_0 a0_1 a0_2 a0_3 l0_4 l0_5) else (spec_StepFault.j3 kj13 (a0_3 != 0) a0_0 a0_1 a0_2 a0_3 l0_4 l0_5)))) else (if (l0_4.length : Int) > 0 then (spec_StepFault.j3 kj13 true a0_0 a0_1 a0_2 a0_3 l0_4 l0_5) else (if a0_0 = 10 then (if a0_0 = 11 then (spec_StepFault.j3 kj13 false a0_0 a0_1 a0_2 a0_3 l0_4 l0_5) else (spec_StepFault.j3 kj13 (a0_3 != 0) a0_0 a0_1 a0_2 a0_3 l0_4 l0_5)) else (if (l0_5.length : Int) > 0 then (spec_StepFault.j3 kj13 true a0_0 a0_1 a0_2 a0_3 l0_4 l0_5) else (if a0_0 = 11 then (spec_StepFault.j3 kj13 false a0_0 a0_1 a0_2 a0_3 l0_4 l0_5) else (spec_StepFault.j3 kj13 (a0_3 != 0) a0_0 a0_1 a0_2 a0_3 l0_4 l0_5)))))) else (spec_StepFault.j3 kj13 true a0_0 a0_1 a0_2 a0_3 l0_4 l0_5))) else (spec_StepFault.j3 kj13 true a0_0 a0_1 a0_2 a0_3 l0_4 l0_5)) = some r := by rw [if_neg (show ¬ (false = true) by decide)] at H; exact H
                    clear H
                    have H := H1
                    clear H1
                    by_cases c65 : a0_1 = 0
                    · rw [if_pos c65] at H
                      have c65b0 : (a0_1 == 0) = true := beq_iff_eq.mpr c65
                      have c65b1 : (a0_1 != 0) = false := bne_eq_false_iff_eq.mpr c65
                      clear c65
                      by_cases c66 : x4_9 = true
                      · subst c66
                        have H1 : (if x5_13 = true then (if a0_0 = 10 then (if a0_0 = 11 then (spec_StepFault.j3 kj13 false a0_0 a0_1 a0_2 a0_3 l0_4 l0_5) else (spec_StepFault.j3 kj13 (a0_3 != 0) a0_0 a0_1 a0_2 a0_3 l0_4 l0_5)) else (if (l0_5.length : Int) > 0 then (spec_StepFault.j3 kj13 true a0_0 a0_1 a0_2 a0_3 l0_4 l0_5) else (if a0_0 = 11 then (spec_StepFault.j3 kj13 false a0_0 a0_1 a0_2 a0_3 l0_4 l0_5) else (spec_StepFault.j3 kj13 (a0_3 != 0) a0_0 a0_1 a0_2 a0_3 l0_4 l0_5)))) else (if (l0_4.length : Int) > 0 then (spec_StepFault.j3 kj13 true a0_0 a0_1 a0_2 a0_3 l0_4 l0_5) else (if a0_0 = 10 then (if a0_0 = 11 then (spec_StepFault.j3 kj13 false a0_0 a0_1 a0_2 a0_3 l0_4 l0_5) else (spec_StepFault.j3 kj13 (a0_3 != 0) a0_0 a0_1 a0_2 a0_3 l0_4 l0_5)) else (if (l0_5.length : Int) > 0 then (spec_StepFault.j3 kj13 true a0_0 a0_1 a0_2 a0_3 l0_4 l0_5) else (if a0_0 = 11 then (spec_StepFault.j3 kj13 false a0_0 a0_1 a0_2 a0_3 l0_4 l0_5) else (spec_StepFault.j3 kj13 (a0_3 != 0) a0_0 a0_1 a0_2 a0_3 l0_4 l0_5)))))) = some r := by rw [if_pos rfl] at H; exact H
                        clear H
                        have H := H1
                        clear H1
                        by_cases c67 : x5_13 = true
                        · subst c67
                          have H1 : (if a0_0 = 10 then (if a0_0 = 11 then (spec_StepFault.j3 kj13 false a0_0 a0_1 a0_2 a0_3 l0_4 l0_5) else (spec_StepFault.j3 kj13 (a0_3 != 0) a0_0 a0_1 a0_2 a0_3 l0_4 l0_5)) else (if (l0_5.length : Int) > 0 then (spec_StepFault.j3 kj13 true a0_0 a0_1 a0_2 a0_3 l0_4 l0_5) else (if a0_0 = 11 then (spec_StepFault.j3 kj13 false a0_0 a0_1 a0_2 a0_3 l0_4 l0_5) else (spec_StepFault.j3 kj13 (a0_3 != 0) a0_0 a0_1 a0_2 a0_3 l0_4 l0_5)))) = some r := by rw [if_pos rfl] at H; exact H
                          clear H
                          have H := H1
                          clear H1
                          by_cases c68 : a0_0 = 10
                          · rw [if_pos c68] at H
                            have c68b0 : (a0_0 == 10) = true := beq_iff_eq.mpr c68
                            have c68b1 : (a0_0 != 10) = false := bne_eq_false_iff_eq.mpr c68
                            clear c68
                            by_cases c69 : a0_0 = 11
                            · rw [if_pos c69] at H
                              have c69b0 : (a0_0 == 11) = true := beq_iff_eq.mpr c69
                              have c69b1 : (a0_0 != 11) = false := bne_eq_false_iff_eq.mpr c69
                              clear c69
                              have H' := Aside0.mk H
                              clear H
                              have hcz70_0 : wc.cell? ⟨gb104, 0, none⟩ = some (.int .i64 a0_0) := (blk_cell BK104.out 0).trans rfl
                              have hcz70_1 : wc.cell? ⟨gb104, 1, none⟩ = some (.int .i64 a0_1) := (blk_cell BK104.out 1).trans rfl
                              have hcz70_2 : wc.cell? ⟨gb104, 2, none⟩ = some (.int .i64 a0_2) := (blk_cell BK104.out 2).trans rfl
                              have hcz70_3 : wc.cell? ⟨gb104, 3, none⟩ = some (.int .i64 a0_3) := (blk_cell BK104.out 3).trans rfl
                              have hcz70_4 : wc.cell? ⟨gb104, 4, none⟩ = some (.slice A0_4 l0_4.length c0_4) := (blk_cell BK104.out 4).trans rfl
                              have hcz70_5 : wc.cell? ⟨gb104, 5, none⟩ = some (.slice A0_5 l0_5.length c0_5) := (blk_cell BK104.out 5).trans rfl
                              have hfz70_0 := blk_frozen BK104.out 0
                              have hfz70_1 := blk_frozen BK104.out 1
                              have hfz70_2 := blk_frozen BK104.out 2
                              have hfz70_3 := blk_frozen BK104.out 3
                              have hfz70_4 := blk_frozen BK104.out 4
                              have hfz70_5 := blk_frozen BK104.out 5
                              go_wp2
                              go_meet
                              case rel => exact ⟨_, (false), (by first | rfl | (simp; done) | (simp [*]; done)), H', ⟨by have := HJ3.out; have := HJ9.out; have := HJ13.out; first | omega | exact Nat.le_refl _⟩, ⟨by (with_reducible repeat (first | refine blk_drewN ?_ _ | refine blk_drew ?_ | refine blk_alloc ?_ _)); exact BK104.out⟩, ⟨by repeat (first | (with_reducible first | exact HB.out | apply below_alloc | apply pw_below_drewN | apply below_drew1 | refine below_set ?_ GE104.out) | exact HB.out)⟩⟩
                            · rw [if_neg c69] at H
                              have c69b0 : (a0_0 == 11) = false := beq_eq_false_iff_ne.mpr c69
                              have c69b1 : (a0_0 != 11) = true := bne_iff_ne.mpr c69
                              have H' := Aside0.mk H
                              clear H
                              have hcz71_0 : wc.cell? ⟨gb104, 0, none⟩ = some (.int .i64 a0_0) := (blk_cell BK104.out 0).trans rfl
                              have hcz71_1 : wc.cell? ⟨gb104, 1, none⟩ = some (.int .i64 a0_1) := (blk_cell BK104.out 1).trans rfl
                              have hcz71_2 : wc.cell? ⟨gb104, 2, none⟩ = some (.int .i64 a0_2) := (blk_cell BK104.out 2).trans rfl
                              have hcz71_3 : wc.cell? ⟨gb104, 3, none⟩ = some (.int .i64 a0_3) := (blk_cell BK104.out 3).trans rfl
                              have hcz71_4 : wc.cell? ⟨gb104, 4, none⟩ = some (.slice A0_4 l0_4.length c0_4) := (blk_cell BK104.out 4).trans rfl
                              have hcz71_5 : wc.cell? ⟨gb104, 5, none⟩ = some (.slice A0_5 l0_5.length c0_5) := (blk_cell BK104.out 5).trans rfl
                              have hfz71_0 := blk_frozen BK104.out 0
                              have hfz71_1 := blk_frozen BK104.out 1
                              have hfz71_2 := blk_frozen BK104.out 2
                              have hfz71_3 := blk_frozen BK104.out 3
                              have hfz71_4 := blk_frozen BK104.out 4
                              have hfz71_5 := blk_frozen BK104.out 5
                              go_wp2
                              go_meet
                              case rel => exact ⟨_, ((a0_3 != 0)), (by first | rfl | (simp; done) | (simp [*]; done)), H', ⟨by have := HJ3.out; have := HJ9.out; have := HJ13.out; first | omega | exact Nat.le_refl _⟩, ⟨by (with_reducible repeat (first | refine blk_drewN ?_ _ | refine blk_drew ?_ | refine blk_alloc ?_ _)); exact BK104.out⟩, ⟨by repeat (first | (with_reducible first | exact HB.out | apply below_alloc | apply pw_below_drewN | apply below_drew1 | refine below_set ?_ GE104.out) | exact HB.out)⟩⟩
                          · rw [if_neg c68] at H
                            have c68b0 : (a0_0 == 10) = false := beq_eq_false_iff_ne.mpr c68
                            have c68b1 : (a0_0 != 10) = true := bne_iff_ne.mpr c68
                            by_cases c72 : (l0_5.length : Int) > 0
                            · rw [if_pos c72] at H
                              have c72b0 : decide (0 < (l0_5.length : Int)) = true := decide_eq_true c72
                              have c72b1 : decide (0 < l0_5.length) = true := decide_eq_true (by omega)
                              clear c72
                              have H' := Aside0.mk H
                              clear H
                              have hcz73_0 : wc.cell? ⟨gb104, 0, none⟩ = some (.int .i64 a0_0) := (blk_cell BK104.out 0).trans rfl
                              have hcz73_1 : wc.cell? ⟨gb104, 1, none⟩ = some (.int .i64 a0_1) := (blk_cell BK104.out 1).trans rfl
                              have hcz73_2 : wc.cell? ⟨gb104, 2, none⟩ = some (.int .i64 a0_2) := (blk_cell BK104.out 2).trans rfl
                              have hcz73_3 : wc.cell? ⟨gb104, 3, none⟩ = some (.int .i64 a0_3) := (blk_cell BK104.out 3).trans rfl
                              have hcz73_4 : wc.cell? ⟨gb104, 4, none⟩ = some (.slice A0_4 l0_4.length c0_4) := (blk_cell BK104.out 4).trans rfl
                              have hcz73_5 : wc.cell? ⟨gb104, 5, none⟩ = some (.slice A0_5 l0_5.length c0_5) := (blk_cell BK104.out 5).trans rfl
                              have hfz73_0 := blk_frozen BK104.out 0
                              have hfz73_1 := blk_frozen BK104.out 1
                              have hfz73_2 := blk_frozen BK104.out 2
                              have hfz73_3 := blk_frozen BK104.out 3
                              have hfz73_4 := blk_frozen BK104.out 4
                              have hfz73_5 := blk_frozen BK104.out 5
                              go_wp2
                              go_meet
                              case rel => exact ⟨_, (true), (by first | rfl | (simp; done) | (simp [*]; done)), H', ⟨by have := HJ3.out; have := HJ9.out; have := HJ13.out; first | omega | exact Nat.le_refl _⟩, ⟨by (with_reducible repeat (first | refine blk_drewN ?_ _ | refine blk_drew ?_ | refine blk_alloc ?_ _)); exact BK104.out⟩, ⟨by repeat (first | (with_reducible first | exact HB.out | apply below_alloc | apply pw_below_drewN | apply below_drew1 | refine below_set ?_ GE104.out) | exact HB.out)⟩⟩
                            · rw [if_neg c72] at H
                              have c72b0 : decide (0 < (l0_5.length : Int)) = false := decide_eq_false c72
                              have c72b1 : decide (0 < l0_5.length) = false := decide_eq_false (by omega)
                              clear c72
                              by_cases c74 : a0_0 = 11
                              · rw [if_pos c74] at H
                                have c74b0 : (a0_0 == 11) = true := beq_iff_eq.mpr c74
                                have c74b1 : (a0_0 != 11) = false := bne_eq_false_iff_eq.mpr c74
                                clear c74
                                have H' := Aside0.mk H
                                clear H
                                have hcz75_0 : wc.cell? ⟨gb104, 0, none⟩ = some (.int .i64 a0_0) := (blk_cell BK104.out 0).trans rfl
                                have hcz75_1 : wc.cell? ⟨gb104, 1, none⟩ = some (.int .i64 a0_1) := (blk_cell BK104.out 1).trans rfl
                                have hcz75_2 : wc.cell? ⟨gb104, 2, none⟩ = some (.int .i64 a0_2) := (blk_cell BK104.out 2).trans rfl
                                have hcz75_3 : wc.cell? ⟨gb104, 3, none⟩ = some (.int .i64 a0_3) := (blk_cell BK104.out 3).trans rfl
                                have hcz75_4 : wc.cell? ⟨gb104, 4, none⟩ = some (.slice A0_4 l0_4.length c0_4) := (blk_cell BK104.out 4).trans rfl
                                have hcz75_5 : wc.cell? ⟨gb104, 5, none⟩ = some (.slice A0_5 l0_5.length c0_5) := (blk_cell BK104.out 5).trans rfl
                                have hfz75_0 := blk_frozen BK104.out 0
                                have hfz75_1 := blk_frozen BK104.out 1
                                have hfz75_2 := blk_frozen BK104.out 2
                                have hfz75_3 := blk_frozen BK104.out 3
                                have hfz75_4 := blk_frozen BK104.out 4
                                have hfz75_5 := blk_frozen BK104.out 5
                                go_wp2
                                go_meet
                                case rel => exact ⟨_, (false), (by first | rfl | (simp; done) | (simp [*]; done)), H', ⟨by have := HJ3.out; have := HJ9.out; have := HJ13.out; first | omega | exact Nat.le_refl _⟩, ⟨by (with_reducible repeat (first | refine blk_drewN ?_ _ | refine blk_drew ?_ | refine blk_alloc ?_ _)); exact BK104.out⟩, ⟨by repeat (first | (with_reducible first | exact HB.out | apply below_alloc | apply pw_below_drewN | apply below_drew1 | refine below_set ?_ GE104.out) | exact HB.out)⟩⟩
                              · rw [if_neg c74] at H
                                have c74b0 : (a0_0 == 11) = false := beq_eq_false_iff_ne.mpr c74
                                have c74b1 : (a0_0 != 11) = true := bne_iff_ne.mpr c74
                                have H' := Aside0.mk H
                                clear H
                                have hcz76_0 : wc.cell? ⟨gb104, 0, none⟩ = some (.int .i64 a0_0) := (blk_cell BK104.out 0).trans rfl
                                have hcz76_1 : wc.cell? ⟨gb104, 1, none⟩ = some (.int .i64 a0_1) := (blk_cell BK104.out 1).trans rfl
                                have hcz76_2 : wc.cell? ⟨gb104, 2, none⟩ = some (.int .i64 a0_2) := (blk_cell BK104.out 2).trans rfl
                                have hcz76_3 : wc.cell? ⟨gb104, 3, none⟩ = some (.int .i64 a0_3) := (blk_cell BK104.out 3).trans rfl
                                have hcz76_4 : wc.cell? ⟨gb104, 4, none⟩ = some (.slice A0_4 l0_4.length c0_4) := (blk_cell BK104.out 4).trans rfl
                                have hcz76_5 : wc.cell? ⟨gb104, 5, none⟩ = some (.slice A0_5 l0_5.length c0_5) := (blk_cell BK104.out 5).trans rfl
                                have hfz76_0 := blk_frozen BK104.out 0
                                have hfz76_1 := blk_frozen BK104.out 1
                                have hfz76_2 := blk_frozen BK104.out 2
                                have hfz76_3 := blk_frozen BK104.out 3
                                have hfz76_4 := blk_frozen BK104.out 4
                                have hfz76_5 := blk_frozen BK104.out 5
                                go_wp2
                                go_meet
                                case rel => exact ⟨_, ((a0_3 != 0)), (by first | rfl | (simp; done) | (simp [*]; done)), H', ⟨by have := HJ3.out; have := HJ9.out; have := HJ13.out; first | omega | exact Nat.le_refl _⟩, ⟨by (with_reducible repeat (first | refine blk_drewN ?_ _ | refine blk_drew ?_ | refine blk_alloc ?_ _)); exact BK104.out⟩, ⟨by repeat (first | (with_reducible first | exact HB.out | apply below_alloc | apply pw_below_drewN | apply below_drew1 | refine below_set ?_ GE104.out) | exact HB.out)⟩⟩
                        · replace c67 := Bool.eq_false_iff.mpr c67
                          subst c67
                          have H1 : (if (l0_4.length : Int) > 0 then (spec_StepFault.j3 kj13 true a0_0 a0_1 a0_2 a0_3 l0_4 l0_5) else (if a0_0 = 10 then (if a0_0 = 11 then (spec_StepFault.j3 kj13 false a0_0 a0_1 a0_2 a0_3 l0_4 l0_5) else (spec_StepFault.j3 kj13 (a0_3 != 0) a0_0 a0_1 a0_2 a0_3 l0_4 l0_5)) else (if (l0_5.length : Int) > 0 then (spec_StepFault.j3 kj13 true a0_0 a0_1 a0_2 a0_3 l0_4 l0_5) else (if a0_0 = 11 then (spec_StepFault.j3 kj13 false a0_0 a0_1 a0_2 a0_3 l0_4 l0_5) else (spec_StepFault.j3 kj13 (a0_3 != 0) a0_0 a0_1 a0_2 a0_3 l0_4 l0_5))))) = some r := by rw [if_neg (show ¬ (false = true) by decide)] at H; exact H
                          clear H
                          have H := H1
                          clear H1
                          by_cases c77 : (l0_4.length : Int) > 0
                          · rw [if_pos c77] at H
                            have c77b0 : decide (0 < (l0_4.length : Int)) = true := decide_eq_true c77
                            have c77b1 : decide (0 < l0_4.length) = true := decide_eq_true (by omega)
                            clear c77
                            have H' := Aside0.mk H
                            clear H
                            have hcz78_0 : wc.cell? ⟨gb104, 0, none⟩ = some (.int .i64 a0_0) := (blk_cell BK104.out 0).trans rfl
                            have hcz78_1 : wc.cell? ⟨gb104, 1, none⟩ = some (.int .i64 a0_1) := (blk_cell BK104.out 1).trans rfl
                            have hcz78_2 : wc.cell? ⟨gb104, 2, none⟩ = some (.int .i64 a0_2) := (blk_cell BK104.out 2).trans rfl
                            have hcz78_3 : wc.cell? ⟨gb104, 3, none⟩ = some (.int .i64 a0_3) := (blk_cell BK104.out 3).trans rfl
                            have hcz78_4 : wc.cell? ⟨gb104, 4, none⟩ = some (.slice A0_4 l0_4.length c0_4) := (blk_cell BK104.out 4).trans rfl
                            have hcz78_5 : wc.cell? ⟨gb104, 5, none⟩ = some (.slice A0_5 l0_5.length c0_5) := (blk_cell BK104.out 5).trans rfl
                            have hfz78_0 := blk_frozen BK104.out 0
                            have hfz78_1 := blk_frozen BK104.out 1
                            have hfz78_2 := blk_frozen BK104.out 2
                            have hfz78_3 := blk_frozen BK104.out 3
                            have hfz78_4 := blk_frozen BK104.out 4
                            have hfz78_5 := blk_frozen BK104.out 5
                            go_wp2
                            go_meet
                            case rel => exact ⟨_, (true), (by first | rfl | (simp; done) | (simp [*]; done)), H', ⟨by have := HJ3.out; have := HJ9.out; have := HJ13.out; first | omega | exact Nat.le_refl _⟩, ⟨by (with_reducible repeat (first | refine blk_drewN ?_ _ | refine blk_drew ?_ | refine blk_alloc ?_ _)); exact BK104.out⟩, ⟨by repeat (first | (with_reducible first | exact HB.out | apply below_alloc | apply pw_below_drewN | apply below_drew1 | refine below_set ?_ GE104.out) | exact HB.out)⟩⟩
                          · rw [if_neg c77] at H
                            have c77b0 : decide (0 < (l0_4.length : Int)) = false := decide_eq_false c77
                            have c77b1 : decide (0 < l0_4.length) = false := decide_eq_false (by omega)
                            clear c77
                            by_cases c79 : a0_0 = 10
                            · rw [if_pos c79] at H
                              have c79b0 : (a0_0 == 10) = true := beq_iff_eq.mpr c79
                              have c79b1 : (a0_0 != 10) = false := bne_eq_false_iff_eq.mpr c79
                              clear c79
                              by_cases c80 : a0_0 = 11
                              · rw [if_pos c80] at H
                                have c80b0 : (a0_0 == 11) = true := beq_iff_eq.mpr c80
                                have c80b1 : (a0_0 != 11) = false := bne_eq_false_iff_eq.mpr c80
                                clear c80
                                have H' := Aside0.mk H
                                clear H
                                have hcz81_0 : wc.cell? ⟨gb104, 0, none⟩ = some (.int .i64 a0_0) := (blk_cell BK104.out 0).trans rfl
                                have hcz81_1 : wc.cell? ⟨gb104, 1, none⟩ = some (.int .i64 a0_1) := (blk_cell BK104.out 1).trans rfl
                                have hcz81_2 : wc.cell? ⟨gb104, 2, none⟩ = some (.int .i64 a0_2) := (blk_cell BK104.out 2).trans rfl
                                have hcz81_3 : wc.cell? ⟨gb104, 3, none⟩ = some (.int .i64 a0_3) := (blk_cell BK104.out 3).trans rfl
                                have hcz81_4 : wc.cell? ⟨gb104, 4, none⟩ = some (.slice A0_4 l0_4.length c0_4) := (blk_cell BK104.out 4).trans rfl
                                have hcz81_5 : wc.cell? ⟨gb104, 5, none⟩ = some (.slice A0_5 l0_5.length c0_5) := (blk_cell BK104.out 5).trans rfl
                                have hfz81_0 := blk_frozen BK104.out 0
                                have hfz81_1 := blk_frozen BK104.out 1
                                have hfz81_2 := blk_frozen BK104.out 2
                                have hfz81_3 := blk_frozen BK104.out 3
                                have hfz81_4 := blk_frozen BK104.out 4
                                have hfz81_5 := blk_frozen BK104.out 5
                                go_wp2
                                go_meet
                                case rel => exact ⟨_, (false), (by first | rfl | (simp; done) | (simp [*]; done)), H', ⟨by have := HJ3.out; have := HJ9.out; have := HJ13.out; first | omega | exact Nat.le_refl _⟩, ⟨by (with_reducible repeat (first | refine blk_drewN ?_ _ | refine blk_drew ?_ | refine blk_alloc ?_ _)); exact BK104.out⟩, ⟨by repeat (first | (with_reducible first | exact HB.out | apply below_alloc | apply pw_below_drewN | apply below_drew1 | refine below_set ?_ GE104.out) | exact HB.out)⟩⟩
                              · rw [if_neg c80] at H
                                have c80b0 : (a0_0 == 11) = false := beq_eq_false_iff_ne.mpr c80
                                have c80b1 : (a0_0 != 11) = true := bne_iff_ne.mpr c80
                                have H' := Aside0.mk H
                                clear H
                                have hcz82_0 : wc.cell? ⟨gb104, 0, none⟩ = some (.int .i64 a0_0) := (blk_cell BK104.out 0).trans rfl
                                have hcz82_1 : wc.cell? ⟨gb104, 1, none⟩ = some (.int .i64 a0_1) := (blk_cell BK104.out 1).trans rfl
                                have hcz82_2 : wc.cell? ⟨gb104, 2, none⟩ = some (.int .i64 a0_2) := (blk_cell BK104.out 2).trans rfl
                                have hcz82_3 : wc.cell? ⟨gb104, 3, none⟩ = some (.int .i64 a0_3) := (blk_cell BK104.out 3).trans rfl
                                have hcz82_4 : wc.cell? ⟨gb104, 4, none⟩ = some (.slice A0_4 l0_4.length c0_4) := (blk_cell BK104.out 4).trans rfl
                                have hcz82_5 : wc.cell? ⟨gb104, 5, none⟩ = some (.slice A0_5 l0_5.length c0_5) := (blk_cell BK104.out 5).trans rfl
                                have hfz82_0 := blk_frozen BK104.out 0
                                have hfz82_1 := blk_frozen BK104.out 1
                                have hfz82_2 := blk_frozen BK104.out 2
                                have hfz82_3 := blk_frozen BK104.out 3
                                have hfz82_4 := blk_frozen BK104.out 4
                                have hfz82_5 := blk_frozen BK104.out 5
                                go_wp2
                                go_meet
                                case rel => exact ⟨_, ((a0_3 != 0)), (by first | rfl | (simp; done) | (simp [*]; done)), H', ⟨by have := HJ3.out; have := HJ9.out; have := HJ13.out; first | omega | exact Nat.le_refl _⟩, ⟨by (with_reducible repeat (first | refine blk_drewN ?_ _ | refine blk_drew ?_ | refine blk_alloc ?_ _)); exact BK104.out⟩, ⟨by repeat (first | (with_reducible first | exact HB.out | apply below_alloc | apply pw_below_drewN | apply below_drew1 | refine below_set ?_ GE104.out) | exact HB.out)⟩⟩
                            · rw [if_neg c79] at H
                              have c79b0 : (a0_0 == 10) = false := beq_eq_false_iff_ne.mpr c79
                              have c79b1 : (a0_0 != 10) = true := bne_iff_ne.mpr c79
                              by_cases c83 : (l0_5.length : Int) > 0
                              · rw [if_pos c83] at H
                                have c83b0 : decide (0 < (l0_5.length : Int)) = true := decide_eq_true c83
                                have c83b1 : decide (0 < l0_5.length) = true := decide_eq_true (by omega)
                                clear c83
                                have H' := Aside0.mk H
                                clear H
                                have hcz84_0 : wc.cell? ⟨gb104, 0, none⟩ = some (.int .i64 a0_0) := (blk_cell BK104.out 0).trans rfl
                                have hcz84_1 : wc.cell? ⟨gb104, 1, none⟩ = some (.int .i64 a0_1) := (blk_cell BK104.out 1).trans rfl
                                have hcz84_2 : wc.cell? ⟨gb104, 2, none⟩ = some (.int .i64 a0_2) := (blk_cell BK104.out 2).trans rfl
                                have hcz84_3 : wc.cell? ⟨gb104, 3, none⟩ = some (.int .i64 a0_3) := (blk_cell BK104.out 3).trans rfl
                                have hcz84_4 : wc.cell? ⟨gb104, 4, none⟩ = some (.slice A0_4 l0_4.length c0_4) := (blk_cell BK104.out 4).trans rfl
                                have hcz84_5 : wc.cell? ⟨gb104, 5, none⟩ = some (.slice A0_5 l0_5.length c0_5) := (blk_cell BK104.out 5).trans rfl
                                have hfz84_0 := blk_frozen BK104.out 0
                                have hfz84_1 := blk_frozen BK104.out 1
                                have hfz84_2 := blk_frozen BK104.out 2
                                have hfz84_3 := blk_frozen BK104.out 3
                                have hfz84_4 := blk_frozen BK104.out 4
                                have hfz84_5 := blk_frozen BK104.out 5
                                go_wp2
                                go_meet
                                case rel => exact ⟨_, (true), (by first | rfl | (simp; done) | (simp [*]; done)), H', ⟨by have := HJ3.out; have := HJ9.out; have := HJ13.out; first | omega | exact Nat.le_refl _⟩, ⟨by (with_reducible repeat (first | refine blk_drewN ?_ _ | refine blk_drew ?_ | refine blk_alloc ?_ _)); exact BK104.out⟩, ⟨by repeat (first | (with_reducible first | exact HB.out | apply below_alloc | apply pw_below_drewN | apply below_drew1 | refine below_set ?_ GE104.out) | exact HB.out)⟩⟩
                              · rw [if_neg c83] at H
                                have c83b0 : decide (0 < (l0_5.length : Int)) = false := decide_eq_false c83
                                have c83b1 : decide (0 < l0_5.length) = false := decide_eq_false (by omega)
                                clear c83
                                by_cases c85 : a0_0 = 11
                                · rw [if_pos c85] at H
                                  have c85b0 : (a0_0 == 11) = true := beq_iff_eq.mpr c85
                                  have c85b1 : (a0_0 != 11) = false := bne_eq_false_iff_eq.mpr c85
                                  clear c85
                                  have H' := Aside0.mk H
                                  clear H
                                  have hcz86_0 : wc.cell? ⟨gb104, 0, none⟩ = some (.int .i64 a0_0) := (blk_cell BK104.out 0).trans rfl
                                  have hcz86_1 : wc.cell? ⟨gb104, 1, none⟩ = some (.int .i64 a0_1) := (blk_cell BK104.out 1).trans rfl
                                  have hcz86_2 : wc.cell? ⟨gb104, 2, none⟩ = some (.int .i64 a0_2) := (blk_cell BK104.out 2).trans rfl
                                  have hcz86_3 : wc.cell? ⟨gb104, 3, none⟩ = some (.int .i64 a0_3) := (blk_cell BK104.out 3).trans rfl
                                  have hcz86_4 : wc.cell? ⟨gb104, 4, none⟩ = some (.slice A0_4 l0_4.length c0_4) := (blk_cell BK104.out 4).trans rfl
                                  have hcz86_5 : wc.cell? ⟨gb104, 5, none⟩ = some (.slice A0_5 l0_5.length c0_5) := (blk_cell BK104.out 5).trans rfl
                                  have hfz86_0 := blk_frozen BK104.out 0
                                  have hfz86_1 := blk_frozen BK104.out 1
                                  have hfz86_2 := blk_frozen BK104.out 2
                                  have hfz86_3 := blk_frozen BK104.out 3
                                  have hfz86_4 := blk_frozen BK104.out 4
                                  have hfz86_5 := blk_frozen BK104.out 5
                                  go_wp2
                                  go_meet
                                  case rel => exact ⟨_, (false), (by first | rfl | (simp; done) | (simp [*]; done)), H', ⟨by have := HJ3.out; have := HJ9.out; have := HJ13.out; first | omega | exact Nat.le_refl _⟩, ⟨by (with_reducible repeat (first | refine blk_drewN ?_ _ | refine blk_drew ?_ | refine blk_alloc ?_ _)); exact BK104.out⟩, ⟨by repeat (first | (with_reducible first | exact HB.out | apply below_alloc | apply pw_below_drewN | apply below_drew1 | refine below_set ?_ GE104.out) | exact HB.out)⟩⟩
                                · rw [if_neg c85] at H
                                  have c85b0 : (a0_0 == 11) = false := beq_eq_false_iff_ne.mpr c85
                                  have c85b1 : (a0_0 != 11) = true := bne_iff_ne.mpr c85
                                  have H' := Aside0.mk H
                                  clear H
                                  have hcz87_0 : wc.cell? ⟨gb104, 0, none⟩ = some (.int .i64 a0_0) := (blk_cell BK104.out 0).trans rfl
                                  have hcz87_1 : wc.cell? ⟨gb104, 1, none⟩ = some (.int .i64 a0_1) := (blk_cell BK104.out 1).trans rfl
                                  have hcz87_2 : wc.cell? ⟨gb104, 2, none⟩ = some (.int .i64 a0_2) := (blk_cell BK104.out 2).trans rfl
                                  have hcz87_3 : wc.cell? ⟨gb104, 3, none⟩ = some (.int .i64 a0_3) := (blk_cell BK104.out 3).trans rfl
                                  have hcz87_4 : wc.cell? ⟨gb104, 4, none⟩ = some (.slice A0_4 l0_4.length c0_4) := (blk_cell BK104.out 4).trans rfl
                                  have hcz87_5 : wc.cell? ⟨gb104, 5, none⟩ = some (.slice A0_5 l0_5.length c0_5) := (blk_cell BK104.out 5).trans rfl
                                  have hfz87_0 := blk_frozen BK104.out 0
                                  have hfz87_1 := blk_frozen BK104.out 1
                                  have hfz87_2 := blk_frozen BK104.out 2
                                  have hfz87_3 := blk_frozen BK104.out 3
                                  have hfz87_4 := blk_frozen BK104.out 4
                                  have hfz87_5 := blk_frozen BK104.out 5
                                  go_wp2
                                  go_meet
                                  case rel => exact ⟨_, ((a0_3 != 0)), (by first | rfl | (simp; done) | (simp [*]; done)), H', ⟨by have := HJ3.out; have := HJ9.out; have := HJ13.out; first | omega | exact Nat.le_refl _⟩, ⟨by (with_reducible repeat (first | refine blk_drewN ?_ _ | refine blk_drew ?_ | refine blk_alloc ?_ _)); exact BK104.out⟩, ⟨by repeat (first | (with_reducible first | exact HB.out | apply below_alloc | apply pw_below_drewN | apply below_drew1 | refine below_set ?_ GE104.out) | exact HB.out)⟩⟩
                      · replace c66 := Bool.eq_false_iff.mpr c66
                        subst c66
                        have H1 : (if a0_2 = 0 then (if x5_13 = true then (if a0_0 = 10 then (if a0_0 = 11 then (spec_StepFault.j3 kj13 false a0_0 a0_1 a0_2 a0_3 l0_4 l0_5) else (spec_StepFault.j3 kj13 (a0_3 != 0) a0_0 a0_1 a0_2 a0_3 l0_4 l0_5)) else (if (l0_5.length : Int) > 0 then (spec_StepFault.j3 kj13 true a0_0 a0_1 a0_2 a0_3 l0_4 l0_5) else (if a0_0 = 11 then (spec_StepFault.j3 kj13 false a0_0 a0_1 a0_2 a0_3 l0_4 l0_5) else (spec_StepFault.j3 kj13 (a0_3 != 0) a0_0 a0_1 a0_2 a0_3 l0_4 l0_5)))) else (if (l0_4.length : Int) > 0 then (spec_StepFault.j3 kj13 true a0_0 a0_1 a0_2 a0_3 l0_4 l0_5) else (if a0_0 = 10 then (if a0_0 = 11 then (spec_StepFault.j3 kj13 false a0_0 a0_1 a0_2 a0_3 l0_4 l0_5) else (spec_StepFault.j3 kj13 (a0_3 != 0) a0_0 a0_1 a0_2 a0_3 l0_4 l0_5)) else (if (l0_5.length : Int) > 0 then (spec_StepFault.j3 kj13 true a0_0 a0_1 a0_2 a0_3 l0_4 l0_5) else (if a0_0 = 11 then (spec_StepFault.j3 kj13 false a0_0 a0_1 a0_2 a0_3 l0_4 l0_5) else (spec_StepFault.j3 kj13 (a0_3 != 0) a0_0 a0_1 a0_2 a0_3 l0_4 l0_5)))))) else (spec_StepFault.j3 kj13 true a0_0 a0_1 a0_2 a0_3 l0_4 l0_5)) = some r := by rw [if_neg (show ¬ (false = true) by decide)] at H; exact H
                        clear H
                        have H := H1
                        clear H1
                        by_cases c88 : a0_2 = 0
                        · rw [if_pos c88] at H
                          have c88b0 : (a0_2 == 0) = true := beq_iff_eq.mpr c88
                          have c88b1 : (a0_2 != 0) = false := bne_eq_false_iff_eq.mpr c88
                          clear c88
                          by_cases c89 : x5_13 = true
                          · subst c89
                            have H1 : (if a0_0 = 10 then (if a0_0 = 11 then (spec_StepFault.j3 kj13 false a0_0 a0_1 a0_2 a0_3 l0_4 l0_5) else (spec_StepFault.j3 kj13 (a0_3 != 0) a0_0 a0_1 a0_2 a0_3 l0_4 l0_5)) else (if (l0_5.length : Int) > 0 then (spec_StepFault.j3 kj13 true a0_0 a0_1 a0_2 a0_3 l0_4 l0_5) else (if a0_0 = 11 then (spec_StepFault.j3 kj13 false a0_0 a0_1 a0_2 a0_3 l0_4 l0_5) else (spec_StepFault.j3 kj13 (a0_3 != 0) a0_0 a0_1 a0_2 a0_3 l0_4 l0_5)))) = some r := by rw [if_pos rfl] at H; exact H
                            clear H
                            have H := H1
                            clear H1
                            by_cases c90 : a0_0 = 10
                            · rw [if_pos c90] at H
                              have c90b0 : (a0_0 == 10) = true := beq_iff_eq.mpr c90
                              have c90b1 : (a0_0 != 10) = false := bne_eq_false_iff_eq.mpr c90
                              clear c90
                              by_cases c91 : a0_0 = 11
                              · rw [if_pos c91] at H
                                have c91b0 : (a0_0 == 11) = true := beq_iff_eq.mpr c91
                                have c91b1 : (a0_0 != 11) = false := bne_eq_false_iff_eq.mpr c91
                                clear c91
                                have H' := Aside0.mk H
                                clear H
                                have hcz92_0 : wc.cell? ⟨gb104, 0, none⟩ = some (.int .i64 a0_0) := (blk_cell BK104.out 0).trans rfl
                                have hcz92_1 : wc.cell? ⟨gb104, 1, none⟩ = some (.int .i64 a0_1) := (blk_cell BK104.out 1).trans rfl
                                have hcz92_2 : wc.cell? ⟨gb104, 2, none⟩ = some (.int .i64 a0_2) := (blk_cell BK104.out 2).trans rfl
                                have hcz92_3 : wc.cell? ⟨gb104, 3, none⟩ = some (.int .i64 a0_3) := (blk_cell BK104.out 3).trans rfl
                                have hcz92_4 : wc.cell? ⟨gb104, 4, none⟩ = some (.slice A0_4 l0_4.length c0_4) := (blk_cell BK104.out 4).trans rfl
                                have hcz92_5 : wc.cell? ⟨gb104, 5, none⟩ = some (.slice A0_5 l0_5.length c0_5) := (blk_cell BK104.out 5).trans rfl
                                have hfz92_0 := blk_frozen BK104.out 0
                                have hfz92_1 := blk_frozen BK104.out 1
                                have hfz92_2 := blk_frozen BK104.out 2
                                have hfz92_3 := blk_frozen BK104.out 3
                                have hfz92_4 := blk_frozen BK104.out 4
                                have hfz92_5 := blk_frozen BK104.out 5
                                go_wp2
                                go_meet
                                case rel => exact ⟨_, (false), (by first | rfl | (simp; done) | (simp [*]; done)), H', ⟨by have := HJ3.out; have := HJ9.out; have := HJ13.out; first | omega | exact Nat.le_refl _⟩, ⟨by (with_reducible repeat (first | refine blk_drewN ?_ _ | refine blk_drew ?_ | refine blk_alloc ?_ _)); exact BK104.out⟩, ⟨by repeat (first | (with_reducible first | exact HB.out | apply below_alloc | apply pw_below_drewN | apply below_drew1 | refine below_set ?_ GE104.out) | exact HB.out)⟩⟩
                              · rw [if_neg c91] at H
                                have c91b0 : (a0_0 == 11) = false := beq_eq_false_iff_ne.mpr c91
                                have c91b1 : (a0_0 != 11) = true := bne_iff_ne.mpr c91
                                have H' := Aside0.mk H
                                clear H
                                have hcz93_0 : wc.cell? ⟨gb104, 0, none⟩ = some (.int .i64 a0_0) := (blk_cell BK104.out 0).trans rfl
                                have hcz93_1 : wc.cell? ⟨gb104, 1, none⟩ = some (.int .i64 a0_1) := (blk_cell BK104.out 1).trans rfl
                                have hcz93_2 : wc.cell? ⟨gb104, 2, none⟩ = some (.int .i64 a0_2) := (blk_cell BK104.out 2).trans rfl
                                have hcz93_3 : wc.cell? ⟨gb104, 3, none⟩ = some (.int .i64 a0_3) := (blk_cell BK104.out 3).trans rfl
                                have hcz93_4 : wc.cell? ⟨gb104, 4, none⟩ = some (.slice A0_4 l0_4.length c0_4) := (blk_cell BK104.out 4).trans rfl
                                have hcz93_5 : wc.cell? ⟨gb104, 5, none⟩ = some (.slice A0_5 l0_5.length c0_5) := (blk_cell BK104.out 5).trans rfl
                                have hfz93_0 := blk_frozen BK104.out 0
                                have hfz93_1 := blk_frozen BK104.out 1
                                have hfz93_2 := blk_frozen BK104.out 2
                                have hfz93_3 := blk_frozen BK104.out 3
                                have hfz93_4 := blk_frozen BK104.out 4
                                have hfz93_5 := blk_frozen BK104.out 5
                                go_wp2
                                go_meet
                                case rel => exact ⟨_, ((a0_3 != 0)), (by first | rfl | (simp; done) | (simp [*]; done)), H', ⟨by have := HJ3.out; have := HJ9.out; have := HJ13.out; first | omega | exact Nat.le_refl _⟩, ⟨by (with_reducible repeat (first | refine blk_drewN ?_ _ | refine blk_drew ?_ | refine blk_alloc ?_ _)); exact BK104.out⟩, ⟨by repeat (first | (with_reducible first | exact HB.out | apply below_alloc | apply pw_below_drewN | apply below_drew1 | refine below_set ?_ GE104.out) | exact HB.out)⟩⟩
                            · rw [if_neg c90] at H
                              have c90b0 : (a0_0 == 10) = false := beq_eq_false_iff_ne.mpr c90
                              have c90b1 : (a0_0 != 10) = true := bne_iff_ne.mpr c90
                              by_cases c94 : (l0_5.length : Int) > 0
                              · rw [if_pos c94] at H
                                have c94b0 : decide (0 < (l0_5.length : Int)) = true := decide_eq_true c94
                                have c94b1 : decide (0 < l0_5.length) = true := decide_eq_true (by omega)
                                clear c94
                                have H' := Aside0.mk H
                                clear H
                                have hcz95_0 : wc.cell? ⟨gb104, 0, none⟩ = some (.int .i64 a0_0) := (blk_cell BK104.out 0).trans rfl
                                have hcz95_1 : wc.cell? ⟨gb104, 1, none⟩ = some (.int .i64 a0_1) := (blk_cell BK104.out 1).trans rfl
                                have hcz95_2 : wc.cell? ⟨gb104, 2, none⟩ = some (.int .i64 a0_2) := (blk_cell BK104.out 2).trans rfl
                                have hcz95_3 : wc.cell? ⟨gb104, 3, none⟩ = some (.int .i64 a0_3) := (blk_cell BK104.out 3).trans rfl
                                have hcz95_4 : wc.cell? ⟨gb104, 4, none⟩ = some (.slice A0_4 l0_4.length c0_4) := (blk_cell BK104.out 4).trans rfl
                                have hcz95_5 : wc.cell? ⟨gb104, 5, none⟩ = some (.slice A0_5 l0_5.length c0_5) := (blk_cell BK104.out 5).trans rfl
                                have hfz95_0 := blk_frozen BK104.out 0
                                have hfz95_1 := blk_frozen BK104.out 1
                                have hfz95_2 := blk_frozen BK104.out 2
                                have hfz95_3 := blk_frozen BK104.out 3
                                have hfz95_4 := blk_frozen BK104.out 4
                                have hfz95_5 := blk_frozen BK104.out 5
                                go_wp2
                                go_meet
                                case rel => exact ⟨_, (true), (by first | rfl | (simp; done) | (simp [*]; done)), H', ⟨by have := HJ3.out; have := HJ9.out; have := HJ13.out; first | omega | exact Nat.le_refl _⟩, ⟨by (with_reducible repeat (first | refine blk_drewN ?_ _ | refine blk_drew ?_ | refine blk_alloc ?_ _)); exact BK104.out⟩, ⟨by repeat (first | (with_reducible first | exact HB.out | apply below_alloc | apply pw_below_drewN | apply below_drew1 | refine below_set ?_ GE104.out) | exact HB.out)⟩⟩
                              · rw [if_neg c94] at H
                                have c94b0 : decide (0 < (l0_5.length : Int)) = false := decide_eq_false c94
                                have c94b1 : decide (0 < l0_5.length) = false := decide_eq_false (by omega)
                                clear c94
                                by_cases c96 : a0_0 = 11
                                · rw [if_pos c96] at H
                                  have c96b0 : (a0_0 == 11) = true := beq_iff_eq.mpr c96
                                  have c96b1 : (a0_0 != 11) = false := bne_eq_false_iff_eq.mpr c96
                                  clear c96
                                  have H' := Aside0.mk H
                                  clear H
                                  have hcz97_0 : wc.cell? ⟨gb104, 0, none⟩ = some (.int .i64 a0_0) := (blk_cell BK104.out 0).trans rfl
                                  have hcz97_1 : wc.cell? ⟨gb104, 1, none⟩ = some (.int .i64 a0_1) := (blk_cell BK104.out 1).trans rfl
                                  have hcz97_2 : wc.cell? ⟨gb104, 2, none⟩ = some (.int .i64 a0_2) := (blk_cell BK104.out 2).trans rfl
                                  have hcz97_3 : wc.cell? ⟨gb104, 3, none⟩ = some (.int .i64 a0_3) := (blk_cell BK104.out 3).trans rfl
                                  have hcz97_4 : wc.cell? ⟨gb104, 4, none⟩ = some (.slice A0_4 l0_4.length c0_4) := (blk_cell BK104.out 4).trans rfl
                                  have hcz97_5 : wc.cell? ⟨gb104, 5, none⟩ = some (.slice A0_5 l0_5.length c0_5) := (blk_cell BK104.out 5).trans rfl
                                  have hfz97_0 := blk_frozen BK104.out 0
                                  have hfz97_1 := blk_frozen BK104.out 1
                                  have hfz97_2 := blk_frozen BK104.out 2
                                  have hfz97_3 := blk_frozen BK104.out 3
                                  have hfz97_4 := blk_frozen BK104.out 4
                                  have hfz97_5 := blk_frozen BK104.out 5
                                  go_wp2
                                  go_meet
                                  case rel => exact ⟨_, (false), (by first | rfl | (simp; done) | (simp [*]; done)), H', ⟨by have := HJ3.out; have := HJ9.out; have := HJ13.out; first | omega | exact Nat.le_refl _⟩, ⟨by (with_reducible repeat (first | refine blk_drewN ?_ _ | refine blk_drew ?_ | refine blk_alloc ?_ _)); exact BK104.out⟩, ⟨by repeat (first | (with_reducible first | exact HB.out | apply below_alloc | apply pw_below_drewN | apply below_drew1 | refine below_set ?_ GE104.out) | exact HB.out)⟩⟩
                                · rw [if_neg c96] at H
                                  have c96b0 : (a0_0 == 11) = false := beq_eq_false_iff_ne.mpr c96
                                  have c96b1 : (a0_0 != 11) = true := bne_iff_ne.mpr c96
                                  have H' := Aside0.mk H
                                  clear H
                                  have hcz98_0 : wc.cell? ⟨gb104, 0, none⟩ = some (.int .i64 a0_0) := (blk_cell BK104.out 0).trans rfl
                                  have hcz98_1 : wc.cell? ⟨gb104, 1, none⟩ = some (.int .i64 a0_1) := (blk_cell BK104.out 1).trans rfl
                                  have hcz98_2 : wc.cell? ⟨gb104, 2, none⟩ = some (.int .i64 a0_2) := (blk_cell BK104.out 2).trans rfl
                                  have hcz98_3 : wc.cell? ⟨gb104, 3, none⟩ = some (.int .i64 a0_3) := (blk_cell BK104.out 3).trans rfl
                                  have hcz98_4 : wc.cell? ⟨gb104, 4, none⟩ = some (.slice A0_4 l0_4.length c0_4) := (blk_cell BK104.out 4).trans rfl
                                  have hcz98_5 : wc.cell? ⟨gb104, 5, none⟩ = some (.slice A0_5 l0_5.length c0_5) := (blk_cell BK104.out 5).trans rfl
                                  have hfz98_0 := blk_frozen BK104.out 0
                                  have hfz98_1 := blk_frozen BK104.out 1
                                  have hfz98_2 := blk_frozen BK104.out 2
                                  have hfz98_3 := blk_frozen BK104.out 3
                                  have hfz98_4 := blk_frozen BK104.out 4
                                  have hfz98_5 := blk_frozen BK104.out 5
                                  go_wp2
                                  go_meet
                                  case rel => exact ⟨_, ((a0_3 != 0)), (by first | rfl | (simp; done) | (simp [*]; done)), H', ⟨by have := HJ3.out; have := HJ9.out; have := HJ13.out; first | omega | exact Nat.le_refl _⟩, ⟨by (with_reducible repeat (first | refine blk_drewN ?_ _ | refine blk_drew ?_ | refine blk_alloc ?_ _)); exact BK104.out⟩, ⟨by repeat (first | (with_reducible first | exact HB.out | apply below_alloc | apply pw_below_drewN | apply below_drew1 | refine below_set ?_ GE104.out) | exact HB.out)⟩⟩
                          · replace c89 := Bool.eq_false_iff.mpr c89
                            subst c89
                            have H1 : (if (l0_4.length : Int) > 0 then (spec_StepFault.j3 kj13 true a0_0 a0_1 a0_2 a0_3 l0_4 l0_5) else (if a0_0 = 10 then (if a0_0 = 11 then (spec_StepFault.j3 kj13 false a0_0 a0_1 a0_2 a0_3 l0_4 l0_5) else (spec_StepFault.j3 kj13 (a0_3 != 0) a0_0 a0_1 a0_2 a0_3 l0_4 l0_5)) else (if (l0_5.length : Int) > 0 then (spec_StepFault.j3 kj13 true a0_0 a0_1 a0_2 a0_3 l0_4 l0_5) else (if a0_0 = 11 then (spec_StepFault.j3 kj13 false a0_0 a0_1 a0_2 a0_3 l0_4 l0_5) else (spec_StepFault.j3 kj13 (a0_3 != 0) a0_0 a0_1 a0_2 a0_3 l0_4 l0_5))))) = some r := by rw [if_neg (show ¬ (false = true) by decide)] at H; exact H
                            clear H
                            have H := H1
                            clear H1
                            by_cases c99 : (l0_4.length : Int) > 0
                            · rw [if_pos c99] at H
                              have c99b0 : decide (0 < (l0_4.length : Int)) = true := decide_eq_true c99
                              have c99b1 : decide (0 < l0_4.length) = true := decide_eq_true (by omega)
                              clear c99
                              have H' := Aside0.mk H
                              clear H
                              have hcz100_0 : wc.cell? ⟨gb104, 0, none⟩ = some (.int .i64 a0_0) := (blk_cell BK104.out 0).trans rfl
                              have hcz100_1 : wc.cell? ⟨gb104, 1, none⟩ = some (.int .i64 a0_1) := (blk_cell BK104.out 1).trans rfl
                              have hcz100_2 : wc.cell? ⟨gb104, 2, none⟩ = some (.int .i64 a0_2) := (blk_cell BK104.out 2).trans rfl
                              have hcz100_3 : wc.cell? ⟨gb104, 3, none⟩ = some (.int .i64 a0_3) := (blk_cell BK104.out 3).trans rfl
                              have hcz100_4 : wc.cell? ⟨gb104, 4, none⟩ = some (.slice A0_4 l0_4.length c0_4) := (blk_cell BK104.out 4).trans rfl
                              have hcz100_5 : wc.cell? ⟨gb104, 5, none⟩ = some (.slice A0_5 l0_5.length c0_5) := (blk_cell BK104.out 5).trans rfl
                              have hfz100_0 := blk_frozen BK104.out 0
                              have hfz100_1 := blk_frozen BK104.out 1
                              have hfz100_2 := blk_frozen BK104.out 2
                              have hfz100_3 := blk_frozen BK104.out 3
                              have hfz100_4 := blk_frozen BK104.out 4
                              have hfz100_5 := blk_frozen BK104.out 5
                              go_wp2
                              go_meet
                              case rel => exact ⟨_, (true), (by first | rfl | (simp; done) | (simp [*]; done)), H', ⟨by have := HJ3.out; have := HJ9.out; have := HJ13.out; first | omega | exact Nat.le_refl _⟩, ⟨by (with_reducible repeat (first | refine blk_drewN ?_ _ | refine blk_drew ?_ | refine blk_alloc ?_ _)); exact BK104.out⟩, ⟨by repeat (first | (with_reducible first | exact HB.out | apply below_alloc | apply pw_below_drewN | apply below_drew1 | refine below_set ?_ GE104.out) | exact HB.out)⟩⟩
                            · rw [if_neg c99] at H
                              have c99b0 : decide (0 < (l0_4.length : Int)) = false := decide_eq_false c99
                              have c99b1 : decide (0 < l0_4.length) = false := decide_eq_false (by omega)
                              clear c99
                              by_cases c101 : a0_0 = 10
                              · rw [if_pos c101] at H
                                have c101b0 : (a0_0 == 10) = true := beq_iff_eq.mpr c101
                                have c101b1 : (a0_0 != 10) = false := bne_eq_false_iff_eq.mpr c101
                                clear c101
                                by_cases c102 : a0_0 = 11
                                · rw [if_pos c102] at H
                                  have c102b0 : (a0_0 == 11) = true := beq_iff_eq.mpr c102
                                  have c102b1 : (a0_0 != 11) = false := bne_eq_false_iff_eq.mpr c102
                                  clear c102
                                  have H' := Aside0.mk H
                                  clear H
                                  have hcz103_0 : wc.cell? ⟨gb104, 0, none⟩ = some (.int .i64 a0_0) := (blk_cell BK104.out 0).trans rfl
                                  have hcz103_1 : wc.cell? ⟨gb104, 1, none⟩ = some (.int .i64 a0_1) := (blk_cell BK104.out 1).trans rfl
                                  have hcz103_2 : wc.cell? ⟨gb104, 2, none⟩ = some (.int .i64 a0_2) := (blk_cell BK104.out 2).trans rfl
                                  have hcz103_3 : wc.cell? ⟨gb104, 3, none⟩ = some (.int .i64 a0_3) := (blk_cell BK104.out 3).trans rfl
                                  have hcz103_4 : wc.cell? ⟨gb104, 4, none⟩ = some (.slice A0_4 l0_4.length c0_4) := (blk_cell BK104.out 4).trans rfl
                                  have hcz103_5 : wc.cell? ⟨gb104, 5, none⟩ = some (.slice A0_5 l0_5.length c0_5) := (blk_cell BK104.out 5).trans rfl
                                  have hfz103_0 := blk_frozen BK104.out 0
                                  have hfz103_1 := blk_frozen BK104.out 1
                                  have hfz103_2 := blk_frozen BK104.out 2
                                  have hfz103_3 := blk_frozen BK104.out 3
                                  have hfz103_4 := blk_frozen BK104.out 4
                                  have hfz103_5 := blk_frozen BK104.out 5
                                  go_wp2
                                  go_meet
                                  case rel => exact ⟨_, (false), (by first | rfl | (simp; done) | (simp [*]; done)), H', ⟨by have := HJ3.out; have := HJ9.out; have := HJ13.out; first | omega | exact Nat.le_refl _⟩, ⟨by (with_reducible repeat (first | refine blk_drewN ?_ _ | refine blk_drew ?_ | refine blk_alloc ?_ _)); exact BK104.out⟩, ⟨by repeat (first | (with_reducible first | exact HB.out | apply below_alloc | apply pw_below_drewN | apply below_drew1 | refine below_set ?_ GE104.out) | exact HB.out)⟩⟩
                                · rw [if_neg c102] at H
                                  have c102b0 : (a0_0 == 11) = false := beq_eq_false_iff_ne.mpr c102
                                  have c102b1 : (a0_0 != 11) = true := bne_iff_ne.mpr c102
                                  have H' := Aside0.mk H
                                  clear H
                                  have hcz104_0 : wc.cell? ⟨gb104, 0, none⟩ = some (.int .i64 a0_0) := (blk_cell BK104.out 0).trans rfl
                                  have hcz104_1 : wc.cell? ⟨gb104, 1, none⟩ = some (.int .i64 a0_1) := (blk_cell BK104.out 1).trans rfl
                                  have hcz104_2 : wc.cell? ⟨gb104, 2, none⟩ = some (.int .i64 a0_2) := (blk_cell BK104.out 2).trans rfl
                                  have hcz104_3 : wc.cell? ⟨gb104, 3, none⟩ = some (.int .i64 a0_3) := (blk_cell BK104.out 3).trans rfl
                                  have hcz104_4 : wc.cell? ⟨gb104, 4, none⟩ = some (.slice A0_4 l0_4.length c0_4) := (blk_cell BK104.out 4).trans rfl
                                  have hcz104_5 : wc.cell? ⟨gb104, 5, none⟩ = some (.slice A0_5 l0_5.length c0_5) := (blk_cell BK104.out 5).trans rfl
                                  have hfz104_0 := blk_frozen BK104.out 0
                                  have hfz104_1 := blk_frozen BK104.out 1
                                  have hfz104_2 := blk_frozen BK104.out 2
                                  have hfz104_3 := blk_frozen BK104.out 3
                                  have hfz104_4 := blk_frozen BK104.out 4
                                  have hfz104_5 := blk_frozen BK104.out 5
                                  go_wp2
                                  go_meet
                                  case rel => exact ⟨_, ((a0_3 != 0)), (by first | rfl | (simp; done) | (simp [*]; done)), H', ⟨by have := HJ3.out; have := HJ9.out; have := HJ13.out; first | omega | exact Nat.le_refl _⟩, ⟨by (with_reducible repeat (first | refine blk_drewN ?_ _ | refine blk_drew ?_ | refine blk_alloc ?_ _)); exact BK104.out⟩, ⟨by repeat (first | (with_reducible first | exact HB.out | apply below_alloc | apply pw_below_drewN | apply below_drew1 | refine below_set ?_ GE104.out) | exact HB.out)⟩⟩
                              · rw [if_neg c101] at H
                                have c101b0 : (a0_0 == 10) = false := beq_eq_false_iff_ne.mpr c101
                                have c101b1 : (a0_0 != 10) = true := bne_iff_ne.mpr c101
                                by_cases c105 : (l0_5.length : Int) > 0
                                · rw [if_pos c105] at H
                                  have c105b0 : decide (0 < (l0_5.length : Int)) = true := decide_eq_true c105
                                  have c105b1 : decide (0 < l0_5.length) = true := decide_eq_true (by omega)
                                  clear c105
                                  have H' := Aside0.mk H
                                  clear H
                                  have hcz106_0 : wc.cell? ⟨gb104, 0, none⟩ = some (.int .i64 a0_0) := (blk_cell BK104.out 0).trans rfl
                                  have hcz106_1 : wc.cell? ⟨gb104, 1, none⟩ = some (.int .i64 a0_1) := (blk_cell BK104.out 1).trans rfl
                                  have hcz106_2 : wc.cell? ⟨gb104, 2, none⟩ = some (.int .i64 a0_2) := (blk_cell BK104.out 2).trans rfl
                                  have hcz106_3 : wc.cell? ⟨gb104, 3, none⟩ = some (.int .i64 a0_3) := (blk_cell BK104.out 3).trans rfl
                                  have hcz106_4 : wc.cell? ⟨gb104, 4, none⟩ = some (.slice A0_4 l0_4.length c0_4) := (blk_cell BK104.out 4).trans rfl
                                  have hcz106_5 : wc.cell? ⟨gb104, 5, none⟩ = some (.slice A0_5 l0_5.length c0_5) := (blk_cell BK104.out 5).trans rfl
                                  have hfz106_0 := blk_frozen BK104.out 0
                                  have hfz106_1 := blk_frozen BK104.out 1
                                  have hfz106_2 := blk_frozen BK104.out 2
                                  have hfz106_3 := blk_frozen BK104.out 3
                                  have hfz106_4 := blk_frozen BK104.out 4
                                  have hfz106_5 := blk_frozen BK104.out 5
                                  go_wp2
                                  go_meet
                                  case rel => exact ⟨_, (true), (by first | rfl | (simp; done) | (simp [*]; done)), H', ⟨by have := HJ3.out; have := HJ9.out; have := HJ13.out; first | omega | exact Nat.le_refl _⟩, ⟨by (with_reducible repeat (first | refine blk_drewN ?_ _ | refine blk_drew ?_ | refine blk_alloc ?_ _)); exact BK104.out⟩, ⟨by repeat (first | (with_reducible first | exact HB.out | apply below_alloc | apply pw_below_drewN | apply below_drew1 | refine below_set ?_ GE104.out) | exact HB.out)⟩⟩
                                · rw [if_neg c105] at H
                                  have c105b0 : decide (0 < (l0_5.length : Int)) = false := decide_eq_false c105
                                  have c105b1 : decide (0 < l0_5.length) = false := decide_eq_false (by omega)
                                  clear c105
                                  by_cases c107 : a0_0 = 11
                                  · rw [if_pos c107] at H
                                    have c107b0 : (a0_0 == 11) = true := beq_iff_eq.mpr c107
                                    have c107b1 : (a0_0 != 11) = false := bne_eq_false_iff_eq.mpr c107
                                    clear c107
                                    have H' := Aside0.mk H
                                    clear H
                                    have hcz108_0 : wc.cell? ⟨gb104, 0, none⟩ = some (.int .i64 a0_0) := (blk_cell BK104.out 0).trans rfl
                                    have hcz108_1 : wc.cell? ⟨gb104, 1, none⟩ = some (.int .i64 a0_1) := (blk_cell BK104.out 1).trans rfl
                                    have hcz108_2 : wc.cell? ⟨gb104, 2, none⟩ = some (.int .i64 a0_2) := (blk_cell BK104.out 2).trans rfl
                                    have hcz108_3 : wc.cell? ⟨gb104, 3, none⟩ = some (.int .i64 a0_3) := (blk_cell BK104.out 3).trans rfl
                                    have hcz108_4 : wc.cell? ⟨gb104, 4, none⟩ = some (.slice A0_4 l0_4.length c0_4) := (blk_cell BK104.out 4).trans rfl
                                    have hcz108_5 : wc.cell? ⟨gb104, 5, none⟩ = some (.slice A0_5 l0_5.length c0_5) := (blk_cell BK104.out 5).trans rfl
                                    have hfz108_0 := blk_frozen BK104.out 0
                                    have hfz108_1 := blk_frozen BK104.out 1
                                    have hfz108_2 := blk_frozen BK104.out 2
                                    have hfz108_3 := blk_frozen BK104.out 3
                                    have hfz108_4 := blk_frozen BK104.out 4
                                    have hfz108_5 := blk_frozen BK104.out 5
                                    go_wp2
                                    go_meet
                                    case rel => exact ⟨_, (false), (by first | rfl | (simp; done) | (simp [*]; done)), H', ⟨by have := HJ3.out; have := HJ9.out; have := HJ13.out; first | omega | exact Nat.le_refl _⟩, ⟨by (with_reducible repeat (first | refine blk_drewN ?_ _ | refine blk_drew ?_ | refine blk_alloc ?_ _)); exact BK104.out⟩, ⟨by repeat (first | (with_reducible first | exact HB.out | apply below_alloc | apply pw_below_drewN | apply below_drew1 | refine below_set ?_ GE104.out) | exact HB.out)⟩⟩
                                  · rw [if_neg c107] at H
                                    have c107b0 : (a0_0 == 11) = false := beq_eq_false_iff_ne.mpr c107
                                    have c107b1 : (a0_0 != 11) = true := bne_iff_ne.mpr c107
                                    have H' := Aside0.mk H
                                    clear H
                                    have hcz109_0 : wc.cell? ⟨gb104, 0, none⟩ = some (.int .i64 a0_0) := (blk_cell BK104.out 0).trans rfl
                                    have hcz109_1 : wc.cell? ⟨gb104, 1, none⟩ = some (.int .i64 a0_1) := (blk_cell BK104.out 1).trans rfl
                                    have hcz109_2 : wc.cell? ⟨gb104, 2, none⟩ = some (.int .i64 a0_2) := (blk_cell BK104.out 2).trans rfl
                                    have hcz109_3 : wc.cell? ⟨gb104, 3, none⟩ = some (.int .i64 a0_3) := (blk_cell BK104.out 3).trans rfl
                                    have hcz109_4 : wc.cell? ⟨gb104, 4, none⟩ = some (.slice A0_4 l0_4.length c0_4) := (blk_cell BK104.out 4).trans rfl
                                    have hcz109_5 : wc.cell? ⟨gb104, 5, none⟩ = some (.slice A0_5 l0_5.length c0_5) := (blk_cell BK104.out 5).trans rfl
                                    have hfz109_0 := blk_frozen BK104.out 0
                                    have hfz109_1 := blk_frozen BK104.out 1
                                    have hfz109_2 := blk_frozen BK104.out 2
                                    have hfz109_3 := blk_frozen BK104.out 3
                                    have hfz109_4 := blk_frozen BK104.out 4
                                    have hfz109_5 := blk_frozen BK104.out 5
                                    go_wp2
                                    go_meet
                                    case rel => exact ⟨_, ((a0_3 != 0)), (by first | rfl | (simp; done) | (simp [*]; done)), H', ⟨by have := HJ3.out; have := HJ9.out; have := HJ13.out; first | omega | exact Nat.le_refl _⟩, ⟨by (with_reducible repeat (first | refine blk_drewN ?_ _ | refine blk_drew ?_ | refine blk_alloc ?_ _)); exact BK104.out⟩, ⟨by repeat (first | (with_reducible first | exact HB.out | apply below_alloc | apply pw_below_drewN | apply below_drew1 | refine below_set ?_ GE104.out) | exact HB.out)⟩⟩
                        · rw [if_neg c88] at H
                          have c88b0 : (a0_2 == 0) = false := beq_eq_false_iff_ne.mpr c88
                          have c88b1 : (a0_2 != 0) = true := bne_iff_ne.mpr c88
                          have H' := Aside0.mk H
                          clear H
                          have hcz110_0 : wc.cell? ⟨gb104, 0, none⟩ = some (.int .i64 a0_0) := (blk_cell BK104.out 0).trans rfl
                          have hcz110_1 : wc.cell? ⟨gb104, 1, none⟩ = some (.int .i64 a0_1) := (blk_cell BK104.out 1).trans rfl
                          have hcz110_2 : wc.cell? ⟨gb104, 2, none⟩ = some (.int .i64 a0_2) := (blk_cell BK104.out 2).trans rfl
                          have hcz110_3 : wc.cell? ⟨gb104, 3, none⟩ = some (.int .i64 a0_3) := (blk_cell BK104.out 3).trans rfl
                          have hcz110_4 : wc.cell? ⟨gb104, 4, none⟩ = some (.slice A0_4 l0_4.length c0_4) := (blk_cell BK104.out 4).trans rfl
                          have hcz110_5 : wc.cell? ⟨gb104, 5, none⟩ = some (.slice A0_5 l0_5.length c0_5) := (blk_cell BK104.out 5).trans rfl
                          have hfz110_0 := blk_frozen BK104.out 0
                          have hfz110_1 := blk_frozen BK104.out 1
                          have hfz110_2 := blk_frozen BK104.out 2
                          have hfz110_3 := blk_frozen BK104.out 3
                          have hfz110_4 := blk_frozen BK104.out 4
                          have hfz110_5 := blk_frozen BK104.out 5
                          go_wp2
                          go_meet
                          case rel => exact ⟨_, (true), (by first | rfl | (simp; done) | (simp [*]; done)), H', ⟨by have := HJ3.out; have := HJ9.out; have := HJ13.out; first | omega | exact Nat.le_refl _⟩, ⟨by (with_reducible repeat (first | refine blk_drewN ?_ _ | refine blk_drew ?_ | refine blk_alloc ?_ _)); exact BK104.out⟩, ⟨by repeat (first | (with_reducible first | exact HB.out | apply below_alloc | apply pw_below_drewN | apply below_drew1 | refine below_set ?_ GE104.out) | exact HB.out)⟩⟩
                    · rw [if_neg c65] at H
                      have c65b0 : (a0_1 == 0) = false := beq_eq_false_iff_ne.mpr c65
                      have c65b1 : (a0_1 != 0) = true := bne_iff_ne.mpr c65
                      have H' := Aside0.mk H
                      clear H
                      have hcz111_0 : wc.cell? ⟨gb104, 0, none⟩ = some (.int .i64 a0_0) := (blk_cell BK104.out 0).trans rfl
                      have hcz111_1 : wc.cell? ⟨gb104, 1, none⟩ = some (.int .i64 a0_1) := (blk_cell BK104.out 1).trans rfl
                      have hcz111_2 : wc.cell? ⟨gb104, 2, none⟩ = some (.int .i64 a0_2) := (blk_cell BK104.out 2).trans rfl
                      have hcz111_3 : wc.cell? ⟨gb104, 3, none⟩ = some (.int .i64 a0_3) := (blk_cell BK104.out 3).trans rfl
                      have hcz111_4 : wc.cell? ⟨gb104, 4, none⟩ = some (.slice A0_4 l0_4.length c0_4) := (blk_cell BK104.out 4).trans rfl
                      have hcz111_5 : wc.cell? ⟨gb104, 5, none⟩ = some (.slice A0_5 l0_5.length c0_5) := (blk_cell BK104.out 5).trans rfl
                      have hfz111_0 := blk_frozen BK104.out 0
                      have hfz111_1 := blk_frozen BK104.out 1
                      have hfz111_2 := blk_frozen BK104.out 2
                      have hfz111_3 := blk_frozen BK104.out 3
                      have hfz111_4 := blk_frozen BK104.out 4
                      have hfz111_5 := blk_frozen BK104.out 5
                      go_wp2
                      go_meet
                      case rel => exact ⟨_, (true), (by first | rfl | (simp; done) | (simp [*]; done)), H', ⟨by have := HJ3.out; have := HJ9.out; have := HJ13.out; first | omega | exact Nat.le_refl _⟩, ⟨by (with_reducible repeat (first | refine blk_drewN ?_ _ | refine blk_drew ?_ | refine blk_alloc ?_ _)); exact BK104.out⟩, ⟨by repeat (first | (with_reducible first | exact HB.out | apply below_alloc | apply pw_below_drewN | apply below_drew1 | refine below_set ?_ GE104.out) | exact HB.out)⟩⟩
                case rest =>
                  clear HC18
                  try clear c1
                  try clear p2
                  try clear c6
                  try clear c7
                  try clear c8
                  try clear c9
                  try clear c10
                  try clear c65
                  try clear c65b0
                  try clear c65b1
                  try clear c66
                  try clear c67
                  try clear c68
                  try clear c68b0
                  try clear c68b1
                  try clear c69
                  try clear c69b0
                  try clear c69b1
                  try clear c72
                  try clear c72b0
                  try clear c72b1
                  try clear c74
                  try clear c74b0
                  try clear c74b1
                  try clear c77
                  try clear c77b0
                  try clear c77b1
                  try clear c79
                  try clear c79b0
                  try clear c79b1
                  try clear c80
                  try clear c80b0
                  try clear c80b1
                  try clear c83
                  try clear c83b0
                  try clear c83b1
                  try clear c85
                  try clear c85b0
                  try clear c85b1
                  try clear c88
                  try clear c88b0
                  try clear c88b1
                  try clear c89
                  try clear c90
                  try clear c90b0
                  try clear c90b1
                  try clear c91
                  try clear c91b0
                  try clear c91b1
                  try clear c94
                  try clear c94b0
                  try clear c94b1
                  try clear c96
                  try clear c96b0
                  try clear c96b1
                  try clear c99
                  try clear c99b0
                  try clear c99b1
                  try clear c101
                  try clear c101b0
                  try clear c101b1
                  try clear c102
                  try clear c102b0
                  try clear c102b1
                  try clear c105
                  try clear c105b0
                  try clear c105b1
                  try clear c107
                  try clear c107b0
                  try clear c107b1
                  try clear hcz100_0
                  try clear hcz100_1
                  try clear hcz100_2
                  try clear hcz100_3
                  try clear hcz100_4
                  try clear hcz100_5
                  try clear hcz103_0
                  try clear hcz103_1
                  try clear hcz103_2
                  try clear hcz103_3
                  try clear hcz103_4
                  try clear hcz103_5
                  try clear hcz104_0
                  try clear hcz104_1
                  try clear hcz104_2
                  try clear hcz104_3
                  try clear hcz104_4
                  try clear hcz104_5
                  try clear hcz106_0
                  try clear hcz106_1
                  try clear hcz106_2
                  try clear hcz106_3
                  try clear hcz106_4
                  try clear hcz106_5
                  try clear hcz108_0
                  try clear hcz108_1
                  try clear hcz108_2
                  try clear hcz108_3
                  try clear hcz108_4
                  try clear hcz108_5
                  try clear hcz109_0
                  try clear hcz109_1
                  try clear hcz109_2
                  try clear hcz109_3
                  try clear hcz109_4
                  try clear hcz109_5
                  try clear hcz110_0
                  try clear hcz110_1
                  try clear hcz110_2
                  try clear hcz110_3
                  try clear hcz110_4
                  try clear hcz110_5
                  try clear hcz111_0
                  try clear hcz111_1
                  try clear hcz111_2
                  try clear hcz111_3
                  try clear hcz111_4
                  try clear hcz111_5
                  try clear hcz70_0
                  try clear hcz70_1
                  try clear hcz70_2
                  try clear hcz70_3
                  try clear hcz70_4
                  try clear hcz70_5
                  try clear hcz71_0
                  try clear hcz71_1
                  try clear hcz71_2
                  try clear hcz71_3
                  try clear hcz71_4
                  try clear hcz71_5
                  try clear hcz73_0
                  try clear hcz73_1
                  try clear hcz73_2
                  try clear hcz73_3
                  try clear hcz73_4
                  try clear hcz73_5
                  try clear hcz75_0
                  try clear hcz75_1
                  try clear hcz75_2
                  try clear hcz75_3
                  try clear hcz75_4
                  try clear hcz75_5
                  try clear hcz76_0
                  try clear hcz76_1
                  try clear hcz76_2
                  try clear hcz76_3
                  try clear hcz76_4
                  try clear hcz76_5
                  try clear hcz78_0
                  try clear hcz78_1
                  try clear hcz78_2
                  try clear hcz78_3
                  try clear hcz78_4
                  try clear hcz78_5
                  try clear hcz81_0
                  try clear hcz81_1
                  try clear hcz81_2
                  try clear hcz81_3
                  try clear hcz81_4
                  try clear hcz81_5
                  try clear hcz82_0
                  try clear hcz82_1
                  try clear hcz82_2
                  try clear hcz82_3
                  try clear hcz82_4
                  try clear hcz82_5
                  try clear hcz84_0
                  try clear hcz84_1
                  try clear hcz84_2
                  try clear hcz84_3
                  try clear hcz84_4
                  try clear hcz84_5
                  try clear hcz86_0
                  try clear hcz86_1
                  try clear hcz86_2
                  try clear hcz86_3
                  try clear hcz86_4
                  try clear hcz86_5
                  try clear hcz87_0
                  try clear hcz87_1
                  try clear hcz87_2
                  try clear hcz87_3
                  try clear hcz87_4
                  try clear hcz87_5
                  try clear hcz92_0
                  try clear hcz92_1
                  try clear hcz92_2
                  try clear hcz92_3
                  try clear hcz92_4
                  try clear hcz92_5
                  try clear hcz93_0
                  try clear hcz93_1
                  try clear hcz93_2
                  try clear hcz93_3
                  try clear hcz93_4
                  try clear hcz93_5
                  try clear hcz95_0
                  try clear hcz95_1
                  try clear hcz95_2
                  try clear hcz95_3
                  try clear hcz95_4
                  try clear hcz95_5
                  try clear hcz97_0
                  try clear hcz97_1
                  try clear hcz97_2
                  try clear hcz97_3
                  try clear hcz97_4
                  try clear hcz97_5
                  try clear hcz98_0
                  try clear hcz98_1
                  try clear hcz98_2
                  try clear hcz98_3
                  try clear hcz98_4
                  try clear hcz98_5
                  try clear hfz100_0
                  try clear hfz100_1
                  try clear hfz100_2
                  try clear hfz100_3
                  try clear hfz100_4
                  try clear hfz100_5
                  try clear hfz103_0
                  try clear hfz103_1
                  try clear hfz103_2
                  try clear hfz103_3
                  try clear hfz103_4
                  try clear hfz103_5
                  try clear hfz104_0
                  try clear hfz104_1
                  try clear hfz104_2
                  try clear hfz104_3
                  try clear hfz104_4
                  try clear hfz104_5
                  try clear hfz106_0
                  try clear hfz106_1
                  try clear hfz106_2
                  try clear hfz106_3
                  try clear hfz106_4
                  try clear hfz106_5
                  try clear hfz108_0
                  try clear hfz108_1
                  try clear hfz108_2
                  try clear hfz108_3
                  try clear hfz108_4
                  try clear hfz108_5
                  try clear hfz109_0
                  try clear hfz109_1
                  try clear hfz109_2
                  try clear hfz109_3
                  try clear hfz109_4
                  try clear hfz109_5
                  try clear hfz110_0
                  try clear hfz110_1
                  try clear hfz110_2
                  try clear hfz110_3
                  try clear hfz110_4
                  try clear hfz110_5
                  try clear hfz111_0
                  try clear hfz111_1
                  try clear hfz111_2
                  try clear hfz111_3
                  try clear hfz111_4
                  try clear hfz111_5
                  try clear hfz70_0
                  try clear hfz70_1
                  try clear hfz70_2
                  try clear hfz70_3
                  try clear hfz70_4
                  try clear hfz70_5
                  try clear hfz71_0
                  try clear hfz71_1
                  try clear hfz71_2
                  try clear hfz71_3
                  try clear hfz71_4
                  try clear hfz71_5
                  try clear hfz73_0
                  try clear hfz73_1
                  try clear hfz73_2
                  try clear hfz73_3
                  try clear hfz73_4
                  try clear hfz73_5
                  try clear hfz75_0
                  try clear hfz75_1
                  try clear hfz75_2
                  try clear hfz75_3
                  try clear hfz75_4
                  try clear hfz75_5
                  try clear hfz76_0
                  try clear hfz76_1
                  try clear hfz76_2
                  try clear hfz76_3
                  try clear hfz76_4
                  try clear hfz76_5
                  try clear hfz78_0
                  try clear hfz78_1
                  try clear hfz78_2
                  try clear hfz78_3
                  try clear hfz78_4
                  try clear hfz78_5
                  try clear hfz81_0
                  try clear hfz81_1
                  try clear hfz81_2
                  try clear hfz81_3
                  try clear hfz81_4
                  try clear hfz81_5
                  try clear hfz82_0
                  try clear hfz82_1
                  try clear hfz82_2
                  try clear hfz82_3
                  try clear hfz82_4
                  try clear hfz82_5
                  try clear hfz84_0
                  try clear hfz84_1
                  try clear hfz84_2
                  try clear hfz84_3
                  try clear hfz84_4
                  try clear hfz84_5
                  try clear hfz86_0
                  try clear hfz86_1
                  try clear hfz86_2
                  try clear hfz86_3
                  try clear hfz86_4
                  try clear hfz86_5
                  try clear hfz87_0
                  try clear hfz87_1
                  try clear hfz87_2
                  try clear hfz87_3
                  try clear hfz87_4
                  try clear hfz87_5
                  try clear hfz92_0
                  try clear hfz92_1
                  try clear hfz92_2
                  try clear hfz92_3
                  try clear hfz92_4
                  try clear hfz92_5
                  try clear hfz93_0
                  try clear hfz93_1
                  try clear hfz93_2
                  try clear hfz93_3
                  try clear hfz93_4
                  try clear hfz93_5
                  try clear hfz95_0
                  try clear hfz95_1
                  try clear hfz95_2
                  try clear hfz95_3
                  try clear hfz95_4
                  try clear hfz95_5
                  try clear hfz97_0
                  try clear hfz97_1
                  try clear hfz97_2
                  try clear hfz97_3
                  try clear hfz97_4
                  try clear hfz97_5
                  try clear hfz98_0
                  try clear hfz98_1
                  try clear hfz98_2
                  try clear hfz98_3
                  try clear hfz98_4
                  try clear hfz98_5
                  obtain ⟨kq, x80_17, rfl, HA, HJ17, BK104, HB⟩ := hcut
                  cases kq with
                  | zero => exact absurd HA.out (by simp [spec_StepFault.j3])
                  | succ kj17 =>
                    have H := HA.out
                    clear HA
                    simp only [spec_StepFault.j3] at H
                    by_cases c112 : x80_17 = true
                    · subst c112
                      have H1 : (some 2) = some r := by rw [if_pos rfl] at H; exact H
                      clear H
                      have H := H1
                      clear H1
                      obtain rfl := Option.some.inj H
                      go_wp2
                      go_ret
                      exact ⟨by first | rfl | (simp [errW_none, errW_some] <;> rfl) | (simp [*, errW_none, errW_some] <;> rfl), by repeat (first | (with_reducible first | exact HB.out | apply below_alloc | apply pw_below_drewN | apply below_drew1 | refine below_set ?_ GE104.out) | exact HB.out)⟩
                    · replace c112 := Bool.eq_false_iff.mpr c112
                      subst c112
                      have H1 : ((spec_l4In.f a0_3 (-1) 1000000).bind fun t106 => (if t106 = true then (if (l0_5.length : Int) > 8192 then (some 4) else (some 0)) else (some 3))) = some r := by rw [if_neg (show ¬ (false = true) by decide)] at H; exact H
                      clear H
                      have H := H1
                      clear H1
                      replace H := Option.bind_eq_some_iff.mp H
                      obtain ⟨t106, A1130, H⟩ := H
                      replace H : (if t106 = true then (if (l0_5.length : Int) > 8192 then (some 4) else (some 0)) else (some 3)) = some r := H
                      have A113 := Aside0.mk A1130
                      clear A1130
                      by_cases c114 : t106 = true
                      · subst c114
                        have H1 : (if (l0_5.length : Int) > 8192 then (some 4) else (some 0)) = some r := by rw [if_pos rfl] at H; exact H
                        clear H
                        have H := H1
                        clear H1
                        by_cases c115 : (l0_5.length : Int) > 8192
                        · rw [if_pos c115] at H
                          have c115b0 : decide (8192 < (l0_5.length : Int)) = true := decide_eq_true c115
                          have c115b1 : decide (8192 < l0_5.length) = true := decide_eq_true (by omega)
                          clear c115
                          obtain rfl := Option.some.inj H
                          have hcz116_0 : wc.cell? ⟨gb104, 0, none⟩ = some (.int .i64 a0_0) := (blk_cell BK104.out 0).trans rfl
                          have hcz116_1 : wc.cell? ⟨gb104, 1, none⟩ = some (.int .i64 a0_1) := (blk_cell BK104.out 1).trans rfl
                          have hcz116_2 : wc.cell? ⟨gb104, 2, none⟩ = some (.int .i64 a0_2) := (blk_cell BK104.out 2).trans rfl
                          have hcz116_3 : wc.cell? ⟨gb104, 3, none⟩ = some (.int .i64 a0_3) := (blk_cell BK104.out 3).trans rfl
                          have hcz116_4 : wc.cell? ⟨gb104, 4, none⟩ = some (.slice A0_4 l0_4.length c0_4) := (blk_cell BK104.out 4).trans rfl
                          have hcz116_5 : wc.cell? ⟨gb104, 5, none⟩ = some (.slice A0_5 l0_5.length c0_5) := (blk_cell BK104.out 5).trans rfl
                          have hfz116_0 := blk_frozen BK104.out 0
                          have hfz116_1 := blk_frozen BK104.out 1
                          have hfz116_2 := blk_frozen BK104.out 2
                          have hfz116_3 := blk_frozen BK104.out 3
                          have hfz116_4 := blk_frozen BK104.out 4
                          have hfz116_5 := blk_frozen BK104.out 5
                          go_wp2_with (first | ((with_reducible refine gate_callee (f := 76) rfl ?_); refine goesL_ (some 83) rfl rfl Try.func76 (by kernel_rfl) rfl #[.int .i64 a0_3, .int .i64 (-1), .int .i64 1000000] rfl (by (try simp only [List.map_toArray, List.map_cons, List.map_nil]); first | done | rfl | (simp only [List.length_drop, List.length_take]; rfl)) ?_; (with_reducible refine (spec_l4In.calls a0_3 (-1) 1000000 true _ A113.out).mono ?_); rintro e w' ⟨rfl, ⟨nd, rfl⟩⟩; refine ⟨_, rfl, ?_⟩))
                          go_ret
                          exact ⟨by first | rfl | (simp [errW_none, errW_some] <;> rfl) | (simp [*, errW_none, errW_some] <;> rfl), by repeat (first | (with_reducible first | exact HB.out | apply below_alloc | apply pw_below_drewN | apply below_drew1 | refine below_set ?_ GE104.out) | exact HB.out)⟩
                        · rw [if_neg c115] at H
                          have c115b0 : decide (8192 < (l0_5.length : Int)) = false := decide_eq_false c115
                          have c115b1 : decide (8192 < l0_5.length) = false := decide_eq_false (by omega)
                          clear c115
                          obtain rfl := Option.some.inj H
                          have hcz117_0 : wc.cell? ⟨gb104, 0, none⟩ = some (.int .i64 a0_0) := (blk_cell BK104.out 0).trans rfl
                          have hcz117_1 : wc.cell? ⟨gb104, 1, none⟩ = some (.int .i64 a0_1) := (blk_cell BK104.out 1).trans rfl
                          have hcz117_2 : wc.cell? ⟨gb104, 2, none⟩ = some (.int .i64 a0_2) := (blk_cell BK104.out 2).trans rfl
                          have hcz117_3 : wc.cell? ⟨gb104, 3, none⟩ = some (.int .i64 a0_3) := (blk_cell BK104.out 3).trans rfl
                          have hcz117_4 : wc.cell? ⟨gb104, 4, none⟩ = some (.slice A0_4 l0_4.length c0_4) := (blk_cell BK104.out 4).trans rfl
                          have hcz117_5 : wc.cell? ⟨gb104, 5, none⟩ = some (.slice A0_5 l0_5.length c0_5) := (blk_cell BK104.out 5).trans rfl
                          have hfz117_0 := blk_frozen BK104.out 0
                          have hfz117_1 := blk_frozen BK104.out 1
                          have hfz117_2 := blk_frozen BK104.out 2
                          have hfz117_3 := blk_frozen BK104.out 3
                          have hfz117_4 := blk_frozen BK104.out 4
                          have hfz117_5 := blk_frozen BK104.out 5
                          go_wp2_with (first | ((with_reducible refine gate_callee (f := 76) rfl ?_); refine goesL_ (some 83) rfl rfl Try.func76 (by kernel_rfl) rfl #[.int .i64 a0_3, .int .i64 (-1), .int .i64 1000000] rfl (by (try simp only [List.map_toArray, List.map_cons, List.map_nil]); first | done | rfl | (simp only [List.length_drop, List.length_take]; rfl)) ?_; (with_reducible refine (spec_l4In.calls a0_3 (-1) 1000000 true _ A113.out).mono ?_); rintro e w' ⟨rfl, ⟨nd, rfl⟩⟩; refine ⟨_, rfl, ?_⟩))
                          go_ret
                          exact ⟨by first | rfl | (simp [errW_none, errW_some] <;> rfl) | (simp [*, errW_none, errW_some] <;> rfl), by repeat (first | (with_reducible first | exact HB.out | apply below_alloc | apply pw_below_drewN | apply below_drew1 | refine below_set ?_ GE104.out) | exact HB.out)⟩
                      · replace c114 := Bool.eq_false_iff.mpr c114
                        subst c114
                        have H1 : (some 3) = some r := by rw [if_neg (show ¬ (false = true) by decide)] at H; exact H
                        clear H
                        have H := H1
                        clear H1
                        obtain rfl := Option.some.inj H
                        have hcz118_0 : wc.cell? ⟨gb104, 0, none⟩ = some (.int .i64 a0_0) := (blk_cell BK104.out 0).trans rfl
                        have hcz118_1 : wc.cell? ⟨gb104, 1, none⟩ = some (.int .i64 a0_1) := (blk_cell BK104.out 1).trans rfl
                        have hcz118_2 : wc.cell? ⟨gb104, 2, none⟩ = some (.int .i64 a0_2) := (blk_cell BK104.out 2).trans rfl
                        have hcz118_3 : wc.cell? ⟨gb104, 3, none⟩ = some (.int .i64 a0_3) := (blk_cell BK104.out 3).trans rfl
                        have hcz118_4 : wc.cell? ⟨gb104, 4, none⟩ = some (.slice A0_4 l0_4.length c0_4) := (blk_cell BK104.out 4).trans rfl
                        have hcz118_5 : wc.cell? ⟨gb104, 5, none⟩ = some (.slice A0_5 l0_5.length c0_5) := (blk_cell BK104.out 5).trans rfl
                        have hfz118_0 := blk_frozen BK104.out 0
                        have hfz118_1 := blk_frozen BK104.out 1
                        have hfz118_2 := blk_frozen BK104.out 2
                        have hfz118_3 := blk_frozen BK104.out 3
                        have hfz118_4 := blk_frozen BK104.out 4
                        have hfz118_5 := blk_frozen BK104.out 5
                        go_wp2_with (first | ((with_reducible refine gate_callee (f := 76) rfl ?_); refine goesL_ (some 83) rfl rfl Try.func76 (by kernel_rfl) rfl #[.int .i64 a0_3, .int .i64 (-1), .int .i64 1000000] rfl (by (try simp only [List.map_toArray, List.map_cons, List.map_nil]); first | done | rfl | (simp only [List.length_drop, List.length_take]; rfl)) ?_; (with_reducible refine (spec_l4In.calls a0_3 (-1) 1000000 false _ A113.out).mono ?_); rintro e w' ⟨rfl, ⟨nd, rfl⟩⟩; refine ⟨_, rfl, ?_⟩))
                        go_ret
                        exact ⟨by first | rfl | (simp [errW_none, errW_some] <;> rfl) | (simp [*, errW_none, errW_some] <;> rfl), by repeat (first | (with_reducible first | exact HB.out | apply below_alloc | apply pw_below_drewN | apply below_drew1 | refine below_set ?_ GE104.out) | exact HB.out)⟩
  · replace c3 := Bool.eq_false_iff.mpr c3
    subst c3
    have H1 : (some 1) = some r := by rw [if_neg (show ¬ (false = true) by decide)] at H; exact H
    clear H
    have H := H1
    clear H1
    obtain rfl := Option.some.inj H
    go_enter Try.func19, Try.ntmps19
    go_wp2_with (first | ((with_reducible refine gate_dst (N := 1) rfl ?_); (try (refine gate_guard (by rfl) ?_; dsimp only)); refine box_event ?hg (N := 1) ?hd (cs := #[.int .i64 a0_0, .int .i64 a0_1, .int .i64 a0_2, .int .i64 a0_3, .slice A0_4 l0_4.length c0_4, .slice A0_5 l0_5.length c0_5]) (t := 39) ?hr ?_; (case hd => rfl); (case hg => rfl); (case hr => first | (go_simp; done) | (go_simp; rfl)); intro gb104 hg w119 hbox hb; have n0_ := Aside0.mk (below_step (by repeat (first | (with_reducible first | exact HB.out | apply below_alloc | apply pw_below_drewN | apply below_drew1) | exact HB.out)) hb); have n1_ := Aside0.mk (hbox); have n2_ := Aside0.mk ((by rw [hg]; exact (below_size (by repeat (first | (with_reducible first | exact HB.out | apply below_alloc | apply pw_below_drewN | apply below_drew1) | exact HB.out))) : w.heap.size ≤ gb104)); have n3_ := Aside0.mk ((by rw [hg]; exact (below_size (by repeat (first | (with_reducible first | exact HB.out | apply below_alloc | apply pw_below_drewN | apply below_drew1) | exact HB.out))) : w.heap.size ≤ gb104)); clear HB; have HB := n0_; have BK104 := n1_; have GW104 := n2_; have GE104 := n3_; clear n0_ n1_ n2_ n3_; clear hb hbox hg; have hcz120_0 : w119.cell? ⟨gb104, 0, none⟩ = some (.int .i64 a0_0) := (blk_cell BK104.out 0).trans rfl; have hcz120_1 : w119.cell? ⟨gb104, 1, none⟩ = some (.int .i64 a0_1) := (blk_cell BK104.out 1).trans rfl; have hcz120_2 : w119.cell? ⟨gb104, 2, none⟩ = some (.int .i64 a0_2) := (blk_cell BK104.out 2).trans rfl; have hcz120_3 : w119.cell? ⟨gb104, 3, none⟩ = some (.int .i64 a0_3) := (blk_cell BK104.out 3).trans rfl; have hcz120_4 : w119.cell? ⟨gb104, 4, none⟩ = some (.slice A0_4 l0_4.length c0_4) := (blk_cell BK104.out 4).trans rfl; have hcz120_5 : w119.cell? ⟨gb104, 5, none⟩ = some (.slice A0_5 l0_5.length c0_5) := (blk_cell BK104.out 5).trans rfl; have hfz120_0 := blk_frozen BK104.out 0; have hfz120_1 := blk_frozen BK104.out 1; have hfz120_2 := blk_frozen BK104.out 2; have hfz120_3 := blk_frozen BK104.out 3; have hfz120_4 := blk_frozen BK104.out 4; have hfz120_5 := blk_frozen BK104.out 5) | ((with_reducible refine gate_callee (f := 76) rfl ?_); refine goesL_ (some 8) rfl rfl Try.func76 (by kernel_rfl) rfl #[.int .i64 a0_0, .int .i64 1, .int .i64 11] rfl (by (try simp only [List.map_toArray, List.map_cons, List.map_nil]); first | done | rfl | (simp only [List.length_drop, List.length_take]; rfl)) ?_; (with_reducible refine (spec_l4In.calls a0_0 1 11 false _ A2.out).mono ?_); rintro e w' ⟨rfl, ⟨nd, rfl⟩⟩; refine ⟨_, rfl, ?_⟩))
    go_ret
    exact ⟨by first | rfl | (simp [errW_none, errW_some] <;> rfl) | (simp [*, errW_none, errW_some] <;> rfl), by repeat (first | (with_reducible first | exact HB.out | apply below_alloc | apply pw_below_drewN | apply below_drew1 | refine below_set ?_ GE104.out) | exact HB.out)⟩

end Go.Proofs.Ytmggneijkhmigaa.PFnExactStepFault
