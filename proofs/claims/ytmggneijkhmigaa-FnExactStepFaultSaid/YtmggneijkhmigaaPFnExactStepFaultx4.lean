-- PRINTED BY print.sh 35421559b90ae4d0a3588c463048766b98c2df88dd9212a6774a882060cdf62d: not written by this session
import Derived.Test.YtmggneijkhmigaaPFnExactStepFaultx0
import Derived.Test.YtmggneijkhmigaaPFnExactStepFaultx3
namespace Go.Proofs.Ytmggneijkhmigaa.PFnExactStepFault
open Go.RowKit Go.Proofs.YtmggneijkhmigaaW.PrintWords Go.Proofs.YtmggneijkhmigaaW.PrintLast Go.Proofs.YtmggneijkhmigaaW.PrintMore
attribute [local go_sem] max2_int min2_int max_two min_two max_three min_three max_four min_four   -- for this text's walks alone
set_option linter.unusedVariables false
set_option linter.unusedSimpArgs false

/-! ### impl_StepFault: function 21 -/
mutual
def impl_StepFault.j0 : Nat → Int → Bool → Bool → Bool → Int → Int → Int → Int → List Int → List Int → Option (Int)
  | 0, _, _, _, _, _, _, _, _, _, _ => none
  | k + 1, x3, x4, x5, x6, x127000, x127001, x127002, x127003, x127004, x127005 => if x4 = true then (if x5 = true then (if x6 = true then (if x3 = 11 then (if x3 = 10 then (impl_StepFault.j1 k false x127000 x127001 x127002 x127003 x127004 x127005) else (impl_StepFault.j1 k (decide ((x127005.length : Int) > 0)) x127000 x127001 x127002 x127003 x127004 x127005)) else (if x127003 = 0 then (if x3 = 10 then (impl_StepFault.j1 k false x127000 x127001 x127002 x127003 x127004 x127005) else (impl_StepFault.j1 k (decide ((x127005.length : Int) > 0)) x127000 x127001 x127002 x127003 x127004 x127005)) else (impl_StepFault.j1 k true x127000 x127001 x127002 x127003 x127004 x127005))) else (if (x127004.length : Int) > 0 then (impl_StepFault.j1 k true x127000 x127001 x127002 x127003 x127004 x127005) else (if x3 = 11 then (if x3 = 10 then (impl_StepFault.j1 k false x127000 x127001 x127002 x127003 x127004 x127005) else (impl_StepFault.j1 k (decide ((x127005.length : Int) > 0)) x127000 x127001 x127002 x127003 x127004 x127005)) else (if x127003 = 0 then (if x3 = 10 then (impl_StepFault.j1 k false x127000 x127001 x127002 x127003 x127004 x127005) else (impl_StepFault.j1 k (decide ((x127005.length : Int) > 0)) x127000 x127001 x127002 x127003 x127004 x127005)) else (impl_StepFault.j1 k true x127000 x127001 x127002 x127003 x127004 x127005))))) else (if x127002 = 0 then (if x6 = true then (if x3 = 11 then (if x3 = 10 then (impl_StepFault.j1 k false x127000 x127001 x127002 x127003 x127004 x127005) else (impl_StepFault.j1 k (decide ((x127005.length : Int) > 0)) x127000 x127001 x127002 x127003 x127004 x127005)) else (if x127003 = 0 then (if x3 = 10 then (impl_StepFault.j1 k false x127000 x127001 x127002 x127003 x127004 x127005) else (impl_StepFault.j1 k (decide ((x127005.length : Int) > 0)) x127000 x127001 x127002 x127003 x127004 x127005)) else (impl_StepFault.j1 k true x127000 x127001 x127002 x127003 x127004 x127005))) else (if (x127004.length : Int) > 0 then (impl_StepFault.j1 k true x127000 x127001 x127002 x127003 x127004 x127005) else (if x3 = 11 then (if x3 = 10 then (impl_StepFault.j1 k false x127000 x127001 x127002 x127003 x127004 x127005) else (impl_StepFault.j1 k (decide ((x127005.length : Int) > 0)) x127000 x127001 x127002 x127003 x127004 x127005)) else (if x127003 = 0 then (if x3 = 10 then (impl_StepFault.j1 k false x127000 x127001 x127002 x127003 x127004 x127005) else (impl_StepFault.j1 k (decide ((x127005.length : Int) > 0)) x127000 x127001 x127002 x127003 x127004 x127005)) else (impl_StepFault.j1 k true x127000 x127001 x127002 x127003 x127004 x127005))))) else (impl_StepFault.j1 k true x127000 x127001 x127002 x127003 x127004 x127005))) else (if x127001 = 0 then (if x5 = true then (if x6 = true then (if x3 = 11 then (if x3 = 10 then (impl_StepFault.j1 k false x127000 x127001 x127002 x127003 x127004 x127005) else (impl_StepFault.j1 k (decide ((x127005.length : Int) > 0)) x127000 x127001 x127002 x127003 x127004 x127005)) else (if x127003 = 0 then (if x3 = 10 then (impl_StepFault.j1 k false x127000 x127001 x127002 x127003 x127004 x127005) else (impl_StepFault.j1 k (decide ((x127005.length : Int) > 0)) x127000 x127001 x127002 x127003 x127004 x127005)) else (impl_StepFault.j1 k true x127000 x127001 x127002 x127003 x127004 x127005))) else (if (x127004.length : Int) > 0 then (impl_StepFault.j1 k true x127000 x127001 x127002 x127003 x127004 x127005) else (if x3 = 11 then (if x3 = 10 then (impl_StepFault.j1 k false x127000 x127001 x127002 x127003 x127004 x127005) else (impl_StepFault.j1 k (decide ((x127005.length : Int) > 0)) x127000 x127001 x127002 x127003 x127004 x127005)) else (if x127003 = 0 then (if x3 = 10 then (impl_StepFault.j1 k false x127000 x127001 x127002 x127003 x127004 x127005) else (impl_StepFault.j1 k (decide ((x127005.length : Int) > 0)) x127000 x127001 x127002 x127003 x127004 x127005)) else (impl_StepFault.j1 k true x127000 x127001 x127002 x127003 x127004 x127005))))) else (if x127002 = 0 then (if x6 = true then (if x3 = 11 then (if x3 = 10 then (impl_StepFault.j1 k false x127000 x127001 x127002 x127003 x127004 x127005) else (impl_StepFault.j1 k (decide ((x127005.length : Int) > 0)) x127000 x127001 x127002 x127003 x127004 x127005)) else (if x127003 = 0 then (if x3 = 10 then (impl_StepFault.j1 k false x127000 x127001 x127002 x127003 x127004 x127005) else (impl_StepFault.j1 k (decide ((x127005.length : Int) > 0)) x127000 x127001 x127002 x127003 x127004 x127005)) else (impl_StepFault.j1 k true x127000 x127001 x127002 x127003 x127004 x127005))) else (if (x127004.length : Int) > 0 then (impl_StepFault.j1 k true x127000 x127001 x127002 x127003 x127004 x127005) else (if x3 = 11 then (if x3 = 10 then (impl_StepFault.j1 k false x127000 x127001 x127002 x127003 x127004 x127005) else (impl_StepFault.j1 k (decide ((x127005.length : Int) > 0)) x127000 x127001 x127002 x127003 x127004 x127005)) else (if x127003 = 0 then (if x3 = 10 then (impl_StepFault.j1 k false x127000 x127001 x127002 x127003 x127004 x127005) else (impl_StepFault.j1 k (decide ((x127005.length : Int) > 0)) x127000 x127001 x127002 x127003 x127004 x127005)) else (impl_StepFault.j1 k true x127000 x127001 x127002 x127003 x127004 x127005))))) else (impl_StepFault.j1 k true x127000 x127001 x127002 x127003 x127004 x127005))) else (impl_StepFault.j1 k true x127000 x127001 x127002 x127003 x127004 x127005))
def impl_StepFault.j1 : Nat → Bool → Int → Int → Int → Int → List Int → List Int → Option (Int)
  | 0, _, _, _, _, _, _, _ => none
  | k + 1, x66, x127000, x127001, x127002, x127003, x127004, x127005 => if x66 = true then (some 2) else ((impl_in.f x127003 (-1) 1000000).bind fun t130 => (if t130 = true then (if (x127005.length : Int) > 8192 then (some 4) else (some 0)) else (some 3)))
end
def impl_StepFault.f (k : Nat) (a0_0 : Int) (a0_1 : Int) (a0_2 : Int) (a0_3 : Int) (l0_4 : List Int) (l0_5 : List Int) : Option (Int) := (impl_in.f a0_0 1 11).bind fun t127 => (if t127 = true then ((impl_in.f a0_0 2 7).bind fun t128 => ((impl_in.f a0_0 3 5).bind fun t129 => (if a0_0 = 2 then (impl_StepFault.j0 k a0_0 t128 t129 true a0_0 a0_1 a0_2 a0_3 l0_4 l0_5) else (impl_StepFault.j0 k a0_0 t128 t129 (a0_0 == 3) a0_0 a0_1 a0_2 a0_3 l0_4 l0_5)))) else (some 1))
theorem impl_StepFault.mono_l : ∀ k, (∀ y0 y1 y2 y3 y4 y5 y6 y7 y8 y9, LeO (impl_StepFault.j0 k y0 y1 y2 y3 y4 y5 y6 y7 y8 y9) (impl_StepFault.j0 (k + 1) y0 y1 y2 y3 y4 y5 y6 y7 y8 y9)) ∧ (∀ y0 y1 y2 y3 y4 y5 y6, LeO (impl_StepFault.j1 k y0 y1 y2 y3 y4 y5 y6) (impl_StepFault.j1 (k + 1) y0 y1 y2 y3 y4 y5 y6))
  | 0 => ⟨fun _ _ _ _ _ _ _ _ _ _ r h => by simp [impl_StepFault.j0] at h, fun _ _ _ _ _ _ _ r h => by simp [impl_StepFault.j1] at h⟩
  | k + 1 => by
    obtain ⟨ih0, ih1⟩ := impl_StepFault.mono_l k
    refine ⟨?_, ?_⟩
    · intro y0 y1 y2 y3 y4 y5 y6 y7 y8 y9
      unfold impl_StepFault.j0
      repeat' first
      | (with_reducible exact ih0 _ _ _ _ _ _ _ _ _ _)
      | (with_reducible exact ih1 _ _ _ _ _ _ _)
      | (with_reducible exact LeO.refl _)
      | (with_reducible exact LeO.none _)
      | (with_reducible refine LeO.ite ?_ ?_)
      | (with_reducible refine LeO.bind ?_ (fun _ => ?_))
      | exact ih0 _ _ _ _ _ _ _ _ _ _
      | exact ih1 _ _ _ _ _ _ _
      | exact LeO.none _
      | refine LeO.ite ?_ ?_
      | refine LeO.bind ?_ (fun _ => ?_)
    · intro y0 y1 y2 y3 y4 y5 y6
      unfold impl_StepFault.j1
      repeat' first
      | (with_reducible exact ih0 _ _ _ _ _ _ _ _ _ _)
      | (with_reducible exact ih1 _ _ _ _ _ _ _)
      | (with_reducible exact LeO.refl _)
      | (with_reducible exact LeO.none _)
      | (with_reducible refine LeO.ite ?_ ?_)
      | (with_reducible refine LeO.bind ?_ (fun _ => ?_))
      | exact ih0 _ _ _ _ _ _ _ _ _ _
      | exact ih1 _ _ _ _ _ _ _
      | exact LeO.none _
      | refine LeO.ite ?_ ?_
      | refine LeO.bind ?_ (fun _ => ?_)
theorem impl_StepFault.mono : ∀ a0 a1 a2 a3 a4 a5 k, LeO (impl_StepFault.f k a0 a1 a2 a3 a4 a5) (impl_StepFault.f (k + 1) a0 a1 a2 a3 a4 a5) := by
  intro a0 a1 a2 a3 a4 a5 k
  obtain ⟨ih0, ih1⟩ := impl_StepFault.mono_l k
  unfold impl_StepFault.f
  repeat' first
      | (with_reducible exact ih0 _ _ _ _ _ _ _ _ _ _)
      | (with_reducible exact ih1 _ _ _ _ _ _ _)
      | (with_reducible exact LeO.refl _)
      | (with_reducible exact LeO.none _)
      | (with_reducible refine LeO.ite ?_ ?_)
      | (with_reducible refine LeO.bind ?_ (fun _ => ?_))
      | exact ih0 _ _ _ _ _ _ _ _ _ _
      | exact ih1 _ _ _ _ _ _ _
      | exact LeO.none _
      | refine LeO.ite ?_ ?_
      | refine LeO.bind ?_ (fun _ => ?_)
set_option maxHeartbeats 8000000 in
set_option maxRecDepth 100000 in
theorem impl_StepFault.calls (k : Nat) (a0_0 : Int) (a0_1 : Int) (a0_2 : Int) (a0_3 : Int) (A0_4 : Option Addr) (c0_4 : Nat) (l0_4 : List Int) (A0_5 : Option Addr) (c0_5 : Nat) (l0_5 : List Int) (r : Int) (w : World) (hr0_4 : Kd.C (Kd.int .u8) w A0_4 l0_4.length l0_4) (hc0_4 : l0_4.length ≤ c0_4) (hr0_5 : Kd.C (Kd.int .i64) w A0_5 l0_5.length l0_5) (hc0_5 : l0_5.length ≤ c0_5) (h : impl_StepFault.f k a0_0 a0_1 a0_2 a0_3 l0_4 l0_5 = some r) :
    Calls Try.prog 21 #[.agg #[.int .i64 a0_0, .int .i64 a0_1, .int .i64 a0_2, .int .i64 a0_3, .slice A0_4 l0_4.length c0_4, .slice A0_5 l0_5.length c0_5]] w fun e w' => e = .returned (.int .i64 r) ∧ Below w.heap.size w w' := by
  have hu39 := Try.underlying39
  have HR0_4 := Aside0.mk hr0_4
  have HC0_4 := Aside0.mk hc0_4
  clear hr0_4 hc0_4
  have HR0_5 := Aside0.mk hr0_5
  have HC0_5 := Aside0.mk hc0_5
  clear hr0_5 hc0_5
  have HB := Aside0.mk (Below.refl w.heap.size w)
  have H : ((impl_in.f a0_0 1 11).bind fun t127 => (if t127 = true then ((impl_in.f a0_0 2 7).bind fun t128 => ((impl_in.f a0_0 3 5).bind fun t129 => (if a0_0 = 2 then (impl_StepFault.j0 k a0_0 t128 t129 true a0_0 a0_1 a0_2 a0_3 l0_4 l0_5) else (impl_StepFault.j0 k a0_0 t128 t129 (a0_0 == 3) a0_0 a0_1 a0_2 a0_3 l0_4 l0_5)))) else (some 1))) = some r := h
  clear h
  replace H := Option.bind_eq_some_iff.mp H
  obtain ⟨t127, A20, H⟩ := H
  replace H : (if t127 = true then ((impl_in.f a0_0 2 7).bind fun t128 => ((impl_in.f a0_0 3 5).bind fun t129 => (if a0_0 = 2 then (impl_StepFault.j0 k a0_0 t128 t129 true a0_0 a0_1 a0_2 a0_3 l0_4 l0_5) else (impl_StepFault.j0 k a0_0 t128 t129 (a0_0 == 3) a0_0 a0_1 a0_2 a0_3 l0_4 l0_5)))) else (some 1)) = some r := H
  have A2 := Aside0.mk A20
  clear A20
  by_cases c3 : t127 = true
  · subst c3
    have H1 : ((impl_in.f a0_0 2 7).bind fun t128 => ((impl_in.f a0_0 3 5).bind fun t129 => (if a0_0 = 2 then (impl_StepFault.j0 k a0_0 t128 t129 true a0_0 a0_1 a0_2 a0_3 l0_4 l0_5) else (impl_StepFault.j0 k a0_0 t128 t129 (a0_0 == 3) a0_0 a0_1 a0_2 a0_3 l0_4 l0_5)))) = some r := by rw [if_pos rfl] at H; exact H
    clear H
    have H := H1
    clear H1
    replace H := Option.bind_eq_some_iff.mp H
    obtain ⟨t128, A40, H⟩ := H
    replace H : ((impl_in.f a0_0 3 5).bind fun t129 => (if a0_0 = 2 then (impl_StepFault.j0 k a0_0 t128 t129 true a0_0 a0_1 a0_2 a0_3 l0_4 l0_5) else (impl_StepFault.j0 k a0_0 t128 t129 (a0_0 == 3) a0_0 a0_1 a0_2 a0_3 l0_4 l0_5))) = some r := H
    have A4 := Aside0.mk A40
    clear A40
    replace H := Option.bind_eq_some_iff.mp H
    obtain ⟨t129, A50, H⟩ := H
    replace H : (if a0_0 = 2 then (impl_StepFault.j0 k a0_0 t128 t129 true a0_0 a0_1 a0_2 a0_3 l0_4 l0_5) else (impl_StepFault.j0 k a0_0 t128 t129 (a0_0 == 3) a0_0 a0_1 a0_2 a0_3 l0_4 l0_5)) = some r := H
    have A5 := Aside0.mk A50
    clear A50
    have HC6 := Aside0.mk H
    clear H
    go_enter Try.func21, Try.ntmps21
    go_upto_region 6 with (first | ((with_reducible refine gate_dst (N := 1) rfl ?_); (try (refine gate_guard (by rfl) ?_; dsimp only)); refine box_event ?hg (N := 1) ?hd (cs := #[.int .i64 a0_0, .int .i64 a0_1, .int .i64 a0_2, .int .i64 a0_3, .slice A0_4 l0_4.length c0_4, .slice A0_5 l0_5.length c0_5]) (t := 39) ?hr ?_; (case hd => rfl); (case hg => rfl); (case hr => first | (go_simp; done) | (go_simp; rfl)); intro gb126 hg w7 hbox hb; have n0_ := Aside0.mk (below_step (by repeat (first | (with_reducible first | exact HB.out | apply below_alloc | apply pw_below_drewN | apply below_drew1) | exact HB.out)) hb); have n1_ := Aside0.mk (hbox); have n2_ := Aside0.mk ((by rw [hg]; exact (below_size (by repeat (first | (with_reducible first | exact HB.out | apply below_alloc | apply pw_below_drewN | apply below_drew1) | exact HB.out))) : w.heap.size ≤ gb126)); have n3_ := Aside0.mk ((by rw [hg]; exact (below_size (by repeat (first | (with_reducible first | exact HB.out | apply below_alloc | apply pw_below_drewN | apply below_drew1) | exact HB.out))) : w.heap.size ≤ gb126)); clear HB; have HB := n0_; have BK126 := n1_; have GW126 := n2_; have GE126 := n3_; clear n0_ n1_ n2_ n3_; clear hb hbox hg; have hcz8_0 : w7.cell? ⟨gb126, 0, none⟩ = some (.int .i64 a0_0) := (blk_cell BK126.out 0).trans rfl; have hcz8_1 : w7.cell? ⟨gb126, 1, none⟩ = some (.int .i64 a0_1) := (blk_cell BK126.out 1).trans rfl; have hcz8_2 : w7.cell? ⟨gb126, 2, none⟩ = some (.int .i64 a0_2) := (blk_cell BK126.out 2).trans rfl; have hcz8_3 : w7.cell? ⟨gb126, 3, none⟩ = some (.int .i64 a0_3) := (blk_cell BK126.out 3).trans rfl; have hcz8_4 : w7.cell? ⟨gb126, 4, none⟩ = some (.slice A0_4 l0_4.length c0_4) := (blk_cell BK126.out 4).trans rfl; have hcz8_5 : w7.cell? ⟨gb126, 5, none⟩ = some (.slice A0_5 l0_5.length c0_5) := (blk_cell BK126.out 5).trans rfl; have hfz8_0 := blk_frozen BK126.out 0; have hfz8_1 := blk_frozen BK126.out 1; have hfz8_2 := blk_frozen BK126.out 2; have hfz8_3 := blk_frozen BK126.out 3; have hfz8_4 := blk_frozen BK126.out 4; have hfz8_5 := blk_frozen BK126.out 5) | ((with_reducible refine gate_callee (f := 77) rfl ?_); refine goesL_ (some 10) rfl rfl Try.func77 (by kernel_rfl) rfl #[.int .i64 a0_0, .int .i64 1, .int .i64 11] rfl (by (try simp only [List.map_toArray, List.map_cons, List.map_nil]); first | done | rfl | (simp only [List.length_drop, List.length_take]; rfl)) ?_; (with_reducible refine (impl_in.calls a0_0 1 11 true _ A2.out).mono ?_); rintro e w' ⟨rfl, ⟨nd, rfl⟩⟩; refine ⟨_, rfl, ?_⟩) | ((with_reducible refine gate_callee (f := 77) rfl ?_); refine goesL_ (some 13) rfl rfl Try.func77 (by kernel_rfl) rfl #[.int .i64 a0_0, .int .i64 2, .int .i64 7] rfl (by (try simp only [List.map_toArray, List.map_cons, List.map_nil]); first | done | rfl | (simp only [List.length_drop, List.length_take]; rfl)) ?_; (with_reducible refine (impl_in.calls a0_0 2 7 t128 _ A4.out).mono ?_); rintro e w' ⟨rfl, ⟨nd, rfl⟩⟩; refine ⟨_, rfl, ?_⟩) | ((with_reducible refine gate_callee (f := 77) rfl ?_); refine goesL_ (some 15) rfl rfl Try.func77 (by kernel_rfl) rfl #[.int .i64 a0_0, .int .i64 3, .int .i64 5] rfl (by (try simp only [List.map_toArray, List.map_cons, List.map_nil]); first | done | rfl | (simp only [List.length_drop, List.length_take]; rfl)) ?_; (with_reducible refine (impl_in.calls a0_0 3 5 t129 _ A5.out).mono ?_); rintro e w' ⟨rfl, ⟨nd, rfl⟩⟩; refine ⟨_, rfl, ?_⟩))
    (try simp only [Act.put, List.setIfInBounds_toArray, List.set_cons_zero, List.set_cons_succ])
    go_cut [6] (fun v6 wc => ∃ (kq : Nat) (x6_5 : Bool), v6 = .bool x6_5 ∧ Aside0 (impl_StepFault.j0 kq a0_0 t128 t129 x6_5 a0_0 a0_1 a0_2 a0_3 l0_4 l0_5 = some r) ∧ Aside0 (kq ≤ k) ∧ Aside0 (wc.heap[gb126]? = some (.cells #[.int .i64 a0_0, .int .i64 a0_1, .int .i64 a0_2, .int .i64 a0_3, (.slice A0_4 l0_4.length c0_4), (.slice A0_5 l0_5.length c0_5)] 39 (0, 0))) ∧ Aside0 (Below w.heap.size w wc))
    case first =>
      have H := HC6.out
      clear HC6
      by_cases c9 : a0_0 = 2
      · rw [if_pos c9] at H
        have c9b0 : (a0_0 == 2) = true := beq_iff_eq.mpr c9
        have c9b1 : (a0_0 != 2) = false := bne_eq_false_iff_eq.mpr c9
        clear c9
        (first | rw [c9b0] | (simp only [i64_w, i32_w]; rw [c9b0]) | skip)
        have H' := Aside0.mk H
        clear H
        go_wp2
        go_meet
        case rel => exact ⟨_, (true), (by first | rfl | (simp; done) | (simp [*]; done)), H', ⟨by first | omega | exact Nat.le_refl _⟩, ⟨by (with_reducible repeat (first | refine blk_drewN ?_ _ | refine blk_drew ?_ | refine blk_alloc ?_ _)); exact BK126.out⟩, ⟨by repeat (first | (with_reducible first | exact HB.out | apply below_alloc | apply pw_below_drewN | apply below_drew1 | refine below_set ?_ GE126.out) | exact HB.out)⟩⟩
      · rw [if_neg c9] at H
        have c9b0 : (a0_0 == 2) = false := beq_eq_false_iff_ne.mpr c9
        have c9b1 : (a0_0 != 2) = true := bne_iff_ne.mpr c9
        (first | rw [c9b0] | (simp only [i64_w, i32_w]; rw [c9b0]) | skip)
        have H' := Aside0.mk H
        clear H
        go_wp2
        go_meet
        case rel => exact ⟨_, ((a0_0 == 3)), (by first | rfl | (simp; done) | (simp [*]; done)), H', ⟨by first | omega | exact Nat.le_refl _⟩, ⟨by (with_reducible repeat (first | refine blk_drewN ?_ _ | refine blk_drew ?_ | refine blk_alloc ?_ _)); exact BK126.out⟩, ⟨by repeat (first | (with_reducible first | exact HB.out | apply below_alloc | apply pw_below_drewN | apply below_drew1 | refine below_set ?_ GE126.out) | exact HB.out)⟩⟩
    case rest =>
      clear HC6
      try clear c2
      try clear p2
      try clear c3
      try clear c7
      try clear c9
      try clear c9b0
      try clear c9b1
      try clear hcz8_0
      try clear hcz8_1
      try clear hcz8_2
      try clear hcz8_3
      try clear hcz8_4
      try clear hcz8_5
      try clear hfz8_0
      try clear hfz8_1
      try clear hfz8_2
      try clear hfz8_3
      try clear hfz8_4
      try clear hfz8_5
      obtain ⟨kq, x6_5, rfl, HA, HJ5, BK126, HB⟩ := hcut
      cases kq with
      | zero => exact absurd HA.out (by simp [impl_StepFault.j0])
      | succ kj5 =>
        have H := HA.out
        clear HA
        simp only [impl_StepFault.j0] at H
        have HC10 := Aside0.mk H
        clear H
        go_upto_region 7 with (fail)
        go_cut [66] (fun v66 wc => ∃ (kq : Nat) (x66_9 : Bool), v66 = .bool x66_9 ∧ Aside0 (impl_StepFault.j1 kq x66_9 a0_0 a0_1 a0_2 a0_3 l0_4 l0_5 = some r) ∧ Aside0 (kq ≤ kj5) ∧ Aside0 (wc.heap[gb126]? = some (.cells #[.int .i64 a0_0, .int .i64 a0_1, .int .i64 a0_2, .int .i64 a0_3, (.slice A0_4 l0_4.length c0_4), (.slice A0_5 l0_5.length c0_5)] 39 (0, 0))) ∧ Aside0 (Below w.heap.size w wc))
        case first =>
          have H := HC10.out
          clear HC10
          by_cases c11 : t128 = true
          · subst c11
            have H1 : (if t129 = true then (if x6_5 = true then (if a0_0 = 11 then (if a0_0 = 10 then (impl_StepFault.j1 kj5 false a0_0 a0_1 a0_2 a0_3 l0_4 l0_5) else (impl_StepFault.j1 kj5 (decide ((l0_5.length : Int) > 0)) a0_0 a0_1 a0_2 a0_3 l0_4 l0_5)) else (if a0_3 = 0 then (if a0_0 = 10 then (impl_StepFault.j1 kj5 false a0_0 a0_1 a0_2 a0_3 l0_4 l0_5) else (impl_StepFault.j1 kj5 (decide ((l0_5.length : Int) > 0)) a0_0 a0_1 a0_2 a0_3 l0_4 l0_5)) else (impl_StepFault.j1 kj5 true a0_0 a0_1 a0_2 a0_3 l0_4 l0_5))) else (if (l0_4.length : Int) > 0 then (impl_StepFault.j1 kj5 true a0_0 a0_1 a0_2 a0_3 l0_4 l0_5) else (if a0_0 = 11 then (if a0_0 = 10 then (impl_StepFault.j1 kj5 false a0_0 a0_1 a0_2 a0_3 l0_4 l0_5) else (impl_StepFault.j1 kj5 (decide ((l0_5.length : Int) > 0)) a0_0 a0_1 a0_2 a0_3 l0_4 l0_5)) else (if a0_3 = 0 then (if a0_0 = 10 then (impl_StepFault.j1 kj5 false a0_0 a0_1 a0_2 a0_3 l0_4 l0_5) else (impl_StepFault.j1 kj5 (decide ((l0_5.length : Int) > 0)) a0_0 a0_1 a0_2 a0_3 l0_4 l0_5)) else (impl_StepFault.j1 kj5 true a0_0 a0_1 a0_2 a0_3 l0_4 l0_5))))) else (if a0_2 = 0 then (if x6_5 = true then (if a0_0 = 11 then (if a0_0 = 10 then (impl_StepFault.j1 kj5 false a0_0 a0_1 a0_2 a0_3 l0_4 l0_5) else (impl_StepFault.j1 kj5 (decide ((l0_5.length : Int) > 0)) a0_0 a0_1 a0_2 a0_3 l0_4 l0_5)) else (if a0_3 = 0 then (if a0_0 = 10 then (impl_StepFault.j1 kj5 false a0_0 a0_1 a0_2 a0_3 l0_4 l0_5) else (impl_StepFault.j1 kj5 (decide ((l0_5.length : Int) > 0)) a0_0 a0_1 a0_2 a0_3 l0_4 l0_5)) else (impl_StepFault.j1 kj5 true a0_0 a0_1 a0_2 a0_3 l0_4 l0_5))) else (if (l0_4.length : Int) > 0 then (impl_StepFault.j1 kj5 true a0_0 a0_1 a0_2 a0_3 l0_4 l0_5) else (if a0_0 = 11 then (if a0_0 = 10 then (impl_StepFault.j1 kj5 false a0_0 a0_1 a0_2 a0_3 l0_4 l0_5) else (impl_StepFault.j1 kj5 (decide ((l0_5.length : Int) > 0)) a0_0 a0_1 a0_2 a0_3 l0_4 l0_5)) else (if a0_3 = 0 then (if a0_0 = 10 then (impl_StepFault.j1 kj5 false a0_0 a0_1 a0_2 a0_3 l0_4 l0_5) else (impl_StepFault.j1 kj5 (decide ((l0_5.length : Int) > 0)) a0_0 a0_1 a0_2 a0_3 l0_4 l0_5)) else (impl_StepFault.j1 kj5 true a0_0 a0_1 a0_2 a0_3 l0_4 l0_5))))) else (impl_StepFault.j1 kj5 true a0_0 a0_1 a0_2 a0_3 l0_4 l0_5))) = some r := by rw [if_pos rfl] at H; exact H
            clear H
            have H := H1
            clear H1
            by_cases c12 : t129 = true
            · subst c12
              have H1 : (if x6_5 = true then (if a0_0 = 11 then (if a0_0 = 10 then (impl_StepFault.j1 kj5 false a0_0 a0_1 a0_2 a0_3 l0_4 l0_5) else (impl_StepFault.j1 kj5 (decide ((l0_5.length : Int) > 0)) a0_0 a0_1 a0_2 a0_3 l0_4 l0_5)) else (if a0_3 = 0 then (if a0_0 = 10 then (impl_StepFault.j1 kj5 false a0_0 a0_1 a0_2 a0_3 l0_4 l0_5) else (impl_StepFault.j1 kj5 (decide ((l0_5.length : Int) > 0)) a0_0 a0_1 a0_2 a0_3 l0_4 l0_5)) else (impl_StepFault.j1 kj5 true a0_0 a0_1 a0_2 a0_3 l0_4 l0_5))) else (if (l0_4.length : Int) > 0 then (impl_StepFault.j1 kj5 true a0_0 a0_1 a0_2 a0_3 l0_4 l0_5) else (if a0_0 = 11 then (if a0_0 = 10 then (impl_StepFault.j1 kj5 false a0_0 a0_1 a0_2 a0_3 l0_4 l0_5) else (impl_StepFault.j1 kj5 (decide ((l0_5.length : Int) > 0)) a0_0 a0_1 a0_2 a0_3 l0_4 l0_5)) else (if a0_3 = 0 then (if a0_0 = 10 then (impl_StepFault.j1 kj5 false a0_0 a0_1 a0_2 a0_3 l0_4 l0_5) else (impl_StepFault.j1 kj5 (decide ((l0_5.length : Int) > 0)) a0_0 a0_1 a0_2 a0_3 l0_4 l0_5)) else (impl_StepFault.j1 kj5 true a0_0 a0_1 a0_2 a0_3 l0_4 l0_5))))) = some r := by rw [if_pos rfl] at H; exact H
              clear H
              have H := H1
              clear H1
              by_cases c13 : x6_5 = true
              · subst c13
                have H1 : (if a0_0 = 11 then (if a0_0 = 10 then (impl_StepFault.j1 kj5 false a0_0 a0_1 a0_2 a0_3 l0_4 l0_5) else (impl_StepFault.j1 kj5 (decide ((l0_5.length : Int) > 0)) a0_0 a0_1 a0_2 a0_3 l0_4 l0_5)) else (if a0_3 = 0 then (if a0_0 = 10 then (impl_StepFault.j1 kj5 false a0_0 a0_1 a0_2 a0_3 l0_4 l0_5) else (impl_StepFault.j1 kj5 (decide ((l0_5.length : Int) > 0)) a0_0 a0_1 a0_2 a0_3 l0_4 l0_5)) else (impl_StepFault.j1 kj5 true a0_0 a0_1 a0_2 a0_3 l0_4 l0_5))) = some r := by rw [if_pos rfl] at H; exact H
                clear H
                have H := H1
                clear H1
                by_cases c14 : a0_0 = 11
                · rw [if_pos c14] at H
                  have c14b0 : (a0_0 == 11) = true := beq_iff_eq.mpr c14
                  have c14b1 : (a0_0 != 11) = false := bne_eq_false_iff_eq.mpr c14
                  clear c14
                  (first | rw [c14b0] | (simp only [i64_w, i32_w]; rw [c14b0]) | skip)
                  by_cases c15 : a0_0 = 10
                  · rw [if_pos c15] at H
                    have c15b0 : (a0_0 == 10) = true := beq_iff_eq.mpr c15
                    have c15b1 : (a0_0 != 10) = false := bne_eq_false_iff_eq.mpr c15
                    clear c15
                    have H' := Aside0.mk H
                    clear H
                    go_wp2
                    go_meet
                    case rel => exact ⟨_, (false), (by first | rfl | (simp; done) | (simp [*]; done)), H', ⟨by have := HJ5.out; first | omega | exact Nat.le_refl _⟩, ⟨by (with_reducible repeat (first | refine blk_drewN ?_ _ | refine blk_drew ?_ | refine blk_alloc ?_ _)); exact BK126.out⟩, ⟨by repeat (first | (with_reducible first | exact HB.out | apply below_alloc | apply pw_below_drewN | apply below_drew1 | refine below_set ?_ GE126.out) | exact HB.out)⟩⟩
                  · rw [if_neg c15] at H
                    have c15b0 : (a0_0 == 10) = false := beq_eq_false_iff_ne.mpr c15
                    have c15b1 : (a0_0 != 10) = true := bne_iff_ne.mpr c15
                    have H' := Aside0.mk H
                    clear H
                    have hcz16_0 : wc.cell? ⟨gb126, 0, none⟩ = some (.int .i64 a0_0) := (blk_cell BK126.out 0).trans rfl
                    have hcz16_1 : wc.cell? ⟨gb126, 1, none⟩ = some (.int .i64 a0_1) := (blk_cell BK126.out 1).trans rfl
                    have hcz16_2 : wc.cell? ⟨gb126, 2, none⟩ = some (.int .i64 a0_2) := (blk_cell BK126.out 2).trans rfl
                    have hcz16_3 : wc.cell? ⟨gb126, 3, none⟩ = some (.int .i64 a0_3) := (blk_cell BK126.out 3).trans rfl
                    have hcz16_4 : wc.cell? ⟨gb126, 4, none⟩ = some (.slice A0_4 l0_4.length c0_4) := (blk_cell BK126.out 4).trans rfl
                    have hcz16_5 : wc.cell? ⟨gb126, 5, none⟩ = some (.slice A0_5 l0_5.length c0_5) := (blk_cell BK126.out 5).trans rfl
                    have hfz16_0 := blk_frozen BK126.out 0
                    have hfz16_1 := blk_frozen BK126.out 1
                    have hfz16_2 := blk_frozen BK126.out 2
                    have hfz16_3 := blk_frozen BK126.out 3
                    have hfz16_4 := blk_frozen BK126.out 4
                    have hfz16_5 := blk_frozen BK126.out 5
                    go_wp2
                    go_meet
                    case rel => exact ⟨_, (decide ((l0_5.length : Int) > 0)), (by first | rfl | (simp; done) | (simp [*]; done)), H', ⟨by have := HJ5.out; first | omega | exact Nat.le_refl _⟩, ⟨by (with_reducible repeat (first | refine blk_drewN ?_ _ | refine blk_drew ?_ | refine blk_alloc ?_ _)); exact BK126.out⟩, ⟨by repeat (first | (with_reducible first | exact HB.out | apply below_alloc | apply pw_below_drewN | apply below_drew1 | refine below_set ?_ GE126.out) | exact HB.out)⟩⟩
                · rw [if_neg c14] at H
                  have c14b0 : (a0_0 == 11) = false := beq_eq_false_iff_ne.mpr c14
                  have c14b1 : (a0_0 != 11) = true := bne_iff_ne.mpr c14
                  (first | rw [c14b0] | (simp only [i64_w, i32_w]; rw [c14b0]) | skip)
                  by_cases c17 : a0_3 = 0
                  · rw [if_pos c17] at H
                    have c17b0 : (a0_3 == 0) = true := beq_iff_eq.mpr c17
                    have c17b1 : (a0_3 != 0) = false := bne_eq_false_iff_eq.mpr c17
                    clear c17
                    by_cases c18 : a0_0 = 10
                    · rw [if_pos c18] at H
                      have c18b0 : (a0_0 == 10) = true := beq_iff_eq.mpr c18
                      have c18b1 : (a0_0 != 10) = false := bne_eq_false_iff_eq.mpr c18
                      clear c18
                      have H' := Aside0.mk H
                      clear H
                      have hcz19_0 : wc.cell? ⟨gb126, 0, none⟩ = some (.int .i64 a0_0) := (blk_cell BK126.out 0).trans rfl
                      have hcz19_1 : wc.cell? ⟨gb126, 1, none⟩ = some (.int .i64 a0_1) := (blk_cell BK126.out 1).trans rfl
                      have hcz19_2 : wc.cell? ⟨gb126, 2, none⟩ = some (.int .i64 a0_2) := (blk_cell BK126.out 2).trans rfl
                      have hcz19_3 : wc.cell? ⟨gb126, 3, none⟩ = some (.int .i64 a0_3) := (blk_cell BK126.out 3).trans rfl
                      have hcz19_4 : wc.cell? ⟨gb126, 4, none⟩ = some (.slice A0_4 l0_4.length c0_4) := (blk_cell BK126.out 4).trans rfl
                      have hcz19_5 : wc.cell? ⟨gb126, 5, none⟩ = some (.slice A0_5 l0_5.length c0_5) := (blk_cell BK126.out 5).trans rfl
                      have hfz19_0 := blk_frozen BK126.out 0
                      have hfz19_1 := blk_frozen BK126.out 1
                      have hfz19_2 := blk_frozen BK126.out 2
                      have hfz19_3 := blk_frozen BK126.out 3
                      have hfz19_4 := blk_frozen BK126.out 4
                      have hfz19_5 := blk_frozen BK126.out 5
                      go_wp2
                      go_meet
                      case rel => exact ⟨_, (false), (by first | rfl | (simp; done) | (simp [*]; done)), H', ⟨by have := HJ5.out; first | omega | exact Nat.le_refl _⟩, ⟨by (with_reducible repeat (first | refine blk_drewN ?_ _ | refine blk_drew ?_ | refine blk_alloc ?_ _)); exact BK126.out⟩, ⟨by repeat (first | (with_reducible first | exact HB.out | apply below_alloc | apply pw_below_drewN | apply below_drew1 | refine below_set ?_ GE126.out) | exact HB.out)⟩⟩
                    · rw [if_neg c18] at H
                      have c18b0 : (a0_0 == 10) = false := beq_eq_false_iff_ne.mpr c18
                      have c18b1 : (a0_0 != 10) = true := bne_iff_ne.mpr c18
                      have H' := Aside0.mk H
                      clear H
                      have hcz20_0 : wc.cell? ⟨gb126, 0, none⟩ = some (.int .i64 a0_0) := (blk_cell BK126.out 0).trans rfl
                      have hcz20_1 : wc.cell? ⟨gb126, 1, none⟩ = some (.int .i64 a0_1) := (blk_cell BK126.out 1).trans rfl
                      have hcz20_2 : wc.cell? ⟨gb126, 2, none⟩ = some (.int .i64 a0_2) := (blk_cell BK126.out 2).trans rfl
                      have hcz20_3 : wc.cell? ⟨gb126, 3, none⟩ = some (.int .i64 a0_3) := (blk_cell BK126.out 3).trans rfl
                      have hcz20_4 : wc.cell? ⟨gb126, 4, none⟩ = some (.slice A0_4 l0_4.length c0_4) := (blk_cell BK126.out 4).trans rfl
                      have hcz20_5 : wc.cell? ⟨gb126, 5, none⟩ = some (.slice A0_5 l0_5.length c0_5) := (blk_cell BK126.out 5).trans rfl
                      have hfz20_0 := blk_frozen BK126.out 0
                      have hfz20_1 := blk_frozen BK126.out 1
                      have hfz20_2 := blk_frozen BK126.out 2
                      have hfz20_3 := blk_frozen BK126.out 3
                      have hfz20_4 := blk_frozen BK126.out 4
                      have hfz20_5 := blk_frozen BK126.out 5
                      go_wp2
                      go_meet
                      case rel => exact ⟨_, (decide ((l0_5.length : Int) > 0)), (by first | rfl | (simp; done) | (simp [*]; done)), H', ⟨by have := HJ5.out; first | omega | exact Nat.le_refl _⟩, ⟨by (with_reducible repeat (first | refine blk_drewN ?_ _ | refine blk_drew ?_ | refine blk_alloc ?_ _)); exact BK126.out⟩, ⟨by repeat (first | (with_reducible first | exact HB.out | apply below_alloc | apply pw_below_drewN | apply below_drew1 | refine below_set ?_ GE126.out) | exact HB.out)⟩⟩
                  · rw [if_neg c17] at H
                    have c17b0 : (a0_3 == 0) = false := beq_eq_false_iff_ne.mpr c17
                    have c17b1 : (a0_3 != 0) = true := bne_iff_ne.mpr c17
                    have H' := Aside0.mk H
                    clear H
                    have hcz21_0 : wc.cell? ⟨gb126, 0, none⟩ = some (.int .i64 a0_0) := (blk_cell BK126.out 0).trans rfl
                    have hcz21_1 : wc.cell? ⟨gb126, 1, none⟩ = some (.int .i64 a0_1) := (blk_cell BK126.out 1).trans rfl
                    have hcz21_2 : wc.cell? ⟨gb126, 2, none⟩ = some (.int .i64 a0_2) := (blk_cell BK126.out 2).trans rfl
                    have hcz21_3 : wc.cell? ⟨gb126, 3, none⟩ = some (.int .i64 a0_3) := (blk_cell BK126.out 3).trans rfl
                    have hcz21_4 : wc.cell? ⟨gb126, 4, none⟩ = some (.slice A0_4 l0_4.length c0_4) := (blk_cell BK126.out 4).trans rfl
                    have hcz21_5 : wc.cell? ⟨gb126, 5, none⟩ = some (.slice A0_5 l0_5.length c0_5) := (blk_cell BK126.out 5).trans rfl
                    have hfz21_0 := blk_frozen BK126.out 0
                    have hfz21_1 := blk_frozen BK126.out 1
                    have hfz21_2 := blk_frozen BK126.out 2
                    have hfz21_3 := blk_frozen BK126.out 3
                    have hfz21_4 := blk_frozen BK126.out 4
                    have hfz21_5 := blk_frozen BK126.out 5
                    go_wp2
                    go_meet
                    case rel => exact ⟨_, (true), (by first | rfl | (simp; done) | (simp [*]; done)), H', ⟨by have := HJ5.out; first | omega | exact Nat.le_refl _⟩, ⟨by (with_reducible repeat (first | refine blk_drewN ?_ _ | refine blk_drew ?_ | refine blk_alloc ?_ _)); exact BK126.out⟩, ⟨by repeat (first | (with_reducible first | exact HB.out | apply below_alloc | apply pw_below_drewN | apply below_drew1 | refine below_set ?_ GE126.out) | exact HB.out)⟩⟩
              · replace c13 := Bool.eq_false_iff.mpr c13
                subst c13
                have H1 : (if (l0_4.length : Int) > 0 then (impl_StepFault.j1 kj5 true a0_0 a0_1 a0_2 a0_3 l0_4 l0_5) else (if a0_0 = 11 then (if a0_0 = 10 then (impl_StepFault.j1 kj5 false a0_0 a0_1 a0_2 a0_3 l0_4 l0_5) else (impl_StepFault.j1 kj5 (decide ((l0_5.length : Int) > 0)) a0_0 a0_1 a0_2 a0_3 l0_4 l0_5)) else (if a0_3 = 0 then (if a0_0 = 10 then (impl_StepFault.j1 kj5 false a0_0 a0_1 a0_2 a0_3 l0_4 l0_5) else (impl_StepFault.j1 kj5 (decide ((l0_5.length : Int) > 0)) a0_0 a0_1 a0_2 a0_3 l0_4 l0_5)) else (impl_StepFault.j1 kj5 true a0_0 a0_1 a0_2 a0_3 l0_4 l0_5)))) = some r := by rw [if_neg (show ¬ (false = true) by decide)] at H; exact H
                clear H
                have H := H1
                clear H1
                by_cases c22 : (l0_4.length : Int) > 0
                · rw [if_pos c22] at H
                  have c22b0 : decide (0 < (l0_4.length : Int)) = true := decide_eq_true c22
                  have c22b1 : decide (0 < l0_4.length) = true := decide_eq_true (by omega)
                  clear c22
                  have H' := Aside0.mk H
                  clear H
                  have hcz23_0 : wc.cell? ⟨gb126, 0, none⟩ = some (.int .i64 a0_0) := (blk_cell BK126.out 0).trans rfl
                  have hcz23_1 : wc.cell? ⟨gb126, 1, none⟩ = some (.int .i64 a0_1) := (blk_cell BK126.out 1).trans rfl
                  have hcz23_2 : wc.cell? ⟨gb126, 2, none⟩ = some (.int .i64 a0_2) := (blk_cell BK126.out 2).trans rfl
                  have hcz23_3 : wc.cell? ⟨gb126, 3, none⟩ = some (.int .i64 a0_3) := (blk_cell BK126.out 3).trans rfl
                  have hcz23_4 : wc.cell? ⟨gb126, 4, none⟩ = some (.slice A0_4 l0_4.length c0_4) := (blk_cell BK126.out 4).trans rfl
                  have hcz23_5 : wc.cell? ⟨gb126, 5, none⟩ = some (.slice A0_5 l0_5.length c0_5) := (blk_cell BK126.out 5).trans rfl
                  have hfz23_0 := blk_frozen BK126.out 0
                  have hfz23_1 := blk_frozen BK126.out 1
                  have hfz23_2 := blk_frozen BK126.out 2
                  have hfz23_3 := blk_frozen BK126.out 3
                  have hfz23_4 := blk_frozen BK126.out 4
                  have hfz23_5 := blk_frozen BK126.out 5
                  go_wp2
                  go_meet
                  case rel => exact ⟨_, (true), (by first | rfl | (simp; done) | (simp [*]; done)), H', ⟨by have := HJ5.out; first | omega | exact Nat.le_refl _⟩, ⟨by (with_reducible repeat (first | refine blk_drewN ?_ _ | refine blk_drew ?_ | refine blk_alloc ?_ _)); exact BK126.out⟩, ⟨by repeat (first | (with_reducible first | exact HB.out | apply below_alloc | apply pw_below_drewN | apply below_drew1 | refine below_set ?_ GE126.out) | exact HB.out)⟩⟩
                · rw [if_neg c22] at H
                  have c22b0 : decide (0 < (l0_4.length : Int)) = false := decide_eq_false c22
                  have c22b1 : decide (0 < l0_4.length) = false := decide_eq_false (by omega)
                  clear c22
                  by_cases c24 : a0_0 = 11
                  · rw [if_pos c24] at H
                    have c24b0 : (a0_0 == 11) = true := beq_iff_eq.mpr c24
                    have c24b1 : (a0_0 != 11) = false := bne_eq_false_iff_eq.mpr c24
                    clear c24
                    by_cases c25 : a0_0 = 10
                    · rw [if_pos c25] at H
                      have c25b0 : (a0_0 == 10) = true := beq_iff_eq.mpr c25
                      have c25b1 : (a0_0 != 10) = false := bne_eq_false_iff_eq.mpr c25
                      clear c25
                      have H' := Aside0.mk H
                      clear H
                      have hcz26_0 : wc.cell? ⟨gb126, 0, none⟩ = some (.int .i64 a0_0) := (blk_cell BK126.out 0).trans rfl
                      have hcz26_1 : wc.cell? ⟨gb126, 1, none⟩ = some (.int .i64 a0_1) := (blk_cell BK126.out 1).trans rfl
                      have hcz26_2 : wc.cell? ⟨gb126, 2, none⟩ = some (.int .i64 a0_2) := (blk_cell BK126.out 2).trans rfl
                      have hcz26_3 : wc.cell? ⟨gb126, 3, none⟩ = some (.int .i64 a0_3) := (blk_cell BK126.out 3).trans rfl
                      have hcz26_4 : wc.cell? ⟨gb126, 4, none⟩ = some (.slice A0_4 l0_4.length c0_4) := (blk_cell BK126.out 4).trans rfl
                      have hcz26_5 : wc.cell? ⟨gb126, 5, none⟩ = some (.slice A0_5 l0_5.length c0_5) := (blk_cell BK126.out 5).trans rfl
                      have hfz26_0 := blk_frozen BK126.out 0
                      have hfz26_1 := blk_frozen BK126.out 1
                      have hfz26_2 := blk_frozen BK126.out 2
                      have hfz26_3 := blk_frozen BK126.out 3
                      have hfz26_4 := blk_frozen BK126.out 4
                      have hfz26_5 := blk_frozen BK126.out 5
                      go_wp2
                      go_meet
                      case rel => exact ⟨_, (false), (by first | rfl | (simp; done) | (simp [*]; done)), H', ⟨by have := HJ5.out; first | omega | exact Nat.le_refl _⟩, ⟨by (with_reducible repeat (first | refine blk_drewN ?_ _ | refine blk_drew ?_ | refine blk_alloc ?_ _)); exact BK126.out⟩, ⟨by repeat (first | (with_reducible first | exact HB.out | apply below_alloc | apply pw_below_drewN | apply below_drew1 | refine below_set ?_ GE126.out) | exact HB.out)⟩⟩
                    · rw [if_neg c25] at H
                      have c25b0 : (a0_0 == 10) = false := beq_eq_false_iff_ne.mpr c25
                      have c25b1 : (a0_0 != 10) = true := bne_iff_ne.mpr c25
                      have H' := Aside0.mk H
                      clear H
                      have hcz27_0 : wc.cell? ⟨gb126, 0, none⟩ = some (.int .i64 a0_0) := (blk_cell BK126.out 0).trans rfl
                      have hcz27_1 : wc.cell? ⟨gb126, 1, none⟩ = some (.int .i64 a0_1) := (blk_cell BK126.out 1).trans rfl
                      have hcz27_2 : wc.cell? ⟨gb126, 2, none⟩ = some (.int .i64 a0_2) := (blk_cell BK126.out 2).trans rfl
                      have hcz27_3 : wc.cell? ⟨gb126, 3, none⟩ = some (.int .i64 a0_3) := (blk_cell BK126.out 3).trans rfl
                      have hcz27_4 : wc.cell? ⟨gb126, 4, none⟩ = some (.slice A0_4 l0_4.length c0_4) := (blk_cell BK126.out 4).trans rfl
                      have hcz27_5 : wc.cell? ⟨gb126, 5, none⟩ = some (.slice A0_5 l0_5.length c0_5) := (blk_cell BK126.out 5).trans rfl
                      have hfz27_0 := blk_frozen BK126.out 0
                      have hfz27_1 := blk_frozen BK126.out 1
                      have hfz27_2 := blk_frozen BK126.out 2
                      have hfz27_3 := blk_frozen BK126.out 3
                      have hfz27_4 := blk_frozen BK126.out 4
                      have hfz27_5 := blk_frozen BK126.out 5
                      go_wp2
                      go_meet
                      case rel => exact ⟨_, (decide ((l0_5.length : Int) > 0)), (by first | rfl | (simp; done) | (simp [*]; done)), H', ⟨by have := HJ5.out; first | omega | exact Nat.le_refl _⟩, ⟨by (with_reducible repeat (first | refine blk_drewN ?_ _ | refine blk_drew ?_ | refine blk_alloc ?_ _)); exact BK126.out⟩, ⟨by repeat (first | (with_reducible first | exact HB.out | apply below_alloc | apply pw_below_drewN | apply below_drew1 | refine below_set ?_ GE126.out) | exact HB.out)⟩⟩
                  · rw [if_neg c24] at H
                    have c24b0 : (a0_0 == 11) = false := beq_eq_false_iff_ne.mpr c24
                    have c24b1 : (a0_0 != 11) = true := bne_iff_ne.mpr c24
                    by_cases c28 : a0_3 = 0
                    · rw [if_pos c28] at H
                      have c28b0 : (a0_3 == 0) = true := beq_iff_eq.mpr c28
                      have c28b1 : (a0_3 != 0) = false := bne_eq_false_iff_eq.mpr c28
                      clear c28
                      by_cases c29 : a0_0 = 10
                      · rw [if_pos c29] at H
                        have c29b0 : (a0_0 == 10) = true := beq_iff_eq.mpr c29
                        have c29b1 : (a0_0 != 10) = false := bne_eq_false_iff_eq.mpr c29
                        clear c29
                        have H' := Aside0.mk H
                        clear H
                        have hcz30_0 : wc.cell? ⟨gb126, 0, none⟩ = some (.int .i64 a0_0) := (blk_cell BK126.out 0).trans rfl
                        have hcz30_1 : wc.cell? ⟨gb126, 1, none⟩ = some (.int .i64 a0_1) := (blk_cell BK126.out 1).trans rfl
                        have hcz30_2 : wc.cell? ⟨gb126, 2, none⟩ = some (.int .i64 a0_2) := (blk_cell BK126.out 2).trans rfl
                        have hcz30_3 : wc.cell? ⟨gb126, 3, none⟩ = some (.int .i64 a0_3) := (blk_cell BK126.out 3).trans rfl
                        have hcz30_4 : wc.cell? ⟨gb126, 4, none⟩ = some (.slice A0_4 l0_4.length c0_4) := (blk_cell BK126.out 4).trans rfl
                        have hcz30_5 : wc.cell? ⟨gb126, 5, none⟩ = some (.slice A0_5 l0_5.length c0_5) := (blk_cell BK126.out 5).trans rfl
                        have hfz30_0 := blk_frozen BK126.out 0
                        have hfz30_1 := blk_frozen BK126.out 1
                        have hfz30_2 := blk_frozen BK126.out 2
                        have hfz30_3 := blk_frozen BK126.out 3
                        have hfz30_4 := blk_frozen BK126.out 4
                        have hfz30_5 := blk_frozen BK126.out 5
                        go_wp2
                        go_meet
                        case rel => exact ⟨_, (false), (by first | rfl | (simp; done) | (simp [*]; done)), H', ⟨by have := HJ5.out; first | omega | exact Nat.le_refl _⟩, ⟨by (with_reducible repeat (first | refine blk_drewN ?_ _ | refine blk_drew ?_ | refine blk_alloc ?_ _)); exact BK126.out⟩, ⟨by repeat (first | (with_reducible first | exact HB.out | apply below_alloc | apply pw_below_drewN | apply below_drew1 | refine below_set ?_ GE126.out) | exact HB.out)⟩⟩
                      · rw [if_neg c29] at H
                        have c29b0 : (a0_0 == 10) = false := beq_eq_false_iff_ne.mpr c29
                        have c29b1 : (a0_0 != 10) = true := bne_iff_ne.mpr c29
                        have H' := Aside0.mk H
                        clear H
                        have hcz31_0 : wc.cell? ⟨gb126, 0, none⟩ = some (.int .i64 a0_0) := (blk_cell BK126.out 0).trans rfl
                        have hcz31_1 : wc.cell? ⟨gb126, 1, none⟩ = some (.int .i64 a0_1) := (blk_cell BK126.out 1).trans rfl
                        have hcz31_2 : wc.cell? ⟨gb126, 2, none⟩ = some (.int .i64 a0_2) := (blk_cell BK126.out 2).trans rfl
                        have hcz31_3 : wc.cell? ⟨gb126, 3, none⟩ = some (.int .i64 a0_3) := (blk_cell BK126.out 3).trans rfl
                        have hcz31_4 : wc.cell? ⟨gb126, 4, none⟩ = some (.slice A0_4 l0_4.length c0_4) := (blk_cell BK126.out 4).trans rfl
                        have hcz31_5 : wc.cell? ⟨gb126, 5, none⟩ = some (.slice A0_5 l0_5.length c0_5) := (blk_cell BK126.out 5).trans rfl
                        have hfz31_0 := blk_frozen BK126.out 0
                        have hfz31_1 := blk_frozen BK126.out 1
                        have hfz31_2 := blk_frozen BK126.out 2
                        have hfz31_3 := blk_frozen BK126.out 3
                        have hfz31_4 := blk_frozen BK126.out 4
                        have hfz31_5 := blk_frozen BK126.out 5
                        go_wp2
                        go_meet
                        case rel => exact ⟨_, (decide ((l0_5.length : Int) > 0)), (by first | rfl | (simp; done) | (simp [*]; done)), H', ⟨by have := HJ5.out; first | omega | exact Nat.le_refl _⟩, ⟨by (with_reducible repeat (first | refine blk_drewN ?_ _ | refine blk_drew ?_ | refine blk_alloc ?_ _)); exact BK126.out⟩, ⟨by repeat (first | (with_reducible first | exact HB.out | apply below_alloc | apply pw_below_drewN | apply below_drew1 | refine below_set ?_ GE126.out) | exact HB.out)⟩⟩
                    · rw [if_neg c28] at H
                      have c28b0 : (a0_3 == 0) = false := beq_eq_false_iff_ne.mpr c28
                      have c28b1 : (a0_3 != 0) = true := bne_iff_ne.mpr c28
                      have H' := Aside0.mk H
                      clear H
                      have hcz32_0 : wc.cell? ⟨gb126, 0, none⟩ = some (.int .i64 a0_0) := (blk_cell BK126.out 0).trans rfl
                      have hcz32_1 : wc.cell? ⟨gb126, 1, none⟩ = some (.int .i64 a0_1) := (blk_cell BK126.out 1).trans rfl
                      have hcz32_2 : wc.cell? ⟨gb126, 2, none⟩ = some (.int .i64 a0_2) := (blk_cell BK126.out 2).trans rfl
                      have hcz32_3 : wc.cell? ⟨gb126, 3, none⟩ = some (.int .i64 a0_3) := (blk_cell BK126.out 3).trans rfl
                      have hcz32_4 : wc.cell? ⟨gb126, 4, none⟩ = some (.slice A0_4 l0_4.length c0_4) := (blk_cell BK126.out 4).trans rfl
                      have hcz32_5 : wc.cell? ⟨gb126, 5, none⟩ = some (.slice A0_5 l0_5.length c0_5) := (blk_cell BK126.out 5).trans rfl
                      have hfz32_0 := blk_frozen BK126.out 0
                      have hfz32_1 := blk_frozen BK126.out 1
                      have hfz32_2 := blk_frozen BK126.out 2
                      have hfz32_3 := blk_frozen BK126.out 3
                      have hfz32_4 := blk_frozen BK126.out 4
                      have hfz32_5 := blk_frozen BK126.out 5
                      go_wp2
                      go_meet
                      case rel => exact ⟨_, (true), (by first | rfl | (simp; done) | (simp [*]; done)), H', ⟨by have := HJ5.out; first | omega | exact Nat.le_refl _⟩, ⟨by (with_reducible repeat (first | refine blk_drewN ?_ _ | refine blk_drew ?_ | refine blk_alloc ?_ _)); exact BK126.out⟩, ⟨by repeat (first | (with_reducible first | exact HB.out | apply below_alloc | apply pw_below_drewN | apply below_drew1 | refine below_set ?_ GE126.out) | exact HB.out)⟩⟩
            · replace c12 := Bool.eq_false_iff.mpr c12
              subst c12
              have H1 : (if a0_2 = 0 then (if x6_5 = true then (if a0_0 = 11 then (if a0_0 = 10 then (impl_StepFault.j1 kj5 false a0_0 a0_1 a0_2 a0_3 l0_4 l0_5) else (impl_StepFault.j1 kj5 (decide ((l0_5.length : Int) > 0)) a0_0 a0_1 a0_2 a0_3 l0_4 l0_5)) else (if a0_3 = 0 then (if a0_0 = 10 then (impl_StepFault.j1 kj5 false a0_0 a0_1 a0_2 a0_3 l0_4 l0_5) else (impl_StepFault.j1 kj5 (decide ((l0_5.length : Int) > 0)) a0_0 a0_1 a0_2 a0_3 l0_4 l0_5)) else (impl_StepFault.j1 kj5 true a0_0 a0_1 a0_2 a0_3 l0_4 l0_5))) else (if (l0_4.length : Int) > 0 then (impl_StepFault.j1 kj5 true a0_0 a0_1 a0_2 a0_3 l0_4 l0_5) else (if a0_0 = 11 then (if a0_0 = 10 then (impl_StepFault.j1 kj5 false a0_0 a0_1 a0_2 a0_3 l0_4 l0_5) else (impl_StepFault.j1 kj5 (decide ((l0_5.length : Int) > 0)) a0_0 a0_1 a0_2 a0_3 l0_4 l0_5)) else (if a0_3 = 0 then (if a0_0 = 10 then (impl_StepFault.j1 kj5 false a0_0 a0_1 a0_2 a0_3 l0_4 l0_5) else (impl_StepFault.j1 kj5 (decide ((l0_5.length : Int) > 0)) a0_0 a0_1 a0_2 a0_3 l0_4 l0_5)) else (impl_StepFault.j1 kj5 true a0_0 a0_1 a0_2 a0_3 l0_4 l0_5))))) else (impl_StepFault.j1 kj5 true a0_0 a0_1 a0_2 a0_3 l0_4 l0_5)) = some r := by rw [if_neg (show ¬ (false = true) by decide)] at H; exact H
              clear H
              have H := H1
              clear H1
              by_cases c33 : a0_2 = 0
              · rw [if_pos c33] at H
                have c33b0 : (a0_2 == 0) = true := beq_iff_eq.mpr c33
                have c33b1 : (a0_2 != 0) = false := bne_eq_false_iff_eq.mpr c33
                clear c33
                by_cases c34 : x6_5 = true
                · subst c34
                  have H1 : (if a0_0 = 11 then (if a0_0 = 10 then (impl_StepFault.j1 kj5 false a0_0 a0_1 a0_2 a0_3 l0_4 l0_5) else (impl_StepFault.j1 kj5 (decide ((l0_5.length : Int) > 0)) a0_0 a0_1 a0_2 a0_3 l0_4 l0_5)) else (if a0_3 = 0 then (if a0_0 = 10 then (impl_StepFault.j1 kj5 false a0_0 a0_1 a0_2 a0_3 l0_4 l0_5) else (impl_StepFault.j1 kj5 (decide ((l0_5.length : Int) > 0)) a0_0 a0_1 a0_2 a0_3 l0_4 l0_5)) else (impl_StepFault.j1 kj5 true a0_0 a0_1 a0_2 a0_3 l0_4 l0_5))) = some r := by rw [if_pos rfl] at H; exact H
                  clear H
                  have H := H1
                  clear H1
                  by_cases c35 : a0_0 = 11
                  · rw [if_pos c35] at H
                    have c35b0 : (a0_0 == 11) = true := beq_iff_eq.mpr c35
                    have c35b1 : (a0_0 != 11) = false := bne_eq_false_iff_eq.mpr c35
                    clear c35
                    by_cases c36 : a0_0 = 10
                    · rw [if_pos c36] at H
                      have c36b0 : (a0_0 == 10) = true := beq_iff_eq.mpr c36
                      have c36b1 : (a0_0 != 10) = false := bne_eq_false_iff_eq.mpr c36
                      clear c36
                      have H' := Aside0.mk H
                      clear H
                      have hcz37_0 : wc.cell? ⟨gb126, 0, none⟩ = some (.int .i64 a0_0) := (blk_cell BK126.out 0).trans rfl
                      have hcz37_1 : wc.cell? ⟨gb126, 1, none⟩ = some (.int .i64 a0_1) := (blk_cell BK126.out 1).trans rfl
                      have hcz37_2 : wc.cell? ⟨gb126, 2, none⟩ = some (.int .i64 a0_2) := (blk_cell BK126.out 2).trans rfl
                      have hcz37_3 : wc.cell? ⟨gb126, 3, none⟩ = some (.int .i64 a0_3) := (blk_cell BK126.out 3).trans rfl
                      have hcz37_4 : wc.cell? ⟨gb126, 4, none⟩ = some (.slice A0_4 l0_4.length c0_4) := (blk_cell BK126.out 4).trans rfl
                      have hcz37_5 : wc.cell? ⟨gb126, 5, none⟩ = some (.slice A0_5 l0_5.length c0_5) := (blk_cell BK126.out 5).trans rfl
                      have hfz37_0 := blk_frozen BK126.out 0
                      have hfz37_1 := blk_frozen BK126.out 1
                      have hfz37_2 := blk_frozen BK126.out 2
                      have hfz37_3 := blk_frozen BK126.out 3
                      have hfz37_4 := blk_frozen BK126.out 4
                      have hfz37_5 := blk_frozen BK126.out 5
                      go_wp2
                      go_meet
                      case rel => exact ⟨_, (false), (by first | rfl | (simp; done) | (simp [*]; done)), H', ⟨by have := HJ5.out; first | omega | exact Nat.le_refl _⟩, ⟨by (with_reducible repeat (first | refine blk_drewN ?_ _ | refine blk_drew ?_ | refine blk_alloc ?_ _)); exact BK126.out⟩, ⟨by repeat (first | (with_reducible first | exact HB.out | apply below_alloc | apply pw_below_drewN | apply below_drew1 | refine below_set ?_ GE126.out) | exact HB.out)⟩⟩
                    · rw [if_neg c36] at H
                      have c36b0 : (a0_0 == 10) = false := beq_eq_false_iff_ne.mpr c36
                      have c36b1 : (a0_0 != 10) = true := bne_iff_ne.mpr c36
                      have H' := Aside0.mk H
                      clear H
                      have hcz38_0 : wc.cell? ⟨gb126, 0, none⟩ = some (.int .i64 a0_0) := (blk_cell BK126.out 0).trans rfl
                      have hcz38_1 : wc.cell? ⟨gb126, 1, none⟩ = some (.int .i64 a0_1) := (blk_cell BK126.out 1).trans rfl
                      have hcz38_2 : wc.cell? ⟨gb126, 2, none⟩ = some (.int .i64 a0_2) := (blk_cell BK126.out 2).trans rfl
                      have hcz38_3 : wc.cell? ⟨gb126, 3, none⟩ = some (.int .i64 a0_3) := (blk_cell BK126.out 3).trans rfl
                      have hcz38_4 : wc.cell? ⟨gb126, 4, none⟩ = some (.slice A0_4 l0_4.length c0_4) := (blk_cell BK126.out 4).trans rfl
                      have hcz38_5 : wc.cell? ⟨gb126, 5, none⟩ = some (.slice A0_5 l0_5.length c0_5) := (blk_cell BK126.out 5).trans rfl
                      have hfz38_0 := blk_frozen BK126.out 0
                      have hfz38_1 := blk_frozen BK126.out 1
                      have hfz38_2 := blk_frozen BK126.out 2
                      have hfz38_3 := blk_frozen BK126.out 3
                      have hfz38_4 := blk_frozen BK126.out 4
                      have hfz38_5 := blk_frozen BK126.out 5
                      go_wp2
                      go_meet
                      case rel => exact ⟨_, (decide ((l0_5.length : Int) > 0)), (by first | rfl | (simp; done) | (simp [*]; done)), H', ⟨by have := HJ5.out; first | omega | exact Nat.le_refl _⟩, ⟨by (with_reducible repeat (first | refine blk_drewN ?_ _ | refine blk_drew ?_ | refine blk_alloc ?_ _)); exact BK126.out⟩, ⟨by repeat (first | (with_reducible first | exact HB.out | apply below_alloc | apply pw_below_drewN | apply below_drew1 | refine below_set ?_ GE126.out) | exact HB.out)⟩⟩
                  · rw [if_neg c35] at H
                    have c35b0 : (a0_0 == 11) = false := beq_eq_false_iff_ne.mpr c35
                    have c35b1 : (a0_0 != 11) = true := bne_iff_ne.mpr c35
                    by_cases c39 : a0_3 = 0
                    · rw [if_pos c39] at H
                      have c39b0 : (a0_3 == 0) = true := beq_iff_eq.mpr c39
                      have c39b1 : (a0_3 != 0) = false := bne_eq_false_iff_eq.mpr c39
                      clear c39
                      by_cases c40 : a0_0 = 10
                      · rw [if_pos c40] at H
                        have c40b0 : (a0_0 == 10) = true := beq_iff_eq.mpr c40
                        have c40b1 : (a0_0 != 10) = false := bne_eq_false_iff_eq.mpr c40
                        clear c40
                        have H' := Aside0.mk H
                        clear H
                        have hcz41_0 : wc.cell? ⟨gb126, 0, none⟩ = some (.int .i64 a0_0) := (blk_cell BK126.out 0).trans rfl
                        have hcz41_1 : wc.cell? ⟨gb126, 1, none⟩ = some (.int .i64 a0_1) := (blk_cell BK126.out 1).trans rfl
                        have hcz41_2 : wc.cell? ⟨gb126, 2, none⟩ = some (.int .i64 a0_2) := (blk_cell BK126.out 2).trans rfl
                        have hcz41_3 : wc.cell? ⟨gb126, 3, none⟩ = some (.int .i64 a0_3) := (blk_cell BK126.out 3).trans rfl
                        have hcz41_4 : wc.cell? ⟨gb126, 4, none⟩ = some (.slice A0_4 l0_4.length c0_4) := (blk_cell BK126.out 4).trans rfl
                        have hcz41_5 : wc.cell? ⟨gb126, 5, none⟩ = some (.slice A0_5 l0_5.length c0_5) := (blk_cell BK126.out 5).trans rfl
                        have hfz41_0 := blk_frozen BK126.out 0
                        have hfz41_1 := blk_frozen BK126.out 1
                        have hfz41_2 := blk_frozen BK126.out 2
                        have hfz41_3 := blk_frozen BK126.out 3
                        have hfz41_4 := blk_frozen BK126.out 4
                        have hfz41_5 := blk_frozen BK126.out 5
                        go_wp2
                        go_meet
                        case rel => exact ⟨_, (false), (by first | rfl | (simp; done) | (simp [*]; done)), H', ⟨by have := HJ5.out; first | omega | exact Nat.le_refl _⟩, ⟨by (with_reducible repeat (first | refine blk_drewN ?_ _ | refine blk_drew ?_ | refine blk_alloc ?_ _)); exact BK126.out⟩, ⟨by repeat (first | (with_reducible first | exact HB.out | apply below_alloc | apply pw_below_drewN | apply below_drew1 | refine below_set ?_ GE126.out) | exact HB.out)⟩⟩
                      · rw [if_neg c40] at H
                        have c40b0 : (a0_0 == 10) = false := beq_eq_false_iff_ne.mpr c40
                        have c40b1 : (a0_0 != 10) = true := bne_iff_ne.mpr c40
                        have H' := Aside0.mk H
                        clear H
                        have hcz42_0 : wc.cell? ⟨gb126, 0, none⟩ = some (.int .i64 a0_0) := (blk_cell BK126.out 0).trans rfl
                        have hcz42_1 : wc.cell? ⟨gb126, 1, none⟩ = some (.int .i64 a0_1) := (blk_cell BK126.out 1).trans rfl
                        have hcz42_2 : wc.cell? ⟨gb126, 2, none⟩ = some (.int .i64 a0_2) := (blk_cell BK126.out 2).trans rfl
                        have hcz42_3 : wc.cell? ⟨gb126, 3, none⟩ = some (.int .i64 a0_3) := (blk_cell BK126.out 3).trans rfl
                        have hcz42_4 : wc.cell? ⟨gb126, 4, none⟩ = some (.slice A0_4 l0_4.length c0_4) := (blk_cell BK126.out 4).trans rfl
                        have hcz42_5 : wc.cell? ⟨gb126, 5, none⟩ = some (.slice A0_5 l0_5.length c0_5) := (blk_cell BK126.out 5).trans rfl
                        have hfz42_0 := blk_frozen BK126.out 0
                        have hfz42_1 := blk_frozen BK126.out 1
                        have hfz42_2 := blk_frozen BK126.out 2
                        have hfz42_3 := blk_frozen BK126.out 3
                        have hfz42_4 := blk_frozen BK126.out 4
                        have hfz42_5 := blk_frozen BK126.out 5
                        go_wp2
                        go_meet
                        case rel => exact ⟨_, (decide ((l0_5.length : Int) > 0)), (by first | rfl | (simp; done) | (simp [*]; done)), H', ⟨by have := HJ5.out; first | omega | exact Nat.le_refl _⟩, ⟨by (with_reducible repeat (first | refine blk_drewN ?_ _ | refine blk_drew ?_ | refine blk_alloc ?_ _)); exact BK126.out⟩, ⟨by repeat (first | (with_reducible first | exact HB.out | apply below_alloc | apply pw_below_drewN | apply below_drew1 | refine below_set ?_ GE126.out) | exact HB.out)⟩⟩
                    · rw [if_neg c39] at H
                      have c39b0 : (a0_3 == 0) = false := beq_eq_false_iff_ne.mpr c39
                      have c39b1 : (a0_3 != 0) = true := bne_iff_ne.mpr c39
                      have H' := Aside0.mk H
                      clear H
                      have hcz43_0 : wc.cell? ⟨gb126, 0, none⟩ = some (.int .i64 a0_0) := (blk_cell BK126.out 0).trans rfl
                      have hcz43_1 : wc.cell? ⟨gb126, 1, none⟩ = some (.int .i64 a0_1) := (blk_cell BK126.out 1).trans rfl
                      have hcz43_2 : wc.cell? ⟨gb126, 2, none⟩ = some (.int .i64 a0_2) := (blk_cell BK126.out 2).trans rfl
                      have hcz43_3 : wc.cell? ⟨gb126, 3, none⟩ = some (.int .i64 a0_3) := (blk_cell BK126.out 3).trans rfl
                      have hcz43_4 : wc.cell? ⟨gb126, 4, none⟩ = some (.slice A0_4 l0_4.length c0_4) := (blk_cell BK126.out 4).trans rfl
                      have hcz43_5 : wc.cell? ⟨gb126, 5, none⟩ = some (.slice A0_5 l0_5.length c0_5) := (blk_cell BK126.out 5).trans rfl
                      have hfz43_0 := blk_frozen BK126.out 0
                      have hfz43_1 := blk_frozen BK126.out 1
                      have hfz43_2 := blk_frozen BK126.out 2
                      have hfz43_3 := blk_frozen BK126.out 3
                      have hfz43_4 := blk_frozen BK126.out 4
                      have hfz43_5 := blk_frozen BK126.out 5
                      go_wp2
                      go_meet
                      case rel => exact ⟨_, (true), (by first | rfl | (simp; done) | (simp [*]; done)), H', ⟨by have := HJ5.out; first | omega | exact Nat.le_refl _⟩, ⟨by (with_reducible repeat (first | refine blk_drewN ?_ _ | refine blk_drew ?_ | refine blk_alloc ?_ _)); exact BK126.out⟩, ⟨by repeat (first | (with_reducible first | exact HB.out | apply below_alloc | apply pw_below_drewN | apply below_drew1 | refine below_set ?_ GE126.out) | exact HB.out)⟩⟩
                · replace c34 := Bool.eq_false_iff.mpr c34
                  subst c34
                  have H1 : (if (l0_4.length : Int) > 0 then (impl_StepFault.j1 kj5 true a0_0 a0_1 a0_2 a0_3 l0_4 l0_5) else (if a0_0 = 11 then (if a0_0 = 10 then (impl_StepFault.j1 kj5 false a0_0 a0_1 a0_2 a0_3 l0_4 l0_5) else (impl_StepFault.j1 kj5 (decide ((l0_5.length : Int) > 0)) a0_0 a0_1 a0_2 a0_3 l0_4 l0_5)) else (if a0_3 = 0 then (if a0_0 = 10 then (impl_StepFault.j1 kj5 false a0_0 a0_1 a0_2 a0_3 l0_4 l0_5) else (impl_StepFault.j1 kj5 (decide ((l0_5.length : Int) > 0)) a0_0 a0_1 a0_2 a0_3 l0_4 l0_5)) else (impl_StepFault.j1 kj5 true a0_0 a0_1 a0_2 a0_3 l0_4 l0_5)))) = some r := by rw [if_neg (show ¬ (false = true) by decide)] at H; exact H
                  clear H
                  have H := H1
                  clear H1
                  by_cases c44 : (l0_4.length : Int) > 0
                  · rw [if_pos c44] at H
                    have c44b0 : decide (0 < (l0_4.length : Int)) = true := decide_eq_true c44
                    have c44b1 : decide (0 < l0_4.length) = true := decide_eq_true (by omega)
                    clear c44
                    have H' := Aside0.mk H
                    clear H
                    have hcz45_0 : wc.cell? ⟨gb126, 0, none⟩ = some (.int .i64 a0_0) := (blk_cell BK126.out 0).trans rfl
                    have hcz45_1 : wc.cell? ⟨gb126, 1, none⟩ = some (.int .i64 a0_1) := (blk_cell BK126.out 1).trans rfl
                    have hcz45_2 : wc.cell? ⟨gb126, 2, none⟩ = some (.int .i64 a0_2) := (blk_cell BK126.out 2).trans rfl
                    have hcz45_3 : wc.cell? ⟨gb126, 3, none⟩ = some (.int .i64 a0_3) := (blk_cell BK126.out 3).trans rfl
                    have hcz45_4 : wc.cell? ⟨gb126, 4, none⟩ = some (.slice A0_4 l0_4.length c0_4) := (blk_cell BK126.out 4).trans rfl
                    have hcz45_5 : wc.cell? ⟨gb126, 5, none⟩ = some (.slice A0_5 l0_5.length c0_5) := (blk_cell BK126.out 5).trans rfl
                    have hfz45_0 := blk_frozen BK126.out 0
                    have hfz45_1 := blk_frozen BK126.out 1
                    have hfz45_2 := blk_frozen BK126.out 2
                    have hfz45_3 := blk_frozen BK126.out 3
                    have hfz45_4 := blk_frozen BK126.out 4
                    have hfz45_5 := blk_frozen BK126.out 5
                    go_wp2
                    go_meet
                    case rel => exact ⟨_, (true), (by first | rfl | (simp; done) | (simp [*]; done)), H', ⟨by have := HJ5.out; first | omega | exact Nat.le_refl _⟩, ⟨by (with_reducible repeat (first | refine blk_drewN ?_ _ | refine blk_drew ?_ | refine blk_alloc ?_ _)); exact BK126.out⟩, ⟨by repeat (first | (with_reducible first | exact HB.out | apply below_alloc | apply pw_below_drewN | apply below_drew1 | refine below_set ?_ GE126.out) | exact HB.out)⟩⟩
                  · rw [if_neg c44] at H
                    have c44b0 : decide (0 < (l0_4.length : Int)) = false := decide_eq_false c44
                    have c44b1 : decide (0 < l0_4.length) = false := decide_eq_false (by omega)
                    clear c44
                    by_cases c46 : a0_0 = 11
                    · rw [if_pos c46] at H
                      have c46b0 : (a0_0 == 11) = true := beq_iff_eq.mpr c46
                      have c46b1 : (a0_0 != 11) = false := bne_eq_false_iff_eq.mpr c46
                      clear c46
                      by_cases c47 : a0_0 = 10
                      · rw [if_pos c47] at H
                        have c47b0 : (a0_0 == 10) = true := beq_iff_eq.mpr c47
                        have c47b1 : (a0_0 != 10) = false := bne_eq_false_iff_eq.mpr c47
                        clear c47
                        have H' := Aside0.mk H
                        clear H
                        have hcz48_0 : wc.cell? ⟨gb126, 0, none⟩ = some (.int .i64 a0_0) := (blk_cell BK126.out 0).trans rfl
                        have hcz48_1 : wc.cell? ⟨gb126, 1, none⟩ = some (.int .i64 a0_1) := (blk_cell BK126.out 1).trans rfl
                        have hcz48_2 : wc.cell? ⟨gb126, 2, none⟩ = some (.int .i64 a0_2) := (blk_cell BK126.out 2).trans rfl
                        have hcz48_3 : wc.cell? ⟨gb126, 3, none⟩ = some (.int .i64 a0_3) := (blk_cell BK126.out 3).trans rfl
                        have hcz48_4 : wc.cell? ⟨gb126, 4, none⟩ = some (.slice A0_4 l0_4.length c0_4) := (blk_cell BK126.out 4).trans rfl
                        have hcz48_5 : wc.cell? ⟨gb126, 5, none⟩ = some (.slice A0_5 l0_5.length c0_5) := (blk_cell BK126.out 5).trans rfl
                        have hfz48_0 := blk_frozen BK126.out 0
                        have hfz48_1 := blk_frozen BK126.out 1
                        have hfz48_2 := blk_frozen BK126.out 2
                        have hfz48_3 := blk_frozen BK126.out 3
                        have hfz48_4 := blk_frozen BK126.out 4
                        have hfz48_5 := blk_frozen BK126.out 5
                        go_wp2
                        go_meet
                        case rel => exact ⟨_, (false), (by first | rfl | (simp; done) | (simp [*]; done)), H', ⟨by have := HJ5.out; first | omega | exact Nat.le_refl _⟩, ⟨by (with_reducible repeat (first | refine blk_drewN ?_ _ | refine blk_drew ?_ | refine blk_alloc ?_ _)); exact BK126.out⟩, ⟨by repeat (first | (with_reducible first | exact HB.out | apply below_alloc | apply pw_below_drewN | apply below_drew1 | refine below_set ?_ GE126.out) | exact HB.out)⟩⟩
                      · rw [if_neg c47] at H
                        have c47b0 : (a0_0 == 10) = false := beq_eq_false_iff_ne.mpr c47
                        have c47b1 : (a0_0 != 10) = true := bne_iff_ne.mpr c47
                        have H' := Aside0.mk H
                        clear H
                        have hcz49_0 : wc.cell? ⟨gb126, 0, none⟩ = some (.int .i64 a0_0) := (blk_cell BK126.out 0).trans rfl
                        have hcz49_1 : wc.cell? ⟨gb126, 1, none⟩ = some (.int .i64 a0_1) := (blk_cell BK126.out 1).trans rfl
                        have hcz49_2 : wc.cell? ⟨gb126, 2, none⟩ = some (.int .i64 a0_2) := (blk_cell BK126.out 2).trans rfl
                        have hcz49_3 : wc.cell? ⟨gb126, 3, none⟩ = some (.int .i64 a0_3) := (blk_cell BK126.out 3).trans rfl
                        have hcz49_4 : wc.cell? ⟨gb126, 4, none⟩ = some (.slice A0_4 l0_4.length c0_4) := (blk_cell BK126.out 4).trans rfl
                        have hcz49_5 : wc.cell? ⟨gb126, 5, none⟩ = some (.slice A0_5 l0_5.length c0_5) := (blk_cell BK126.out 5).trans rfl
                        have hfz49_0 := blk_frozen BK126.out 0
                        have hfz49_1 := blk_frozen BK126.out 1
                        have hfz49_2 := blk_frozen BK126.out 2
                        have hfz49_3 := blk_frozen BK126.out 3
                        have hfz49_4 := blk_frozen BK126.out 4
                        have hfz49_5 := blk_frozen BK126.out 5
                        go_wp2
                        go_meet
                        case rel => exact ⟨_, (decide ((l0_5.length : Int) > 0)), (by first | rfl | (simp; done) | (simp [*]; done)), H', ⟨by have := HJ5.out; first | omega | exact Nat.le_refl _⟩, ⟨by (with_reducible repeat (first | refine blk_drewN ?_ _ | refine blk_drew ?_ | refine blk_alloc ?_ _)); exact BK126.out⟩, ⟨by repeat (first | (with_reducible first | exact HB.out | apply below_alloc | apply pw_below_drewN | apply below_drew1 | refine below_set ?_ GE126.out) | exact HB.out)⟩⟩
                    · rw [if_neg c46] at H
                      have c46b0 : (a0_0 == 11) = false := beq_eq_false_iff_ne.mpr c46
                      have c46b1 : (a0_0 != 11) = true := bne_iff_ne.mpr c46
                      by_cases c50 : a0_3 = 0
                      · rw [if_pos c50] at H
                        have c50b0 : (a0_3 == 0) = true := beq_iff_eq.mpr c50
                        have c50b1 : (a0_3 != 0) = false := bne_eq_false_iff_eq.mpr c50
                        clear c50
                        by_cases c51 : a0_0 = 10
                        · rw [if_pos c51] at H
                          have c51b0 : (a0_0 == 10) = true := beq_iff_eq.mpr c51
                          have c51b1 : (a0_0 != 10) = false := bne_eq_false_iff_eq.mpr c51
                          clear c51
                          have H' := Aside0.mk H
                          clear H
                          have hcz52_0 : wc.cell? ⟨gb126, 0, none⟩ = some (.int .i64 a0_0) := (blk_cell BK126.out 0).trans rfl
                          have hcz52_1 : wc.cell? ⟨gb126, 1, none⟩ = some (.int .i64 a0_1) := (blk_cell BK126.out 1).trans rfl
                          have hcz52_2 : wc.cell? ⟨gb126, 2, none⟩ = some (.int .i64 a0_2) := (blk_cell BK126.out 2).trans rfl
                          have hcz52_3 : wc.cell? ⟨gb126, 3, none⟩ = some (.int .i64 a0_3) := (blk_cell BK126.out 3).trans rfl
                          have hcz52_4 : wc.cell? ⟨gb126, 4, none⟩ = some (.slice A0_4 l0_4.length c0_4) := (blk_cell BK126.out 4).trans rfl
                          have hcz52_5 : wc.cell? ⟨gb126, 5, none⟩ = some (.slice A0_5 l0_5.length c0_5) := (blk_cell BK126.out 5).trans rfl
                          have hfz52_0 := blk_frozen BK126.out 0
                          have hfz52_1 := blk_frozen BK126.out 1
                          have hfz52_2 := blk_frozen BK126.out 2
                          have hfz52_3 := blk_frozen BK126.out 3
                          have hfz52_4 := blk_frozen BK126.out 4
                          have hfz52_5 := blk_frozen BK126.out 5
                          go_wp2
                          go_meet
                          case rel => exact ⟨_, (false), (by first | rfl | (simp; done) | (simp [*]; done)), H', ⟨by have := HJ5.out; first | omega | exact Nat.le_refl _⟩, ⟨by (with_reducible repeat (first | refine blk_drewN ?_ _ | refine blk_drew ?_ | refine blk_alloc ?_ _)); exact BK126.out⟩, ⟨by repeat (first | (with_reducible first | exact HB.out | apply below_alloc | apply pw_below_drewN | apply below_drew1 | refine below_set ?_ GE126.out) | exact HB.out)⟩⟩
                        · rw [if_neg c51] at H
                          have c51b0 : (a0_0 == 10) = false := beq_eq_false_iff_ne.mpr c51
                          have c51b1 : (a0_0 != 10) = true := bne_iff_ne.mpr c51
                          have H' := Aside0.mk H
                          clear H
                          have hcz53_0 : wc.cell? ⟨gb126, 0, none⟩ = some (.int .i64 a0_0) := (blk_cell BK126.out 0).trans rfl
                          have hcz53_1 : wc.cell? ⟨gb126, 1, none⟩ = some (.int .i64 a0_1) := (blk_cell BK126.out 1).trans rfl
                          have hcz53_2 : wc.cell? ⟨gb126, 2, none⟩ = some (.int .i64 a0_2) := (blk_cell BK126.out 2).trans rfl
                          have hcz53_3 : wc.cell? ⟨gb126, 3, none⟩ = some (.int .i64 a0_3) := (blk_cell BK126.out 3).trans rfl
                          have hcz53_4 : wc.cell? ⟨gb126, 4, none⟩ = some (.slice A0_4 l0_4.length c0_4) := (blk_cell BK126.out 4).trans rfl
                          have hcz53_5 : wc.cell? ⟨gb126, 5, none⟩ = some (.slice A0_5 l0_5.length c0_5) := (blk_cell BK126.out 5).trans rfl
                          have hfz53_0 := blk_frozen BK126.out 0
                          have hfz53_1 := blk_frozen BK126.out 1
                          have hfz53_2 := blk_frozen BK126.out 2
                          have hfz53_3 := blk_frozen BK126.out 3
                          have hfz53_4 := blk_frozen BK126.out 4
                          have hfz53_5 := blk_frozen BK126.out 5
                          go_wp2
                          go_meet
                          case rel => exact ⟨_, (decide ((l0_5.length : Int) > 0)), (by first | rfl | (simp; done) | (simp [*]; done)), H', ⟨by have := HJ5.out; first | omega | exact Nat.le_refl _⟩, ⟨by (with_reducible repeat (first | refine blk_drewN ?_ _ | refine blk_drew ?_ | refine blk_alloc ?_ _)); exact BK126.out⟩, ⟨by repeat (first | (with_reducible first | exact HB.out | apply below_alloc | apply pw_below_drewN | apply below_drew1 | refine below_set ?_ GE126.out) | exact HB.out)⟩⟩
                      · rw [if_neg c50] at H
                        have c50b0 : (a0_3 == 0) = false := beq_eq_false_iff_ne.mpr c50
                        have c50b1 : (a0_3 != 0) = true := bne_iff_ne.mpr c50
                        have H' := Aside0.mk H
                        clear H
                        have hcz54_0 : wc.cell? ⟨gb126, 0, none⟩ = some (.int .i64 a0_0) := (blk_cell BK126.out 0).trans rfl
                        have hcz54_1 : wc.cell? ⟨gb126, 1, none⟩ = some (.int .i64 a0_1) := (blk_cell BK126.out 1).trans rfl
                        have hcz54_2 : wc.cell? ⟨gb126, 2, none⟩ = some (.int .i64 a0_2) := (blk_cell BK126.out 2).trans rfl
                        have hcz54_3 : wc.cell? ⟨gb126, 3, none⟩ = some (.int .i64 a0_3) := (blk_cell BK126.out 3).trans rfl
                        have hcz54_4 : wc.cell? ⟨gb126, 4, none⟩ = some (.slice A0_4 l0_4.length c0_4) := (blk_cell BK126.out 4).trans rfl
                        have hcz54_5 : wc.cell? ⟨gb126, 5, none⟩ = some (.slice A0_5 l0_5.length c0_5) := (blk_cell BK126.out 5).trans rfl
                        have hfz54_0 := blk_frozen BK126.out 0
                        have hfz54_1 := blk_frozen BK126.out 1
                        have hfz54_2 := blk_frozen BK126.out 2
                        have hfz54_3 := blk_frozen BK126.out 3
                        have hfz54_4 := blk_frozen BK126.out 4
                        have hfz54_5 := blk_frozen BK126.out 5
                        go_wp2
                        go_meet
                        case rel => exact ⟨_, (true), (by first | rfl | (simp; done) | (simp [*]; done)), H', ⟨by have := HJ5.out; first | omega | exact Nat.le_refl _⟩, ⟨by (with_reducible repeat (first | refine blk_drewN ?_ _ | refine blk_drew ?_ | refine blk_alloc ?_ _)); exact BK126.out⟩, ⟨by repeat (first | (with_reducible first | exact HB.out | apply below_alloc | apply pw_below_drewN | apply below_drew1 | refine below_set ?_ GE126.out) | exact HB.out)⟩⟩
              · rw [if_neg c33] at H
                have c33b0 : (a0_2 == 0) = false := beq_eq_false_iff_ne.mpr c33
                have c33b1 : (a0_2 != 0) = true := bne_iff_ne.mpr c33
                have H' := Aside0.mk H
                clear H
                have hcz55_0 : wc.cell? ⟨gb126, 0, none⟩ = some (.int .i64 a0_0) := (blk_cell BK126.out 0).trans rfl
                have hcz55_1 : wc.cell? ⟨gb126, 1, none⟩ = some (.int .i64 a0_1) := (blk_cell BK126.out 1).trans rfl
                have hcz55_2 : wc.cell? ⟨gb126, 2, none⟩ = some (.int .i64 a0_2) := (blk_cell BK126.out 2).trans rfl
                have hcz55_3 : wc.cell? ⟨gb126, 3, none⟩ = some (.int .i64 a0_3) := (blk_cell BK126.out 3).trans rfl
                have hcz55_4 : wc.cell? ⟨gb126, 4, none⟩ = some (.slice A0_4 l0_4.length c0_4) := (blk_cell BK126.out 4).trans rfl
                have hcz55_5 : wc.cell? ⟨gb126, 5, none⟩ = some (.slice A0_5 l0_5.length c0_5) := (blk_cell BK126.out 5).trans rfl
                have hfz55_0 := blk_frozen BK126.out 0
                have hfz55_1 := blk_frozen BK126.out 1
                have hfz55_2 := blk_frozen BK126.out 2
                have hfz55_3 := blk_frozen BK126.out 3
                have hfz55_4 := blk_frozen BK126.out 4
                have hfz55_5 := blk_frozen BK126.out 5
                go_wp2
                go_meet
                case rel => exact ⟨_, (true), (by first | rfl | (simp; done) | (simp [*]; done)), H', ⟨by have := HJ5.out; first | omega | exact Nat.le_refl _⟩, ⟨by (with_reducible repeat (first | refine blk_drewN ?_ _ | refine blk_drew ?_ | refine blk_alloc ?_ _)); exact BK126.out⟩, ⟨by repeat (first | (with_reducible first | exact HB.out | apply below_alloc | apply pw_below_drewN | apply below_drew1 | refine below_set ?_ GE126.out) | exact HB.out)⟩⟩
          · replace c11 := Bool.eq_false_iff.mpr c11
            subst c11
            have H1 : (if a0_1 = 0 then (if t129 = true then (if x6_5 = true then (if a0_0 = 11 then (if a0_0 = 10 then (impl_StepFault.j1 kj5 false a0_0 a0_1 a0_2 a0_3 l0_4 l0_5) else (impl_StepFault.j1 kj5 (decide ((l0_5.length : Int) > 0)) a0_0 a0_1 a0_2 a0_3 l0_4 l0_5)) else (if a0_3 = 0 then (if a0_0 = 10 then (impl_StepFault.j1 kj5 false a0_0 a0_1 a0_2 a0_3 l0_4 l0_5) else (impl_StepFault.j1 kj5 (decide ((l0_5.length : Int) > 0)) a0_0 a0_1 a0_2 a0_3 l0_4 l0_5)) else (impl_StepFault.j1 kj5 true a0_0 a0_1 a0_2 a0_3 l0_4 l0_5))) else (if (l0_4.length : Int) > 0 then (impl_StepFault.j1 kj5 true a0_0 a0_1 a0_2 a0_3 l0_4 l0_5) else (if a0_0 = 11 then (if a0_0 = 10 then (impl_StepFault.j1 kj5 false a0_0 a0_1 a0_2 a0_3 l0_4 l0_5) else (impl_StepFault.j1 kj5 (decide ((l0_5.length : Int) > 0)) a0_0 a0_1 a0_2 a0_3 l0_4 l0_5)) else (if a0_3 = 0 then (if a0_0 = 10 then (impl_StepFault.j1 kj5 false a0_0 a0_1 a0_2 a0_3 l0_4 l0_5) else (impl_StepFault.j1 kj5 (decide ((l0_5.length : Int) > 0)) a0_0 a0_1 a0_2 a0_3 l0_4 l0_5)) else (impl_StepFault.j1 kj5 true a0_0 a0_1 a0_2 a0_3 l0_4 l0_5))))) else (if a0_2 = 0 then (if x6_5 = true then (if a0_0 = 11 then (if a0_0 = 10 then (impl_StepFault.j1 kj5 false a0_0 a0_1 a0_2 a0_3 l0_4 l0_5) else (impl_StepFault.j1 kj5 (decide ((l0_5.length : Int) > 0)) a0_0 a0_1 a0_2 a0_3 l0_4 l0_5)) else (if a0_3 = 0 then (if a0_0 = 10 then (impl_StepFault.j1 kj5 false a0_0 a0_1 a0_2 a0_3 l0_4 l0_5) else (impl_StepFault.j1 kj5 (decide ((l0_5.length : Int) > 0)) a0_0 a0_1 a0_2 a0_3 l0_4 l0_5)) else (impl_StepFault.j1 kj5 true a0_0 a0_1 a0_2 a0_3 l0_4 l0_5))) else (if (l0_4.length : Int) > 0 then (impl_StepFault.j1 kj5 true a0_0 a0_1 a0_2 a0_3 l0_4 l0_5) else (if a0_0 = 11 then (if a0_0 = 10 then (impl_StepFault.j1 kj5 false a0_0 a0_1 a0_2 a0_3 l0_4 l0_5) else (impl_StepFault.j1 kj5 (decide ((l0_5.length : Int) > 0)) a0_0 a0_1 a0_2 a0_3 l0_4 l0_5)) else (if a0_3 = 0 then (if a0_0 = 10 then (impl_StepFault.j1 kj5 false a0_0 a0_1 a0_2 a0_3 l0_4 l0_5) else (impl_StepFault.j1 kj5 (decide ((l0_5.length : Int) > 0)) a0_0 a0_1 a0_2 a0_3 l0_4 l0_5)) else (impl_StepFault.j1 kj5 true a0_0 a0_1 a0_2 a0_3 l0_4 l0_5))))) else (impl_StepFault.j1 kj5 true a0_0 a0_1 a0_2 a0_3 l0_4 l0_5))) else (impl_StepFault.j1 kj5 true a0_0 a0_1 a0_2 a0_3 l0_4 l0_5)) = some r := by rw [if_neg (show ¬ (false = true) by decide)] at H; exact H
            clear H
            have H := H1
            clear H1
            by_cases c56 : a0_1 = 0
            · rw [if_pos c56] at H
              have c56b0 : (a0_1 == 0) = true := beq_iff_eq.mpr c56
              have c56b1 : (a0_1 != 0) = false := bne_eq_false_iff_eq.mpr c56
              clear c56
              by_cases c57 : t129 = true
              · subst c57
                have H1 : (if x6_5 = true then (if a0_0 = 11 then (if a0_0 = 10 then (impl_StepFault.j1 kj5 false a0_0 a0_1 a0_2 a0_3 l0_4 l0_5) else (impl_StepFault.j1 kj5 (decide ((l0_5.length : Int) > 0)) a0_0 a0_1 a0_2 a0_3 l0_4 l0_5)) else (if a0_3 = 0 then (if a0_0 = 10 then (impl_StepFault.j1 kj5 false a0_0 a0_1 a0_2 a0_3 l0_4 l0_5) else (impl_StepFault.j1 kj5 (decide ((l0_5.length : Int) > 0)) a0_0 a0_1 a0_2 a0_3 l0_4 l0_5)) else (impl_StepFault.j1 kj5 true a0_0 a0_1 a0_2 a0_3 l0_4 l0_5))) else (if (l0_4.length : Int) > 0 then (impl_StepFault.j1 kj5 true a0_0 a0_1 a0_2 a0_3 l0_4 l0_5) else (if a0_0 = 11 then (if a0_0 = 10 then (impl_StepFault.j1 kj5 false a0_0 a0_1 a0_2 a0_3 l0_4 l0_5) else (impl_StepFault.j1 kj5 (decide ((l0_5.length : Int) > 0)) a0_0 a0_1 a0_2 a0_3 l0_4 l0_5)) else (if a0_3 = 0 then (if a0_0 = 10 then (impl_StepFault.j1 kj5 false a0_0 a0_1 a0_2 a0_3 l0_4 l0_5) else (impl_StepFault.j1 kj5 (decide ((l0_5.length : Int) > 0)) a0_0 a0_1 a0_2 a0_3 l0_4 l0_5)) else (impl_StepFault.j1 kj5 true a0_0 a0_1 a0_2 a0_3 l0_4 l0_5))))) = some r := by rw [if_pos rfl] at H; exact H
                clear H
                have H := H1
                clear H1
                by_cases c58 : x6_5 = true
                · subst c58
                  have H1 : (if a0_0 = 11 then (if a0_0 = 10 then (impl_StepFault.j1 kj5 false a0_0 a0_1 a0_2 a0_3 l0_4 l0_5) else (impl_StepFault.j1 kj5 (decide ((l0_5.length : Int) > 0)) a0_0 a0_1 a0_2 a0_3 l0_4 l0_5)) else (if a0_3 = 0 then (if a0_0 = 10 then (impl_StepFault.j1 kj5 false a0_0 a0_1 a0_2 a0_3 l0_4 l0_5) else (impl_StepFault.j1 kj5 (decide ((l0_5.length : Int) > 0)) a0_0 a0_1 a0_2 a0_3 l0_4 l0_5)) else (impl_StepFault.j1 kj5 true a0_0 a0_1 a0_2 a0_3 l0_4 l0_5))) = some r := by rw [if_pos rfl] at H; exact H
                  clear H
                  have H := H1
                  clear H1
                  by_cases c59 : a0_0 = 11
                  · rw [if_pos c59] at H
                    have c59b0 : (a0_0 == 11) = true := beq_iff_eq.mpr c59
                    have c59b1 : (a0_0 != 11) = false := bne_eq_false_iff_eq.mpr c59
                    clear c59
                    by_cases c60 : a0_0 = 10
                    · rw [if_pos c60] at H
                      have c60b0 : (a0_0 == 10) = true := beq_iff_eq.mpr c60
                      have c60b1 : (a0_0 != 10) = false := bne_eq_false_iff_eq.mpr c60
                      clear c60
                      have H' := Aside0.mk H
                      clear H
                      have hcz61_0 : wc.cell? ⟨gb126, 0, none⟩ = some (.int .i64 a0_0) := (blk_cell BK126.out 0).trans rfl
                      have hcz61_1 : wc.cell? ⟨gb126, 1, none⟩ = some (.int .i64 a0_1) := (blk_cell BK126.out 1).trans rfl
                      have hcz61_2 : wc.cell? ⟨gb126, 2, none⟩ = some (.int .i64 a0_2) := (blk_cell BK126.out 2).trans rfl
                      have hcz61_3 : wc.cell? ⟨gb126, 3, none⟩ = some (.int .i64 a0_3) := (blk_cell BK126.out 3).trans rfl
                      have hcz61_4 : wc.cell? ⟨gb126, 4, none⟩ = some (.slice A0_4 l0_4.length c0_4) := (blk_cell BK126.out 4).trans rfl
                      have hcz61_5 : wc.cell? ⟨gb126, 5, none⟩ = some (.slice A0_5 l0_5.length c0_5) := (blk_cell BK126.out 5).trans rfl
                      have hfz61_0 := blk_frozen BK126.out 0
                      have hfz61_1 := blk_frozen BK126.out 1
                      have hfz61_2 := blk_frozen BK126.out 2
                      have hfz61_3 := blk_frozen BK126.out 3
                      have hfz61_4 := blk_frozen BK126.out 4
                      have hfz61_5 := blk_frozen BK126.out 5
                      go_wp2
                      go_meet
                      case rel => exact ⟨_, (false), (by first | rfl | (simp; done) | (simp [*]; done)), H', ⟨by have := HJ5.out; first | omega | exact Nat.le_refl _⟩, ⟨by (with_reducible repeat (first | refine blk_drewN ?_ _ | refine blk_drew ?_ | refine blk_alloc ?_ _)); exact BK126.out⟩, ⟨by repeat (first | (with_reducible first | exact HB.out | apply below_alloc | apply pw_below_drewN | apply below_drew1 | refine below_set ?_ GE126.out) | exact HB.out)⟩⟩
                    · rw [if_neg c60] at H
                      have c60b0 : (a0_0 == 10) = false := beq_eq_false_iff_ne.mpr c60
                      have c60b1 : (a0_0 != 10) = true := bne_iff_ne.mpr c60
                      have H' := Aside0.mk H
                      clear H
                      have hcz62_0 : wc.cell? ⟨gb126, 0, none⟩ = some (.int .i64 a0_0) := (blk_cell BK126.out 0).trans rfl
                      have hcz62_1 : wc.cell? ⟨gb126, 1, none⟩ = some (.int .i64 a0_1) := (blk_cell BK126.out 1).trans rfl
                      have hcz62_2 : wc.cell? ⟨gb126, 2, none⟩ = some (.int .i64 a0_2) := (blk_cell BK126.out 2).trans rfl
                      have hcz62_3 : wc.cell? ⟨gb126, 3, none⟩ = some (.int .i64 a0_3) := (blk_cell BK126.out 3).trans rfl
                      have hcz62_4 : wc.cell? ⟨gb126, 4, none⟩ = some (.slice A0_4 l0_4.length c0_4) := (blk_cell BK126.out 4).trans rfl
                      have hcz62_5 : wc.cell? ⟨gb126, 5, none⟩ = some (.slice A0_5 l0_5.length c0_5) := (blk_cell BK126.out 5).trans rfl
                      have hfz62_0 := blk_frozen BK126.out 0
                      have hfz62_1 := blk_frozen BK126.out 1
                      have hfz62_2 := blk_frozen BK126.out 2
                      have hfz62_3 := blk_frozen BK126.out 3
                      have hfz62_4 := blk_frozen BK126.out 4
                      have hfz62_5 := blk_frozen BK126.out 5
                      go_wp2
                      go_meet
                      case rel => exact ⟨_, (decide ((l0_5.length : Int) > 0)), (by first | rfl | (simp; done) | (simp [*]; done)), H', ⟨by have := HJ5.out; first | omega | exact Nat.le_refl _⟩, ⟨by (with_reducible repeat (first | refine blk_drewN ?_ _ | refine blk_drew ?_ | refine blk_alloc ?_ _)); exact BK126.out⟩, ⟨by repeat (first | (with_reducible first | exact HB.out | apply below_alloc | apply pw_below_drewN | apply below_drew1 | refine below_set ?_ GE126.out) | exact HB.out)⟩⟩
                  · rw [if_neg c59] at H
                    have c59b0 : (a0_0 == 11) = false := beq_eq_false_iff_ne.mpr c59
                    have c59b1 : (a0_0 != 11) = true := bne_iff_ne.mpr c59
                    by_cases c63 : a0_3 = 0
                    · rw [if_pos c63] at H
                      have c63b0 : (a0_3 == 0) = true := beq_iff_eq.mpr c63
                      have c63b1 : (a0_3 != 0) = false := bne_eq_false_iff_eq.mpr c63
                      clear c63
                      by_cases c64 : a0_0 = 10
                      · rw [if_pos c64] at H
                        have c64b0 : (a0_0 == 10) = true := beq_iff_eq.mpr c64
                        have c64b1 : (a0_0 != 10) = false := bne_eq_false_iff_eq.mpr c64
                        clear c64
                        have H' := Aside0.mk H
                        clear H
                        have hcz65_0 : wc.cell? ⟨gb126, 0, none⟩ = some (.int .i64 a0_0) := (blk_cell BK126.out 0).trans rfl
                        have hcz65_1 : wc.cell? ⟨gb126, 1, none⟩ = some (.int .i64 a0_1) := (blk_cell BK126.out 1).trans rfl
                        have hcz65_2 : wc.cell? ⟨gb126, 2, none⟩ = some (.int .i64 a0_2) := (blk_cell BK126.out 2).trans rfl
                        have hcz65_3 : wc.cell? ⟨gb126, 3, none⟩ = some (.int .i64 a0_3) := (blk_cell BK126.out 3).trans rfl
                        have hcz65_4 : wc.cell? ⟨gb126, 4, none⟩ = some (.slice A0_4 l0_4.length c0_4) := (blk_cell BK126.out 4).trans rfl
                        have hcz65_5 : wc.cell? ⟨gb126, 5, none⟩ = some (.slice A0_5 l0_5.length c0_5) := (blk_cell BK126.out 5).trans rfl
                        have hfz65_0 := blk_frozen BK126.out 0
                        have hfz65_1 := blk_frozen BK126.out 1
                        have hfz65_2 := blk_frozen BK126.out 2
                        have hfz65_3 := blk_frozen BK126.out 3
                        have hfz65_4 := blk_frozen BK126.out 4
                        have hfz65_5 := blk_frozen BK126.out 5
                        go_wp2
                        go_meet
                        case rel => exact ⟨_, (false), (by first | rfl | (simp; done) | (simp [*]; done)), H', ⟨by have := HJ5.out; first | omega | exact Nat.le_refl _⟩, ⟨by (with_reducible repeat (first | refine blk_drewN ?_ _ | refine blk_drew ?_ | refine blk_alloc ?_ _)); exact BK126.out⟩, ⟨by repeat (first | (with_reducible first | exact HB.out | apply below_alloc | apply pw_below_drewN | apply below_drew1 | refine below_set ?_ GE126.out) | exact HB.out)⟩⟩
                      · rw [if_neg c64] at H
                        have c64b0 : (a0_0 == 10) = false := beq_eq_false_iff_ne.mpr c64
                        have c64b1 : (a0_0 != 10) = true := bne_iff_ne.mpr c64
                        have H' := Aside0.mk H
                        clear H
                        have hcz66_0 : wc.cell? ⟨gb126, 0, none⟩ = some (.int .i64 a0_0) := (blk_cell BK126.out 0).trans rfl
                        have hcz66_1 : wc.cell? ⟨gb126, 1, none⟩ = some (.int .i64 a0_1) := (blk_cell BK126.out 1).trans rfl
                        have hcz66_2 : wc.cell? ⟨gb126, 2, none⟩ = some (.int .i64 a0_2) := (blk_cell BK126.out 2).trans rfl
                        have hcz66_3 : wc.cell? ⟨gb126, 3, none⟩ = some (.int .i64 a0_3) := (blk_cell BK126.out 3).trans rfl
                        have hcz66_4 : wc.cell? ⟨gb126, 4, none⟩ = some (.slice A0_4 l0_4.length c0_4) := (blk_cell BK126.out 4).trans rfl
                        have hcz66_5 : wc.cell? ⟨gb126, 5, none⟩ = some (.slice A0_5 l0_5.length c0_5) := (blk_cell BK126.out 5).trans rfl
                        have hfz66_0 := blk_frozen BK126.out 0
                        have hfz66_1 := blk_frozen BK126.out 1
                        have hfz66_2 := blk_frozen BK126.out 2
                        have hfz66_3 := blk_frozen BK126.out 3
                        have hfz66_4 := blk_frozen BK126.out 4
                        have hfz66_5 := blk_frozen BK126.out 5
                        go_wp2
                        go_meet
                        case rel => exact ⟨_, (decide ((l0_5.length : Int) > 0)), (by first | rfl | (simp; done) | (simp [*]; done)), H', ⟨by have := HJ5.out; first | omega | exact Nat.le_refl _⟩, ⟨by (with_reducible repeat (first | refine blk_drewN ?_ _ | refine blk_drew ?_ | refine blk_alloc ?_ _)); exact BK126.out⟩, ⟨by repeat (first | (with_reducible first | exact HB.out | apply below_alloc | apply pw_below_drewN | apply below_drew1 | refine below_set ?_ GE126.out) | exact HB.out)⟩⟩
                    · rw [if_neg c63] at H
                      have c63b0 : (a0_3 == 0) = false := beq_eq_false_iff_ne.mpr c63
                      have c63b1 : (a0_3 != 0) = true := bne_iff_ne.mpr c63
                      have H' := Aside0.mk H
                      clear H
                      have hcz67_0 : wc.cell? ⟨gb126, 0, none⟩ = some (.int .i64 a0_0) := (blk_cell BK126.out 0).trans rfl
                      have hcz67_1 : wc.cell? ⟨gb126, 1, none⟩ = some (.int .i64 a0_1) := (blk_cell BK126.out 1).trans rfl
                      have hcz67_2 : wc.cell? ⟨gb126, 2, none⟩ = some (.int .i64 a0_2) := (blk_cell BK126.out 2).trans rfl
                      have hcz67_3 : wc.cell? ⟨gb126, 3, none⟩ = some (.int .i64 a0_3) := (blk_cell BK126.out 3).trans rfl
                      have hcz67_4 : wc.cell? ⟨gb126, 4, none⟩ = some (.slice A0_4 l0_4.length c0_4) := (blk_cell BK126.out 4).trans rfl
                      have hcz67_5 : wc.cell? ⟨gb126, 5, none⟩ = some (.slice A0_5 l0_5.length c0_5) := (blk_cell BK126.out 5).trans rfl
                      have hfz67_0 := blk_frozen BK126.out 0
                      have hfz67_1 := blk_frozen BK126.out 1
                      have hfz67_2 := blk_frozen BK126.out 2
                      have hfz67_3 := blk_frozen BK126.out 3
                      have hfz67_4 := blk_frozen BK126.out 4
                      have hfz67_5 := blk_frozen BK126.out 5
                      go_wp2
                      go_meet
                      case rel => exact ⟨_, (true), (by first | rfl | (simp; done) | (simp [*]; done)), H', ⟨by have := HJ5.out; first | omega | exact Nat.le_refl _⟩, ⟨by (with_reducible repeat (first | refine blk_drewN ?_ _ | refine blk_drew ?_ | refine blk_alloc ?_ _)); exact BK126.out⟩, ⟨by repeat (first | (with_reducible first | exact HB.out | apply below_alloc | apply pw_below_drewN | apply below_drew1 | refine below_set ?_ GE126.out) | exact HB.out)⟩⟩
                · replace c58 := Bool.eq_false_iff.mpr c58
                  subst c58
                  have H1 : (if (l0_4.length : Int) > 0 then (impl_StepFault.j1 kj5 true a0_0 a0_1 a0_2 a0_3 l0_4 l0_5) else (if a0_0 = 11 then (if a0_0 = 10 then (impl_StepFault.j1 kj5 false a0_0 a0_1 a0_2 a0_3 l0_4 l0_5) else (impl_StepFault.j1 kj5 (decide ((l0_5.length : Int) > 0)) a0_0 a0_1 a0_2 a0_3 l0_4 l0_5)) else (if a0_3 = 0 then (if a0_0 = 10 then (impl_StepFault.j1 kj5 false a0_0 a0_1 a0_2 a0_3 l0_4 l0_5) else (impl_StepFault.j1 kj5 (decide ((l0_5.length : Int) > 0)) a0_0 a0_1 a0_2 a0_3 l0_4 l0_5)) else (impl_StepFault.j1 kj5 true a0_0 a0_1 a0_2 a0_3 l0_4 l0_5)))) = some r := by rw [if_neg (show ¬ (false = true) by decide)] at H; exact H
                  clear H
                  have H := H1
                  clear H1
                  by_cases c68 : (l0_4.length : Int) > 0
                  · rw [if_pos c68] at H
                    have c68b0 : decide (0 < (l0_4.length : Int)) = true := decide_eq_true c68
                    have c68b1 : decide (0 < l0_4.length) = true := decide_eq_true (by omega)
                    clear c68
                    have H' := Aside0.mk H
                    clear H
                    have hcz69_0 : wc.cell? ⟨gb126, 0, none⟩ = some (.int .i64 a0_0) := (blk_cell BK126.out 0).trans rfl
                    have hcz69_1 : wc.cell? ⟨gb126, 1, none⟩ = some (.int .i64 a0_1) := (blk_cell BK126.out 1).trans rfl
                    have hcz69_2 : wc.cell? ⟨gb126, 2, none⟩ = some (.int .i64 a0_2) := (blk_cell BK126.out 2).trans rfl
                    have hcz69_3 : wc.cell? ⟨gb126, 3, none⟩ = some (.int .i64 a0_3) := (blk_cell BK126.out 3).trans rfl
                    have hcz69_4 : wc.cell? ⟨gb126, 4, none⟩ = some (.slice A0_4 l0_4.length c0_4) := (blk_cell BK126.out 4).trans rfl
                    have hcz69_5 : wc.cell? ⟨gb126, 5, none⟩ = some (.slice A0_5 l0_5.length c0_5) := (blk_cell BK126.out 5).trans rfl
                    have hfz69_0 := blk_frozen BK126.out 0
                    have hfz69_1 := blk_frozen BK126.out 1
                    have hfz69_2 := blk_frozen BK126.out 2
                    have hfz69_3 := blk_frozen BK126.out 3
                    have hfz69_4 := blk_frozen BK126.out 4
                    have hfz69_5 := blk_frozen BK126.out 5
                    go_wp2
                    go_meet
                    case rel => exact ⟨_, (true), (by first | rfl | (simp; done) | (simp [*]; done)), H', ⟨by have := HJ5.out; first | omega | exact Nat.le_refl _⟩, ⟨by (with_reducible repeat (first | refine blk_drewN ?_ _ | refine blk_drew ?_ | refine blk_alloc ?_ _)); exact BK126.out⟩, ⟨by repeat (first | (with_reducible first | exact HB.out | apply below_alloc | apply pw_below_drewN | apply below_drew1 | refine below_set ?_ GE126.out) | exact HB.out)⟩⟩
                  · rw [if_neg c68] at H
                    have c68b0 : decide (0 < (l0_4.length : Int)) = false := decide_eq_false c68
                    have c68b1 : decide (0 < l0_4.length) = false := decide_eq_false (by omega)
                    clear c68
                    by_cases c70 : a0_0 = 11
                    · rw [if_pos c70] at H
                      have c70b0 : (a0_0 == 11) = true := beq_iff_eq.mpr c70
                      have c70b1 : (a0_0 != 11) = false := bne_eq_false_iff_eq.mpr c70
                      clear c70
                      by_cases c71 : a0_0 = 10
                      · rw [if_pos c71] at H
                        have c71b0 : (a0_0 == 10) = true := beq_iff_eq.mpr c71
                        have c71b1 : (a0_0 != 10) = false := bne_eq_false_iff_eq.mpr c71
                        clear c71
                        have H' := Aside0.mk H
                        clear H
                        have hcz72_0 : wc.cell? ⟨gb126, 0, none⟩ = some (.int .i64 a0_0) := (blk_cell BK126.out 0).trans rfl
                        have hcz72_1 : wc.cell? ⟨gb126, 1, none⟩ = some (.int .i64 a0_1) := (blk_cell BK126.out 1).trans rfl
                        have hcz72_2 : wc.cell? ⟨gb126, 2, none⟩ = some (.int .i64 a0_2) := (blk_cell BK126.out 2).trans rfl
                        have hcz72_3 : wc.cell? ⟨gb126, 3, none⟩ = some (.int .i64 a0_3) := (blk_cell BK126.out 3).trans rfl
                        have hcz72_4 : wc.cell? ⟨gb126, 4, none⟩ = some (.slice A0_4 l0_4.length c0_4) := (blk_cell BK126.out 4).trans rfl
                        have hcz72_5 : wc.cell? ⟨gb126, 5, none⟩ = some (.slice A0_5 l0_5.length c0_5) := (blk_cell BK126.out 5).trans rfl
                        have hfz72_0 := blk_frozen BK126.out 0
                        have hfz72_1 := blk_frozen BK126.out 1
                        have hfz72_2 := blk_frozen BK126.out 2
                        have hfz72_3 := blk_frozen BK126.out 3
                        have hfz72_4 := blk_frozen BK126.out 4
                        have hfz72_5 := blk_frozen BK126.out 5
                        go_wp2
                        go_meet
                        case rel => exact ⟨_, (false), (by first | rfl | (simp; done) | (simp [*]; done)), H', ⟨by have := HJ5.out; first | omega | exact Nat.le_refl _⟩, ⟨by (with_reducible repeat (first | refine blk_drewN ?_ _ | refine blk_drew ?_ | refine blk_alloc ?_ _)); exact BK126.out⟩, ⟨by repeat (first | (with_reducible first | exact HB.out | apply below_alloc | apply pw_below_drewN | apply below_drew1 | refine below_set ?_ GE126.out) | exact HB.out)⟩⟩
                      · rw [if_neg c71] at H
                        have c71b0 : (a0_0 == 10) = false := beq_eq_false_iff_ne.mpr c71
                        have c71b1 : (a0_0 != 10) = true := bne_iff_ne.mpr c71
                        have H' := Aside0.mk H
                        clear H
                        have hcz73_0 : wc.cell? ⟨gb126, 0, none⟩ = some (.int .i64 a0_0) := (blk_cell BK126.out 0).trans rfl
                        have hcz73_1 : wc.cell? ⟨gb126, 1, none⟩ = some (.int .i64 a0_1) := (blk_cell BK126.out 1).trans rfl
                        have hcz73_2 : wc.cell? ⟨gb126, 2, none⟩ = some (.int .i64 a0_2) := (blk_cell BK126.out 2).trans rfl
                        have hcz73_3 : wc.cell? ⟨gb126, 3, none⟩ = some (.int .i64 a0_3) := (blk_cell BK126.out 3).trans rfl
                        have hcz73_4 : wc.cell? ⟨gb126, 4, none⟩ = some (.slice A0_4 l0_4.length c0_4) := (blk_cell BK126.out 4).trans rfl
                        have hcz73_5 : wc.cell? ⟨gb126, 5, none⟩ = some (.slice A0_5 l0_5.length c0_5) := (blk_cell BK126.out 5).trans rfl
                        have hfz73_0 := blk_frozen BK126.out 0
                        have hfz73_1 := blk_frozen BK126.out 1
                        have hfz73_2 := blk_frozen BK126.out 2
                        have hfz73_3 := blk_frozen BK126.out 3
                        have hfz73_4 := blk_frozen BK126.out 4
                        have hfz73_5 := blk_frozen BK126.out 5
                        go_wp2
                        go_meet
                        case rel => exact ⟨_, (decide ((l0_5.length : Int) > 0)), (by first | rfl | (simp; done) | (simp [*]; done)), H', ⟨by have := HJ5.out; first | omega | exact Nat.le_refl _⟩, ⟨by (with_reducible repeat (first | refine blk_drewN ?_ _ | refine blk_drew ?_ | refine blk_alloc ?_ _)); exact BK126.out⟩, ⟨by repeat (first | (with_reducible first | exact HB.out | apply below_alloc | apply pw_below_drewN | apply below_drew1 | refine below_set ?_ GE126.out) | exact HB.out)⟩⟩
                    · rw [if_neg c70] at H
                      have c70b0 : (a0_0 == 11) = false := beq_eq_false_iff_ne.mpr c70
                      have c70b1 : (a0_0 != 11) = true := bne_iff_ne.mpr c70
                      by_cases c74 : a0_3 = 0
                      · rw [if_pos c74] at H
                        have c74b0 : (a0_3 == 0) = true := beq_iff_eq.mpr c74
                        have c74b1 : (a0_3 != 0) = false := bne_eq_false_iff_eq.mpr c74
                        clear c74
                        by_cases c75 : a0_0 = 10
                        · rw [if_pos c75] at H
                          have c75b0 : (a0_0 == 10) = true := beq_iff_eq.mpr c75
                          have c75b1 : (a0_0 != 10) = false := bne_eq_false_iff_eq.mpr c75
                          clear c75
                          have H' := Aside0.mk H
                          clear H
                          have hcz76_0 : wc.cell? ⟨gb126, 0, none⟩ = some (.int .i64 a0_0) := (blk_cell BK126.out 0).trans rfl
                          have hcz76_1 : wc.cell? ⟨gb126, 1, none⟩ = some (.int .i64 a0_1) := (blk_cell BK126.out 1).trans rfl
                          have hcz76_2 : wc.cell? ⟨gb126, 2, none⟩ = some (.int .i64 a0_2) := (blk_cell BK126.out 2).trans rfl
                          have hcz76_3 : wc.cell? ⟨gb126, 3, none⟩ = some (.int .i64 a0_3) := (blk_cell BK126.out 3).trans rfl
                          have hcz76_4 : wc.cell? ⟨gb126, 4, none⟩ = some (.slice A0_4 l0_4.length c0_4) := (blk_cell BK126.out 4).trans rfl
                          have hcz76_5 : wc.cell? ⟨gb126, 5, none⟩ = some (.slice A0_5 l0_5.length c0_5) := (blk_cell BK126.out 5).trans rfl
                          have hfz76_0 := blk_frozen BK126.out 0
                          have hfz76_1 := blk_frozen BK126.out 1
                          have hfz76_2 := blk_frozen BK126.out 2
                          have hfz76_3 := blk_frozen BK126.out 3
                          have hfz76_4 := blk_frozen BK126.out 4
                          have hfz76_5 := blk_frozen BK126.out 5
                          go_wp2
                          go_meet
                          case rel => exact ⟨_, (false), (by first | rfl | (simp; done) | (simp [*]; done)), H', ⟨by have := HJ5.out; first | omega | exact Nat.le_refl _⟩, ⟨by (with_reducible repeat (first | refine blk_drewN ?_ _ | refine blk_drew ?_ | refine blk_alloc ?_ _)); exact BK126.out⟩, ⟨by repeat (first | (with_reducible first | exact HB.out | apply below_alloc | apply pw_below_drewN | apply below_drew1 | refine below_set ?_ GE126.out) | exact HB.out)⟩⟩
                        · rw [if_neg c75] at H
                          have c75b0 : (a0_0 == 10) = false := beq_eq_false_iff_ne.mpr c75
                          have c75b1 : (a0_0 != 10) = true := bne_iff_ne.mpr c75
                          have H' := Aside0.mk H
                          clear H
                          have hcz77_0 : wc.cell? ⟨gb126, 0, none⟩ = some (.int .i64 a0_0) := (blk_cell BK126.out 0).trans rfl
                          have hcz77_1 : wc.cell? ⟨gb126, 1, none⟩ = some (.int .i64 a0_1) := (blk_cell BK126.out 1).trans rfl
                          have hcz77_2 : wc.cell? ⟨gb126, 2, none⟩ = some (.int .i64 a0_2) := (blk_cell BK126.out 2).trans rfl
                          have hcz77_3 : wc.cell? ⟨gb126, 3, none⟩ = some (.int .i64 a0_3) := (blk_cell BK126.out 3).trans rfl
                          have hcz77_4 : wc.cell? ⟨gb126, 4, none⟩ = some (.slice A0_4 l0_4.length c0_4) := (blk_cell BK126.out 4).trans rfl
                          have hcz77_5 : wc.cell? ⟨gb126, 5, none⟩ = some (.slice A0_5 l0_5.length c0_5) := (blk_cell BK126.out 5).trans rfl
                          have hfz77_0 := blk_frozen BK126.out 0
                          have hfz77_1 := blk_frozen BK126.out 1
                          have hfz77_2 := blk_frozen BK126.out 2
                          have hfz77_3 := blk_frozen BK126.out 3
                          have hfz77_4 := blk_frozen BK126.out 4
                          have hfz77_5 := blk_frozen BK126.out 5
                          go_wp2
                          go_meet
                          case rel => exact ⟨_, (decide ((l0_5.length : Int) > 0)), (by first | rfl | (simp; done) | (simp [*]; done)), H', ⟨by have := HJ5.out; first | omega | exact Nat.le_refl _⟩, ⟨by (with_reducible repeat (first | refine blk_drewN ?_ _ | refine blk_drew ?_ | refine blk_alloc ?_ _)); exact BK126.out⟩, ⟨by repeat (first | (with_reducible first | exact HB.out | apply below_alloc | apply pw_below_drewN | apply below_drew1 | refine below_set ?_ GE126.out) | exact HB.out)⟩⟩
                      · rw [if_neg c74] at H
                        have c74b0 : (a0_3 == 0) = false := beq_eq_false_iff_ne.mpr c74
                        have c74b1 : (a0_3 != 0) = true := bne_iff_ne.mpr c74
                        have H' := Aside0.mk H
                        clear H
                        have hcz78_0 : wc.cell? ⟨gb126, 0, none⟩ = some (.int .i64 a0_0) := (blk_cell BK126.out 0).trans rfl
                        have hcz78_1 : wc.cell? ⟨gb126, 1, none⟩ = some (.int .i64 a0_1) := (blk_cell BK126.out 1).trans rfl
                        have hcz78_2 : wc.cell? ⟨gb126, 2, none⟩ = some (.int .i64 a0_2) := (blk_cell BK126.out 2).trans rfl
                        have hcz78_3 : wc.cell? ⟨gb126, 3, none⟩ = some (.int .i64 a0_3) := (blk_cell BK126.out 3).trans rfl
                        have hcz78_4 : wc.cell? ⟨gb126, 4, none⟩ = some (.slice A0_4 l0_4.length c0_4) := (blk_cell BK126.out 4).trans rfl
                        have hcz78_5 : wc.cell? ⟨gb126, 5, none⟩ = some (.slice A0_5 l0_5.length c0_5) := (blk_cell BK126.out 5).trans rfl
                        have hfz78_0 := blk_frozen BK126.out 0
                        have hfz78_1 := blk_frozen BK126.out 1
                        have hfz78_2 := blk_frozen BK126.out 2
                        have hfz78_3 := blk_frozen BK126.out 3
                        have hfz78_4 := blk_frozen BK126.out 4
                        have hfz78_5 := blk_frozen BK126.out 5
                        go_wp2
                        go_meet
                        case rel => exact ⟨_, (true), (by first | rfl | (simp; done) | (simp [*]; done)), H', ⟨by have := HJ5.out; first | omega | exact Nat.le_refl _⟩, ⟨by (with_reducible repeat (first | refine blk_drewN ?_ _ | refine blk_drew ?_ | refine blk_alloc ?_ _)); exact BK126.out⟩, ⟨by repeat (first | (with_reducible first | exact HB.out | apply below_alloc | apply pw_below_drewN | apply below_drew1 | refine below_set ?_ GE126.out) | exact HB.out)⟩⟩
              · replace c57 := Bool.eq_false_iff.mpr c57
                subst c57
                have H1 : (if a0_2 = 0 then (if x6_5 = true then (if a0_0 = 11 then (if a0_0 = 10 then (impl_StepFault.j1 kj5 false a0_0 a0_1 a0_2 a0_3 l0_4 l0_5) else (impl_StepFault.j1 kj5 (decide ((l0_5.length : Int) > 0)) a0_0 a0_1 a0_2 a0_3 l0_4 l0_5)) else (if a0_3 = 0 then (if a0_0 = 10 then (impl_StepFault.j1 kj5 false a0_0 a0_1 a0_2 a0_3 l0_4 l0_5) else (impl_StepFault.j1 kj5 (decide ((l0_5.length : Int) > 0)) a0_0 a0_1 a0_2 a0_3 l0_4 l0_5)) else (impl_StepFault.j1 kj5 true a0_0 a0_1 a0_2 a0_3 l0_4 l0_5))) else (if (l0_4.length : Int) > 0 then (impl_StepFault.j1 kj5 true a0_0 a0_1 a0_2 a0_3 l0_4 l0_5) else (if a0_0 = 11 then (if a0_0 = 10 then (impl_StepFault.j1 kj5 false a0_0 a0_1 a0_2 a0_3 l0_4 l0_5) else (impl_StepFault.j1 kj5 (decide ((l0_5.length : Int) > 0)) a0_0 a0_1 a0_2 a0_3 l0_4 l0_5)) else (if a0_3 = 0 then (if a0_0 = 10 then (impl_StepFault.j1 kj5 false a0_0 a0_1 a0_2 a0_3 l0_4 l0_5) else (impl_StepFault.j1 kj5 (decide ((l0_5.length : Int) > 0)) a0_0 a0_1 a0_2 a0_3 l0_4 l0_5)) else (impl_StepFault.j1 kj5 true a0_0 a0_1 a0_2 a0_3 l0_4 l0_5))))) else (impl_StepFault.j1 kj5 true a0_0 a0_1 a0_2 a0_3 l0_4 l0_5)) = some r := by rw [if_neg (show ¬ (false = true) by decide)] at H; exact H
                clear H
                have H := H1
                clear H1
                by_cases c79 : a0_2 = 0
                · rw [if_pos c79] at H
                  have c79b0 : (a0_2 == 0) = true := beq_iff_eq.mpr c79
                  have c79b1 : (a0_2 != 0) = false := bne_eq_false_iff_eq.mpr c79
                  clear c79
                  by_cases c80 : x6_5 = true
                  · subst c80
                    have H1 : (if a0_0 = 11 then (if a0_0 = 10 then (impl_StepFault.j1 kj5 false a0_0 a0_1 a0_2 a0_3 l0_4 l0_5) else (impl_StepFault.j1 kj5 (decide ((l0_5.length : Int) > 0)) a0_0 a0_1 a0_2 a0_3 l0_4 l0_5)) else (if a0_3 = 0 then (if a0_0 = 10 then (impl_StepFault.j1 kj5 false a0_0 a0_1 a0_2 a0_3 l0_4 l0_5) else (impl_StepFault.j1 kj5 (decide ((l0_5.length : Int) > 0)) a0_0 a0_1 a0_2 a0_3 l0_4 l0_5)) else (impl_StepFault.j1 kj5 true a0_0 a0_1 a0_2 a0_3 l0_4 l0_5))) = some r := by rw [if_pos rfl] at H; exact H
                    clear H
                    have H := H1
                    clear H1
                    by_cases c81 : a0_0 = 11
                    · rw [if_pos c81] at H
                      have c81b0 : (a0_0 == 11) = true := beq_iff_eq.mpr c81
                      have c81b1 : (a0_0 != 11) = false := bne_eq_false_iff_eq.mpr c81
                      clear c81
                      by_cases c82 : a0_0 = 10
                      · rw [if_pos c82] at H
                        have c82b0 : (a0_0 == 10) = true := beq_iff_eq.mpr c82
                        have c82b1 : (a0_0 != 10) = false := bne_eq_false_iff_eq.mpr c82
                        clear c82
                        have H' := Aside0.mk H
                        clear H
                        have hcz83_0 : wc.cell? ⟨gb126, 0, none⟩ = some (.int .i64 a0_0) := (blk_cell BK126.out 0).trans rfl
                        have hcz83_1 : wc.cell? ⟨gb126, 1, none⟩ = some (.int .i64 a0_1) := (blk_cell BK126.out 1).trans rfl
                        have hcz83_2 : wc.cell? ⟨gb126, 2, none⟩ = some (.int .i64 a0_2) := (blk_cell BK126.out 2).trans rfl
                        have hcz83_3 : wc.cell? ⟨gb126, 3, none⟩ = some (.int .i64 a0_3) := (blk_cell BK126.out 3).trans rfl
                        have hcz83_4 : wc.cell? ⟨gb126, 4, none⟩ = some (.slice A0_4 l0_4.length c0_4) := (blk_cell BK126.out 4).trans rfl
                        have hcz83_5 : wc.cell? ⟨gb126, 5, none⟩ = some (.slice A0_5 l0_5.length c0_5) := (blk_cell BK126.out 5).trans rfl
                        have hfz83_0 := blk_frozen BK126.out 0
                        have hfz83_1 := blk_frozen BK126.out 1
                        have hfz83_2 := blk_frozen BK126.out 2
                        have hfz83_3 := blk_frozen BK126.out 3
                        have hfz83_4 := blk_frozen BK126.out 4
                        have hfz83_5 := blk_frozen BK126.out 5
                        go_wp2
                        go_meet
                        case rel => exact ⟨_, (false), (by first | rfl | (simp; done) | (simp [*]; done)), H', ⟨by have := HJ5.out; first | omega | exact Nat.le_refl _⟩, ⟨by (with_reducible repeat (first | refine blk_drewN ?_ _ | refine blk_drew ?_ | refine blk_alloc ?_ _)); exact BK126.out⟩, ⟨by repeat (first | (with_reducible first | exact HB.out | apply below_alloc | apply pw_below_drewN | apply below_drew1 | refine below_set ?_ GE126.out) | exact HB.out)⟩⟩
                      · rw [if_neg c82] at H
                        have c82b0 : (a0_0 == 10) = false := beq_eq_false_iff_ne.mpr c82
                        have c82b1 : (a0_0 != 10) = true := bne_iff_ne.mpr c82
                        have H' := Aside0.mk H
                        clear H
                        have hcz84_0 : wc.cell? ⟨gb126, 0, none⟩ = some (.int .i64 a0_0) := (blk_cell BK126.out 0).trans rfl
                        have hcz84_1 : wc.cell? ⟨gb126, 1, none⟩ = some (.int .i64 a0_1) := (blk_cell BK126.out 1).trans rfl
                        have hcz84_2 : wc.cell? ⟨gb126, 2, none⟩ = some (.int .i64 a0_2) := (blk_cell BK126.out 2).trans rfl
                        have hcz84_3 : wc.cell? ⟨gb126, 3, none⟩ = some (.int .i64 a0_3) := (blk_cell BK126.out 3).trans rfl
                        have hcz84_4 : wc.cell? ⟨gb126, 4, none⟩ = some (.slice A0_4 l0_4.length c0_4) := (blk_cell BK126.out 4).trans rfl
                        have hcz84_5 : wc.cell? ⟨gb126, 5, none⟩ = some (.slice A0_5 l0_5.length c0_5) := (blk_cell BK126.out 5).trans rfl
                        have hfz84_0 := blk_frozen BK126.out 0
                        have hfz84_1 := blk_frozen BK126.out 1
                        have hfz84_2 := blk_frozen BK126.out 2
                        have hfz84_3 := blk_frozen BK126.out 3
                        have hfz84_4 := blk_frozen BK126.out 4
                        have hfz84_5 := blk_frozen BK126.out 5
                        go_wp2
                        go_meet
                        case rel => exact ⟨_, (decide ((l0_5.length : Int) > 0)), (by first | rfl | (simp; done) | (simp [*]; done)), H', ⟨by have := HJ5.out; first | omega | exact Nat.le_refl _⟩, ⟨by (with_reducible repeat (first | refine blk_drewN ?_ _ | refine blk_drew ?_ | refine blk_alloc ?_ _)); exact BK126.out⟩, ⟨by repeat (first | (with_reducible first | exact HB.out | apply below_alloc | apply pw_below_drewN | apply below_drew1 | refine below_set ?_ GE126.out) | exact HB.out)⟩⟩
                    · rw [if_neg c81] at H
                      have c81b0 : (a0_0 == 11) = false := beq_eq_false_iff_ne.mpr c81
                      have c81b1 : (a0_0 != 11) = true := bne_iff_ne.mpr c81
                      by_cases c85 : a0_3 = 0
                      · rw [if_pos c85] at H
                        have c85b0 : (a0_3 == 0) = true := beq_iff_eq.mpr c85
                        have c85b1 : (a0_3 != 0) = false := bne_eq_false_iff_eq.mpr c85
                        clear c85
                        by_cases c86 : a0_0 = 10
                        · rw [if_pos c86] at H
                          have c86b0 : (a0_0 == 10) = true := beq_iff_eq.mpr c86
                          have c86b1 : (a0_0 != 10) = false := bne_eq_false_iff_eq.mpr c86
                          clear c86
                          have H' := Aside0.mk H
                          clear H
                          have hcz87_0 : wc.cell? ⟨gb126, 0, none⟩ = some (.int .i64 a0_0) := (blk_cell BK126.out 0).trans rfl
                          have hcz87_1 : wc.cell? ⟨gb126, 1, none⟩ = some (.int .i64 a0_1) := (blk_cell BK126.out 1).trans rfl
                          have hcz87_2 : wc.cell? ⟨gb126, 2, none⟩ = some (.int .i64 a0_2) := (blk_cell BK126.out 2).trans rfl
                          have hcz87_3 : wc.cell? ⟨gb126, 3, none⟩ = some (.int .i64 a0_3) := (blk_cell BK126.out 3).trans rfl
                          have hcz87_4 : wc.cell? ⟨gb126, 4, none⟩ = some (.slice A0_4 l0_4.length c0_4) := (blk_cell BK126.out 4).trans rfl
                          have hcz87_5 : wc.cell? ⟨gb126, 5, none⟩ = some (.slice A0_5 l0_5.length c0_5) := (blk_cell BK126.out 5).trans rfl
                          have hfz87_0 := blk_frozen BK126.out 0
                          have hfz87_1 := blk_frozen BK126.out 1
                          have hfz87_2 := blk_frozen BK126.out 2
                          have hfz87_3 := blk_frozen BK126.out 3
                          have hfz87_4 := blk_frozen BK126.out 4
                          have hfz87_5 := blk_frozen BK126.out 5
                          go_wp2
                          go_meet
                          case rel => exact ⟨_, (false), (by first | rfl | (simp; done) | (simp [*]; done)), H', ⟨by have := HJ5.out; first | omega | exact Nat.le_refl _⟩, ⟨by (with_reducible repeat (first | refine blk_drewN ?_ _ | refine blk_drew ?_ | refine blk_alloc ?_ _)); exact BK126.out⟩, ⟨by repeat (first | (with_reducible first | exact HB.out | apply below_alloc | apply pw_below_drewN | apply below_drew1 | refine below_set ?_ GE126.out) | exact HB.out)⟩⟩
                        · rw [if_neg c86] at H
                          have c86b0 : (a0_0 == 10) = false := beq_eq_false_iff_ne.mpr c86
                          have c86b1 : (a0_0 != 10) = true := bne_iff_ne.mpr c86
                          have H' := Aside0.mk H
                          clear H
                          have hcz88_0 : wc.cell? ⟨gb126, 0, none⟩ = some (.int .i64 a0_0) := (blk_cell BK126.out 0).trans rfl
                          have hcz88_1 : wc.cell? ⟨gb126, 1, none⟩ = some (.int .i64 a0_1) := (blk_cell BK126.out 1).trans rfl
                          have hcz88_2 : wc.cell? ⟨gb126, 2, none⟩ = some (.int .i64 a0_2) := (blk_cell BK126.out 2).trans rfl
                          have hcz88_3 : wc.cell? ⟨gb126, 3, none⟩ = some (.int .i64 a0_3) := (blk_cell BK126.out 3).trans rfl
                          have hcz88_4 : wc.cell? ⟨gb126, 4, none⟩ = some (.slice A0_4 l0_4.length c0_4) := (blk_cell BK126.out 4).trans rfl
                          have hcz88_5 : wc.cell? ⟨gb126, 5, none⟩ = some (.slice A0_5 l0_5.length c0_5) := (blk_cell BK126.out 5).trans rfl
                          have hfz88_0 := blk_frozen BK126.out 0
                          have hfz88_1 := blk_frozen BK126.out 1
                          have hfz88_2 := blk_frozen BK126.out 2
                          have hfz88_3 := blk_frozen BK126.out 3
                          have hfz88_4 := blk_frozen BK126.out 4
                          have hfz88_5 := blk_frozen BK126.out 5
                          go_wp2
                          go_meet
                          case rel => exact ⟨_, (decide ((l0_5.length : Int) > 0)), (by first | rfl | (simp; done) | (simp [*]; done)), H', ⟨by have := HJ5.out; first | omega | exact Nat.le_refl _⟩, ⟨by (with_reducible repeat (first | refine blk_drewN ?_ _ | refine blk_drew ?_ | refine blk_alloc ?_ _)); exact BK126.out⟩, ⟨by repeat (first | (with_reducible first | exact HB.out | apply below_alloc | apply pw_below_drewN | apply below_drew1 | refine below_set ?_ GE126.out) | exact HB.out)⟩⟩
                      · rw [if_neg c85] at H
                        have c85b0 : (a0_3 == 0) = false := beq_eq_false_iff_ne.mpr c85
                        have c85b1 : (a0_3 != 0) = true := bne_iff_ne.mpr c85
                        have H' := Aside0.mk H
                        clear H
                        have hcz89_0 : wc.cell? ⟨gb126, 0, none⟩ = some (.int .i64 a0_0) := (blk_cell BK126.out 0).trans rfl
                        have hcz89_1 : wc.cell? ⟨gb126, 1, none⟩ = some (.int .i64 a0_1) := (blk_cell BK126.out 1).trans rfl
                        have hcz89_2 : wc.cell? ⟨gb126, 2, none⟩ = some (.int .i64 a0_2) := (blk_cell BK126.out 2).trans rfl
                        have hcz89_3 : wc.cell? ⟨gb126, 3, none⟩ = some (.int .i64 a0_3) := (blk_cell BK126.out 3).trans rfl
                        have hcz89_4 : wc.cell? ⟨gb126, 4, none⟩ = some (.slice A0_4 l0_4.length c0_4) := (blk_cell BK126.out 4).trans rfl
                        have hcz89_5 : wc.cell? ⟨gb126, 5, none⟩ = some (.slice A0_5 l0_5.length c0_5) := (blk_cell BK126.out 5).trans rfl
                        have hfz89_0 := blk_frozen BK126.out 0
                        have hfz89_1 := blk_frozen BK126.out 1
                        have hfz89_2 := blk_frozen BK126.out 2
                        have hfz89_3 := blk_frozen BK126.out 3
                        have hfz89_4 := blk_frozen BK126.out 4
                        have hfz89_5 := blk_frozen BK126.out 5
                        go_wp2
                        go_meet
                        case rel => exact ⟨_, (true), (by first | rfl | (simp; done) | (simp [*]; done)), H', ⟨by have := HJ5.out; first | omega | exact Nat.le_refl _⟩, ⟨by (with_reducible repeat (first | refine blk_drewN ?_ _ | refine blk_drew ?_ | refine blk_alloc ?_ _)); exact BK126.out⟩, ⟨by repeat (first | (with_reducible first | exact HB.out | apply below_alloc | apply pw_below_drewN | apply below_drew1 | refine below_set ?_ GE126.out) | exact HB.out)⟩⟩
                  · replace c80 := Bool.eq_false_iff.mpr c80
                    subst c80
                    have H1 : (if (l0_4.length : Int) > 0 then (impl_StepFault.j1 kj5 true a0_0 a0_1 a0_2 a0_3 l0_4 l0_5) else (if a0_0 = 11 then (if a0_0 = 10 then (impl_StepFault.j1 kj5 false a0_0 a0_1 a0_2 a0_3 l0_4 l0_5) else (impl_StepFault.j1 kj5 (decide ((l0_5.length : Int) > 0)) a0_0 a0_1 a0_2 a0_3 l0_4 l0_5)) else (if a0_3 = 0 then (if a0_0 = 10 then (impl_StepFault.j1 kj5 false a0_0 a0_1 a0_2 a0_3 l0_4 l0_5) else (impl_StepFault.j1 kj5 (decide ((l0_5.length : Int) > 0)) a0_0 a0_1 a0_2 a0_3 l0_4 l0_5)) else (impl_StepFault.j1 kj5 true a0_0 a0_1 a0_2 a0_3 l0_4 l0_5)))) = some r := by rw [if_neg (show ¬ (false = true) by decide)] at H; exact H
                    clear H
                    have H := H1
                    clear H1
                    by_cases c90 : (l0_4.length : Int) > 0
                    · rw [if_pos c90] at H
                      have c90b0 : decide (0 < (l0_4.length : Int)) = true := decide_eq_true c90
                      have c90b1 : decide (0 < l0_4.length) = true := decide_eq_true (by omega)
                      clear c90
                      have H' := Aside0.mk H
                      clear H
                      have hcz91_0 : wc.cell? ⟨gb126, 0, none⟩ = some (.int .i64 a0_0) := (blk_cell BK126.out 0).trans rfl
                      have hcz91_1 : wc.cell? ⟨gb126, 1, none⟩ = some (.int .i64 a0_1) := (blk_cell BK126.out 1).trans rfl
                      have hcz91_2 : wc.cell? ⟨gb126, 2, none⟩ = some (.int .i64 a0_2) := (blk_cell BK126.out 2).trans rfl
                      have hcz91_3 : wc.cell? ⟨gb126, 3, none⟩ = some (.int .i64 a0_3) := (blk_cell BK126.out 3).trans rfl
                      have hcz91_4 : wc.cell? ⟨gb126, 4, none⟩ = some (.slice A0_4 l0_4.length c0_4) := (blk_cell BK126.out 4).trans rfl
                      have hcz91_5 : wc.cell? ⟨gb126, 5, none⟩ = some (.slice A0_5 l0_5.length c0_5) := (blk_cell BK126.out 5).trans rfl
                      have hfz91_0 := blk_frozen BK126.out 0
                      have hfz91_1 := blk_frozen BK126.out 1
                      have hfz91_2 := blk_frozen BK126.out 2
                      have hfz91_3 := blk_frozen BK126.out 3
                      have hfz91_4 := blk_frozen BK126.out 4
                      have hfz91_5 := blk_frozen BK126.out 5
                      go_wp2
                      go_meet
                      case rel => exact ⟨_, (true), (by first | rfl | (simp; done) | (simp [*]; done)), H', ⟨by have := HJ5.out; first | omega | exact Nat.le_refl _⟩, ⟨by (with_reducible repeat (first | refine blk_drewN ?_ _ | refine blk_drew ?_ | refine blk_alloc ?_ _)); exact BK126.out⟩, ⟨by repeat (first | (with_reducible first | exact HB.out | apply below_alloc | apply pw_below_drewN | apply below_drew1 | refine below_set ?_ GE126.out) | exact HB.out)⟩⟩
                    · rw [if_neg c90] at H
                      have c90b0 : decide (0 < (l0_4.length : Int)) = false := decide_eq_false c90
                      have c90b1 : decide (0 < l0_4.length) = false := decide_eq_false (by omega)
                      clear c90
                      by_cases c92 : a0_0 = 11
                      · rw [if_pos c92] at H
                        have c92b0 : (a0_0 == 11) = true := beq_iff_eq.mpr c92
                        have c92b1 : (a0_0 != 11) = false := bne_eq_false_iff_eq.mpr c92
                        clear c92
                        by_cases c93 : a0_0 = 10
                        · rw [if_pos c93] at H
                          have c93b0 : (a0_0 == 10) = true := beq_iff_eq.mpr c93
                          have c93b1 : (a0_0 != 10) = false := bne_eq_false_iff_eq.mpr c93
                          clear c93
                          have H' := Aside0.mk H
                          clear H
                          have hcz94_0 : wc.cell? ⟨gb126, 0, none⟩ = some (.int .i64 a0_0) := (blk_cell BK126.out 0).trans rfl
                          have hcz94_1 : wc.cell? ⟨gb126, 1, none⟩ = some (.int .i64 a0_1) := (blk_cell BK126.out 1).trans rfl
                          have hcz94_2 : wc.cell? ⟨gb126, 2, none⟩ = some (.int .i64 a0_2) := (blk_cell BK126.out 2).trans rfl
                          have hcz94_3 : wc.cell? ⟨gb126, 3, none⟩ = some (.int .i64 a0_3) := (blk_cell BK126.out 3).trans rfl
                          have hcz94_4 : wc.cell? ⟨gb126, 4, none⟩ = some (.slice A0_4 l0_4.length c0_4) := (blk_cell BK126.out 4).trans rfl
                          have hcz94_5 : wc.cell? ⟨gb126, 5, none⟩ = some (.slice A0_5 l0_5.length c0_5) := (blk_cell BK126.out 5).trans rfl
                          have hfz94_0 := blk_frozen BK126.out 0
                          have hfz94_1 := blk_frozen BK126.out 1
                          have hfz94_2 := blk_frozen BK126.out 2
                          have hfz94_3 := blk_frozen BK126.out 3
                          have hfz94_4 := blk_frozen BK126.out 4
                          have hfz94_5 := blk_frozen BK126.out 5
                          go_wp2
                          go_meet
                          case rel => exact ⟨_, (false), (by first | rfl | (simp; done) | (simp [*]; done)), H', ⟨by have := HJ5.out; first | omega | exact Nat.le_refl _⟩, ⟨by (with_reducible repeat (first | refine blk_drewN ?_ _ | refine blk_drew ?_ | refine blk_alloc ?_ _)); exact BK126.out⟩, ⟨by repeat (first | (with_reducible first | exact HB.out | apply below_alloc | apply pw_below_drewN | apply below_drew1 | refine below_set ?_ GE126.out) | exact HB.out)⟩⟩
                        · rw [if_neg c93] at H
                          have c93b0 : (a0_0 == 10) = false := beq_eq_false_iff_ne.mpr c93
                          have c93b1 : (a0_0 != 10) = true := bne_iff_ne.mpr c93
                          have H' := Aside0.mk H
                          clear H
                          have hcz95_0 : wc.cell? ⟨gb126, 0, none⟩ = some (.int .i64 a0_0) := (blk_cell BK126.out 0).trans rfl
                          have hcz95_1 : wc.cell? ⟨gb126, 1, none⟩ = some (.int .i64 a0_1) := (blk_cell BK126.out 1).trans rfl
                          have hcz95_2 : wc.cell? ⟨gb126, 2, none⟩ = some (.int .i64 a0_2) := (blk_cell BK126.out 2).trans rfl
                          have hcz95_3 : wc.cell? ⟨gb126, 3, none⟩ = some (.int .i64 a0_3) := (blk_cell BK126.out 3).trans rfl
                          have hcz95_4 : wc.cell? ⟨gb126, 4, none⟩ = some (.slice A0_4 l0_4.length c0_4) := (blk_cell BK126.out 4).trans rfl
                          have hcz95_5 : wc.cell? ⟨gb126, 5, none⟩ = some (.slice A0_5 l0_5.length c0_5) := (blk_cell BK126.out 5).trans rfl
                          have hfz95_0 := blk_frozen BK126.out 0
                          have hfz95_1 := blk_frozen BK126.out 1
                          have hfz95_2 := blk_frozen BK126.out 2
                          have hfz95_3 := blk_frozen BK126.out 3
                          have hfz95_4 := blk_frozen BK126.out 4
                          have hfz95_5 := blk_frozen BK126.out 5
                          go_wp2
                          go_meet
                          case rel => exact ⟨_, (decide ((l0_5.length : Int) > 0)), (by first | rfl | (simp; done) | (simp [*]; done)), H', ⟨by have := HJ5.out; first | omega | exact Nat.le_refl _⟩, ⟨by (with_reducible repeat (first | refine blk_drewN ?_ _ | refine blk_drew ?_ | refine blk_alloc ?_ _)); exact BK126.out⟩, ⟨by repeat (first | (with_reducible first | exact HB.out | apply below_alloc | apply pw_below_drewN | apply below_drew1 | refine below_set ?_ GE126.out) | exact HB.out)⟩⟩
                      · rw [if_neg c92] at H
                        have c92b0 : (a0_0 == 11) = false := beq_eq_false_iff_ne.mpr c92
                        have c92b1 : (a0_0 != 11) = true := bne_iff_ne.mpr c92
                        by_cases c96 : a0_3 = 0
                        · rw [if_pos c96] at H
                          have c96b0 : (a0_3 == 0) = true := beq_iff_eq.mpr c96
                          have c96b1 : (a0_3 != 0) = false := bne_eq_false_iff_eq.mpr c96
                          clear c96
                          by_cases c97 : a0_0 = 10
                          · rw [if_pos c97] at H
                            have c97b0 : (a0_0 == 10) = true := beq_iff_eq.mpr c97
                            have c97b1 : (a0_0 != 10) = false := bne_eq_false_iff_eq.mpr c97
                            clear c97
                            have H' := Aside0.mk H
                            clear H
                            have hcz98_0 : wc.cell? ⟨gb126, 0, none⟩ = some (.int .i64 a0_0) := (blk_cell BK126.out 0).trans rfl
                            have hcz98_1 : wc.cell? ⟨gb126, 1, none⟩ = some (.int .i64 a0_1) := (blk_cell BK126.out 1).trans rfl
                            have hcz98_2 : wc.cell? ⟨gb126, 2, none⟩ = some (.int .i64 a0_2) := (blk_cell BK126.out 2).trans rfl
                            have hcz98_3 : wc.cell? ⟨gb126, 3, none⟩ = some (.int .i64 a0_3) := (blk_cell BK126.out 3).trans rfl
                            have hcz98_4 : wc.cell? ⟨gb126, 4, none⟩ = some (.slice A0_4 l0_4.length c0_4) := (blk_cell BK126.out 4).trans rfl
                            have hcz98_5 : wc.cell? ⟨gb126, 5, none⟩ = some (.slice A0_5 l0_5.length c0_5) := (blk_cell BK126.out 5).trans rfl
                            have hfz98_0 := blk_frozen BK126.out 0
                            have hfz98_1 := blk_frozen BK126.out 1
                            have hfz98_2 := blk_frozen BK126.out 2
                            have hfz98_3 := blk_frozen BK126.out 3
                            have hfz98_4 := blk_frozen BK126.out 4
                            have hfz98_5 := blk_frozen BK126.out 5
                            go_wp2
                            go_meet
                            case rel => exact ⟨_, (false), (by first | rfl | (simp; done) | (simp [*]; done)), H', ⟨by have := HJ5.out; first | omega | exact Nat.le_refl _⟩, ⟨by (with_reducible repeat (first | refine blk_drewN ?_ _ | refine blk_drew ?_ | refine blk_alloc ?_ _)); exact BK126.out⟩, ⟨by repeat (first | (with_reducible first | exact HB.out | apply below_alloc | apply pw_below_drewN | apply below_drew1 | refine below_set ?_ GE126.out) | exact HB.out)⟩⟩
                          · rw [if_neg c97] at H
                            have c97b0 : (a0_0 == 10) = false := beq_eq_false_iff_ne.mpr c97
                            have c97b1 : (a0_0 != 10) = true := bne_iff_ne.mpr c97
                            have H' := Aside0.mk H
                            clear H
                            have hcz99_0 : wc.cell? ⟨gb126, 0, none⟩ = some (.int .i64 a0_0) := (blk_cell BK126.out 0).trans rfl
                            have hcz99_1 : wc.cell? ⟨gb126, 1, none⟩ = some (.int .i64 a0_1) := (blk_cell BK126.out 1).trans rfl
                            have hcz99_2 : wc.cell? ⟨gb126, 2, none⟩ = some (.int .i64 a0_2) := (blk_cell BK126.out 2).trans rfl
                            have hcz99_3 : wc.cell? ⟨gb126, 3, none⟩ = some (.int .i64 a0_3) := (blk_cell BK126.out 3).trans rfl
                            have hcz99_4 : wc.cell? ⟨gb126, 4, none⟩ = some (.slice A0_4 l0_4.length c0_4) := (blk_cell BK126.out 4).trans rfl
                            have hcz99_5 : wc.cell? ⟨gb126, 5, none⟩ = some (.slice A0_5 l0_5.length c0_5) := (blk_cell BK126.out 5).trans rfl
                            have hfz99_0 := blk_frozen BK126.out 0
                            have hfz99_1 := blk_frozen BK126.out 1
                            have hfz99_2 := blk_frozen BK126.out 2
                            have hfz99_3 := blk_frozen BK126.out 3
                            have hfz99_4 := blk_frozen BK126.out 4
                            have hfz99_5 := blk_frozen BK126.out 5
                            go_wp2
                            go_meet
                            case rel => exact ⟨_, (decide ((l0_5.length : Int) > 0)), (by first | rfl | (simp; done) | (simp [*]; done)), H', ⟨by have := HJ5.out; first | omega | exact Nat.le_refl _⟩, ⟨by (with_reducible repeat (first | refine blk_drewN ?_ _ | refine blk_drew ?_ | refine blk_alloc ?_ _)); exact BK126.out⟩, ⟨by repeat (first | (with_reducible first | exact HB.out | apply below_alloc | apply pw_below_drewN | apply below_drew1 | refine below_set ?_ GE126.out) | exact HB.out)⟩⟩
                        · rw [if_neg c96] at H
                          have c96b0 : (a0_3 == 0) = false := beq_eq_false_iff_ne.mpr c96
                          have c96b1 : (a0_3 != 0) = true := bne_iff_ne.mpr c96
                          have H' := Aside0.mk H
                          clear H
                          have hcz100_0 : wc.cell? ⟨gb126, 0, none⟩ = some (.int .i64 a0_0) := (blk_cell BK126.out 0).trans rfl
                          have hcz100_1 : wc.cell? ⟨gb126, 1, none⟩ = some (.int .i64 a0_1) := (blk_cell BK126.out 1).trans rfl
                          have hcz100_2 : wc.cell? ⟨gb126, 2, none⟩ = some (.int .i64 a0_2) := (blk_cell BK126.out 2).trans rfl
                          have hcz100_3 : wc.cell? ⟨gb126, 3, none⟩ = some (.int .i64 a0_3) := (blk_cell BK126.out 3).trans rfl
                          have hcz100_4 : wc.cell? ⟨gb126, 4, none⟩ = some (.slice A0_4 l0_4.length c0_4) := (blk_cell BK126.out 4).trans rfl
                          have hcz100_5 : wc.cell? ⟨gb126, 5, none⟩ = some (.slice A0_5 l0_5.length c0_5) := (blk_cell BK126.out 5).trans rfl
                          have hfz100_0 := blk_frozen BK126.out 0
                          have hfz100_1 := blk_frozen BK126.out 1
                          have hfz100_2 := blk_frozen BK126.out 2
                          have hfz100_3 := blk_frozen BK126.out 3
                          have hfz100_4 := blk_frozen BK126.out 4
                          have hfz100_5 := blk_frozen BK126.out 5
                          go_wp2
                          go_meet
                          case rel => exact ⟨_, (true), (by first | rfl | (simp; done) | (simp [*]; done)), H', ⟨by have := HJ5.out; first | omega | exact Nat.le_refl _⟩, ⟨by (with_reducible repeat (first | refine blk_drewN ?_ _ | refine blk_drew ?_ | refine blk_alloc ?_ _)); exact BK126.out⟩, ⟨by repeat (first | (with_reducible first | exact HB.out | apply below_alloc | apply pw_below_drewN | apply below_drew1 | refine below_set ?_ GE126.out) | exact HB.out)⟩⟩
                · rw [if_neg c79] at H
                  have c79b0 : (a0_2 == 0) = false := beq_eq_false_iff_ne.mpr c79
                  have c79b1 : (a0_2 != 0) = true := bne_iff_ne.mpr c79
                  have H' := Aside0.mk H
                  clear H
                  have hcz101_0 : wc.cell? ⟨gb126, 0, none⟩ = some (.int .i64 a0_0) := (blk_cell BK126.out 0).trans rfl
                  have hcz101_1 : wc.cell? ⟨gb126, 1, none⟩ = some (.int .i64 a0_1) := (blk_cell BK126.out 1).trans rfl
                  have hcz101_2 : wc.cell? ⟨gb126, 2, none⟩ = some (.int .i64 a0_2) := (blk_cell BK126.out 2).trans rfl
                  have hcz101_3 : wc.cell? ⟨gb126, 3, none⟩ = some (.int .i64 a0_3) := (blk_cell BK126.out 3).trans rfl
                  have hcz101_4 : wc.cell? ⟨gb126, 4, none⟩ = some (.slice A0_4 l0_4.length c0_4) := (blk_cell BK126.out 4).trans rfl
                  have hcz101_5 : wc.cell? ⟨gb126, 5, none⟩ = some (.slice A0_5 l0_5.length c0_5) := (blk_cell BK126.out 5).trans rfl
                  have hfz101_0 := blk_frozen BK126.out 0
                  have hfz101_1 := blk_frozen BK126.out 1
                  have hfz101_2 := blk_frozen BK126.out 2
                  have hfz101_3 := blk_frozen BK126.out 3
                  have hfz101_4 := blk_frozen BK126.out 4
                  have hfz101_5 := blk_frozen BK126.out 5
                  go_wp2
                  go_meet
                  case rel => exact ⟨_, (true), (by first | rfl | (simp; done) | (simp [*]; done)), H', ⟨by have := HJ5.out; first | omega | exact Nat.le_refl _⟩, ⟨by (with_reducible repeat (first | refine blk_drewN ?_ _ | refine blk_drew ?_ | refine blk_alloc ?_ _)); exact BK126.out⟩, ⟨by repeat (first | (with_reducible first | exact HB.out | apply below_alloc | apply pw_below_drewN | apply below_drew1 | refine below_set ?_ GE126.out) | exact HB.out)⟩⟩
            · rw [if_neg c56] at H
              have c56b0 : (a0_1 == 0) = false := beq_eq_false_iff_ne.mpr c56
              have c56b1 : (a0_1 != 0) = true := bne_iff_ne.mpr c56
              have H' := Aside0.mk H
              clear H
              have hcz102_0 : wc.cell? ⟨gb126, 0, none⟩ = some (.int .i64 a0_0) := (blk_cell BK126.out 0).trans rfl
              have hcz102_1 : wc.cell? ⟨gb126, 1, none⟩ = some (.int .i64 a0_1) := (blk_cell BK126.out 1).trans rfl
              have hcz102_2 : wc.cell? ⟨gb126, 2, none⟩ = some (.int .i64 a0_2) := (blk_cell BK126.out 2).trans rfl
              have hcz102_3 : wc.cell? ⟨gb126, 3, none⟩ = some (.int .i64 a0_3) := (blk_cell BK126.out 3).trans rfl
              have hcz102_4 : wc.cell? ⟨gb126, 4, none⟩ = some (.slice A0_4 l0_4.length c0_4) := (blk_cell BK126.out 4).trans rfl
              have hcz102_5 : wc.cell? ⟨gb126, 5, none⟩ = some (.slice A0_5 l0_5.length c0_5) := (blk_cell BK126.out 5).trans rfl
              have hfz102_0 := blk_frozen BK126.out 0
              have hfz102_1 := blk_frozen BK126.out 1
              have hfz102_2 := blk_frozen BK126.out 2
              have hfz102_3 := blk_frozen BK126.out 3
              have hfz102_4 := blk_frozen BK126.out 4
              have hfz102_5 := blk_frozen BK126.out 5
              go_wp2
              go_meet
              case rel => exact ⟨_, (true), (by first | rfl | (simp; done) | (simp [*]; done)), H', ⟨by have := HJ5.out; first | omega | exact Nat.le_refl _⟩, ⟨by (with_reducible repeat (first | refine blk_drewN ?_ _ | refine blk_drew ?_ | refine blk_alloc ?_ _)); exact BK126.out⟩, ⟨by repeat (first | (with_reducible first | exact HB.out | apply below_alloc | apply pw_below_drewN | apply below_drew1 | refine below_set ?_ GE126.out) | exact HB.out)⟩⟩
        case rest =>
          clear HC10
          try clear p2
          try clear c5
          try clear c6
          try clear c7
          try clear c8
          try clear c9
          try clear c56
          try clear c56b0
          try clear c56b1
          try clear c57
          try clear c58
          try clear c59
          try clear c59b0
          try clear c59b1
          try clear c60
          try clear c60b0
          try clear c60b1
          try clear c63
          try clear c63b0
          try clear c63b1
          try clear c64
          try clear c64b0
          try clear c64b1
          try clear c68
          try clear c68b0
          try clear c68b1
          try clear c70
          try clear c70b0
          try clear c70b1
          try clear c71
          try clear c71b0
          try clear c71b1
          try clear c74
          try clear c74b0
          try clear c74b1
          try clear c75
          try clear c75b0
          try clear c75b1
          try clear c79
          try clear c79b0
          try clear c79b1
          try clear c80
          try clear c81
          try clear c81b0
          try clear c81b1
          try clear c82
          try clear c82b0
          try clear c82b1
          try clear c85
          try clear c85b0
          try clear c85b1
          try clear c86
          try clear c86b0
          try clear c86b1
          try clear c90
          try clear c90b0
          try clear c90b1
          try clear c92
          try clear c92b0
          try clear c92b1
          try clear c93
          try clear c93b0
          try clear c93b1
          try clear c96
          try clear c96b0
          try clear c96b1
          try clear c97
          try clear c97b0
          try clear c97b1
          try clear hcz100_0
          try clear hcz100_1
          try clear hcz100_2
          try clear hcz100_3
          try clear hcz100_4
          try clear hcz100_5
          try clear hcz101_0
          try clear hcz101_1
          try clear hcz101_2
          try clear hcz101_3
          try clear hcz101_4
          try clear hcz101_5
          try clear hcz102_0
          try clear hcz102_1
          try clear hcz102_2
          try clear hcz102_3
          try clear hcz102_4
          try clear hcz102_5
          try clear hcz61_0
          try clear hcz61_1
          try clear hcz61_2
          try clear hcz61_3
          try clear hcz61_4
          try clear hcz61_5
          try clear hcz62_0
          try clear hcz62_1
          try clear hcz62_2
          try clear hcz62_3
          try clear hcz62_4
          try clear hcz62_5
          try clear hcz65_0
          try clear hcz65_1
          try clear hcz65_2
          try clear hcz65_3
          try clear hcz65_4
          try clear hcz65_5
          try clear hcz66_0
          try clear hcz66_1
          try clear hcz66_2
          try clear hcz66_3
          try clear hcz66_4
          try clear hcz66_5
          try clear hcz67_0
          try clear hcz67_1
          try clear hcz67_2
          try clear hcz67_3
          try clear hcz67_4
          try clear hcz67_5
          try clear hcz69_0
          try clear hcz69_1
          try clear hcz69_2
          try clear hcz69_3
          try clear hcz69_4
          try clear hcz69_5
          try clear hcz72_0
          try clear hcz72_1
          try clear hcz72_2
          try clear hcz72_3
          try clear hcz72_4
          try clear hcz72_5
          try clear hcz73_0
          try clear hcz73_1
          try clear hcz73_2
          try clear hcz73_3
          try clear hcz73_4
          try clear hcz73_5
          try clear hcz76_0
          try clear hcz76_1
          try clear hcz76_2
          try clear hcz76_3
          try clear hcz76_4
          try clear hcz76_5
          try clear hcz77_0
          try clear hcz77_1
          try clear hcz77_2
          try clear hcz77_3
          try clear hcz77_4
          try clear hcz77_5
          try clear hcz78_0
          try clear hcz78_1
          try clear hcz78_2
          try clear hcz78_3
          try clear hcz78_4
          try clear hcz78_5
          try clear hcz83_0
          try clear hcz83_1
          try clear hcz83_2
          try clear hcz83_3
          try clear hcz83_4
          try clear hcz83_5
          try clear hcz84_0
          try clear hcz84_1
          try clear hcz84_2
          try clear hcz84_3
          try clear hcz84_4
          try clear hcz84_5
          try clear hcz87_0
          try clear hcz87_1
          try clear hcz87_2
          try clear hcz87_3
          try clear hcz87_4
          try clear hcz87_5
          try clear hcz88_0
          try clear hcz88_1
          try clear hcz88_2
          try clear hcz88_3
          try clear hcz88_4
          try clear hcz88_5
          try clear hcz89_0
          try clear hcz89_1
          try clear hcz89_2
          try clear hcz89_3
          try clear hcz89_4
          try clear hcz89_5
          try clear hcz91_0
          try clear hcz91_1
          try clear hcz91_2
          try clear hcz91_3
          try clear hcz91_4
          try clear hcz91_5
          try clear hcz94_0
          try clear hcz94_1
          try clear hcz94_2
          try clear hcz94_3
          try clear hcz94_4
          try clear hcz94_5
          try clear hcz95_0
          try clear hcz95_1
          try clear hcz95_2
          try clear hcz95_3
          try clear hcz95_4
          try clear hcz95_5
          try clear hcz98_0
          try clear hcz98_1
          try clear hcz98_2
          try clear hcz98_3
          try clear hcz98_4
          try clear hcz98_5
          try clear hcz99_0
          try clear hcz99_1
          try clear hcz99_2
          try clear hcz99_3
          try clear hcz99_4
          try clear hcz99_5
          try clear hfz100_0
          try clear hfz100_1
          try clear hfz100_2
          try clear hfz100_3
          try clear hfz100_4
          try clear hfz100_5
          try clear hfz101_0
          try clear hfz101_1
          try clear hfz101_2
          try clear hfz101_3
          try clear hfz101_4
          try clear hfz101_5
          try clear hfz102_0
          try clear hfz102_1
          try clear hfz102_2
          try clear hfz102_3
          try clear hfz102_4
          try clear hfz102_5
          try clear hfz61_0
          try clear hfz61_1
          try clear hfz61_2
          try clear hfz61_3
          try clear hfz61_4
          try clear hfz61_5
          try clear hfz62_0
          try clear hfz62_1
          try clear hfz62_2
          try clear hfz62_3
          try clear hfz62_4
          try clear hfz62_5
          try clear hfz65_0
          try clear hfz65_1
          try clear hfz65_2
          try clear hfz65_3
          try clear hfz65_4
          try clear hfz65_5
          try clear hfz66_0
          try clear hfz66_1
          try clear hfz66_2
          try clear hfz66_3
          try clear hfz66_4
          try clear hfz66_5
          try clear hfz67_0
          try clear hfz67_1
          try clear hfz67_2
          try clear hfz67_3
          try clear hfz67_4
          try clear hfz67_5
          try clear hfz69_0
          try clear hfz69_1
          try clear hfz69_2
          try clear hfz69_3
          try clear hfz69_4
          try clear hfz69_5
          try clear hfz72_0
          try clear hfz72_1
          try clear hfz72_2
          try clear hfz72_3
          try clear hfz72_4
          try clear hfz72_5
          try clear hfz73_0
          try clear hfz73_1
          try clear hfz73_2
          try clear hfz73_3
          try clear hfz73_4
          try clear hfz73_5
          try clear hfz76_0
          try clear hfz76_1
          try clear hfz76_2
          try clear hfz76_3
          try clear hfz76_4
          try clear hfz76_5
          try clear hfz77_0
          try clear hfz77_1
          try clear hfz77_2
          try clear hfz77_3
          try clear hfz77_4
          try clear hfz77_5
          try clear hfz78_0
          try clear hfz78_1
          try clear hfz78_2
          try clear hfz78_3
          try clear hfz78_4
          try clear hfz78_5
          try clear hfz83_0
          try clear hfz83_1
          try clear hfz83_2
          try clear hfz83_3
          try clear hfz83_4
          try clear hfz83_5
          try clear hfz84_0
          try clear hfz84_1
          try clear hfz84_2
          try clear hfz84_3
          try clear hfz84_4
          try clear hfz84_5
          try clear hfz87_0
          try clear hfz87_1
          try clear hfz87_2
          try clear hfz87_3
          try clear hfz87_4
          try clear hfz87_5
          try clear hfz88_0
          try clear hfz88_1
          try clear hfz88_2
          try clear hfz88_3
          try clear hfz88_4
          try clear hfz88_5
          try clear hfz89_0
          try clear hfz89_1
          try clear hfz89_2
          try clear hfz89_3
          try clear hfz89_4
          try clear hfz89_5
          try clear hfz91_0
          try clear hfz91_1
          try clear hfz91_2
          try clear hfz91_3
          try clear hfz91_4
          try clear hfz91_5
          try clear hfz94_0
          try clear hfz94_1
          try clear hfz94_2
          try clear hfz94_3
          try clear hfz94_4
          try clear hfz94_5
          try clear hfz95_0
          try clear hfz95_1
          try clear hfz95_2
          try clear hfz95_3
          try clear hfz95_4
          try clear hfz95_5
          try clear hfz98_0
          try clear hfz98_1
          try clear hfz98_2
          try clear hfz98_3
          try clear hfz98_4
          try clear hfz98_5
          try clear hfz99_0
          try clear hfz99_1
          try clear hfz99_2
          try clear hfz99_3
          try clear hfz99_4
          try clear hfz99_5
          obtain ⟨kq, x66_9, rfl, HA, HJ9, BK126, HB⟩ := hcut
          cases kq with
          | zero => exact absurd HA.out (by simp [impl_StepFault.j1])
          | succ kj9 =>
            have H := HA.out
            clear HA
            simp only [impl_StepFault.j1] at H
            by_cases c103 : x66_9 = true
            · subst c103
              have H1 : (some 2) = some r := by rw [if_pos rfl] at H; exact H
              clear H
              have H := H1
              clear H1
              obtain rfl := Option.some.inj H
              go_wp2
              go_ret
              exact ⟨by first | rfl | (simp [errW_none, errW_some] <;> rfl) | (simp [*, errW_none, errW_some] <;> rfl), by repeat (first | (with_reducible first | exact HB.out | apply below_alloc | apply pw_below_drewN | apply below_drew1 | refine below_set ?_ GE126.out) | exact HB.out)⟩
            · replace c103 := Bool.eq_false_iff.mpr c103
              subst c103
              have H1 : ((impl_in.f a0_3 (-1) 1000000).bind fun t130 => (if t130 = true then (if (l0_5.length : Int) > 8192 then (some 4) else (some 0)) else (some 3))) = some r := by rw [if_neg (show ¬ (false = true) by decide)] at H; exact H
              clear H
              have H := H1
              clear H1
              replace H := Option.bind_eq_some_iff.mp H
              obtain ⟨t130, A1040, H⟩ := H
              replace H : (if t130 = true then (if (l0_5.length : Int) > 8192 then (some 4) else (some 0)) else (some 3)) = some r := H
              have A104 := Aside0.mk A1040
              clear A1040
              by_cases c105 : t130 = true
              · subst c105
                have H1 : (if (l0_5.length : Int) > 8192 then (some 4) else (some 0)) = some r := by rw [if_pos rfl] at H; exact H
                clear H
                have H := H1
                clear H1
                by_cases c106 : (l0_5.length : Int) > 8192
                · rw [if_pos c106] at H
                  have c106b0 : decide (8192 < (l0_5.length : Int)) = true := decide_eq_true c106
                  have c106b1 : decide (8192 < l0_5.length) = true := decide_eq_true (by omega)
                  clear c106
                  obtain rfl := Option.some.inj H
                  have hcz107_0 : wc.cell? ⟨gb126, 0, none⟩ = some (.int .i64 a0_0) := (blk_cell BK126.out 0).trans rfl
                  have hcz107_1 : wc.cell? ⟨gb126, 1, none⟩ = some (.int .i64 a0_1) := (blk_cell BK126.out 1).trans rfl
                  have hcz107_2 : wc.cell? ⟨gb126, 2, none⟩ = some (.int .i64 a0_2) := (blk_cell BK126.out 2).trans rfl
                  have hcz107_3 : wc.cell? ⟨gb126, 3, none⟩ = some (.int .i64 a0_3) := (blk_cell BK126.out 3).trans rfl
                  have hcz107_4 : wc.cell? ⟨gb126, 4, none⟩ = some (.slice A0_4 l0_4.length c0_4) := (blk_cell BK126.out 4).trans rfl
                  have hcz107_5 : wc.cell? ⟨gb126, 5, none⟩ = some (.slice A0_5 l0_5.length c0_5) := (blk_cell BK126.out 5).trans rfl
                  have hfz107_0 := blk_frozen BK126.out 0
                  have hfz107_1 := blk_frozen BK126.out 1
                  have hfz107_2 := blk_frozen BK126.out 2
                  have hfz107_3 := blk_frozen BK126.out 3
                  have hfz107_4 := blk_frozen BK126.out 4
                  have hfz107_5 := blk_frozen BK126.out 5
                  go_wp2_with (first | ((with_reducible refine gate_callee (f := 77) rfl ?_); refine goesL_ (some 69) rfl rfl Try.func77 (by kernel_rfl) rfl #[.int .i64 a0_3, .int .i64 (-1), .int .i64 1000000] rfl (by (try simp only [List.map_toArray, List.map_cons, List.map_nil]); first | done | rfl | (simp only [List.length_drop, List.length_take]; rfl)) ?_; (with_reducible refine (impl_in.calls a0_3 (-1) 1000000 true _ A104.out).mono ?_); rintro e w' ⟨rfl, ⟨nd, rfl⟩⟩; refine ⟨_, rfl, ?_⟩))
                  go_ret
                  exact ⟨by first | rfl | (simp [errW_none, errW_some] <;> rfl) | (simp [*, errW_none, errW_some] <;> rfl), by repeat (first | (with_reducible first | exact HB.out | apply below_alloc | apply pw_below_drewN | apply below_drew1 | refine below_set ?_ GE126.out) | exact HB.out)⟩
                · rw [if_neg c106] at H
                  have c106b0 : decide (8192 < (l0_5.length : Int)) = false := decide_eq_false c106
                  have c106b1 : decide (8192 < l0_5.length) = false := decide_eq_false (by omega)
                  clear c106
                  obtain rfl := Option.some.inj H
                  have hcz108_0 : wc.cell? ⟨gb126, 0, none⟩ = some (.int .i64 a0_0) := (blk_cell BK126.out 0).trans rfl
                  have hcz108_1 : wc.cell? ⟨gb126, 1, none⟩ = some (.int .i64 a0_1) := (blk_cell BK126.out 1).trans rfl
                  have hcz108_2 : wc.cell? ⟨gb126, 2, none⟩ = some (.int .i64 a0_2) := (blk_cell BK126.out 2).trans rfl
                  have hcz108_3 : wc.cell? ⟨gb126, 3, none⟩ = some (.int .i64 a0_3) := (blk_cell BK126.out 3).trans rfl
                  have hcz108_4 : wc.cell? ⟨gb126, 4, none⟩ = some (.slice A0_4 l0_4.length c0_4) := (blk_cell BK126.out 4).trans rfl
                  have hcz108_5 : wc.cell? ⟨gb126, 5, none⟩ = some (.slice A0_5 l0_5.length c0_5) := (blk_cell BK126.out 5).trans rfl
                  have hfz108_0 := blk_frozen BK126.out 0
                  have hfz108_1 := blk_frozen BK126.out 1
                  have hfz108_2 := blk_frozen BK126.out 2
                  have hfz108_3 := blk_frozen BK126.out 3
                  have hfz108_4 := blk_frozen BK126.out 4
                  have hfz108_5 := blk_frozen BK126.out 5
                  go_wp2_with (first | ((with_reducible refine gate_callee (f := 77) rfl ?_); refine goesL_ (some 69) rfl rfl Try.func77 (by kernel_rfl) rfl #[.int .i64 a0_3, .int .i64 (-1), .int .i64 1000000] rfl (by (try simp only [List.map_toArray, List.map_cons, List.map_nil]); first | done | rfl | (simp only [List.length_drop, List.length_take]; rfl)) ?_; (with_reducible refine (impl_in.calls a0_3 (-1) 1000000 true _ A104.out).mono ?_); rintro e w' ⟨rfl, ⟨nd, rfl⟩⟩; refine ⟨_, rfl, ?_⟩))
                  go_ret
                  exact ⟨by first | rfl | (simp [errW_none, errW_some] <;> rfl) | (simp [*, errW_none, errW_some] <;> rfl), by repeat (first | (with_reducible first | exact HB.out | apply below_alloc | apply pw_below_drewN | apply below_drew1 | refine below_set ?_ GE126.out) | exact HB.out)⟩
              · replace c105 := Bool.eq_false_iff.mpr c105
                subst c105
                have H1 : (some 3) = some r := by rw [if_neg (show ¬ (false = true) by decide)] at H; exact H
                clear H
                have H := H1
                clear H1
                obtain rfl := Option.some.inj H
                have hcz109_0 : wc.cell? ⟨gb126, 0, none⟩ = some (.int .i64 a0_0) := (blk_cell BK126.out 0).trans rfl
                have hcz109_1 : wc.cell? ⟨gb126, 1, none⟩ = some (.int .i64 a0_1) := (blk_cell BK126.out 1).trans rfl
                have hcz109_2 : wc.cell? ⟨gb126, 2, none⟩ = some (.int .i64 a0_2) := (blk_cell BK126.out 2).trans rfl
                have hcz109_3 : wc.cell? ⟨gb126, 3, none⟩ = some (.int .i64 a0_3) := (blk_cell BK126.out 3).trans rfl
                have hcz109_4 : wc.cell? ⟨gb126, 4, none⟩ = some (.slice A0_4 l0_4.length c0_4) := (blk_cell BK126.out 4).trans rfl
                have hcz109_5 : wc.cell? ⟨gb126, 5, none⟩ = some (.slice A0_5 l0_5.length c0_5) := (blk_cell BK126.out 5).trans rfl
                have hfz109_0 := blk_frozen BK126.out 0
                have hfz109_1 := blk_frozen BK126.out 1
                have hfz109_2 := blk_frozen BK126.out 2
                have hfz109_3 := blk_frozen BK126.out 3
                have hfz109_4 := blk_frozen BK126.out 4
                have hfz109_5 := blk_frozen BK126.out 5
                go_wp2_with (first | ((with_reducible refine gate_callee (f := 77) rfl ?_); refine goesL_ (some 69) rfl rfl Try.func77 (by kernel_rfl) rfl #[.int .i64 a0_3, .int .i64 (-1), .int .i64 1000000] rfl (by (try simp only [List.map_toArray, List.map_cons, List.map_nil]); first | done | rfl | (simp only [List.length_drop, List.length_take]; rfl)) ?_; (with_reducible refine (impl_in.calls a0_3 (-1) 1000000 false _ A104.out).mono ?_); rintro e w' ⟨rfl, ⟨nd, rfl⟩⟩; refine ⟨_, rfl, ?_⟩))
                go_ret
                exact ⟨by first | rfl | (simp [errW_none, errW_some] <;> rfl) | (simp [*, errW_none, errW_some] <;> rfl), by repeat (first | (with_reducible first | exact HB.out | apply below_alloc | apply pw_below_drewN | apply below_drew1 | refine below_set ?_ GE126.out) | exact HB.out)⟩
  · replace c3 := Bool.eq_false_iff.mpr c3
    subst c3
    have H1 : (some 1) = some r := by rw [if_neg (show ¬ (false = true) by decide)] at H; exact H
    clear H
    have H := H1
    clear H1
    obtain rfl := Option.some.inj H
    go_enter Try.func21, Try.ntmps21
    go_wp2_with (first | ((with_reducible refine gate_dst (N := 1) rfl ?_); (try (refine gate_guard (by rfl) ?_; dsimp only)); refine box_event ?hg (N := 1) ?hd (cs := #[.int .i64 a0_0, .int .i64 a0_1, .int .i64 a0_2, .int .i64 a0_3, .slice A0_4 l0_4.length c0_4, .slice A0_5 l0_5.length c0_5]) (t := 39) ?hr ?_; (case hd => rfl); (case hg => rfl); (case hr => first | (go_simp; done) | (go_simp; rfl)); intro gb126 hg w110 hbox hb; have n0_ := Aside0.mk (below_step (by repeat (first | (with_reducible first | exact HB.out | apply below_alloc | apply pw_below_drewN | apply below_drew1) | exact HB.out)) hb); have n1_ := Aside0.mk (hbox); have n2_ := Aside0.mk ((by rw [hg]; exact (below_size (by repeat (first | (with_reducible first | exact HB.out | apply below_alloc | apply pw_below_drewN | apply below_drew1) | exact HB.out))) : w.heap.size ≤ gb126)); have n3_ := Aside0.mk ((by rw [hg]; exact (below_size (by repeat (first | (with_reducible first | exact HB.out | apply below_alloc | apply pw_below_drewN | apply below_drew1) | exact HB.out))) : w.heap.size ≤ gb126)); clear HB; have HB := n0_; have BK126 := n1_; have GW126 := n2_; have GE126 := n3_; clear n0_ n1_ n2_ n3_; clear hb hbox hg; have hcz111_0 : w110.cell? ⟨gb126, 0, none⟩ = some (.int .i64 a0_0) := (blk_cell BK126.out 0).trans rfl; have hcz111_1 : w110.cell? ⟨gb126, 1, none⟩ = some (.int .i64 a0_1) := (blk_cell BK126.out 1).trans rfl; have hcz111_2 : w110.cell? ⟨gb126, 2, none⟩ = some (.int .i64 a0_2) := (blk_cell BK126.out 2).trans rfl; have hcz111_3 : w110.cell? ⟨gb126, 3, none⟩ = some (.int .i64 a0_3) := (blk_cell BK126.out 3).trans rfl; have hcz111_4 : w110.cell? ⟨gb126, 4, none⟩ = some (.slice A0_4 l0_4.length c0_4) := (blk_cell BK126.out 4).trans rfl; have hcz111_5 : w110.cell? ⟨gb126, 5, none⟩ = some (.slice A0_5 l0_5.length c0_5) := (blk_cell BK126.out 5).trans rfl; have hfz111_0 := blk_frozen BK126.out 0; have hfz111_1 := blk_frozen BK126.out 1; have hfz111_2 := blk_frozen BK126.out 2; have hfz111_3 := blk_frozen BK126.out 3; have hfz111_4 := blk_frozen BK126.out 4; have hfz111_5 := blk_frozen BK126.out 5) | ((with_reducible refine gate_callee (f := 77) rfl ?_); refine goesL_ (some 10) rfl rfl Try.func77 (by kernel_rfl) rfl #[.int .i64 a0_0, .int .i64 1, .int .i64 11] rfl (by (try simp only [List.map_toArray, List.map_cons, List.map_nil]); first | done | rfl | (simp only [List.length_drop, List.length_take]; rfl)) ?_; (with_reducible refine (impl_in.calls a0_0 1 11 false _ A2.out).mono ?_); rintro e w' ⟨rfl, ⟨nd, rfl⟩⟩; refine ⟨_, rfl, ?_⟩))
    go_ret
    exact ⟨by first | rfl | (simp [errW_none, errW_some] <;> rfl) | (simp [*, errW_none, errW_some] <;> rfl), by repeat (first | (with_reducible first | exact HB.out | apply below_alloc | apply pw_below_drewN | apply below_drew1 | refine below_set ?_ GE126.out) | exact HB.out)⟩

end Go.Proofs.Ytmggneijkhmigaa.PFnExactStepFault
