/- Proved: contracts of functions that FnExactPoolNew reaches (a print of the kit's program, parted and shortened by squeeze.py). No statement of the seat is proved here. -/
import Derived.Test.YtmggneijkhmigaaQFnExactPoolNewx0
import Derived.Test.YtmggneijkhmigaaQFnExactPoolNewx1
import Derived.Test.YtmggneijkhmigaaQFnExactPoolNewx2
namespace Go.Proofs.Ytmggneijkhmigaa.QFnExactPoolNew
open Go.RowKit Go.Proofs.YtmggneijkhmigaaW.PrintWords Go.Proofs.YtmggneijkhmigaaW.PrintLast Go.Proofs.YtmggneijkhmigaaW.PrintMore
attribute [local go_sem] max2_int min2_int max_two min_two max_three min_three max_four min_four   -- for this text's walks alone
set_option linter.unusedVariables false
set_option linter.unusedSimpArgs false

/-! ### laws_markPool: function 33 -/
def laws_markPool.f (k : Nat) (l0_0 : List (S114)) (a0_1 : Int) (a1 : Int) : Option (Int × (List (S114))) := (laws_markFrameS.f k l0_0 a1).bind fun bt134 => (some (bt134.1, bt134.2))
theorem laws_markPool.mono : ∀ a0 a1 a2 k, LeO (laws_markPool.f k a0 a1 a2) (laws_markPool.f (k + 1) a0 a1 a2) := by
  intro a0 a1 a2 k
  unfold laws_markPool.f
  repeat' first
      | (with_reducible exact laws_markFrameS.mono _ _ _)
      | (with_reducible exact LeO.refl _)
      | (with_reducible exact LeO.none _)
      | (with_reducible refine LeO.ite ?_ ?_)
      | (with_reducible refine LeO.bind ?_ (fun _ => ?_))
      | exact laws_markFrameS.mono _ _ _
      | exact LeO.none _
      | refine LeO.ite ?_ ?_
      | refine LeO.bind ?_ (fun _ => ?_)
set_option maxHeartbeats 8000000 in
set_option maxRecDepth 100000 in
theorem laws_markPool.calls (k : Nat) (P0_0_ : Nat → Prop) (u9000_ : Value) (l0_0 : List (S114)) (a0_1 : Int) (a1 : Int) (r1 : Int) (r2 : List (S114)) (w0 w : World) (hB : Below w0.heap.size w0 w) (ho0_0 : Kd.S k114 114 w w0.heap.size P0_0_ u9000_ l0_0) (h : laws_markPool.f k l0_0 a0_1 a1 = some (r1, r2)) :
    Calls Try.prog 33 #[.agg #[u9000_, .int .i64 a0_1], .int .i64 a1] w fun e w' => e = .returned (.int .i64 r1) ∧ Kd.S k114 114 w' w0.heap.size (fun k_ => (P0_0_ k_ ∨ w.heap.size ≤ k_)) u9000_ r2 ∧ Below w0.heap.size w0 w' ∧ Kept w w' (fun k_ => P0_0_ k_) := by
  have hu54 := Try.underlying54
  have HO0_0 := Aside0.mk (show Kd.S k114 114 w w0.heap.size (fun k_ => (P0_0_ k_ ∨ w.heap.size ≤ k_)) u9000_ l0_0 from Kd.S_mono ho0_0 (fun k_ hk => (.inl hk)))
  have HK := Aside0.mk (Kept.refl w (fun k_ => P0_0_ k_))
  have HW0 := Aside0.mk hB.size
  have HB := Aside0.mk hB
  clear hB
  have H : ((laws_markFrameS.f k l0_0 a1).bind fun bt134 => (some (bt134.1, bt134.2))) = some (r1, r2) := h
  clear h
  replace H := Option.bind_eq_some_iff.mp H
  obtain ⟨⟨t134, t135⟩, A30, H⟩ := H
  replace H : (some (t134, t135)) = some (r1, r2) := H
  have A3 := Aside0.mk A30
  clear A30
  simp only [Option.some.injEq, Prod.mk.injEq] at H
  obtain ⟨rfl, rfl⟩ := H
  obtain ⟨Ao4, co4, eo4⟩ := Kd.S_slice HO0_0.out
  subst eo4
  go_enter Try.func33, Try.ntmps33
  go_wp2_with (first | ((with_reducible refine gate_dst (N := 2) rfl ?_); refine box_event ?hg (N := 2) ?hd (cs := #[.slice Ao4 l0_0.length co4, .int .i64 a0_1]) (t := 54) ?hr ?_; (case hd => rfl); (case hg => rfl); (case hr => first | (go_simp; done) | (go_simp; rfl)); intro gb133 hg w5 hbox hb; have n0_ := Aside0.mk (Kd.S_below (by (with_reducible repeat (first | apply Kd.S_alloc | apply Kd.S_drewN | apply Kd.S_drew)); exact HO0_0.out) hb); have n1_ := Aside0.mk (Kept.below (S := (fun k_ => P0_0_ k_)) (by repeat (first | (with_reducible first | exact HK.out | apply Kept.alloc | apply Kept.drewN | apply Kept.drew) | exact HK.out)) hb); have n2_ := Aside0.mk (below_step (by repeat (first | (with_reducible first | exact HB.out | apply below_alloc | apply pw_below_drewN | apply below_drew1) | exact HB.out)) hb); have n3_ := Aside0.mk (hbox); have n4_ := Aside0.mk ((by rw [hg]; exact (by first | exact HK.out.1 | exact (show Kept w _ (fun k_ => P0_0_ k_) from by repeat (first | (with_reducible first | exact HK.out | apply Kept.alloc | apply Kept.drewN | apply Kept.drew) | exact HK.out)).1) : w.heap.size ≤ gb133)); have n5_ := Aside0.mk ((by rw [hg]; exact (below_size (by repeat (first | (with_reducible first | exact HB.out | apply below_alloc | apply pw_below_drewN | apply below_drew1) | exact HB.out))) : w0.heap.size ≤ gb133)); clear HO0_0; clear HK; clear HB; have HO0_0 := n0_; have HK := n1_; have HB := n2_; have BK133 := n3_; have GW133 := n4_; have GE133 := n5_; clear n0_ n1_ n2_ n3_ n4_ n5_; clear hb hbox hg; have hcz6_0 : w5.cell? ⟨gb133, 0, none⟩ = some (.slice Ao4 l0_0.length co4) := (blk_cell BK133.out 0).trans rfl; have hcz6_1 : w5.cell? ⟨gb133, 1, none⟩ = some (.int .i64 a0_1) := (blk_cell BK133.out 1).trans rfl; have hfz6_0 := blk_frozen BK133.out 0; have hfz6_1 := blk_frozen BK133.out 1) | ((with_reducible refine gate_callee (f := 84) rfl ?_); refine goesL_ (some 8) rfl rfl Try.func84 (by kernel_rfl) rfl #[.slice Ao4 l0_0.length co4, .int .i64 a1] rfl (by (try simp only [List.map_toArray, List.map_cons, List.map_nil]); first | done | rfl | (simp only [List.length_drop, List.length_take]; rfl)) ?_; (with_reducible refine (laws_markFrameS.calls k (fun k_ => (P0_0_ k_ ∨ w.heap.size ≤ k_) ∧ k_ ≠ gb133) (.slice Ao4 l0_0.length co4) l0_0 a1 t134 t135 w0 _ ?side1 ?side2 A3.out).mono ?_); (case side1 => repeat (first | (with_reducible first | exact HB.out | apply below_alloc | apply pw_below_drewN | apply below_drew1 | refine below_set ?_ GE133.out) | exact HB.out)); (case side2 => exact Kd.S_types HO0_0.out BK133.out (by decide)); rintro e w7 ⟨rfl, hy0, hb, hkp⟩; refine ⟨_, rfl, ?_⟩; have n0_ := Aside0.mk (Kd.S_mono (ok' := fun k_ => (P0_0_ k_ ∨ w.heap.size ≤ k_)) hy0 (fun k_ h_ => Or.elim h_ (fun q_ => q_.1) (fun q_ => .inr (Nat.le_trans HK.out.1 q_)))); have n1_ := Aside0.mk (blk_kept (by (with_reducible repeat (first | refine blk_drewN ?_ _ | refine blk_drew ?_ | refine blk_alloc ?_ _)); exact BK133.out) hkp (fun hs_ => hs_.2 rfl)); have n2_ := Aside0.mk (Kept.then_ (S := (fun k_ => P0_0_ k_)) (by repeat (first | (with_reducible first | exact HK.out | apply Kept.alloc | apply Kept.drewN | apply Kept.drew | refine Kept.setCell ?_ (.inr GW133.out) _) | exact HK.out)) hkp (fun k_ hs_ => hs_.1)); have n3_ := Aside0.mk (hb); clear HO0_0; clear BK133; clear HK; clear HB; have HO0_0 := n0_; have BK133 := n1_; have HK := n2_; have HB := n3_; clear n0_ n1_ n2_ n3_; (try clear hb); (try clear hkp); (try clear hy0)))
  go_ret
  exact ⟨by first | rfl | (simp [errW_none, errW_some] <;> rfl) | (simp [*, errW_none, errW_some] <;> rfl), by (with_reducible repeat (first | apply Kd.S_alloc | apply Kd.S_drewN | apply Kd.S_drew)); exact HO0_0.out, by repeat (first | (with_reducible first | exact HB.out | apply below_alloc | apply pw_below_drewN | apply below_drew1 | refine below_set ?_ GE133.out) | exact HB.out), by repeat (first | (with_reducible first | exact HK.out | apply Kept.alloc | apply Kept.drewN | apply Kept.drew | refine Kept.setCell ?_ (.inr GW133.out) _) | exact HK.out)⟩

/-! ### laws_heldFrameS: function 85 -/
def laws_heldFrameS.l0 : Nat → List (S114) → Int → Int → Option (Int)
  | 0, _, _, _ => none
  | k + 1, x0, x1, x5 => if x5 < (x0.length : Int) then (if 0 ≤ x5 then (if ((rd_T114 x0 x5).f0) = x1 then ((laws_heldByteS.f k ((rd_T114 x0 x5).f1) (wrap64 (x1 + 1))).bind fun t138 => (if t138 < 0 then (some (-1)) else (if ((rd_T114 x0 x5).f2) = t138 then (if (((rd_T114 x0 x5).f3) != ((Int.tmod (wrap64 (t138 + 1)) 3) == 0)) = true then (some (-1)) else (if ((rd_T114 x0 x5).f4) = (wrap64 ((wrap64 (t138 + 1)) + 1)) then (if (((rd_T114 x0 x5).f5) != ((Int.tmod (wrap64 ((wrap64 ((wrap64 (t138 + 1)) + 1)) + 1)) 3) == 0)) = true then (some (-1)) else (laws_heldFrameS.l0 k x0 (wrap64 ((wrap64 ((wrap64 ((wrap64 (t138 + 1)) + 1)) + 1)) + 1)) (wrap64 (x5 + 1)))) else (some (-1)))) else (some (-1))))) else (some (-1))) else (none)) else (some x1)
def laws_heldFrameS.f (k : Nat) (l0 : List (S114)) (a1 : Int) : Option (Int) := laws_heldFrameS.l0 k l0 a1 0
theorem laws_heldFrameS.mono_l : ∀ k, (∀ y0 y1 y2, LeO (laws_heldFrameS.l0 k y0 y1 y2) (laws_heldFrameS.l0 (k + 1) y0 y1 y2))
  | 0 => fun _ _ _ r h => by simp [laws_heldFrameS.l0] at h
  | k + 1 => by
    have ih0 := laws_heldFrameS.mono_l k
    · intro y0 y1 y2
      unfold laws_heldFrameS.l0
      repeat' first
      | (with_reducible exact ih0 _ _ _)
      | (with_reducible exact laws_heldByteS.mono _ _ _)
      | (with_reducible exact LeO.refl _)
      | (with_reducible exact LeO.none _)
      | (with_reducible refine LeO.ite ?_ ?_)
      | (with_reducible refine LeO.bind ?_ (fun _ => ?_))
      | exact ih0 _ _ _
      | exact laws_heldByteS.mono _ _ _
      | exact LeO.none _
      | refine LeO.ite ?_ ?_
      | refine LeO.bind ?_ (fun _ => ?_)
theorem laws_heldFrameS.mono : ∀ a0 a1 k, LeO (laws_heldFrameS.f k a0 a1) (laws_heldFrameS.f (k + 1) a0 a1) := by
  intro a0 a1 k
  have ih0 := laws_heldFrameS.mono_l k
  unfold laws_heldFrameS.f
  repeat' first
      | (with_reducible exact ih0 _ _ _)
      | (with_reducible exact laws_heldByteS.mono _ _ _)
      | (with_reducible exact LeO.refl _)
      | (with_reducible exact LeO.none _)
      | (with_reducible refine LeO.ite ?_ ?_)
      | (with_reducible refine LeO.bind ?_ (fun _ => ?_))
      | exact ih0 _ _ _
      | exact laws_heldByteS.mono _ _ _
      | exact LeO.none _
      | refine LeO.ite ?_ ?_
      | refine LeO.bind ?_ (fun _ => ?_)
set_option maxHeartbeats 8000000 in
set_option maxRecDepth 100000 in
theorem laws_heldFrameS.calls (k : Nat) (A0 : Option Addr) (c0 : Nat) (l0 : List (S114)) (a1 : Int) (r : Int) (w : World) (hr0 : Kd.C k114 w A0 l0.length l0) (hc0 : l0.length ≤ c0) (h : laws_heldFrameS.f k l0 a1 = some r) :
    Calls Try.prog 85 #[.slice A0 l0.length c0, .int .i64 a1] w fun e w' => e = .returned (.int .i64 r) ∧ Drawn0 w w' := by
  have HR0 := Aside0.mk hr0
  have HC0 := Aside0.mk hc0
  clear hr0 hc0
  have H : (laws_heldFrameS.l0 k l0 a1 0) = some r := h
  clear h
  have H' := Aside0.mk H
  clear H
  go_enter Try.func85, Try.ntmps85
  go_wp2
  go_loopg [1, 5] k (fun kq v1 v5 w' => ∃ (x1_1 : Int) (x5_1 : Int), v1 = .int .i64 x1_1 ∧ v5 = .int .i64 x5_1 ∧ Aside0 (laws_heldFrameS.l0 kq l0 x1_1 x5_1 = some r) ∧ Aside0 (kq ≤ k) ∧ Drawn0 w w')
  case atStart => exact ⟨(a1), (0), (by first | rfl | (simp; done) | (simp [*]; done)), (by first | rfl | (simp; done) | (simp [*]; done)), H', ⟨Nat.le_refl _⟩, by repeat (first | exact Drawn0.refl _ | apply Drawn0.step)⟩
  case round =>
    clear H'
    try clear p2
    obtain ⟨x1_1, x5_1, rfl, rfl, HA, HK1, ⟨m1, rfl⟩⟩ := hrel
    cases gk with
    | zero => exact absurd HA.out (by simp [laws_heldFrameS.l0])
    | succ k1 =>
      have H := HA.out
      clear HA
      simp only [laws_heldFrameS.l0] at H
      by_cases c3 : x5_1 < (l0.length : Int)
      · rw [if_pos c3] at H
        have c3b0 : decide (x5_1 < (l0.length : Int)) = true := decide_eq_true c3
        clear c3
        by_cases c4 : 0 ≤ x5_1
        · rw [if_pos c4] at H
          have c4b0 : decide (0 ≤ x5_1) = true := decide_eq_true c4
          clear c4
          by_cases c5 : ((rd_T114 l0 x5_1).f0) = x1_1
          · rw [if_pos c5] at H
            have c5b0 : (((rd_T114 l0 x5_1).f0) == x1_1) = true := beq_iff_eq.mpr c5
            have c5b1 : (((rd_T114 l0 x5_1).f0) != x1_1) = false := bne_eq_false_iff_eq.mpr c5
            clear c5
            replace H := Option.bind_eq_some_iff.mp H
            obtain ⟨t138, A60, H⟩ := H
            replace H : (if t138 < 0 then (some (-1)) else (if ((rd_T114 l0 x5_1).f2) = t138 then (if (((rd_T114 l0 x5_1).f3) != ((Int.tmod (wrap64 (t138 + 1)) 3) == 0)) = true then (some (-1)) else (if ((rd_T114 l0 x5_1).f4) = (wrap64 ((wrap64 (t138 + 1)) + 1)) then (if (((rd_T114 l0 x5_1).f5) != ((Int.tmod (wrap64 ((wrap64 ((wrap64 (t138 + 1)) + 1)) + 1)) 3) == 0)) = true then (some (-1)) else (laws_heldFrameS.l0 k1 l0 (wrap64 ((wrap64 ((wrap64 ((wrap64 (t138 + 1)) + 1)) + 1)) + 1)) (wrap64 (x5_1 + 1)))) else (some (-1)))) else (some (-1)))) = some r := H
            have A6 := Aside0.mk A60
            clear A60
            by_cases c7 : t138 < 0
            · rw [if_pos c7] at H
              have c7b0 : decide (t138 < 0) = true := decide_eq_true c7
              clear c7
              obtain rfl := Option.some.inj H
              have p136 : 0 ≤ (x5_1 : Int) := of_decide_eq_true (by first | (with_reducible assumption) | assumption)
              have q136 : x5_1 < (l0.length : Int) := of_decide_eq_true (by first | (with_reducible assumption) | assumption)
              obtain ⟨ad136, A136_1, c136_1, e136, hx136_0, hx136_1, hx136_2, hx136_3, hx136_4, hx136_5, hl136_1, hi136_1⟩ := at_T114 HR0.out x5_1 p136 q136
              cases e136
              have HR136_1 := Aside0.mk hi136_1
              have HC136_1 := Aside0.mk hl136_1
              clear hi136_1 hl136_1
              replace p136 := eq_true p136
              replace q136 := eq_true q136
              have p137 : 0 ≤ (x5_1 : Int) := of_decide_eq_true (by first | (with_reducible assumption) | assumption)
              have q137 : x5_1 < (l0.length : Int) := of_decide_eq_true (by first | (with_reducible assumption) | assumption)
              obtain ⟨ad137, A137_1, c137_1, e137, hx137_0, hx137_1, hx137_2, hx137_3, hx137_4, hx137_5, hl137_1, hi137_1⟩ := at_T114 HR0.out x5_1 p137 q137
              obtain rfl : ad136 = ad137 := (by injection e137)
              have HR137_1 := Aside0.mk hi137_1
              have HC137_1 := Aside0.mk hl137_1
              clear hi137_1 hl137_1
              replace p137 := eq_true p137
              replace q137 := eq_true q137
              have ea_ := Option.some.inj (hx136_1.symm.trans hx137_1)
              injection ea_ with ea_ en_ ec_
              subst ea_
              subst ec_
              clear en_
              go_wp2_with (first | ((with_reducible refine gate_callee (f := 82) rfl ?_); refine goesL_ (some 27) rfl rfl Try.func82 (by kernel_rfl) rfl #[.slice A136_1 ((rd_T114 l0 x5_1).f1).length c136_1, .int .i64 (wrap64 (x1_1 + 1))] rfl (by (try simp only [List.map_toArray, List.map_cons, List.map_nil]); first | done | rfl | (simp only [List.length_drop, List.length_take]; rfl)) ?_; (with_reducible refine (laws_heldByteS.calls k1 _ _ ((rd_T114 l0 x5_1).f1) (wrap64 (x1_1 + 1)) t138 _ ?side1 ?side2 A6.out).mono ?_); (case side1 => repeat (first | exact HR137_1.out | (with_reducible refine Kd.C_alloc ?_ _) | (with_reducible refine Kd.C_drewN ?_ _) | (with_reducible refine Kd.C_drew ?_))); (case side2 => exact HC137_1.out); rintro e w' ⟨rfl, ⟨nd, rfl⟩⟩; refine ⟨_, rfl, ?_⟩))
              go_ret
              exact ⟨by first | rfl | (simp; done) | (simp [*]; done), by repeat (first | exact Drawn0.refl _ | apply Drawn0.step)⟩
            · rw [if_neg c7] at H
              have c7b0 : decide (t138 < 0) = false := decide_eq_false c7
              clear c7
              by_cases c8 : ((rd_T114 l0 x5_1).f2) = t138
              · rw [if_pos c8] at H
                have c8b0 : (((rd_T114 l0 x5_1).f2) == t138) = true := beq_iff_eq.mpr c8
                have c8b1 : (((rd_T114 l0 x5_1).f2) != t138) = false := bne_eq_false_iff_eq.mpr c8
                clear c8
                by_cases c9 : (((rd_T114 l0 x5_1).f3) != ((Int.tmod (wrap64 (t138 + 1)) 3) == 0)) = true
                · rw [if_pos c9] at H
                  have c9b0 : (((rd_T114 l0 x5_1).f3) != ((Int.tmod (wrap64 (t138 + 1)) 3) == 0)) = true := c9
                  (try (have c9b1 : decide (((rd_T114 l0 x5_1).f3) = ((Int.tmod (wrap64 (t138 + 1)) 3) == 0)) = false := by simpa using c9))
                  (try (have c9b2 : (((rd_T114 l0 x5_1).f3) == ((Int.tmod (wrap64 (t138 + 1)) 3) == 0)) = false := by simpa using c9))
                  (try (have c9b3 : ¬ (((rd_T114 l0 x5_1).f3) = ((Int.tmod (wrap64 (t138 + 1)) 3) == 0)) := by simpa using c9))
                  clear c9
                  obtain rfl := Option.some.inj H
                  have p136 : 0 ≤ (x5_1 : Int) := of_decide_eq_true (by first | (with_reducible assumption) | assumption)
                  have q136 : x5_1 < (l0.length : Int) := of_decide_eq_true (by first | (with_reducible assumption) | assumption)
                  obtain ⟨ad136, A136_1, c136_1, e136, hx136_0, hx136_1, hx136_2, hx136_3, hx136_4, hx136_5, hl136_1, hi136_1⟩ := at_T114 HR0.out x5_1 p136 q136
                  cases e136
                  have HR136_1 := Aside0.mk hi136_1
                  have HC136_1 := Aside0.mk hl136_1
                  clear hi136_1 hl136_1
                  replace p136 := eq_true p136
                  replace q136 := eq_true q136
                  have p137 : 0 ≤ (x5_1 : Int) := of_decide_eq_true (by first | (with_reducible assumption) | assumption)
                  have q137 : x5_1 < (l0.length : Int) := of_decide_eq_true (by first | (with_reducible assumption) | assumption)
                  obtain ⟨ad137, A137_1, c137_1, e137, hx137_0, hx137_1, hx137_2, hx137_3, hx137_4, hx137_5, hl137_1, hi137_1⟩ := at_T114 HR0.out x5_1 p137 q137
                  obtain rfl : ad136 = ad137 := (by injection e137)
                  have HR137_1 := Aside0.mk hi137_1
                  have HC137_1 := Aside0.mk hl137_1
                  clear hi137_1 hl137_1
                  replace p137 := eq_true p137
                  replace q137 := eq_true q137
                  have ea_ := Option.some.inj (hx136_1.symm.trans hx137_1)
                  injection ea_ with ea_ en_ ec_
                  subst ea_
                  subst ec_
                  clear en_
                  go_wp2_with (first | ((with_reducible refine gate_callee (f := 82) rfl ?_); refine goesL_ (some 27) rfl rfl Try.func82 (by kernel_rfl) rfl #[.slice A136_1 ((rd_T114 l0 x5_1).f1).length c136_1, .int .i64 (wrap64 (x1_1 + 1))] rfl (by (try simp only [List.map_toArray, List.map_cons, List.map_nil]); first | done | rfl | (simp only [List.length_drop, List.length_take]; rfl)) ?_; (with_reducible refine (laws_heldByteS.calls k1 _ _ ((rd_T114 l0 x5_1).f1) (wrap64 (x1_1 + 1)) t138 _ ?side1 ?side2 A6.out).mono ?_); (case side1 => repeat (first | exact HR137_1.out | (with_reducible refine Kd.C_alloc ?_ _) | (with_reducible refine Kd.C_drewN ?_ _) | (with_reducible refine Kd.C_drew ?_))); (case side2 => exact HC137_1.out); rintro e w' ⟨rfl, ⟨nd, rfl⟩⟩; refine ⟨_, rfl, ?_⟩; have p139 : 0 ≤ (x5_1 : Int) := of_decide_eq_true (by first | (with_reducible assumption) | assumption); have q139 : x5_1 < (l0.length : Int) := of_decide_eq_true (by first | (with_reducible assumption) | assumption); obtain ⟨ad139, A139_1, c139_1, e139, hx139_0, hx139_1, hx139_2, hx139_3, hx139_4, hx139_5, hl139_1, hi139_1⟩ := at_T114 HR0.out x5_1 p139 q139; obtain rfl : ad136 = ad139 := (by injection e139); have HR139_1 := Aside0.mk hi139_1; have HC139_1 := Aside0.mk hl139_1; clear hi139_1 hl139_1; replace p139 := eq_true p139; replace q139 := eq_true q139; have ea_ := Option.some.inj (hx136_1.symm.trans hx139_1); injection ea_ with ea_ en_ ec_; subst ea_; subst ec_; clear en_; have p140 : 0 ≤ (x5_1 : Int) := of_decide_eq_true (by first | (with_reducible assumption) | assumption); have q140 : x5_1 < (l0.length : Int) := of_decide_eq_true (by first | (with_reducible assumption) | assumption); obtain ⟨ad140, A140_1, c140_1, e140, hx140_0, hx140_1, hx140_2, hx140_3, hx140_4, hx140_5, hl140_1, hi140_1⟩ := at_T114 HR0.out x5_1 p140 q140; obtain rfl : ad136 = ad140 := (by injection e140); have HR140_1 := Aside0.mk hi140_1; have HC140_1 := Aside0.mk hl140_1; clear hi140_1 hl140_1; replace p140 := eq_true p140; replace q140 := eq_true q140; have ea_ := Option.some.inj (hx136_1.symm.trans hx140_1); injection ea_ with ea_ en_ ec_; subst ea_; subst ec_; clear en_))
                  go_ret
                  exact ⟨by first | rfl | (simp; done) | (simp [*]; done), by repeat (first | exact Drawn0.refl _ | apply Drawn0.step)⟩
                · rw [if_neg c9] at H
                  have c9b0 : (((rd_T114 l0 x5_1).f3) != ((Int.tmod (wrap64 (t138 + 1)) 3) == 0)) = false := by simpa using c9
                  (try (have c9b1 : decide (((rd_T114 l0 x5_1).f3) = ((Int.tmod (wrap64 (t138 + 1)) 3) == 0)) = true := by simpa using c9))
                  (try (have c9b2 : (((rd_T114 l0 x5_1).f3) == ((Int.tmod (wrap64 (t138 + 1)) 3) == 0)) = true := by simpa using c9))
                  clear c9
                  by_cases c10 : ((rd_T114 l0 x5_1).f4) = (wrap64 ((wrap64 (t138 + 1)) + 1))
                  · rw [if_pos c10] at H
                    have c10b0 : (((rd_T114 l0 x5_1).f4) == (wrap64 ((wrap64 (t138 + 1)) + 1))) = true := beq_iff_eq.mpr c10
                    have c10b1 : (((rd_T114 l0 x5_1).f4) != (wrap64 ((wrap64 (t138 + 1)) + 1))) = false := bne_eq_false_iff_eq.mpr c10
                    clear c10
                    by_cases c11 : (((rd_T114 l0 x5_1).f5) != ((Int.tmod (wrap64 ((wrap64 ((wrap64 (t138 + 1)) + 1)) + 1)) 3) == 0)) = true
                    · rw [if_pos c11] at H
                      have c11b0 : (((rd_T114 l0 x5_1).f5) != ((Int.tmod (wrap64 ((wrap64 ((wrap64 (t138 + 1)) + 1)) + 1)) 3) == 0)) = true := c11
                      (try (have c11b1 : decide (((rd_T114 l0 x5_1).f5) = ((Int.tmod (wrap64 ((wrap64 ((wrap64 (t138 + 1)) + 1)) + 1)) 3) == 0)) = false := by simpa using c11))
                      (try (have c11b2 : (((rd_T114 l0 x5_1).f5) == ((Int.tmod (wrap64 ((wrap64 ((wrap64 (t138 + 1)) + 1)) + 1)) 3) == 0)) = false := by simpa using c11))
                      (try (have c11b3 : ¬ (((rd_T114 l0 x5_1).f5) = ((Int.tmod (wrap64 ((wrap64 ((wrap64 (t138 + 1)) + 1)) + 1)) 3) == 0)) := by simpa using c11))
                      clear c11
                      obtain rfl := Option.some.inj H
                      have p136 : 0 ≤ (x5_1 : Int) := of_decide_eq_true (by first | (with_reducible assumption) | assumption)
                      have q136 : x5_1 < (l0.length : Int) := of_decide_eq_true (by first | (with_reducible assumption) | assumption)
                      obtain ⟨ad136, A136_1, c136_1, e136, hx136_0, hx136_1, hx136_2, hx136_3, hx136_4, hx136_5, hl136_1, hi136_1⟩ := at_T114 HR0.out x5_1 p136 q136
                      cases e136
                      have HR136_1 := Aside0.mk hi136_1
                      have HC136_1 := Aside0.mk hl136_1
                      clear hi136_1 hl136_1
                      replace p136 := eq_true p136
                      replace q136 := eq_true q136
                      have p137 : 0 ≤ (x5_1 : Int) := of_decide_eq_true (by first | (with_reducible assumption) | assumption)
                      have q137 : x5_1 < (l0.length : Int) := of_decide_eq_true (by first | (with_reducible assumption) | assumption)
                      obtain ⟨ad137, A137_1, c137_1, e137, hx137_0, hx137_1, hx137_2, hx137_3, hx137_4, hx137_5, hl137_1, hi137_1⟩ := at_T114 HR0.out x5_1 p137 q137
                      obtain rfl : ad136 = ad137 := (by injection e137)
                      have HR137_1 := Aside0.mk hi137_1
                      have HC137_1 := Aside0.mk hl137_1
                      clear hi137_1 hl137_1
                      replace p137 := eq_true p137
                      replace q137 := eq_true q137
                      have ea_ := Option.some.inj (hx136_1.symm.trans hx137_1)
                      injection ea_ with ea_ en_ ec_
                      subst ea_
                      subst ec_
                      clear en_
                      go_wp2_with (first | ((with_reducible refine gate_callee (f := 82) rfl ?_); refine goesL_ (some 27) rfl rfl Try.func82 (by kernel_rfl) rfl #[.slice A136_1 ((rd_T114 l0 x5_1).f1).length c136_1, .int .i64 (wrap64 (x1_1 + 1))] rfl (by (try simp only [List.map_toArray, List.map_cons, List.map_nil]); first | done | rfl | (simp only [List.length_drop, List.length_take]; rfl)) ?_; (with_reducible refine (laws_heldByteS.calls k1 _ _ ((rd_T114 l0 x5_1).f1) (wrap64 (x1_1 + 1)) t138 _ ?side1 ?side2 A6.out).mono ?_); (case side1 => repeat (first | exact HR137_1.out | (with_reducible refine Kd.C_alloc ?_ _) | (with_reducible refine Kd.C_drewN ?_ _) | (with_reducible refine Kd.C_drew ?_))); (case side2 => exact HC137_1.out); rintro e w' ⟨rfl, ⟨nd, rfl⟩⟩; refine ⟨_, rfl, ?_⟩; have p139 : 0 ≤ (x5_1 : Int) := of_decide_eq_true (by first | (with_reducible assumption) | assumption); have q139 : x5_1 < (l0.length : Int) := of_decide_eq_true (by first | (with_reducible assumption) | assumption); obtain ⟨ad139, A139_1, c139_1, e139, hx139_0, hx139_1, hx139_2, hx139_3, hx139_4, hx139_5, hl139_1, hi139_1⟩ := at_T114 HR0.out x5_1 p139 q139; obtain rfl : ad136 = ad139 := (by injection e139); have HR139_1 := Aside0.mk hi139_1; have HC139_1 := Aside0.mk hl139_1; clear hi139_1 hl139_1; replace p139 := eq_true p139; replace q139 := eq_true q139; have ea_ := Option.some.inj (hx136_1.symm.trans hx139_1); injection ea_ with ea_ en_ ec_; subst ea_; subst ec_; clear en_; have p140 : 0 ≤ (x5_1 : Int) := of_decide_eq_true (by first | (with_reducible assumption) | assumption); have q140 : x5_1 < (l0.length : Int) := of_decide_eq_true (by first | (with_reducible assumption) | assumption); obtain ⟨ad140, A140_1, c140_1, e140, hx140_0, hx140_1, hx140_2, hx140_3, hx140_4, hx140_5, hl140_1, hi140_1⟩ := at_T114 HR0.out x5_1 p140 q140; obtain rfl : ad136 = ad140 := (by injection e140); have HR140_1 := Aside0.mk hi140_1; have HC140_1 := Aside0.mk hl140_1; clear hi140_1 hl140_1; replace p140 := eq_true p140; replace q140 := eq_true q140; have ea_ := Option.some.inj (hx136_1.symm.trans hx140_1); injection ea_ with ea_ en_ ec_; subst ea_; subst ec_; clear en_; have p141 : 0 ≤ (x5_1 : Int) := of_decide_eq_true (by first | (with_reducible assumption) | assumption); have q141 : x5_1 < (l0.length : Int) := of_decide_eq_true (by first | (with_reducible assumption) | assumption); obtain ⟨ad141, A141_1, c141_1, e141, hx141_0, hx141_1, hx141_2, hx141_3, hx141_4, hx141_5, hl141_1, hi141_1⟩ := at_T114 HR0.out x5_1 p141 q141; obtain rfl : ad136 = ad141 := (by injection e141); have HR141_1 := Aside0.mk hi141_1; have HC141_1 := Aside0.mk hl141_1; clear hi141_1 hl141_1; replace p141 := eq_true p141; replace q141 := eq_true q141; have ea_ := Option.some.inj (hx136_1.symm.trans hx141_1); injection ea_ with ea_ en_ ec_; subst ea_; subst ec_; clear en_; have p142 : 0 ≤ (x5_1 : Int) := of_decide_eq_true (by first | (with_reducible assumption) | assumption); have q142 : x5_1 < (l0.length : Int) := of_decide_eq_true (by first | (with_reducible assumption) | assumption); obtain ⟨ad142, A142_1, c142_1, e142, hx142_0, hx142_1, hx142_2, hx142_3, hx142_4, hx142_5, hl142_1, hi142_1⟩ := at_T114 HR0.out x5_1 p142 q142; obtain rfl : ad136 = ad142 := (by injection e142); have HR142_1 := Aside0.mk hi142_1; have HC142_1 := Aside0.mk hl142_1; clear hi142_1 hl142_1; replace p142 := eq_true p142; replace q142 := eq_true q142; have ea_ := Option.some.inj (hx136_1.symm.trans hx142_1); injection ea_ with ea_ en_ ec_; subst ea_; subst ec_; clear en_))
                      go_ret
                      exact ⟨by first | rfl | (simp; done) | (simp [*]; done), by repeat (first | exact Drawn0.refl _ | apply Drawn0.step)⟩
                    · rw [if_neg c11] at H
                      have c11b0 : (((rd_T114 l0 x5_1).f5) != ((Int.tmod (wrap64 ((wrap64 ((wrap64 (t138 + 1)) + 1)) + 1)) 3) == 0)) = false := by simpa using c11
                      (try (have c11b1 : decide (((rd_T114 l0 x5_1).f5) = ((Int.tmod (wrap64 ((wrap64 ((wrap64 (t138 + 1)) + 1)) + 1)) 3) == 0)) = true := by simpa using c11))
                      (try (have c11b2 : (((rd_T114 l0 x5_1).f5) == ((Int.tmod (wrap64 ((wrap64 ((wrap64 (t138 + 1)) + 1)) + 1)) 3) == 0)) = true := by simpa using c11))
                      clear c11
                      have H' := Aside0.mk H
                      clear H
                      have p136 : 0 ≤ (x5_1 : Int) := of_decide_eq_true (by first | (with_reducible assumption) | assumption)
                      have q136 : x5_1 < (l0.length : Int) := of_decide_eq_true (by first | (with_reducible assumption) | assumption)
                      obtain ⟨ad136, A136_1, c136_1, e136, hx136_0, hx136_1, hx136_2, hx136_3, hx136_4, hx136_5, hl136_1, hi136_1⟩ := at_T114 HR0.out x5_1 p136 q136
                      cases e136
                      have HR136_1 := Aside0.mk hi136_1
                      have HC136_1 := Aside0.mk hl136_1
                      clear hi136_1 hl136_1
                      replace p136 := eq_true p136
                      replace q136 := eq_true q136
                      have p137 : 0 ≤ (x5_1 : Int) := of_decide_eq_true (by first | (with_reducible assumption) | assumption)
                      have q137 : x5_1 < (l0.length : Int) := of_decide_eq_true (by first | (with_reducible assumption) | assumption)
                      obtain ⟨ad137, A137_1, c137_1, e137, hx137_0, hx137_1, hx137_2, hx137_3, hx137_4, hx137_5, hl137_1, hi137_1⟩ := at_T114 HR0.out x5_1 p137 q137
                      obtain rfl : ad136 = ad137 := (by injection e137)
                      have HR137_1 := Aside0.mk hi137_1
                      have HC137_1 := Aside0.mk hl137_1
                      clear hi137_1 hl137_1
                      replace p137 := eq_true p137
                      replace q137 := eq_true q137
                      have ea_ := Option.some.inj (hx136_1.symm.trans hx137_1)
                      injection ea_ with ea_ en_ ec_
                      subst ea_
                      subst ec_
                      clear en_
                      go_wp2_with (first | ((with_reducible refine gate_callee (f := 82) rfl ?_); refine goesL_ (some 27) rfl rfl Try.func82 (by kernel_rfl) rfl #[.slice A136_1 ((rd_T114 l0 x5_1).f1).length c136_1, .int .i64 (wrap64 (x1_1 + 1))] rfl (by (try simp only [List.map_toArray, List.map_cons, List.map_nil]); first | done | rfl | (simp only [List.length_drop, List.length_take]; rfl)) ?_; (with_reducible refine (laws_heldByteS.calls k1 _ _ ((rd_T114 l0 x5_1).f1) (wrap64 (x1_1 + 1)) t138 _ ?side1 ?side2 A6.out).mono ?_); (case side1 => repeat (first | exact HR137_1.out | (with_reducible refine Kd.C_alloc ?_ _) | (with_reducible refine Kd.C_drewN ?_ _) | (with_reducible refine Kd.C_drew ?_))); (case side2 => exact HC137_1.out); rintro e w' ⟨rfl, ⟨nd, rfl⟩⟩; refine ⟨_, rfl, ?_⟩; have p139 : 0 ≤ (x5_1 : Int) := of_decide_eq_true (by first | (with_reducible assumption) | assumption); have q139 : x5_1 < (l0.length : Int) := of_decide_eq_true (by first | (with_reducible assumption) | assumption); obtain ⟨ad139, A139_1, c139_1, e139, hx139_0, hx139_1, hx139_2, hx139_3, hx139_4, hx139_5, hl139_1, hi139_1⟩ := at_T114 HR0.out x5_1 p139 q139; obtain rfl : ad136 = ad139 := (by injection e139); have HR139_1 := Aside0.mk hi139_1; have HC139_1 := Aside0.mk hl139_1; clear hi139_1 hl139_1; replace p139 := eq_true p139; replace q139 := eq_true q139; have ea_ := Option.some.inj (hx136_1.symm.trans hx139_1); injection ea_ with ea_ en_ ec_; subst ea_; subst ec_; clear en_; have p140 : 0 ≤ (x5_1 : Int) := of_decide_eq_true (by first | (with_reducible assumption) | assumption); have q140 : x5_1 < (l0.length : Int) := of_decide_eq_true (by first | (with_reducible assumption) | assumption); obtain ⟨ad140, A140_1, c140_1, e140, hx140_0, hx140_1, hx140_2, hx140_3, hx140_4, hx140_5, hl140_1, hi140_1⟩ := at_T114 HR0.out x5_1 p140 q140; obtain rfl : ad136 = ad140 := (by injection e140); have HR140_1 := Aside0.mk hi140_1; have HC140_1 := Aside0.mk hl140_1; clear hi140_1 hl140_1; replace p140 := eq_true p140; replace q140 := eq_true q140; have ea_ := Option.some.inj (hx136_1.symm.trans hx140_1); injection ea_ with ea_ en_ ec_; subst ea_; subst ec_; clear en_; have p141 : 0 ≤ (x5_1 : Int) := of_decide_eq_true (by first | (with_reducible assumption) | assumption); have q141 : x5_1 < (l0.length : Int) := of_decide_eq_true (by first | (with_reducible assumption) | assumption); obtain ⟨ad141, A141_1, c141_1, e141, hx141_0, hx141_1, hx141_2, hx141_3, hx141_4, hx141_5, hl141_1, hi141_1⟩ := at_T114 HR0.out x5_1 p141 q141; obtain rfl : ad136 = ad141 := (by injection e141); have HR141_1 := Aside0.mk hi141_1; have HC141_1 := Aside0.mk hl141_1; clear hi141_1 hl141_1; replace p141 := eq_true p141; replace q141 := eq_true q141; have ea_ := Option.some.inj (hx136_1.symm.trans hx141_1); injection ea_ with ea_ en_ ec_; subst ea_; subst ec_; clear en_; have p142 : 0 ≤ (x5_1 : Int) := of_decide_eq_true (by first | (with_reducible assumption) | assumption); have q142 : x5_1 < (l0.length : Int) := of_decide_eq_true (by first | (with_reducible assumption) | assumption); obtain ⟨ad142, A142_1, c142_1, e142, hx142_0, hx142_1, hx142_2, hx142_3, hx142_4, hx142_5, hl142_1, hi142_1⟩ := at_T114 HR0.out x5_1 p142 q142; obtain rfl : ad136 = ad142 := (by injection e142); have HR142_1 := Aside0.mk hi142_1; have HC142_1 := Aside0.mk hl142_1; clear hi142_1 hl142_1; replace p142 := eq_true p142; replace q142 := eq_true q142; have ea_ := Option.some.inj (hx136_1.symm.trans hx142_1); injection ea_ with ea_ en_ ec_; subst ea_; subst ec_; clear en_))
                      go_roundg k1
                      case measure => have := HK1.out; omega
                      case rel => exact ⟨(wrap64 ((wrap64 ((wrap64 ((wrap64 (t138 + 1)) + 1)) + 1)) + 1)), (wrap64 (x5_1 + 1)), (by first | rfl | (simp; done) | (simp [*]; done)), (by first | rfl | (simp; done) | (simp [*]; done)), H', ⟨by have := HK1.out; omega⟩, by repeat (first | exact Drawn0.refl _ | apply Drawn0.step)⟩
                  · rw [if_neg c10] at H
                    have c10b0 : (((rd_T114 l0 x5_1).f4) == (wrap64 ((wrap64 (t138 + 1)) + 1))) = false := beq_eq_false_iff_ne.mpr c10
                    have c10b1 : (((rd_T114 l0 x5_1).f4) != (wrap64 ((wrap64 (t138 + 1)) + 1))) = true := bne_iff_ne.mpr c10
                    obtain rfl := Option.some.inj H
                    have p136 : 0 ≤ (x5_1 : Int) := of_decide_eq_true (by first | (with_reducible assumption) | assumption)
                    have q136 : x5_1 < (l0.length : Int) := of_decide_eq_true (by first | (with_reducible assumption) | assumption)
                    obtain ⟨ad136, A136_1, c136_1, e136, hx136_0, hx136_1, hx136_2, hx136_3, hx136_4, hx136_5, hl136_1, hi136_1⟩ := at_T114 HR0.out x5_1 p136 q136
                    cases e136
                    have HR136_1 := Aside0.mk hi136_1
                    have HC136_1 := Aside0.mk hl136_1
                    clear hi136_1 hl136_1
                    replace p136 := eq_true p136
                    replace q136 := eq_true q136
                    have p137 : 0 ≤ (x5_1 : Int) := of_decide_eq_true (by first | (with_reducible assumption) | assumption)
                    have q137 : x5_1 < (l0.length : Int) := of_decide_eq_true (by first | (with_reducible assumption) | assumption)
                    obtain ⟨ad137, A137_1, c137_1, e137, hx137_0, hx137_1, hx137_2, hx137_3, hx137_4, hx137_5, hl137_1, hi137_1⟩ := at_T114 HR0.out x5_1 p137 q137
                    obtain rfl : ad136 = ad137 := (by injection e137)
                    have HR137_1 := Aside0.mk hi137_1
                    have HC137_1 := Aside0.mk hl137_1
                    clear hi137_1 hl137_1
                    replace p137 := eq_true p137
                    replace q137 := eq_true q137
                    have ea_ := Option.some.inj (hx136_1.symm.trans hx137_1)
                    injection ea_ with ea_ en_ ec_
                    subst ea_
                    subst ec_
                    clear en_
                    go_wp2_with (first | ((with_reducible refine gate_callee (f := 82) rfl ?_); refine goesL_ (some 27) rfl rfl Try.func82 (by kernel_rfl) rfl #[.slice A136_1 ((rd_T114 l0 x5_1).f1).length c136_1, .int .i64 (wrap64 (x1_1 + 1))] rfl (by (try simp only [List.map_toArray, List.map_cons, List.map_nil]); first | done | rfl | (simp only [List.length_drop, List.length_take]; rfl)) ?_; (with_reducible refine (laws_heldByteS.calls k1 _ _ ((rd_T114 l0 x5_1).f1) (wrap64 (x1_1 + 1)) t138 _ ?side1 ?side2 A6.out).mono ?_); (case side1 => repeat (first | exact HR137_1.out | (with_reducible refine Kd.C_alloc ?_ _) | (with_reducible refine Kd.C_drewN ?_ _) | (with_reducible refine Kd.C_drew ?_))); (case side2 => exact HC137_1.out); rintro e w' ⟨rfl, ⟨nd, rfl⟩⟩; refine ⟨_, rfl, ?_⟩; have p139 : 0 ≤ (x5_1 : Int) := of_decide_eq_true (by first | (with_reducible assumption) | assumption); have q139 : x5_1 < (l0.length : Int) := of_decide_eq_true (by first | (with_reducible assumption) | assumption); obtain ⟨ad139, A139_1, c139_1, e139, hx139_0, hx139_1, hx139_2, hx139_3, hx139_4, hx139_5, hl139_1, hi139_1⟩ := at_T114 HR0.out x5_1 p139 q139; obtain rfl : ad136 = ad139 := (by injection e139); have HR139_1 := Aside0.mk hi139_1; have HC139_1 := Aside0.mk hl139_1; clear hi139_1 hl139_1; replace p139 := eq_true p139; replace q139 := eq_true q139; have ea_ := Option.some.inj (hx136_1.symm.trans hx139_1); injection ea_ with ea_ en_ ec_; subst ea_; subst ec_; clear en_; have p140 : 0 ≤ (x5_1 : Int) := of_decide_eq_true (by first | (with_reducible assumption) | assumption); have q140 : x5_1 < (l0.length : Int) := of_decide_eq_true (by first | (with_reducible assumption) | assumption); obtain ⟨ad140, A140_1, c140_1, e140, hx140_0, hx140_1, hx140_2, hx140_3, hx140_4, hx140_5, hl140_1, hi140_1⟩ := at_T114 HR0.out x5_1 p140 q140; obtain rfl : ad136 = ad140 := (by injection e140); have HR140_1 := Aside0.mk hi140_1; have HC140_1 := Aside0.mk hl140_1; clear hi140_1 hl140_1; replace p140 := eq_true p140; replace q140 := eq_true q140; have ea_ := Option.some.inj (hx136_1.symm.trans hx140_1); injection ea_ with ea_ en_ ec_; subst ea_; subst ec_; clear en_; have p141 : 0 ≤ (x5_1 : Int) := of_decide_eq_true (by first | (with_reducible assumption) | assumption); have q141 : x5_1 < (l0.length : Int) := of_decide_eq_true (by first | (with_reducible assumption) | assumption); obtain ⟨ad141, A141_1, c141_1, e141, hx141_0, hx141_1, hx141_2, hx141_3, hx141_4, hx141_5, hl141_1, hi141_1⟩ := at_T114 HR0.out x5_1 p141 q141; obtain rfl : ad136 = ad141 := (by injection e141); have HR141_1 := Aside0.mk hi141_1; have HC141_1 := Aside0.mk hl141_1; clear hi141_1 hl141_1; replace p141 := eq_true p141; replace q141 := eq_true q141; have ea_ := Option.some.inj (hx136_1.symm.trans hx141_1); injection ea_ with ea_ en_ ec_; subst ea_; subst ec_; clear en_))
                    go_ret
                    exact ⟨by first | rfl | (simp; done) | (simp [*]; done), by repeat (first | exact Drawn0.refl _ | apply Drawn0.step)⟩
              · rw [if_neg c8] at H
                have c8b0 : (((rd_T114 l0 x5_1).f2) == t138) = false := beq_eq_false_iff_ne.mpr c8
                have c8b1 : (((rd_T114 l0 x5_1).f2) != t138) = true := bne_iff_ne.mpr c8
                obtain rfl := Option.some.inj H
                have p136 : 0 ≤ (x5_1 : Int) := of_decide_eq_true (by first | (with_reducible assumption) | assumption)
                have q136 : x5_1 < (l0.length : Int) := of_decide_eq_true (by first | (with_reducible assumption) | assumption)
                obtain ⟨ad136, A136_1, c136_1, e136, hx136_0, hx136_1, hx136_2, hx136_3, hx136_4, hx136_5, hl136_1, hi136_1⟩ := at_T114 HR0.out x5_1 p136 q136
                cases e136
                have HR136_1 := Aside0.mk hi136_1
                have HC136_1 := Aside0.mk hl136_1
                clear hi136_1 hl136_1
                replace p136 := eq_true p136
                replace q136 := eq_true q136
                have p137 : 0 ≤ (x5_1 : Int) := of_decide_eq_true (by first | (with_reducible assumption) | assumption)
                have q137 : x5_1 < (l0.length : Int) := of_decide_eq_true (by first | (with_reducible assumption) | assumption)
                obtain ⟨ad137, A137_1, c137_1, e137, hx137_0, hx137_1, hx137_2, hx137_3, hx137_4, hx137_5, hl137_1, hi137_1⟩ := at_T114 HR0.out x5_1 p137 q137
                obtain rfl : ad136 = ad137 := (by injection e137)
                have HR137_1 := Aside0.mk hi137_1
                have HC137_1 := Aside0.mk hl137_1
                clear hi137_1 hl137_1
                replace p137 := eq_true p137
                replace q137 := eq_true q137
                have ea_ := Option.some.inj (hx136_1.symm.trans hx137_1)
                injection ea_ with ea_ en_ ec_
                subst ea_
                subst ec_
                clear en_
                go_wp2_with (first | ((with_reducible refine gate_callee (f := 82) rfl ?_); refine goesL_ (some 27) rfl rfl Try.func82 (by kernel_rfl) rfl #[.slice A136_1 ((rd_T114 l0 x5_1).f1).length c136_1, .int .i64 (wrap64 (x1_1 + 1))] rfl (by (try simp only [List.map_toArray, List.map_cons, List.map_nil]); first | done | rfl | (simp only [List.length_drop, List.length_take]; rfl)) ?_; (with_reducible refine (laws_heldByteS.calls k1 _ _ ((rd_T114 l0 x5_1).f1) (wrap64 (x1_1 + 1)) t138 _ ?side1 ?side2 A6.out).mono ?_); (case side1 => repeat (first | exact HR137_1.out | (with_reducible refine Kd.C_alloc ?_ _) | (with_reducible refine Kd.C_drewN ?_ _) | (with_reducible refine Kd.C_drew ?_))); (case side2 => exact HC137_1.out); rintro e w' ⟨rfl, ⟨nd, rfl⟩⟩; refine ⟨_, rfl, ?_⟩; have p139 : 0 ≤ (x5_1 : Int) := of_decide_eq_true (by first | (with_reducible assumption) | assumption); have q139 : x5_1 < (l0.length : Int) := of_decide_eq_true (by first | (with_reducible assumption) | assumption); obtain ⟨ad139, A139_1, c139_1, e139, hx139_0, hx139_1, hx139_2, hx139_3, hx139_4, hx139_5, hl139_1, hi139_1⟩ := at_T114 HR0.out x5_1 p139 q139; obtain rfl : ad136 = ad139 := (by injection e139); have HR139_1 := Aside0.mk hi139_1; have HC139_1 := Aside0.mk hl139_1; clear hi139_1 hl139_1; replace p139 := eq_true p139; replace q139 := eq_true q139; have ea_ := Option.some.inj (hx136_1.symm.trans hx139_1); injection ea_ with ea_ en_ ec_; subst ea_; subst ec_; clear en_))
                go_ret
                exact ⟨by first | rfl | (simp; done) | (simp [*]; done), by repeat (first | exact Drawn0.refl _ | apply Drawn0.step)⟩
          · rw [if_neg c5] at H
            have c5b0 : (((rd_T114 l0 x5_1).f0) == x1_1) = false := beq_eq_false_iff_ne.mpr c5
            have c5b1 : (((rd_T114 l0 x5_1).f0) != x1_1) = true := bne_iff_ne.mpr c5
            obtain rfl := Option.some.inj H
            have p136 : 0 ≤ (x5_1 : Int) := of_decide_eq_true (by first | (with_reducible assumption) | assumption)
            have q136 : x5_1 < (l0.length : Int) := of_decide_eq_true (by first | (with_reducible assumption) | assumption)
            obtain ⟨ad136, A136_1, c136_1, e136, hx136_0, hx136_1, hx136_2, hx136_3, hx136_4, hx136_5, hl136_1, hi136_1⟩ := at_T114 HR0.out x5_1 p136 q136
            cases e136
            have HR136_1 := Aside0.mk hi136_1
            have HC136_1 := Aside0.mk hl136_1
            clear hi136_1 hl136_1
            replace p136 := eq_true p136
            replace q136 := eq_true q136
            go_wp2
            go_ret
            exact ⟨by first | rfl | (simp; done) | (simp [*]; done), by repeat (first | exact Drawn0.refl _ | apply Drawn0.step)⟩
        · rw [if_neg c4] at H
          exact absurd H (by simp)
      · rw [if_neg c3] at H
        have c3b0 : decide (x5_1 < (l0.length : Int)) = false := decide_eq_false c3
        clear c3
        obtain rfl := Option.some.inj H
        go_wp2
        go_ret
        exact ⟨by first | rfl | (simp; done) | (simp [*]; done), by repeat (first | exact Drawn0.refl _ | apply Drawn0.step)⟩

/-! ### laws_heldPool: function 34 -/
def laws_heldPool.f (k : Nat) (l0_0 : List (S114)) (a0_1 : Int) (a1 : Int) : Option (Int) := (laws_heldFrameS.f k l0_0 a1).bind fun t144 => (if t144 < 0 then (some (-1)) else (some t144))
theorem laws_heldPool.mono : ∀ a0 a1 a2 k, LeO (laws_heldPool.f k a0 a1 a2) (laws_heldPool.f (k + 1) a0 a1 a2) := by
  intro a0 a1 a2 k
  unfold laws_heldPool.f
  repeat' first
      | (with_reducible exact laws_heldFrameS.mono _ _ _)
      | (with_reducible exact LeO.refl _)
      | (with_reducible exact LeO.none _)
      | (with_reducible refine LeO.ite ?_ ?_)
      | (with_reducible refine LeO.bind ?_ (fun _ => ?_))
      | exact laws_heldFrameS.mono _ _ _
      | exact LeO.none _
      | refine LeO.ite ?_ ?_
      | refine LeO.bind ?_ (fun _ => ?_)
set_option maxHeartbeats 8000000 in
set_option maxRecDepth 100000 in
theorem laws_heldPool.calls (k : Nat) (A0_0 : Option Addr) (c0_0 : Nat) (l0_0 : List (S114)) (a0_1 : Int) (a1 : Int) (r : Int) (w : World) (hr0_0 : Kd.C k114 w A0_0 l0_0.length l0_0) (hc0_0 : l0_0.length ≤ c0_0) (h : laws_heldPool.f k l0_0 a0_1 a1 = some r) :
    Calls Try.prog 34 #[.agg #[.slice A0_0 l0_0.length c0_0, .int .i64 a0_1], .int .i64 a1] w fun e w' => e = .returned (.int .i64 r) ∧ Below w.heap.size w w' := by
  have hu54 := Try.underlying54
  have HR0_0 := Aside0.mk hr0_0
  have HC0_0 := Aside0.mk hc0_0
  clear hr0_0 hc0_0
  have HB := Aside0.mk (Below.refl w.heap.size w)
  have H : ((laws_heldFrameS.f k l0_0 a1).bind fun t144 => (if t144 < 0 then (some (-1)) else (some t144))) = some r := h
  clear h
  replace H := Option.bind_eq_some_iff.mp H
  obtain ⟨t144, A30, H⟩ := H
  replace H : (if t144 < 0 then (some (-1)) else (some t144)) = some r := H
  have A3 := Aside0.mk A30
  clear A30
  by_cases c4 : t144 < 0
  · rw [if_pos c4] at H
    have c4b0 : decide (t144 < 0) = true := decide_eq_true c4
    clear c4
    obtain rfl := Option.some.inj H
    go_enter Try.func34, Try.ntmps34
    go_wp2_with (first | ((with_reducible refine gate_dst (N := 2) rfl ?_); refine box_event ?hg (N := 2) ?hd (cs := #[.slice A0_0 l0_0.length c0_0, .int .i64 a0_1]) (t := 54) ?hr ?_; (case hd => rfl); (case hg => rfl); (case hr => first | (go_simp; done) | (go_simp; rfl)); intro gb143 hg w5 hbox hb; have n0_ := Aside0.mk (below_step (by repeat (first | (with_reducible first | exact HB.out | apply below_alloc | apply pw_below_drewN | apply below_drew1) | exact HB.out)) hb); have n1_ := Aside0.mk (hbox); have n2_ := Aside0.mk ((by rw [hg]; exact (below_size (by repeat (first | (with_reducible first | exact HB.out | apply below_alloc | apply pw_below_drewN | apply below_drew1) | exact HB.out))) : w.heap.size ≤ gb143)); have n3_ := Aside0.mk ((by rw [hg]; exact (below_size (by repeat (first | (with_reducible first | exact HB.out | apply below_alloc | apply pw_below_drewN | apply below_drew1) | exact HB.out))) : w.heap.size ≤ gb143)); clear HB; have HB := n0_; have BK143 := n1_; have GW143 := n2_; have GE143 := n3_; clear n0_ n1_ n2_ n3_; clear hb hbox hg; have hcz6_0 : w5.cell? ⟨gb143, 0, none⟩ = some (.slice A0_0 l0_0.length c0_0) := (blk_cell BK143.out 0).trans rfl; have hcz6_1 : w5.cell? ⟨gb143, 1, none⟩ = some (.int .i64 a0_1) := (blk_cell BK143.out 1).trans rfl; have hfz6_0 := blk_frozen BK143.out 0; have hfz6_1 := blk_frozen BK143.out 1) | ((with_reducible refine gate_callee (f := 85) rfl ?_); refine goesL_ (some 8) rfl rfl Try.func85 (by kernel_rfl) rfl #[.slice A0_0 l0_0.length c0_0, .int .i64 a1] rfl (by (try simp only [List.map_toArray, List.map_cons, List.map_nil]); first | done | rfl | (simp only [List.length_drop, List.length_take]; rfl)) ?_; (with_reducible refine (laws_heldFrameS.calls k _ _ l0_0 a1 t144 _ ?side1 ?side2 A3.out).mono ?_); (case side1 => repeat (first | exact (Kd.C_below HR0_0.out HB.out) | (with_reducible refine Kd.C_alloc ?_ _) | (with_reducible refine Kd.C_drewN ?_ _) | (with_reducible refine Kd.C_drew ?_))); (case side2 => exact HC0_0.out); rintro e w' ⟨rfl, ⟨nd, rfl⟩⟩; refine ⟨_, rfl, ?_⟩))
    go_ret
    exact ⟨by first | rfl | (simp [errW_none, errW_some] <;> rfl) | (simp [*, errW_none, errW_some] <;> rfl), by repeat (first | (with_reducible first | exact HB.out | apply below_alloc | apply pw_below_drewN | apply below_drew1 | refine below_set ?_ GE143.out) | exact HB.out)⟩
  · rw [if_neg c4] at H
    have c4b0 : decide (t144 < 0) = false := decide_eq_false c4
    clear c4
    obtain rfl := Option.some.inj H
    go_enter Try.func34, Try.ntmps34
    go_wp2_with (first | ((with_reducible refine gate_dst (N := 2) rfl ?_); refine box_event ?hg (N := 2) ?hd (cs := #[.slice A0_0 l0_0.length c0_0, .int .i64 a0_1]) (t := 54) ?hr ?_; (case hd => rfl); (case hg => rfl); (case hr => first | (go_simp; done) | (go_simp; rfl)); intro gb143 hg w7 hbox hb; have n0_ := Aside0.mk (below_step (by repeat (first | (with_reducible first | exact HB.out | apply below_alloc | apply pw_below_drewN | apply below_drew1) | exact HB.out)) hb); have n1_ := Aside0.mk (hbox); have n2_ := Aside0.mk ((by rw [hg]; exact (below_size (by repeat (first | (with_reducible first | exact HB.out | apply below_alloc | apply pw_below_drewN | apply below_drew1) | exact HB.out))) : w.heap.size ≤ gb143)); have n3_ := Aside0.mk ((by rw [hg]; exact (below_size (by repeat (first | (with_reducible first | exact HB.out | apply below_alloc | apply pw_below_drewN | apply below_drew1) | exact HB.out))) : w.heap.size ≤ gb143)); clear HB; have HB := n0_; have BK143 := n1_; have GW143 := n2_; have GE143 := n3_; clear n0_ n1_ n2_ n3_; clear hb hbox hg; have hcz8_0 : w7.cell? ⟨gb143, 0, none⟩ = some (.slice A0_0 l0_0.length c0_0) := (blk_cell BK143.out 0).trans rfl; have hcz8_1 : w7.cell? ⟨gb143, 1, none⟩ = some (.int .i64 a0_1) := (blk_cell BK143.out 1).trans rfl; have hfz8_0 := blk_frozen BK143.out 0; have hfz8_1 := blk_frozen BK143.out 1) | ((with_reducible refine gate_callee (f := 85) rfl ?_); refine goesL_ (some 8) rfl rfl Try.func85 (by kernel_rfl) rfl #[.slice A0_0 l0_0.length c0_0, .int .i64 a1] rfl (by (try simp only [List.map_toArray, List.map_cons, List.map_nil]); first | done | rfl | (simp only [List.length_drop, List.length_take]; rfl)) ?_; (with_reducible refine (laws_heldFrameS.calls k _ _ l0_0 a1 t144 _ ?side1 ?side2 A3.out).mono ?_); (case side1 => repeat (first | exact (Kd.C_below HR0_0.out HB.out) | (with_reducible refine Kd.C_alloc ?_ _) | (with_reducible refine Kd.C_drewN ?_ _) | (with_reducible refine Kd.C_drew ?_))); (case side2 => exact HC0_0.out); rintro e w' ⟨rfl, ⟨nd, rfl⟩⟩; refine ⟨_, rfl, ?_⟩))
    go_ret
    exact ⟨by first | rfl | (simp [errW_none, errW_some] <;> rfl) | (simp [*, errW_none, errW_some] <;> rfl), by repeat (first | (with_reducible first | exact HB.out | apply below_alloc | apply pw_below_drewN | apply below_drew1 | refine below_set ?_ GE143.out) | exact HB.out)⟩

/-! ### laws_FnExactPoolNew: function 6 -/
theorem name_N {W w1 : World} (hb : Below W.heap.size W w1) : ∃ N, N = W.heap.size := ⟨_, rfl⟩
theorem S_oldN {α : Type} {d : Kd α} {e base : Nat} {ok : Nat → Prop} {W w1 : World} {u : Value} {xs : List α} {N : Nat} (hN : N = W.heap.size) (hu : Kd.S d e W base ok u xs) (hb : Below W.heap.size W w1) : Kd.S d e w1 base (fun k => ok k ∧ k < N) u xs := by
  subst hN
  exact Kd.S_old hu hb
theorem S_sinceN {α : Type} {d : Kd α} {e : Nat} {ok : Nat → Prop} {W w1 : World} {u : Value} {xs : List α} {N : Nat} (hN : N = W.heap.size) (h : Kd.S d e w1 W.heap.size ok u xs) : Kd.S d e w1 W.heap.size (fun k => ok k ∧ N ≤ k) u xs := by
  subst hN
  exact Kd.S_mono (Kd.S_bound h) (fun k hk => ⟨hk.1, hk.2.1⟩)
def laws_FnExactPoolNew.f (k : Nat) (a0 : Int) : Option (Bool) := (spec_PoolNew.f k a0).bind fun bt145 => ((impl_PoolNew.f k a0).bind fun bt150 => ((laws_eqPool.f k bt150.1 bt150.2 bt145.1 bt145.2).bind fun t155 => (if t155 = true then ((laws_markPool.f k bt150.1 bt150.2 1).bind fun bt156 => ((laws_heldPool.f k bt156.2 bt150.2 1).bind fun t158 => (if t158 < 0 then (some false) else (if t158 = bt156.1 then ((impl_PoolNew.f k a0).bind fun bt159 => ((laws_eqPool.f k bt159.1 bt159.2 bt145.1 bt145.2).bind fun t164 => (if t164 = true then ((laws_heldPool.f k bt156.2 bt150.2 1).bind fun t165 => (if t165 < 0 then (some false) else (if t165 = bt156.1 then (some true) else (some false)))) else (some false)))) else (some false))))) else (some false))))
theorem laws_FnExactPoolNew.mono : ∀ a0 k, LeO (laws_FnExactPoolNew.f k a0) (laws_FnExactPoolNew.f (k + 1) a0) := by
  intro a0 k
  unfold laws_FnExactPoolNew.f
  repeat' first
      | (with_reducible exact impl_PoolNew.mono _ _)
      | (with_reducible exact laws_eqPool.mono _ _ _ _ _)
      | (with_reducible exact laws_heldPool.mono _ _ _ _)
      | (with_reducible exact laws_markPool.mono _ _ _ _)
      | (with_reducible exact spec_PoolNew.mono _ _)
      | (with_reducible exact LeO.refl _)
      | (with_reducible exact LeO.none _)
      | (with_reducible refine LeO.ite ?_ ?_)
      | (with_reducible refine LeO.bind ?_ (fun _ => ?_))
      | exact impl_PoolNew.mono _ _
      | exact laws_eqPool.mono _ _ _ _ _
      | exact laws_heldPool.mono _ _ _ _
      | exact laws_markPool.mono _ _ _ _
      | exact spec_PoolNew.mono _ _
      | exact LeO.none _
      | refine LeO.ite ?_ ?_
      | refine LeO.bind ?_ (fun _ => ?_)
set_option maxHeartbeats 8000000 in
set_option maxRecDepth 100000 in
theorem laws_FnExactPoolNew.calls (k : Nat) (a0 : Int) (w : World) (h : laws_FnExactPoolNew.f k a0 = some true) :
    Calls Try.prog 6 #[.int .i64 a0] w fun e w' => e = .returned (.bool true) ∧ Below w.heap.size w w' := by
  have hu54 := Try.underlying54
  have HB := Aside0.mk (Below.refl w.heap.size w)
  have H : ((spec_PoolNew.f k a0).bind fun bt145 => ((impl_PoolNew.f k a0).bind fun bt150 => ((laws_eqPool.f k bt150.1 bt150.2 bt145.1 bt145.2).bind fun t155 => (if t155 = true then ((laws_markPool.f k bt150.1 bt150.2 1).bind fun bt156 => ((laws_heldPool.f k bt156.2 bt150.2 1).bind fun t158 => (if t158 < 0 then (some false) else (if t158 = bt156.1 then ((impl_PoolNew.f k a0).bind fun bt159 => ((laws_eqPool.f k bt159.1 bt159.2 bt145.1 bt145.2).bind fun t164 => (if t164 = true then ((laws_heldPool.f k bt156.2 bt150.2 1).bind fun t165 => (if t165 < 0 then (some false) else (if t165 = bt156.1 then (some true) else (some false)))) else (some false)))) else (some false))))) else (some false))))) = some true := h
  clear h
  replace H := Option.bind_eq_some_iff.mp H
  obtain ⟨⟨t145, t148⟩, A20, H⟩ := H
  replace H : ((impl_PoolNew.f k a0).bind fun bt150 => ((laws_eqPool.f k bt150.1 bt150.2 t145 t148).bind fun t155 => (if t155 = true then ((laws_markPool.f k bt150.1 bt150.2 1).bind fun bt156 => ((laws_heldPool.f k bt156.2 bt150.2 1).bind fun t158 => (if t158 < 0 then (some false) else (if t158 = bt156.1 then ((impl_PoolNew.f k a0).bind fun bt159 => ((laws_eqPool.f k bt159.1 bt159.2 t145 t148).bind fun t164 => (if t164 = true then ((laws_heldPool.f k bt156.2 bt150.2 1).bind fun t165 => (if t165 < 0 then (some false) else (if t165 = bt156.1 then (some true) else (some false)))) else (some false)))) else (some false))))) else (some false)))) = some true := H
  have A2 := Aside0.mk A20
  clear A20
  replace H := Option.bind_eq_some_iff.mp H
  obtain ⟨⟨t150, t153⟩, A30, H⟩ := H
  replace H : ((laws_eqPool.f k t150 t153 t145 t148).bind fun t155 => (if t155 = true then ((laws_markPool.f k t150 t153 1).bind fun bt156 => ((laws_heldPool.f k bt156.2 t153 1).bind fun t158 => (if t158 < 0 then (some false) else (if t158 = bt156.1 then ((impl_PoolNew.f k a0).bind fun bt159 => ((laws_eqPool.f k bt159.1 bt159.2 t145 t148).bind fun t164 => (if t164 = true then ((laws_heldPool.f k bt156.2 t153 1).bind fun t165 => (if t165 < 0 then (some false) else (if t165 = bt156.1 then (some true) else (some false)))) else (some false)))) else (some false))))) else (some false))) = some true := H
  have A3 := Aside0.mk A30
  clear A30
  replace H := Option.bind_eq_some_iff.mp H
  obtain ⟨t155, A40, H⟩ := H
  replace H : (if t155 = true then ((laws_markPool.f k t150 t153 1).bind fun bt156 => ((laws_heldPool.f k bt156.2 t153 1).bind fun t158 => (if t158 < 0 then (some false) else (if t158 = bt156.1 then ((impl_PoolNew.f k a0).bind fun bt159 => ((laws_eqPool.f k bt159.1 bt159.2 t145 t148).bind fun t164 => (if t164 = true then ((laws_heldPool.f k bt156.2 t153 1).bind fun t165 => (if t165 < 0 then (some false) else (if t165 = bt156.1 then (some true) else (some false)))) else (some false)))) else (some false))))) else (some false)) = some true := H
  have A4 := Aside0.mk A40
  clear A40
  by_cases c5 : t155 = true
  · subst c5
    have H1 : ((laws_markPool.f k t150 t153 1).bind fun bt156 => ((laws_heldPool.f k bt156.2 t153 1).bind fun t158 => (if t158 < 0 then (some false) else (if t158 = bt156.1 then ((impl_PoolNew.f k a0).bind fun bt159 => ((laws_eqPool.f k bt159.1 bt159.2 t145 t148).bind fun t164 => (if t164 = true then ((laws_heldPool.f k bt156.2 t153 1).bind fun t165 => (if t165 < 0 then (some false) else (if t165 = bt156.1 then (some true) else (some false)))) else (some false)))) else (some false))))) = some true := by rw [if_pos rfl] at H; exact H
    clear H
    have H := H1
    clear H1
    replace H := Option.bind_eq_some_iff.mp H
    obtain ⟨⟨t156, t157⟩, A60, H⟩ := H
    replace H : ((laws_heldPool.f k t157 t153 1).bind fun t158 => (if t158 < 0 then (some false) else (if t158 = t156 then ((impl_PoolNew.f k a0).bind fun bt159 => ((laws_eqPool.f k bt159.1 bt159.2 t145 t148).bind fun t164 => (if t164 = true then ((laws_heldPool.f k t157 t153 1).bind fun t165 => (if t165 < 0 then (some false) else (if t165 = t156 then (some true) else (some false)))) else (some false)))) else (some false)))) = some true := H
    have A6 := Aside0.mk A60
    clear A60
    replace H := Option.bind_eq_some_iff.mp H
    obtain ⟨t158, A70, H⟩ := H
    replace H : (if t158 < 0 then (some false) else (if t158 = t156 then ((impl_PoolNew.f k a0).bind fun bt159 => ((laws_eqPool.f k bt159.1 bt159.2 t145 t148).bind fun t164 => (if t164 = true then ((laws_heldPool.f k t157 t153 1).bind fun t165 => (if t165 < 0 then (some false) else (if t165 = t156 then (some true) else (some false)))) else (some false)))) else (some false))) = some true := H
    have A7 := Aside0.mk A70
    clear A70
    by_cases c8 : t158 < 0
    · rw [if_pos c8] at H
      have c8b0 : decide (t158 < 0) = true := decide_eq_true c8
      clear c8
      exact absurd H (by simp)
    · rw [if_neg c8] at H
      have c8b0 : decide (t158 < 0) = false := decide_eq_false c8
      clear c8
      by_cases c24 : t158 = t156
      · rw [if_pos c24] at H
        have c24b0 : (t158 == t156) = true := beq_iff_eq.mpr c24
        have c24b1 : (t158 != t156) = false := bne_eq_false_iff_eq.mpr c24
        clear c24
        replace H := Option.bind_eq_some_iff.mp H
        obtain ⟨⟨t159, t162⟩, A250, H⟩ := H
        replace H : ((laws_eqPool.f k t159 t162 t145 t148).bind fun t164 => (if t164 = true then ((laws_heldPool.f k t157 t153 1).bind fun t165 => (if t165 < 0 then (some false) else (if t165 = t156 then (some true) else (some false)))) else (some false))) = some true := H
        have A25 := Aside0.mk A250
        clear A250
        replace H := Option.bind_eq_some_iff.mp H
        obtain ⟨t164, A260, H⟩ := H
        replace H : (if t164 = true then ((laws_heldPool.f k t157 t153 1).bind fun t165 => (if t165 < 0 then (some false) else (if t165 = t156 then (some true) else (some false)))) else (some false)) = some true := H
        have A26 := Aside0.mk A260
        clear A260
        by_cases c27 : t164 = true
        · subst c27
          have H1 : ((laws_heldPool.f k t157 t153 1).bind fun t165 => (if t165 < 0 then (some false) else (if t165 = t156 then (some true) else (some false)))) = some true := by rw [if_pos rfl] at H; exact H
          clear H
          have H := H1
          clear H1
          replace H := Option.bind_eq_some_iff.mp H
          obtain ⟨t165, A280, H⟩ := H
          replace H : (if t165 < 0 then (some false) else (if t165 = t156 then (some true) else (some false))) = some true := H
          have A28 := Aside0.mk A280
          clear A280
          by_cases c29 : t165 < 0
          · rw [if_pos c29] at H
            have c29b0 : decide (t165 < 0) = true := decide_eq_true c29
            clear c29
            exact absurd H (by simp)
          · rw [if_neg c29] at H
            have c29b0 : decide (t165 < 0) = false := decide_eq_false c29
            clear c29
            by_cases c55 : t165 = t156
            · rw [if_pos c55] at H
              have c55b0 : (t165 == t156) = true := beq_iff_eq.mpr c55
              have c55b1 : (t165 != t156) = false := bne_eq_false_iff_eq.mpr c55
              clear c55
              skip
              go_enter Try.func6, Try.ntmps6
              go_wp2_with (first | ((with_reducible refine gate_callee (f := 30) rfl ?_); refine goesL_ (some 9) rfl rfl Try.func30 (by kernel_rfl) rfl #[.int .i64 a0] rfl (by (try simp only [List.map_toArray, List.map_cons, List.map_nil]); first | done | rfl | (simp only [List.length_drop, List.length_take]; rfl)) ?_; (with_reducible refine (spec_PoolNew.calls k a0 t145 t148 _ A2.out).mono ?_); rintro e w56 ⟨v146, rfl, ho0, hb⟩; refine ⟨_, rfl, ?_⟩; have n0_ := Aside0.mk (Kd.S_lower ho0 (below_size (by repeat (first | (with_reducible first | exact HB.out | apply below_alloc | apply pw_below_drewN | apply below_drew1) | exact HB.out)))); have n1_ := Aside0.mk (below_step (by repeat (first | (with_reducible first | exact HB.out | apply below_alloc | apply pw_below_drewN | apply below_drew1) | exact HB.out)) hb); clear HB; have HO147 := n0_; have HB := n1_; clear n0_ n1_; (try clear hb); (try clear hb2); (try clear hk); (try clear hi); (try clear ho0)) | ((with_reducible refine gate_dst (N := 3) rfl ?_); refine box_event ?hg (N := 3) ?hd (cs := #[.slice none 0 0, .int .i64 0]) (t := 54) ?hr ?_; (case hd => rfl); (case hg => rfl); (case hr => first | (go_simp; done) | (go_simp; rfl)); intro gb149 hg w57 hbox hb; have n0_ := Aside0.mk (Kd.S_below (by (with_reducible repeat (first | apply Kd.S_alloc | apply Kd.S_drewN | apply Kd.S_drew)); exact HO147.out) hb); have n1_ := Aside0.mk (below_step (by repeat (first | (with_reducible first | exact HB.out | apply below_alloc | apply pw_below_drewN | apply below_drew1) | exact HB.out)) hb); have n2_ := Aside0.mk (hbox); have n3_ := Aside0.mk ((by rw [hg]; exact (below_size (by repeat (first | (with_reducible first | exact HB.out | apply below_alloc | apply pw_below_drewN | apply below_drew1) | exact HB.out))) : w.heap.size ≤ gb149)); have n4_ := Aside0.mk ((by rw [hg]; exact (below_size (by repeat (first | (with_reducible first | exact HB.out | apply below_alloc | apply pw_below_drewN | apply below_drew1) | exact HB.out))) : w.heap.size ≤ gb149)); clear HO147; clear HB; have HO147 := n0_; have HB := n1_; have BK149 := n2_; have GW149 := n3_; have GE149 := n4_; clear n0_ n1_ n2_ n3_ n4_; clear hb hbox hg; obtain ⟨Ao58, co58, eo58⟩ := Kd.S_slice HO147.out; subst eo58; have hcz59_0 : w57.cell? ⟨gb149, 0, none⟩ = some (.slice none 0 0) := (blk_cell BK149.out 0).trans rfl; have hcz59_1 : w57.cell? ⟨gb149, 1, none⟩ = some (.int .i64 0) := (blk_cell BK149.out 1).trans rfl; have hfz59_0 := blk_frozen BK149.out 0; have hfz59_1 := blk_frozen BK149.out 1) | ((with_reducible refine gate_callee (f := 31) rfl ?_); refine goesL_ (some 11) rfl rfl Try.func31 (by kernel_rfl) rfl #[.int .i64 a0] rfl (by (try simp only [List.map_toArray, List.map_cons, List.map_nil]); first | done | rfl | (simp only [List.length_drop, List.length_take]; rfl)) ?_; (with_reducible refine (impl_PoolNew.calls k a0 t150 t153 _ A3.out).mono ?_); rintro e w60 ⟨v151, rfl, ho0, hb⟩; refine ⟨_, rfl, ?_⟩; obtain ⟨N, hN⟩ := name_N hb; have GN := Aside0.mk (show gb149 < N by rw [hN]; exact blk_lt (g := gb149) (o := .cells #[.slice Ao58 t145.length co58, .int .i64 t148] 54 (0, 0)) (by (with_reducible repeat (first | refine blk_drewN ?_ _ | refine blk_drew ?_ | refine blk_alloc ?_ _)); refine blk_put (cs := #[.slice Ao58 t145.length co58, .int .i64 0]) ?_ 1 _ rfl; (with_reducible repeat (first | refine blk_drewN ?_ _ | refine blk_drew ?_ | refine blk_alloc ?_ _)); refine blk_put (cs := #[.slice none 0 0, .int .i64 0]) ?_ 0 _ rfl; (with_reducible repeat (first | refine blk_drewN ?_ _ | refine blk_drew ?_ | refine blk_alloc ?_ _)); exact BK149.out)); have n0_ := Aside0.mk (S_oldN hN (by (with_reducible repeat (first | apply Kd.S_alloc | apply Kd.S_drewN | apply Kd.S_drew)); exact (Kd.S_mono (Kd.S_far (p := ⟨gb149, 1, none⟩) (Kd.S_far (p := ⟨gb149, 0, none⟩) (Kd.S_types HO147.out BK149.out (by decide)) (fun _ hk => hk.2) (.slice Ao58 t145.length co58)) (fun _ hk => hk.2) (.int .i64 t148)) (fun _ h_ => h_.1))) hb); have n1_ := Aside0.mk (Kd.S_lower (S_sinceN hN ho0) (below_size (by repeat (first | (with_reducible first | exact HB.out | apply below_alloc | apply pw_below_drewN | apply below_drew1 | refine below_set ?_ GE149.out) | exact HB.out)))); have n2_ := Aside0.mk (blk_below (g := gb149) (o := .cells #[.slice Ao58 t145.length co58, .int .i64 t148] 54 (0, 0)) (by (with_reducible repeat (first | refine blk_drewN ?_ _ | refine blk_drew ?_ | refine blk_alloc ?_ _)); refine blk_put (cs := #[.slice Ao58 t145.length co58, .int .i64 0]) ?_ 1 _ rfl; (with_reducible repeat (first | refine blk_drewN ?_ _ | refine blk_drew ?_ | refine blk_alloc ?_ _)); refine blk_put (cs := #[.slice none 0 0, .int .i64 0]) ?_ 0 _ rfl; (with_reducible repeat (first | refine blk_drewN ?_ _ | refine blk_drew ?_ | refine blk_alloc ?_ _)); exact BK149.out) hb); have n3_ := Aside0.mk (below_step (by repeat (first | (with_reducible first | exact HB.out | apply below_alloc | apply pw_below_drewN | apply below_drew1 | refine below_set ?_ GE149.out) | exact HB.out)) hb); clear hN; clear HO147; clear BK149; clear HB; have HO147 := n0_; have HO152 := n1_; have BK149 := n2_; have HB := n3_; clear n0_ n1_ n2_ n3_; (try clear hb); (try clear hb2); (try clear hk); (try clear hi); (try clear ho0)) | ((with_reducible refine gate_dst (N := 4) rfl ?_); refine box_event ?hg (N := 4) ?hd (cs := #[.slice none 0 0, .int .i64 0]) (t := 54) ?hr ?_; (case hd => rfl); (case hg => rfl); (case hr => first | (go_simp; done) | (go_simp; rfl)); intro gb154 hg w61 hbox hb; have n0_ := Aside0.mk (Kd.S_below (by (with_reducible repeat (first | apply Kd.S_alloc | apply Kd.S_drewN | apply Kd.S_drew)); exact HO147.out) hb); have n1_ := Aside0.mk (Kd.S_below (by (with_reducible repeat (first | apply Kd.S_alloc | apply Kd.S_drewN | apply Kd.S_drew)); exact HO152.out) hb); have n2_ := Aside0.mk (blk_below (g := gb149) (o := .cells #[.slice Ao58 t145.length co58, .int .i64 t148] 54 (0, 0)) (by (with_reducible repeat (first | refine blk_drewN ?_ _ | refine blk_drew ?_ | refine blk_alloc ?_ _)); exact BK149.out) hb); have n3_ := Aside0.mk (below_step (by repeat (first | (with_reducible first | exact HB.out | apply below_alloc | apply pw_below_drewN | apply below_drew1 | refine below_set ?_ GE149.out) | exact HB.out)) hb); have n4_ := Aside0.mk (hbox); have n5_ := Aside0.mk ((by rw [hg]; exact (below_size (by repeat (first | (with_reducible first | exact HB.out | apply below_alloc | apply pw_below_drewN | apply below_drew1 | refine below_set ?_ GE149.out) | exact HB.out))) : w.heap.size ≤ gb154)); have n6_ := Aside0.mk ((by rw [hg]; exact (below_size (by repeat (first | (with_reducible first | exact HB.out | apply below_alloc | apply pw_below_drewN | apply below_drew1 | refine below_set ?_ GE149.out) | exact HB.out))) : w.heap.size ≤ gb154)); have n7_ := Aside0.mk ((by rw [hg]; exact Nat.ne_of_lt (blk_lt (g := gb149) (o := .cells #[.slice Ao58 t145.length co58, .int .i64 t148] 54 (0, 0)) (by (with_reducible repeat (first | refine blk_drewN ?_ _ | refine blk_drew ?_ | refine blk_alloc ?_ _)); exact BK149.out)) : gb149 ≠ gb154)); have n8_ := Aside0.mk ((by rw [hg]; exact Nat.ne_of_gt (blk_lt (g := gb149) (o := .cells #[.slice Ao58 t145.length co58, .int .i64 t148] 54 (0, 0)) (by (with_reducible repeat (first | refine blk_drewN ?_ _ | refine blk_drew ?_ | refine blk_alloc ?_ _)); exact BK149.out)) : gb154 ≠ gb149)); clear HO147; clear HO152; clear BK149; clear HB; have HO147 := n0_; have HO152 := n1_; have BK149 := n2_; have HB := n3_; have BK154 := n4_; have GW154 := n5_; have GE154 := n6_; have NB149_154 := n7_; have NB154_149 := n8_; clear n0_ n1_ n2_ n3_ n4_ n5_ n6_ n7_ n8_; clear hb hbox hg; obtain ⟨Ao62, co62, eo62⟩ := Kd.S_slice HO152.out; subst eo62; have hnb63 := NB154_149.out; have hnc63 := NB149_154.out; have hcz64_0 : w61.cell? ⟨gb154, 0, none⟩ = some (.slice none 0 0) := (blk_cell BK154.out 0).trans rfl; have hcz64_1 : w61.cell? ⟨gb154, 1, none⟩ = some (.int .i64 0) := (blk_cell BK154.out 1).trans rfl; have hfz64_0 := blk_frozen BK154.out 0; have hfz64_1 := blk_frozen BK154.out 1; have hcz65_0 : w61.cell? ⟨gb149, 0, none⟩ = some (.slice Ao58 t145.length co58) := (blk_cell BK149.out 0).trans rfl; have hcz65_1 : w61.cell? ⟨gb149, 1, none⟩ = some (.int .i64 t148) := (blk_cell BK149.out 1).trans rfl; have hfz65_0 := blk_frozen BK149.out 0; have hfz65_1 := blk_frozen BK149.out 1) | ((with_reducible refine gate_callee (f := 32) rfl ?_); refine goesL_ (some 14) rfl rfl Try.func32 (by kernel_rfl) rfl #[.agg #[.slice Ao62 t150.length co62, .int .i64 t153], .agg #[.slice Ao58 t145.length co58, .int .i64 t148]] rfl (by (try simp only [List.map_toArray, List.map_cons, List.map_nil]); first | done | rfl | (simp only [List.length_drop, List.length_take]; rfl)) ?_; (with_reducible refine (laws_eqPool.calls k _ _ t150 t153 _ _ t145 t148 true _ ?side1 ?side2 ?side3 ?side4 A4.out).mono ?_); (case side1 => refine (Kd.S_reads' (e := 114) (base := w.heap.size) (ok := fun k_ => (True ∧ N ≤ k_)) (n := t150.length) (c := co62) ?_).2.2; exact (by (with_reducible repeat (first | apply Kd.S_alloc | apply Kd.S_drewN | apply Kd.S_drew)); exact (Kd.S_mono (Kd.S_far (p := ⟨gb154, 1, none⟩) (Kd.S_far (p := ⟨gb154, 0, none⟩) (Kd.S_types HO152.out BK154.out (by decide)) (fun _ hk => hk.2) (.slice Ao62 t150.length co62)) (fun _ hk => hk.2) (.int .i64 t153)) (fun _ h_ => h_.1)))); (case side2 => exact (Kd.S_reads' HO152.out).2.1); (case side3 => refine (Kd.S_reads' (e := 114) (base := w.heap.size) (ok := fun k_ => (True ∧ k_ < N)) (n := t145.length) (c := co58) ?_).2.2; exact (by (with_reducible repeat (first | apply Kd.S_alloc | apply Kd.S_drewN | apply Kd.S_drew)); exact (Kd.S_mono (Kd.S_far (p := ⟨gb154, 1, none⟩) (Kd.S_far (p := ⟨gb154, 0, none⟩) (Kd.S_types HO147.out BK154.out (by decide)) (fun _ hk => hk.2) (.slice Ao62 t150.length co62)) (fun _ hk => hk.2) (.int .i64 t153)) (fun _ h_ => h_.1)))); (case side4 => exact (Kd.S_reads' HO147.out).2.1); rintro e w66 ⟨rfl, hb⟩; refine ⟨_, rfl, ?_⟩; have n0_ := Aside0.mk (Kd.S_below (by (with_reducible repeat (first | apply Kd.S_alloc | apply Kd.S_drewN | apply Kd.S_drew)); exact (Kd.S_mono (Kd.S_far (p := ⟨gb154, 1, none⟩) (Kd.S_far (p := ⟨gb154, 0, none⟩) (Kd.S_types HO147.out BK154.out (by decide)) (fun _ hk => hk.2) (.slice Ao62 t150.length co62)) (fun _ hk => hk.2) (.int .i64 t153)) (fun _ h_ => h_.1))) hb); have n1_ := Aside0.mk (Kd.S_below (by (with_reducible repeat (first | apply Kd.S_alloc | apply Kd.S_drewN | apply Kd.S_drew)); exact (Kd.S_mono (Kd.S_far (p := ⟨gb154, 1, none⟩) (Kd.S_far (p := ⟨gb154, 0, none⟩) (Kd.S_types HO152.out BK154.out (by decide)) (fun _ hk => hk.2) (.slice Ao62 t150.length co62)) (fun _ hk => hk.2) (.int .i64 t153)) (fun _ h_ => h_.1))) hb); have n2_ := Aside0.mk (blk_below (g := gb149) (o := .cells #[.slice Ao58 t145.length co58, .int .i64 t148] 54 (0, 0)) (by (with_reducible repeat (first | refine blk_drewN ?_ _ | refine blk_drew ?_ | refine blk_alloc ?_ _)); refine blk_far ?_ NB149_154.out _; (with_reducible repeat (first | refine blk_drewN ?_ _ | refine blk_drew ?_ | refine blk_alloc ?_ _)); refine blk_far ?_ NB149_154.out _; (with_reducible repeat (first | refine blk_drewN ?_ _ | refine blk_drew ?_ | refine blk_alloc ?_ _)); exact BK149.out) hb); have n3_ := Aside0.mk (blk_below (g := gb154) (o := .cells #[.slice Ao62 t150.length co62, .int .i64 t153] 54 (0, 0)) (by (with_reducible repeat (first | refine blk_drewN ?_ _ | refine blk_drew ?_ | refine blk_alloc ?_ _)); refine blk_put (cs := #[.slice Ao62 t150.length co62, .int .i64 0]) ?_ 1 _ rfl; (with_reducible repeat (first | refine blk_drewN ?_ _ | refine blk_drew ?_ | refine blk_alloc ?_ _)); refine blk_put (cs := #[.slice none 0 0, .int .i64 0]) ?_ 0 _ rfl; (with_reducible repeat (first | refine blk_drewN ?_ _ | refine blk_drew ?_ | refine blk_alloc ?_ _)); exact BK154.out) hb); have n4_ := Aside0.mk (below_step (by repeat (first | (with_reducible first | exact HB.out | apply below_alloc | apply pw_below_drewN | apply below_drew1 | refine below_set ?_ GE149.out | refine below_set ?_ GE154.out) | exact HB.out)) hb); clear HO147; clear HO152; clear BK149; clear BK154; clear HB; have HO147 := n0_; have HO152 := n1_; have BK149 := n2_; have BK154 := n3_; have HB := n4_; clear n0_ n1_ n2_ n3_ n4_; (try clear hb); (try clear hb2); (try clear hk); (try clear hi); have hcz67_0 : w66.cell? ⟨gb154, 0, none⟩ = some (.slice Ao62 t150.length co62) := (blk_cell BK154.out 0).trans rfl; have hcz67_1 : w66.cell? ⟨gb154, 1, none⟩ = some (.int .i64 t153) := (blk_cell BK154.out 1).trans rfl; have hfz67_0 := blk_frozen BK154.out 0; have hfz67_1 := blk_frozen BK154.out 1) | ((with_reducible refine gate_callee (f := 33) rfl ?_); refine goesL_ (some 18) rfl rfl Try.func33 (by kernel_rfl) rfl #[.agg #[.slice Ao62 t150.length co62, .int .i64 t153], .int .i64 1] rfl (by (try simp only [List.map_toArray, List.map_cons, List.map_nil]); first | done | rfl | (simp only [List.length_drop, List.length_take]; rfl)) ?_; (with_reducible refine (laws_markPool.calls k (fun k_ => (True ∧ N ≤ k_) ∧ k_ ≠ gb154) (.slice Ao62 t150.length co62) t150 t153 1 t156 t157 w _ ?side1 ?side2 A6.out).mono ?_); (case side1 => repeat (first | (with_reducible first | exact HB.out | apply below_alloc | apply pw_below_drewN | apply below_drew1 | refine below_set ?_ GE149.out | refine below_set ?_ GE154.out) | exact HB.out)); (case side2 => exact Kd.S_types HO152.out BK154.out (by decide)); rintro e w68 ⟨rfl, hy0, hb, hkp⟩; refine ⟨_, rfl, ?_⟩; have n0_ := Aside0.mk (Kd.S_mono (ok' := fun k_ => k_ < N) (Kd.S_keptB (HO147.out) hkp (fun k_ hk_ hs_ => (Nat.not_le.2 hk_.2) hs_.1.2)) (fun k_ hk_ => hk_.1.2)); have n1_ := Aside0.mk (blk_kept (by (with_reducible repeat (first | refine blk_drewN ?_ _ | refine blk_drew ?_ | refine blk_alloc ?_ _)); exact BK149.out) hkp (fun hs_ => absurd hs_.1.2 (Nat.not_le.2 GN.out))); have n2_ := Aside0.mk (hy0); have n3_ := Aside0.mk (blk_kept (by (with_reducible repeat (first | refine blk_drewN ?_ _ | refine blk_drew ?_ | refine blk_alloc ?_ _)); exact BK154.out) hkp (fun hs_ => hs_.2 rfl)); have n4_ := Aside0.mk (hb); clear HO147; clear BK149; clear HO152; clear BK154; clear HB; have HO147 := n0_; have BK149 := n1_; have HO152 := n2_; have BK154 := n3_; have HB := n4_; clear n0_ n1_ n2_ n3_ n4_; (try clear hb); (try clear hkp); (try clear hy0); have hcz69_0 : w68.cell? ⟨gb154, 0, none⟩ = some (.slice Ao62 t150.length co62) := (blk_cell BK154.out 0).trans rfl; have hcz69_1 : w68.cell? ⟨gb154, 1, none⟩ = some (.int .i64 t153) := (blk_cell BK154.out 1).trans rfl; have hfz69_0 := blk_frozen BK154.out 0; have hfz69_1 := blk_frozen BK154.out 1) | ((with_reducible refine gate_callee (f := 34) rfl ?_); refine goesL_ (some 21) rfl rfl Try.func34 (by kernel_rfl) rfl #[.agg #[.slice Ao62 t157.length co62, .int .i64 t153], .int .i64 1] rfl (by (try simp only [List.map_toArray, List.map_cons, List.map_nil]); first | done | (rw [show t157.length = t150.length from (Kd.S_reads' HO152.out).1.symm] <;> rfl) | rfl | (simp only [List.length_drop, List.length_take]; rfl)) ?_; (with_reducible refine (laws_heldPool.calls k _ _ t157 t153 1 t158 _ ?side1 ?side2 A7.out).mono ?_); (case side1 => repeat (first | exact (Kd.S_reads' HO152.out).2.2 | (with_reducible refine Kd.C_alloc ?_ _) | (with_reducible refine Kd.C_drewN ?_ _) | (with_reducible refine Kd.C_drew ?_))); (case side2 => rw [show t157.length = t150.length from (Kd.S_reads' HO152.out).1.symm]; exact (Kd.S_reads' HO152.out).2.1); rintro e w70 ⟨rfl, hb⟩; refine ⟨_, rfl, ?_⟩; have n0_ := Aside0.mk (Kd.S_below (by (with_reducible repeat (first | apply Kd.S_alloc | apply Kd.S_drewN | apply Kd.S_drew)); exact HO147.out) hb); have n1_ := Aside0.mk (Kd.S_below (by (with_reducible repeat (first | apply Kd.S_alloc | apply Kd.S_drewN | apply Kd.S_drew)); exact HO152.out) hb); have n2_ := Aside0.mk (blk_below (g := gb149) (o := .cells #[.slice Ao58 t145.length co58, .int .i64 t148] 54 (0, 0)) (by (with_reducible repeat (first | refine blk_drewN ?_ _ | refine blk_drew ?_ | refine blk_alloc ?_ _)); exact BK149.out) hb); have n3_ := Aside0.mk (blk_below (g := gb154) (o := .cells #[.slice Ao62 t150.length co62, .int .i64 t153] 54 (0, 0)) (by (with_reducible repeat (first | refine blk_drewN ?_ _ | refine blk_drew ?_ | refine blk_alloc ?_ _)); exact BK154.out) hb); have n4_ := Aside0.mk (below_step (by repeat (first | (with_reducible first | exact HB.out | apply below_alloc | apply pw_below_drewN | apply below_drew1 | refine below_set ?_ GE149.out | refine below_set ?_ GE154.out) | exact HB.out)) hb); clear HO147; clear HO152; clear BK149; clear BK154; clear HB; have HO147 := n0_; have HO152 := n1_; have BK149 := n2_; have BK154 := n3_; have HB := n4_; clear n0_ n1_ n2_ n3_ n4_; (try clear hb); (try clear hb2); (try clear hk); (try clear hi)) | ((with_reducible refine gate_callee (f := 31) rfl ?_); refine goesL_ (some 28) rfl rfl Try.func31 (by kernel_rfl) rfl #[.int .i64 a0] rfl (by (try simp only [List.map_toArray, List.map_cons, List.map_nil]); first | done | rfl | (simp only [List.length_drop, List.length_take]; rfl)) ?_; (with_reducible refine (impl_PoolNew.calls k a0 t159 t162 _ A25.out).mono ?_); rintro e w71 ⟨v160, rfl, ho0, hb⟩; refine ⟨_, rfl, ?_⟩; have n0_ := Aside0.mk (Kd.S_elder' (by (with_reducible repeat (first | apply Kd.S_alloc | apply Kd.S_drewN | apply Kd.S_drew)); exact HO147.out) (Kd.S_base ho0) hb); have n1_ := Aside0.mk (Kd.S_elder' (by (with_reducible repeat (first | apply Kd.S_alloc | apply Kd.S_drewN | apply Kd.S_drew)); exact HO152.out) (Kd.S_base ho0) hb); have n2_ := Aside0.mk (Kd.S_lower (Kd.S_new' (Kd.S_new' ho0 (Kd.S_lt (by (with_reducible repeat (first | apply Kd.S_alloc | apply Kd.S_drewN | apply Kd.S_drew)); exact HO147.out))) (Kd.S_lt (by (with_reducible repeat (first | apply Kd.S_alloc | apply Kd.S_drewN | apply Kd.S_drew)); exact HO152.out))) (below_size (by repeat (first | (with_reducible first | exact HB.out | apply below_alloc | apply pw_below_drewN | apply below_drew1 | refine below_set ?_ GE149.out | refine below_set ?_ GE154.out) | exact HB.out)))); have n3_ := Aside0.mk (blk_below (g := gb149) (o := .cells #[.slice Ao58 t145.length co58, .int .i64 t148] 54 (0, 0)) (by (with_reducible repeat (first | refine blk_drewN ?_ _ | refine blk_drew ?_ | refine blk_alloc ?_ _)); exact BK149.out) hb); have n4_ := Aside0.mk (blk_below (g := gb154) (o := .cells #[.slice Ao62 t150.length co62, .int .i64 t153] 54 (0, 0)) (by (with_reducible repeat (first | refine blk_drewN ?_ _ | refine blk_drew ?_ | refine blk_alloc ?_ _)); exact BK154.out) hb); have n5_ := Aside0.mk (below_step (by repeat (first | (with_reducible first | exact HB.out | apply below_alloc | apply pw_below_drewN | apply below_drew1 | refine below_set ?_ GE149.out | refine below_set ?_ GE154.out) | exact HB.out)) hb); clear HO147; clear HO152; clear BK149; clear BK154; clear HB; have HO147 := n0_; have HO152 := n1_; have HO161 := n2_; have BK149 := n3_; have BK154 := n4_; have HB := n5_; clear n0_ n1_ n2_ n3_ n4_ n5_; (try clear hb); (try clear hb2); (try clear hk); (try clear hi); (try clear ho0)) | ((with_reducible refine gate_dst (N := 7) rfl ?_); refine box_event ?hg (N := 7) ?hd (cs := #[.slice none 0 0, .int .i64 0]) (t := 54) ?hr ?_; (case hd => rfl); (case hg => rfl); (case hr => first | (go_simp; done) | (go_simp; rfl)); intro gb163 hg w72 hbox hb; have n0_ := Aside0.mk (Kd.S_below (by (with_reducible repeat (first | apply Kd.S_alloc | apply Kd.S_drewN | apply Kd.S_drew)); exact HO147.out) hb); have n1_ := Aside0.mk (Kd.S_below (by (with_reducible repeat (first | apply Kd.S_alloc | apply Kd.S_drewN | apply Kd.S_drew)); exact HO152.out) hb); have n2_ := Aside0.mk (Kd.S_below (by (with_reducible repeat (first | apply Kd.S_alloc | apply Kd.S_drewN | apply Kd.S_drew)); exact HO161.out) hb); have n3_ := Aside0.mk (blk_below (g := gb149) (o := .cells #[.slice Ao58 t145.length co58, .int .i64 t148] 54 (0, 0)) (by (with_reducible repeat (first | refine blk_drewN ?_ _ | refine blk_drew ?_ | refine blk_alloc ?_ _)); exact BK149.out) hb); have n4_ := Aside0.mk (blk_below (g := gb154) (o := .cells #[.slice Ao62 t150.length co62, .int .i64 t153] 54 (0, 0)) (by (with_reducible repeat (first | refine blk_drewN ?_ _ | refine blk_drew ?_ | refine blk_alloc ?_ _)); exact BK154.out) hb); have n5_ := Aside0.mk (below_step (by repeat (first | (with_reducible first | exact HB.out | apply below_alloc | apply pw_below_drewN | apply below_drew1 | refine below_set ?_ GE149.out | refine below_set ?_ GE154.out) | exact HB.out)) hb); have n6_ := Aside0.mk (hbox); have n7_ := Aside0.mk ((by rw [hg]; exact (below_size (by repeat (first | (with_reducible first | exact HB.out | apply below_alloc | apply pw_below_drewN | apply below_drew1 | refine below_set ?_ GE149.out | refine below_set ?_ GE154.out) | exact HB.out))) : w.heap.size ≤ gb163)); have n8_ := Aside0.mk ((by rw [hg]; exact (below_size (by repeat (first | (with_reducible first | exact HB.out | apply below_alloc | apply pw_below_drewN | apply below_drew1 | refine below_set ?_ GE149.out | refine below_set ?_ GE154.out) | exact HB.out))) : w.heap.size ≤ gb163)); have n9_ := Aside0.mk ((by rw [hg]; exact Nat.ne_of_lt (blk_lt (g := gb149) (o := .cells #[.slice Ao58 t145.length co58, .int .i64 t148] 54 (0, 0)) (by (with_reducible repeat (first | refine blk_drewN ?_ _ | refine blk_drew ?_ | refine blk_alloc ?_ _)); exact BK149.out)) : gb149 ≠ gb163)); have n10_ := Aside0.mk ((by rw [hg]; exact Nat.ne_of_gt (blk_lt (g := gb149) (o := .cells #[.slice Ao58 t145.length co58, .int .i64 t148] 54 (0, 0)) (by (with_reducible repeat (first | refine blk_drewN ?_ _ | refine blk_drew ?_ | refine blk_alloc ?_ _)); exact BK149.out)) : gb163 ≠ gb149)); have n11_ := Aside0.mk ((by rw [hg]; exact Nat.ne_of_lt (blk_lt (g := gb154) (o := .cells #[.slice Ao62 t150.length co62, .int .i64 t153] 54 (0, 0)) (by (with_reducible repeat (first | refine blk_drewN ?_ _ | refine blk_drew ?_ | refine blk_alloc ?_ _)); exact BK154.out)) : gb154 ≠ gb163)); have n12_ := Aside0.mk ((by rw [hg]; exact Nat.ne_of_gt (blk_lt (g := gb154) (o := .cells #[.slice Ao62 t150.length co62, .int .i64 t153] 54 (0, 0)) (by (with_reducible repeat (first | refine blk_drewN ?_ _ | refine blk_drew ?_ | refine blk_alloc ?_ _)); exact BK154.out)) : gb163 ≠ gb154)); clear HO147; clear HO152; clear HO161; clear BK149; clear BK154; clear HB; have HO147 := n0_; have HO152 := n1_; have HO161 := n2_; have BK149 := n3_; have BK154 := n4_; have HB := n5_; have BK163 := n6_; have GW163 := n7_; have GE163 := n8_; have NB149_163 := n9_; have NB163_149 := n10_; have NB154_163 := n11_; have NB163_154 := n12_; clear n0_ n1_ n2_ n3_ n4_ n5_ n6_ n7_ n8_ n9_ n10_ n11_ n12_; clear hb hbox hg; obtain ⟨Ao73, co73, eo73⟩ := Kd.S_slice HO161.out; subst eo73; have hnb74 := NB163_149.out; have hnc74 := NB149_163.out; have hnb75 := NB163_154.out; have hnc75 := NB154_163.out; have hcz76_0 : w72.cell? ⟨gb163, 0, none⟩ = some (.slice none 0 0) := (blk_cell BK163.out 0).trans rfl; have hcz76_1 : w72.cell? ⟨gb163, 1, none⟩ = some (.int .i64 0) := (blk_cell BK163.out 1).trans rfl; have hfz76_0 := blk_frozen BK163.out 0; have hfz76_1 := blk_frozen BK163.out 1; have hcz77_0 : w72.cell? ⟨gb149, 0, none⟩ = some (.slice Ao58 t145.length co58) := (blk_cell BK149.out 0).trans rfl; have hcz77_1 : w72.cell? ⟨gb149, 1, none⟩ = some (.int .i64 t148) := (blk_cell BK149.out 1).trans rfl; have hfz77_0 := blk_frozen BK149.out 0; have hfz77_1 := blk_frozen BK149.out 1) | ((with_reducible refine gate_callee (f := 32) rfl ?_); refine goesL_ (some 31) rfl rfl Try.func32 (by kernel_rfl) rfl #[.agg #[.slice Ao73 t159.length co73, .int .i64 t162], .agg #[.slice Ao58 t145.length co58, .int .i64 t148]] rfl (by (try simp only [List.map_toArray, List.map_cons, List.map_nil]); first | done | rfl | (simp only [List.length_drop, List.length_take]; rfl)) ?_; (with_reducible refine (laws_eqPool.calls k _ _ t159 t162 _ _ t145 t148 true _ ?side1 ?side2 ?side3 ?side4 A26.out).mono ?_); (case side1 => refine (Kd.S_reads' (e := 114) (base := w.heap.size) (ok := fun k_ => ((True ∧ some k_ ≠ (.slice Ao58 t145.length co58 : Value).ownBlock) ∧ some k_ ≠ (.slice Ao62 t150.length co62 : Value).ownBlock)) (n := t159.length) (c := co73) ?_).2.2; exact (by (with_reducible repeat (first | apply Kd.S_alloc | apply Kd.S_drewN | apply Kd.S_drew)); exact (Kd.S_mono (Kd.S_far (p := ⟨gb163, 1, none⟩) (Kd.S_far (p := ⟨gb163, 0, none⟩) (Kd.S_types HO161.out BK163.out (by decide)) (fun _ hk => hk.2) (.slice Ao73 t159.length co73)) (fun _ hk => hk.2) (.int .i64 t162)) (fun _ h_ => h_.1)))); (case side2 => exact (Kd.S_reads' HO161.out).2.1); (case side3 => refine (Kd.S_reads' (e := 114) (base := w.heap.size) (ok := fun k_ => (k_ < N ∧ some k_ ≠ (.slice Ao73 t159.length co73 : Value).ownBlock)) (n := t145.length) (c := co58) ?_).2.2; exact (by (with_reducible repeat (first | apply Kd.S_alloc | apply Kd.S_drewN | apply Kd.S_drew)); exact (Kd.S_mono (Kd.S_far (p := ⟨gb163, 1, none⟩) (Kd.S_far (p := ⟨gb163, 0, none⟩) (Kd.S_types HO147.out BK163.out (by decide)) (fun _ hk => hk.2) (.slice Ao73 t159.length co73)) (fun _ hk => hk.2) (.int .i64 t162)) (fun _ h_ => h_.1)))); (case side4 => exact (Kd.S_reads' HO147.out).2.1); rintro e w78 ⟨rfl, hb⟩; refine ⟨_, rfl, ?_⟩; have n0_ := Aside0.mk (Kd.S_below (by (with_reducible repeat (first | apply Kd.S_alloc | apply Kd.S_drewN | apply Kd.S_drew)); exact (Kd.S_mono (Kd.S_far (p := ⟨gb163, 1, none⟩) (Kd.S_far (p := ⟨gb163, 0, none⟩) (Kd.S_types HO147.out BK163.out (by decide)) (fun _ hk => hk.2) (.slice Ao73 t159.length co73)) (fun _ hk => hk.2) (.int .i64 t162)) (fun _ h_ => h_.1))) hb); have n1_ := Aside0.mk (Kd.S_below (by (with_reducible repeat (first | apply Kd.S_alloc | apply Kd.S_drewN | apply Kd.S_drew)); exact (Kd.S_mono (Kd.S_far (p := ⟨gb163, 1, none⟩) (Kd.S_far (p := ⟨gb163, 0, none⟩) (Kd.S_types HO152.out BK163.out (by decide)) (fun _ hk => hk.2) (.slice Ao73 t159.length co73)) (fun _ hk => hk.2) (.int .i64 t162)) (fun _ h_ => h_.1))) hb); have n2_ := Aside0.mk (Kd.S_below (by (with_reducible repeat (first | apply Kd.S_alloc | apply Kd.S_drewN | apply Kd.S_drew)); exact (Kd.S_mono (Kd.S_far (p := ⟨gb163, 1, none⟩) (Kd.S_far (p := ⟨gb163, 0, none⟩) (Kd.S_types HO161.out BK163.out (by decide)) (fun _ hk => hk.2) (.slice Ao73 t159.length co73)) (fun _ hk => hk.2) (.int .i64 t162)) (fun _ h_ => h_.1))) hb); have n3_ := Aside0.mk (blk_below (g := gb149) (o := .cells #[.slice Ao58 t145.length co58, .int .i64 t148] 54 (0, 0)) (by (with_reducible repeat (first | refine blk_drewN ?_ _ | refine blk_drew ?_ | refine blk_alloc ?_ _)); refine blk_far ?_ NB149_163.out _; (with_reducible repeat (first | refine blk_drewN ?_ _ | refine blk_drew ?_ | refine blk_alloc ?_ _)); refine blk_far ?_ NB149_163.out _; (with_reducible repeat (first | refine blk_drewN ?_ _ | refine blk_drew ?_ | refine blk_alloc ?_ _)); exact BK149.out) hb); have n4_ := Aside0.mk (blk_below (g := gb154) (o := .cells #[.slice Ao62 t150.length co62, .int .i64 t153] 54 (0, 0)) (by (with_reducible repeat (first | refine blk_drewN ?_ _ | refine blk_drew ?_ | refine blk_alloc ?_ _)); refine blk_far ?_ NB154_163.out _; (with_reducible repeat (first | refine blk_drewN ?_ _ | refine blk_drew ?_ | refine blk_alloc ?_ _)); refine blk_far ?_ NB154_163.out _; (with_reducible repeat (first | refine blk_drewN ?_ _ | refine blk_drew ?_ | refine blk_alloc ?_ _)); exact BK154.out) hb); have n5_ := Aside0.mk (blk_below (g := gb163) (o := .cells #[.slice Ao73 t159.length co73, .int .i64 t162] 54 (0, 0)) (by (with_reducible repeat (first | refine blk_drewN ?_ _ | refine blk_drew ?_ | refine blk_alloc ?_ _)); refine blk_put (cs := #[.slice Ao73 t159.length co73, .int .i64 0]) ?_ 1 _ rfl; (with_reducible repeat (first | refine blk_drewN ?_ _ | refine blk_drew ?_ | refine blk_alloc ?_ _)); refine blk_put (cs := #[.slice none 0 0, .int .i64 0]) ?_ 0 _ rfl; (with_reducible repeat (first | refine blk_drewN ?_ _ | refine blk_drew ?_ | refine blk_alloc ?_ _)); exact BK163.out) hb); have n6_ := Aside0.mk (below_step (by repeat (first | (with_reducible first | exact HB.out | apply below_alloc | apply pw_below_drewN | apply below_drew1 | refine below_set ?_ GE149.out | refine below_set ?_ GE154.out | refine below_set ?_ GE163.out) | exact HB.out)) hb); clear HO147; clear HO152; clear HO161; clear BK149; clear BK154; clear BK163; clear HB; have HO147 := n0_; have HO152 := n1_; have HO161 := n2_; have BK149 := n3_; have BK154 := n4_; have BK163 := n5_; have HB := n6_; clear n0_ n1_ n2_ n3_ n4_ n5_ n6_; (try clear hb); (try clear hb2); (try clear hk); (try clear hi); have hcz79_0 : w78.cell? ⟨gb154, 0, none⟩ = some (.slice Ao62 t150.length co62) := (blk_cell BK154.out 0).trans rfl; have hcz79_1 : w78.cell? ⟨gb154, 1, none⟩ = some (.int .i64 t153) := (blk_cell BK154.out 1).trans rfl; have hfz79_0 := blk_frozen BK154.out 0; have hfz79_1 := blk_frozen BK154.out 1) | ((with_reducible refine gate_callee (f := 34) rfl ?_); refine goesL_ (some 35) rfl rfl Try.func34 (by kernel_rfl) rfl #[.agg #[.slice Ao62 t157.length co62, .int .i64 t153], .int .i64 1] rfl (by (try simp only [List.map_toArray, List.map_cons, List.map_nil]); first | done | (rw [show t157.length = t150.length from (Kd.S_reads' HO152.out).1.symm] <;> rfl) | rfl | (simp only [List.length_drop, List.length_take]; rfl)) ?_; (with_reducible refine (laws_heldPool.calls k _ _ t157 t153 1 t165 _ ?side1 ?side2 A28.out).mono ?_); (case side1 => repeat (first | exact (Kd.S_reads' HO152.out).2.2 | (with_reducible refine Kd.C_alloc ?_ _) | (with_reducible refine Kd.C_drewN ?_ _) | (with_reducible refine Kd.C_drew ?_))); (case side2 => rw [show t157.length = t150.length from (Kd.S_reads' HO152.out).1.symm]; exact (Kd.S_reads' HO152.out).2.1); rintro e w80 ⟨rfl, hb⟩; refine ⟨_, rfl, ?_⟩; have n0_ := Aside0.mk (Kd.S_below (by (with_reducible repeat (first | apply Kd.S_alloc | apply Kd.S_drewN | apply Kd.S_drew)); exact HO147.out) hb); have n1_ := Aside0.mk (Kd.S_below (by (with_reducible repeat (first | apply Kd.S_alloc | apply Kd.S_drewN | apply Kd.S_drew)); exact HO152.out) hb); have n2_ := Aside0.mk (Kd.S_below (by (with_reducible repeat (first | apply Kd.S_alloc | apply Kd.S_drewN | apply Kd.S_drew)); exact HO161.out) hb); have n3_ := Aside0.mk (blk_below (g := gb149) (o := .cells #[.slice Ao58 t145.length co58, .int .i64 t148] 54 (0, 0)) (by (with_reducible repeat (first | refine blk_drewN ?_ _ | refine blk_drew ?_ | refine blk_alloc ?_ _)); exact BK149.out) hb); have n4_ := Aside0.mk (blk_below (g := gb154) (o := .cells #[.slice Ao62 t150.length co62, .int .i64 t153] 54 (0, 0)) (by (with_reducible repeat (first | refine blk_drewN ?_ _ | refine blk_drew ?_ | refine blk_alloc ?_ _)); exact BK154.out) hb); have n5_ := Aside0.mk (blk_below (g := gb163) (o := .cells #[.slice Ao73 t159.length co73, .int .i64 t162] 54 (0, 0)) (by (with_reducible repeat (first | refine blk_drewN ?_ _ | refine blk_drew ?_ | refine blk_alloc ?_ _)); exact BK163.out) hb); have n6_ := Aside0.mk (below_step (by repeat (first | (with_reducible first | exact HB.out | apply below_alloc | apply pw_below_drewN | apply below_drew1 | refine below_set ?_ GE149.out | refine below_set ?_ GE154.out | refine below_set ?_ GE163.out) | exact HB.out)) hb); clear HO147; clear HO152; clear HO161; clear BK149; clear BK154; clear BK163; clear HB; have HO147 := n0_; have HO152 := n1_; have HO161 := n2_; have BK149 := n3_; have BK154 := n4_; have BK163 := n5_; have HB := n6_; clear n0_ n1_ n2_ n3_ n4_ n5_ n6_; (try clear hb); (try clear hb2); (try clear hk); (try clear hi)))
              go_ret
              exact ⟨by first | rfl | (simp [errW_none, errW_some] <;> rfl) | (simp [*, errW_none, errW_some] <;> rfl), by repeat (first | (with_reducible first | exact HB.out | apply below_alloc | apply pw_below_drewN | apply below_drew1 | refine below_set ?_ GE149.out | refine below_set ?_ GE154.out | refine below_set ?_ GE163.out) | exact HB.out)⟩
            · rw [if_neg c55] at H
              have c55b0 : (t165 == t156) = false := beq_eq_false_iff_ne.mpr c55
              have c55b1 : (t165 != t156) = true := bne_iff_ne.mpr c55
              exact absurd H (by simp)
        · replace c27 := Bool.eq_false_iff.mpr c27
          subst c27
          have H1 : (some false) = some true := by rw [if_neg (show ¬ (false = true) by decide)] at H; exact H
          clear H
          have H := H1
          clear H1
          exact absurd H (by simp)
      · rw [if_neg c24] at H
        have c24b0 : (t158 == t156) = false := beq_eq_false_iff_ne.mpr c24
        have c24b1 : (t158 != t156) = true := bne_iff_ne.mpr c24
        exact absurd H (by simp)
  · replace c5 := Bool.eq_false_iff.mpr c5
    subst c5
    have H1 : (some false) = some true := by rw [if_neg (show ¬ (false = true) by decide)] at H; exact H
    clear H
    have H := H1
    clear H1
    exact absurd H (by simp)

end Go.Proofs.Ytmggneijkhmigaa.QFnExactPoolNew
