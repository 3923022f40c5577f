/- Proved: contracts of functions that FnExactPageLSN reaches (a print of the kit's program, parted and shortened by squeeze.py). No statement of the seat is proved here. -/
import Derived.Test.YtknodhkifmklfaaDoorQFnExactPageLSNx0
import Derived.Test.YtknodhkifmklfaaDoorQFnExactPageLSNx1
namespace Go.Proofs.YtknodhkifmklfaaDoor.QFnExactPageLSN
open Go.RowKit Go.Proofs.YtknodhkifmklfaaDoorW.PrintWords Go.Proofs.YtknodhkifmklfaaDoorW.PrintLast Go.Proofs.YtknodhkifmklfaaDoorW.PrintMore
attribute [local go_sem] max2_int min2_int max_two min_two max_three min_three max_four min_four   -- for this text's walks alone
set_option linter.unusedVariables false
set_option linter.unusedSimpArgs false

/-! ### spec_PageFault: function 15 -/
mutual
def spec_PageFault.j0 : Nat → List Int → Bool → Option (Int)
  | 0, _, _ => none
  | k + 1, x0, x39 => if x39 = true then (some 3) else ((spec_l3Bottom.f k x0).bind fun t125 => (if t125 < 148 then (spec_PageFault.j1 k x0 t125 true) else (spec_PageFault.j1 k x0 t125 (decide (t125 > 4096)))))
def spec_PageFault.j1 : Nat → List Int → Int → Bool → Option (Int)
  | 0, _, _, _ => none
  | k + 1, x0, x6, x47 => if x47 = true then (some 4) else ((spec_l3Slots.f k x0).bind fun t126 => (spec_PageFault.l0 k x6 t126 0))
def spec_PageFault.l0 : Nat → Int → List (S36) → Int → Option (Int)
  | 0, _, _, _ => none
  | k + 1, x6, x7, x8 => if x8 < (x7.length : Int) then (if 0 ≤ x8 then (if ((rd_T36 x7 x8).f0) = 0 then (spec_PageFault.j3 k x6 x7 x8 (((rd_T36 x7 x8).f1) != 0) ((rd_T36 x7 x8).f0) ((rd_T36 x7 x8).f1)) else (spec_PageFault.j3 k x6 x7 x8 false ((rd_T36 x7 x8).f0) ((rd_T36 x7 x8).f1))) else (none)) else (if 4096 ≤ 281474976710656 then (spec_PageFault.l1 k x7 (List.replicate 4096 false) 0) else (none))
def spec_PageFault.j3 : Nat → Int → List (S36) → Int → Bool → Int → Int → Option (Int)
  | 0, _, _, _, _, _, _ => none
  | k + 1, x6, x7, x8, x67, x131000, x131001 => if x67 = true then (some 5) else (if x131000 = 0 then (spec_PageFault.l0 k x6 x7 (wrap64 (x8 + 1))) else (if x131001 > 1000 then (some 5) else (if x131000 < x6 then (some 5) else (if (wrap64 (x131000 + x131001)) > 4096 then (some 5) else (spec_PageFault.l0 k x6 x7 (wrap64 (x8 + 1)))))))
def spec_PageFault.l1 : Nat → List (S36) → List Bool → Int → Option (Int)
  | 0, _, _, _ => none
  | k + 1, x7, x10, x11 => if x11 < (x7.length : Int) then (if 0 ≤ x11 then (spec_PageFault.l2 k x7 x10 x11 ((rd_T36 x7 x11).f0)) else (none)) else (some 0)
def spec_PageFault.l2 : Nat → List (S36) → List Bool → Int → Int → Option (Int)
  | 0, _, _, _, _ => none
  | k + 1, x7, x10, x11, x12 => if 0 ≤ x11 then (if x11 < (x7.length : Int) then (if x12 < (wrap64 (((rd_T36 x7 x11).f0) + ((rd_T36 x7 x11).f1))) then (if 0 ≤ x12 then (if x12 < (x10.length : Int) then (if rdOf false x10 x12 = true then (some 6) else (spec_PageFault.l2 k x7 (x10.set (x12 : Int).toNat true) x11 (wrap64 (x12 + 1)))) else (none)) else (none)) else (spec_PageFault.l1 k x7 x10 (wrap64 (x11 + 1)))) else (none)) else (none)
end
def spec_PageFault.f (k : Nat) (l0 : List Int) (a1 : Int) : Option (Int) := if (l0.length : Int) = 4096 then ((spec_l3Number.f k l0 12 4).bind fun t121 => (if t121 = a1 then ((spec_l3Number.f k l0 4 8).bind fun t122 => (if t122 < 0 then (spec_PageFault.j0 k l0 true) else (if t122 > 1099511627776 then (spec_PageFault.j0 k l0 true) else (if 18 < (l0.length : Int) then (if (rd l0 18) = 0 then (if 19 < (l0.length : Int) then (spec_PageFault.j0 k l0 ((rd l0 19) != 0)) else (none)) else (spec_PageFault.j0 k l0 true)) else (none))))) else (some 2))) else (some 1)
theorem spec_PageFault.mono_l : ∀ k, (∀ y0 y1, LeO (spec_PageFault.j0 k y0 y1) (spec_PageFault.j0 (k + 1) y0 y1)) ∧ (∀ y0 y1 y2, LeO (spec_PageFault.j1 k y0 y1 y2) (spec_PageFault.j1 (k + 1) y0 y1 y2)) ∧ (∀ y0 y1 y2, LeO (spec_PageFault.l0 k y0 y1 y2) (spec_PageFault.l0 (k + 1) y0 y1 y2)) ∧ (∀ y0 y1 y2 y3 y4 y5, LeO (spec_PageFault.j3 k y0 y1 y2 y3 y4 y5) (spec_PageFault.j3 (k + 1) y0 y1 y2 y3 y4 y5)) ∧ (∀ y0 y1 y2, LeO (spec_PageFault.l1 k y0 y1 y2) (spec_PageFault.l1 (k + 1) y0 y1 y2)) ∧ (∀ y0 y1 y2 y3, LeO (spec_PageFault.l2 k y0 y1 y2 y3) (spec_PageFault.l2 (k + 1) y0 y1 y2 y3))
  | 0 => ⟨fun _ _ r h => by simp [spec_PageFault.j0] at h, fun _ _ _ r h => by simp [spec_PageFault.j1] at h, fun _ _ _ r h => by simp [spec_PageFault.l0] at h, fun _ _ _ _ _ _ r h => by simp [spec_PageFault.j3] at h, fun _ _ _ r h => by simp [spec_PageFault.l1] at h, fun _ _ _ _ r h => by simp [spec_PageFault.l2] at h⟩
  | k + 1 => by
    obtain ⟨ih0, ih1, ih2, ih3, ih4, ih5⟩ := spec_PageFault.mono_l k
    refine ⟨?_, ?_, ?_, ?_, ?_, ?_⟩
    · intro y0 y1
      unfold spec_PageFault.j0
      repeat' first
      | (with_reducible exact ih0 _ _)
      | (with_reducible exact ih1 _ _ _)
      | (with_reducible exact ih2 _ _ _)
      | (with_reducible exact ih3 _ _ _ _ _ _)
      | (with_reducible exact ih4 _ _ _)
      | (with_reducible exact ih5 _ _ _ _)
      | (with_reducible exact spec_l3Bottom.mono _ _)
      | (with_reducible exact spec_l3Number.mono _ _ _ _)
      | (with_reducible exact spec_l3Slots.mono _ _)
      | (with_reducible exact LeO.refl _)
      | (with_reducible exact LeO.none _)
      | (with_reducible refine LeO.ite ?_ ?_)
      | (with_reducible refine LeO.bind ?_ (fun _ => ?_))
      | exact ih0 _ _
      | exact ih1 _ _ _
      | exact ih2 _ _ _
      | exact ih3 _ _ _ _ _ _
      | exact ih4 _ _ _
      | exact ih5 _ _ _ _
      | exact spec_l3Bottom.mono _ _
      | exact spec_l3Number.mono _ _ _ _
      | exact spec_l3Slots.mono _ _
      | exact LeO.none _
      | refine LeO.ite ?_ ?_
      | refine LeO.bind ?_ (fun _ => ?_)
    · intro y0 y1 y2
      unfold spec_PageFault.j1
      repeat' first
      | (with_reducible exact ih0 _ _)
      | (with_reducible exact ih1 _ _ _)
      | (with_reducible exact ih2 _ _ _)
      | (with_reducible exact ih3 _ _ _ _ _ _)
      | (with_reducible exact ih4 _ _ _)
      | (with_reducible exact ih5 _ _ _ _)
      | (with_reducible exact spec_l3Bottom.mono _ _)
      | (with_reducible exact spec_l3Number.mono _ _ _ _)
      | (with_reducible exact spec_l3Slots.mono _ _)
      | (with_reducible exact LeO.refl _)
      | (with_reducible exact LeO.none _)
      | (with_reducible refine LeO.ite ?_ ?_)
      | (with_reducible refine LeO.bind ?_ (fun _ => ?_))
      | exact ih0 _ _
      | exact ih1 _ _ _
      | exact ih2 _ _ _
      | exact ih3 _ _ _ _ _ _
      | exact ih4 _ _ _
      | exact ih5 _ _ _ _
      | exact spec_l3Bottom.mono _ _
      | exact spec_l3Number.mono _ _ _ _
      | exact spec_l3Slots.mono _ _
      | exact LeO.none _
      | refine LeO.ite ?_ ?_
      | refine LeO.bind ?_ (fun _ => ?_)
    · intro y0 y1 y2
      unfold spec_PageFault.l0
      repeat' first
      | (with_reducible exact ih0 _ _)
      | (with_reducible exact ih1 _ _ _)
      | (with_reducible exact ih2 _ _ _)
      | (with_reducible exact ih3 _ _ _ _ _ _)
      | (with_reducible exact ih4 _ _ _)
      | (with_reducible exact ih5 _ _ _ _)
      | (with_reducible exact spec_l3Bottom.mono _ _)
      | (with_reducible exact spec_l3Number.mono _ _ _ _)
      | (with_reducible exact spec_l3Slots.mono _ _)
      | (with_reducible exact LeO.refl _)
      | (with_reducible exact LeO.none _)
      | (with_reducible refine LeO.ite ?_ ?_)
      | (with_reducible refine LeO.bind ?_ (fun _ => ?_))
      | exact ih0 _ _
      | exact ih1 _ _ _
      | exact ih2 _ _ _
      | exact ih3 _ _ _ _ _ _
      | exact ih4 _ _ _
      | exact ih5 _ _ _ _
      | exact spec_l3Bottom.mono _ _
      | exact spec_l3Number.mono _ _ _ _
      | exact spec_l3Slots.mono _ _
      | exact LeO.none _
      | refine LeO.ite ?_ ?_
      | refine LeO.bind ?_ (fun _ => ?_)
    · intro y0 y1 y2 y3 y4 y5
      unfold spec_PageFault.j3
      repeat' first
      | (with_reducible exact ih0 _ _)
      | (with_reducible exact ih1 _ _ _)
      | (with_reducible exact ih2 _ _ _)
      | (with_reducible exact ih3 _ _ _ _ _ _)
      | (with_reducible exact ih4 _ _ _)
      | (with_reducible exact ih5 _ _ _ _)
      | (with_reducible exact spec_l3Bottom.mono _ _)
      | (with_reducible exact spec_l3Number.mono _ _ _ _)
      | (with_reducible exact spec_l3Slots.mono _ _)
      | (with_reducible exact LeO.refl _)
      | (with_reducible exact LeO.none _)
      | (with_reducible refine LeO.ite ?_ ?_)
      | (with_reducible refine LeO.bind ?_ (fun _ => ?_))
      | exact ih0 _ _
      | exact ih1 _ _ _
      | exact ih2 _ _ _
      | exact ih3 _ _ _ _ _ _
      | exact ih4 _ _ _
      | exact ih5 _ _ _ _
      | exact spec_l3Bottom.mono _ _
      | exact spec_l3Number.mono _ _ _ _
      | exact spec_l3Slots.mono _ _
      | exact LeO.none _
      | refine LeO.ite ?_ ?_
      | refine LeO.bind ?_ (fun _ => ?_)
    · intro y0 y1 y2
      unfold spec_PageFault.l1
      repeat' first
      | (with_reducible exact ih0 _ _)
      | (with_reducible exact ih1 _ _ _)
      | (with_reducible exact ih2 _ _ _)
      | (with_reducible exact ih3 _ _ _ _ _ _)
      | (with_reducible exact ih4 _ _ _)
      | (with_reducible exact ih5 _ _ _ _)
      | (with_reducible exact spec_l3Bottom.mono _ _)
      | (with_reducible exact spec_l3Number.mono _ _ _ _)
      | (with_reducible exact spec_l3Slots.mono _ _)
      | (with_reducible exact LeO.refl _)
      | (with_reducible exact LeO.none _)
      | (with_reducible refine LeO.ite ?_ ?_)
      | (with_reducible refine LeO.bind ?_ (fun _ => ?_))
      | exact ih0 _ _
      | exact ih1 _ _ _
      | exact ih2 _ _ _
      | exact ih3 _ _ _ _ _ _
      | exact ih4 _ _ _
      | exact ih5 _ _ _ _
      | exact spec_l3Bottom.mono _ _
      | exact spec_l3Number.mono _ _ _ _
      | exact spec_l3Slots.mono _ _
      | exact LeO.none _
      | refine LeO.ite ?_ ?_
      | refine LeO.bind ?_ (fun _ => ?_)
    · intro y0 y1 y2 y3
      unfold spec_PageFault.l2
      repeat' first
      | (with_reducible exact ih0 _ _)
      | (with_reducible exact ih1 _ _ _)
      | (with_reducible exact ih2 _ _ _)
      | (with_reducible exact ih3 _ _ _ _ _ _)
      | (with_reducible exact ih4 _ _ _)
      | (with_reducible exact ih5 _ _ _ _)
      | (with_reducible exact spec_l3Bottom.mono _ _)
      | (with_reducible exact spec_l3Number.mono _ _ _ _)
      | (with_reducible exact spec_l3Slots.mono _ _)
      | (with_reducible exact LeO.refl _)
      | (with_reducible exact LeO.none _)
      | (with_reducible refine LeO.ite ?_ ?_)
      | (with_reducible refine LeO.bind ?_ (fun _ => ?_))
      | exact ih0 _ _
      | exact ih1 _ _ _
      | exact ih2 _ _ _
      | exact ih3 _ _ _ _ _ _
      | exact ih4 _ _ _
      | exact ih5 _ _ _ _
      | exact spec_l3Bottom.mono _ _
      | exact spec_l3Number.mono _ _ _ _
      | exact spec_l3Slots.mono _ _
      | exact LeO.none _
      | refine LeO.ite ?_ ?_
      | refine LeO.bind ?_ (fun _ => ?_)
theorem spec_PageFault.mono : ∀ a0 a1 k, LeO (spec_PageFault.f k a0 a1) (spec_PageFault.f (k + 1) a0 a1) := by
  intro a0 a1 k
  obtain ⟨ih0, ih1, ih2, ih3, ih4, ih5⟩ := spec_PageFault.mono_l k
  unfold spec_PageFault.f
  repeat' first
      | (with_reducible exact ih0 _ _)
      | (with_reducible exact ih1 _ _ _)
      | (with_reducible exact ih2 _ _ _)
      | (with_reducible exact ih3 _ _ _ _ _ _)
      | (with_reducible exact ih4 _ _ _)
      | (with_reducible exact ih5 _ _ _ _)
      | (with_reducible exact spec_l3Bottom.mono _ _)
      | (with_reducible exact spec_l3Number.mono _ _ _ _)
      | (with_reducible exact spec_l3Slots.mono _ _)
      | (with_reducible exact LeO.refl _)
      | (with_reducible exact LeO.none _)
      | (with_reducible refine LeO.ite ?_ ?_)
      | (with_reducible refine LeO.bind ?_ (fun _ => ?_))
      | exact ih0 _ _
      | exact ih1 _ _ _
      | exact ih2 _ _ _
      | exact ih3 _ _ _ _ _ _
      | exact ih4 _ _ _
      | exact ih5 _ _ _ _
      | exact spec_l3Bottom.mono _ _
      | exact spec_l3Number.mono _ _ _ _
      | exact spec_l3Slots.mono _ _
      | exact LeO.none _
      | refine LeO.ite ?_ ?_
      | refine LeO.bind ?_ (fun _ => ?_)
set_option maxHeartbeats 8000000 in
set_option maxRecDepth 100000 in
theorem spec_PageFault.calls (k : Nat) (A0 : Option Addr) (c0 : Nat) (l0 : List Int) (a1 : Int) (r : Int) (w : World) (hr0 : Kd.C (Kd.int .u8) w A0 l0.length l0) (hc0 : l0.length ≤ c0) (h : spec_PageFault.f k l0 a1 = some r) :
    Calls Tryd.prog 15 #[.slice A0 l0.length c0, .int .i64 a1] w fun e w' => e = .returned (.int .i64 r) ∧ Below w.heap.size w w' := by
  have hu36 := Tryd.underlying36
  have HR0 := Aside0.mk hr0
  have HC0 := Aside0.mk hc0
  clear hr0 hc0
  have HB := Aside0.mk (Below.refl w.heap.size w)
  have H : (if (l0.length : Int) = 4096 then ((spec_l3Number.f k l0 12 4).bind fun t121 => (if t121 = a1 then ((spec_l3Number.f k l0 4 8).bind fun t122 => (if t122 < 0 then (spec_PageFault.j0 k l0 true) else (if t122 > 1099511627776 then (spec_PageFault.j0 k l0 true) else (if 18 < (l0.length : Int) then (if (rd l0 18) = 0 then (if 19 < (l0.length : Int) then (spec_PageFault.j0 k l0 ((rd l0 19) != 0)) else (none)) else (spec_PageFault.j0 k l0 true)) else (none))))) else (some 2))) else (some 1)) = some r := h
  clear h
  by_cases c3 : (l0.length : Int) = 4096
  · rw [if_pos c3] at H
    have c3b0 : ((l0.length : Int) == 4096) = true := beq_iff_eq.mpr c3
    have c3b1 : ((l0.length : Int) != 4096) = false := bne_eq_false_iff_eq.mpr c3
    clear c3
    replace H := Option.bind_eq_some_iff.mp H
    obtain ⟨t121, A40, H⟩ := H
    replace H : (if t121 = a1 then ((spec_l3Number.f k l0 4 8).bind fun t122 => (if t122 < 0 then (spec_PageFault.j0 k l0 true) else (if t122 > 1099511627776 then (spec_PageFault.j0 k l0 true) else (if 18 < (l0.length : Int) then (if (rd l0 18) = 0 then (if 19 < (l0.length : Int) then (spec_PageFault.j0 k l0 ((rd l0 19) != 0)) else (none)) else (spec_PageFault.j0 k l0 true)) else (none))))) else (some 2)) = some r := H
    have A4 := Aside0.mk A40
    clear A40
    by_cases c5 : t121 = a1
    · rw [if_pos c5] at H
      have c5b0 : (t121 == a1) = true := beq_iff_eq.mpr c5
      have c5b1 : (t121 != a1) = false := bne_eq_false_iff_eq.mpr c5
      clear c5
      replace H := Option.bind_eq_some_iff.mp H
      obtain ⟨t122, A60, H⟩ := H
      replace H : (if t122 < 0 then (spec_PageFault.j0 k l0 true) else (if t122 > 1099511627776 then (spec_PageFault.j0 k l0 true) else (if 18 < (l0.length : Int) then (if (rd l0 18) = 0 then (if 19 < (l0.length : Int) then (spec_PageFault.j0 k l0 ((rd l0 19) != 0)) else (none)) else (spec_PageFault.j0 k l0 true)) else (none)))) = some r := H
      have A6 := Aside0.mk A60
      clear A60
      have HC7 := Aside0.mk H
      clear H
      go_enter Tryd.func15, Tryd.ntmps15
      go_upto_region 6 with (first | (go_at_call 27; (with_reducible refine (spec_l3Number.calls k _ _ l0 12 4 t121 _ ?side1 ?side2 A4.out).mono ?_); (case side1 => repeat (first | exact HR0.out | (with_reducible refine Kd.C_alloc ?_ _) | (with_reducible refine Kd.C_drewN ?_ _) | (with_reducible refine Kd.C_drew ?_))); (case side2 => exact HC0.out); rintro e w' ⟨rfl, ⟨nd, rfl⟩⟩; (try first | exact ⟨rfl, _, World.drewN_drewN _ _ _⟩ | exact ⟨rfl, _, Eq.trans (World.drewN_drewN _ _ _) (congrArg (World.drewN _) (Nat.add_assoc _ _ _))⟩)) | (go_at_call 27; (with_reducible refine (spec_l3Number.calls k _ _ l0 4 8 t122 _ ?side1 ?side2 A6.out).mono ?_); (case side1 => repeat (first | exact HR0.out | (with_reducible refine Kd.C_alloc ?_ _) | (with_reducible refine Kd.C_drewN ?_ _) | (with_reducible refine Kd.C_drew ?_))); (case side2 => exact HC0.out); rintro e w' ⟨rfl, ⟨nd, rfl⟩⟩; (try first | exact ⟨rfl, _, World.drewN_drewN _ _ _⟩ | exact ⟨rfl, _, Eq.trans (World.drewN_drewN _ _ _) (congrArg (World.drewN _) (Nat.add_assoc _ _ _))⟩)))
      repeat (go_quiet (first | (go_at_call 27; (with_reducible refine (spec_l3Number.calls k _ _ l0 12 4 t121 _ ?side1 ?side2 A4.out).mono ?_); (case side1 => repeat (first | exact HR0.out | (with_reducible refine Kd.C_alloc ?_ _) | (with_reducible refine Kd.C_drewN ?_ _) | (with_reducible refine Kd.C_drew ?_))); (case side2 => exact HC0.out); rintro e w' ⟨rfl, ⟨nd, rfl⟩⟩; (try first | exact ⟨rfl, _, World.drewN_drewN _ _ _⟩ | exact ⟨rfl, _, Eq.trans (World.drewN_drewN _ _ _) (congrArg (World.drewN _) (Nat.add_assoc _ _ _))⟩)) | (go_at_call 27; (with_reducible refine (spec_l3Number.calls k _ _ l0 4 8 t122 _ ?side1 ?side2 A6.out).mono ?_); (case side1 => repeat (first | exact HR0.out | (with_reducible refine Kd.C_alloc ?_ _) | (with_reducible refine Kd.C_drewN ?_ _) | (with_reducible refine Kd.C_drew ?_))); (case side2 => exact HC0.out); rintro e w' ⟨rfl, ⟨nd, rfl⟩⟩; (try first | exact ⟨rfl, _, World.drewN_drewN _ _ _⟩ | exact ⟨rfl, _, Eq.trans (World.drewN_drewN _ _ _) (congrArg (World.drewN _) (Nat.add_assoc _ _ _))⟩))); go_upto_region 6 with (first | (go_at_call 27; (with_reducible refine (spec_l3Number.calls k _ _ l0 12 4 t121 _ ?side1 ?side2 A4.out).mono ?_); (case side1 => repeat (first | exact HR0.out | (with_reducible refine Kd.C_alloc ?_ _) | (with_reducible refine Kd.C_drewN ?_ _) | (with_reducible refine Kd.C_drew ?_))); (case side2 => exact HC0.out); rintro e w' ⟨rfl, ⟨nd, rfl⟩⟩; (try first | exact ⟨rfl, _, World.drewN_drewN _ _ _⟩ | exact ⟨rfl, _, Eq.trans (World.drewN_drewN _ _ _) (congrArg (World.drewN _) (Nat.add_assoc _ _ _))⟩)) | (go_at_call 27; (with_reducible refine (spec_l3Number.calls k _ _ l0 4 8 t122 _ ?side1 ?side2 A6.out).mono ?_); (case side1 => repeat (first | exact HR0.out | (with_reducible refine Kd.C_alloc ?_ _) | (with_reducible refine Kd.C_drewN ?_ _) | (with_reducible refine Kd.C_drew ?_))); (case side2 => exact HC0.out); rintro e w' ⟨rfl, ⟨nd, rfl⟩⟩; (try first | exact ⟨rfl, _, World.drewN_drewN _ _ _⟩ | exact ⟨rfl, _, Eq.trans (World.drewN_drewN _ _ _) (congrArg (World.drewN _) (Nat.add_assoc _ _ _))⟩))))
      (try simp only [Act.put, List.setIfInBounds_toArray, List.set_cons_zero, List.set_cons_succ])
      go_cut [39] (fun v39 wc => ∃ (kq : Nat) (x39_6 : Bool), v39 = .bool x39_6 ∧ Aside0 (spec_PageFault.j0 kq l0 x39_6 = some r) ∧ Aside0 (kq ≤ k) ∧ Aside0 (Below w.heap.size w wc))
      case first =>
        have H := HC7.out
        clear HC7
        by_cases c8 : t122 < 0
        · rw [if_pos c8] at H
          have c8b0 : decide (t122 < 0) = true := decide_eq_true c8
          clear c8
          (first | rw [c8b0] | (simp only [i64_w, i32_w]; rw [c8b0]) | skip)
          have H' := Aside0.mk H
          clear H
          go_wp2
          repeat (go_quiet (fail); try go_wp2)
          go_meet
          case rel => exact ⟨_, (true), (by first | rfl | (simp; done) | (simp [*]; done)), H', ⟨by first | omega | exact Nat.le_refl _⟩, ⟨by repeat (first | (with_reducible first | exact HB.out | apply below_alloc | apply pw_below_drewN | apply below_drew1) | exact HB.out)⟩⟩
        · rw [if_neg c8] at H
          have c8b0 : decide (t122 < 0) = false := decide_eq_false c8
          clear c8
          (first | rw [c8b0] | (simp only [i64_w, i32_w]; rw [c8b0]) | skip)
          by_cases c9 : t122 > 1099511627776
          · rw [if_pos c9] at H
            have c9b0 : decide (1099511627776 < t122) = true := decide_eq_true c9
            clear c9
            have H' := Aside0.mk H
            clear H
            go_wp2
            repeat (go_quiet (fail); try go_wp2)
            go_meet
            case rel => exact ⟨_, (true), (by first | rfl | (simp; done) | (simp [*]; done)), H', ⟨by first | omega | exact Nat.le_refl _⟩, ⟨by repeat (first | (with_reducible first | exact HB.out | apply below_alloc | apply pw_below_drewN | apply below_drew1) | exact HB.out)⟩⟩
          · rw [if_neg c9] at H
            have c9b0 : decide (1099511627776 < t122) = false := decide_eq_false c9
            clear c9
            by_cases c10 : 18 < (l0.length : Int)
            · rw [if_pos c10] at H
              have c10b0 : decide (18 < (l0.length : Int)) = true := decide_eq_true c10
              have c10b1 : decide (18 < l0.length) = true := decide_eq_true (by omega)
              clear c10
              by_cases c11 : (rd l0 18) = 0
              · rw [if_pos c11] at H
                have c11b0 : ((rd l0 18) == 0) = true := beq_iff_eq.mpr c11
                have c11b1 : ((rd l0 18) != 0) = false := bne_eq_false_iff_eq.mpr c11
                clear c11
                by_cases c12 : 19 < (l0.length : Int)
                · rw [if_pos c12] at H
                  have c12b0 : decide (19 < (l0.length : Int)) = true := decide_eq_true c12
                  have c12b1 : decide (19 < l0.length) = true := decide_eq_true (by omega)
                  clear c12
                  have H' := Aside0.mk H
                  clear H
                  have p123 : 0 ≤ (18 : Int) := (by omega)
                  have q123 : 18 < (l0.length : Int) := of_decide_eq_true (by first | (with_reducible assumption) | assumption)
                  obtain ⟨ad123, e123, hx123_0⟩ := Kd.at_int HR0.out 18 p123 q123
                  cases e123
                  (try simp only [show (18 : Int).toNat = 18 from rfl, Nat.reduceMul, Nat.reduceEqDiff, Go.Addr.add, ↓reduceIte] at hx123_0)
                  have qi123 : (18 < l0.length) = True := eq_true (by omega)
                  (try rw [show ((18 : Int)).toNat = 18 from rfl] at hx123_0)
                  replace hx123_0 := (HB.out.cell (World.block_lt_of_cell? w _ hx123_0)).trans hx123_0
                  replace p123 := eq_true p123
                  replace q123 := eq_true q123
                  have p124 : 0 ≤ (19 : Int) := (by omega)
                  have q124 : 19 < (l0.length : Int) := of_decide_eq_true (by first | (with_reducible assumption) | assumption)
                  obtain ⟨ad124, e124, hx124_0⟩ := Kd.at_int HR0.out 19 p124 q124
                  obtain rfl : ad123 = ad124 := (by injection e124)
                  (try simp only [show (19 : Int).toNat = 19 from rfl, Nat.reduceMul, Nat.reduceEqDiff, Go.Addr.add, ↓reduceIte] at hx124_0)
                  have qi124 : (19 < l0.length) = True := eq_true (by omega)
                  (try rw [show ((19 : Int)).toNat = 19 from rfl] at hx124_0)
                  replace hx124_0 := (HB.out.cell (World.block_lt_of_cell? w _ hx124_0)).trans hx124_0
                  replace p124 := eq_true p124
                  replace q124 := eq_true q124
                  go_wp2
                  repeat (go_quiet (fail); try go_wp2)
                  go_meet
                  case rel => exact ⟨_, (((rd l0 19) != 0)), (by first | rfl | (simp; done) | (simp [*]; done)), H', ⟨by first | omega | exact Nat.le_refl _⟩, ⟨by repeat (first | (with_reducible first | exact HB.out | apply below_alloc | apply pw_below_drewN | apply below_drew1) | exact HB.out)⟩⟩
                · rw [if_neg c12] at H
                  exact absurd H (by simp)
              · rw [if_neg c11] at H
                have c11b0 : ((rd l0 18) == 0) = false := beq_eq_false_iff_ne.mpr c11
                have c11b1 : ((rd l0 18) != 0) = true := bne_iff_ne.mpr c11
                have H' := Aside0.mk H
                clear H
                have p123 : 0 ≤ (18 : Int) := (by omega)
                have q123 : 18 < (l0.length : Int) := of_decide_eq_true (by first | (with_reducible assumption) | assumption)
                obtain ⟨ad123, e123, hx123_0⟩ := Kd.at_int HR0.out 18 p123 q123
                cases e123
                (try simp only [show (18 : Int).toNat = 18 from rfl, Nat.reduceMul, Nat.reduceEqDiff, Go.Addr.add, ↓reduceIte] at hx123_0)
                have qi123 : (18 < l0.length) = True := eq_true (by omega)
                (try rw [show ((18 : Int)).toNat = 18 from rfl] at hx123_0)
                replace hx123_0 := (HB.out.cell (World.block_lt_of_cell? w _ hx123_0)).trans hx123_0
                replace p123 := eq_true p123
                replace q123 := eq_true q123
                go_wp2
                repeat (go_quiet (fail); try go_wp2)
                go_meet
                case rel => exact ⟨_, (true), (by first | rfl | (simp; done) | (simp [*]; done)), H', ⟨by first | omega | exact Nat.le_refl _⟩, ⟨by repeat (first | (with_reducible first | exact HB.out | apply below_alloc | apply pw_below_drewN | apply below_drew1) | exact HB.out)⟩⟩
            · rw [if_neg c10] at H
              exact absurd H (by simp)
      case rest =>
        clear HC7
        try clear c1
        try clear p1
        try clear q1
        try clear hx1
        try clear qi1
        try clear p2
        try clear c3
        try clear c3b0
        try clear c3b1
        try clear c5
        try clear c5b0
        try clear c5b1
        try clear c8
        try clear c8b0
        try clear c9
        try clear c9b0
        try clear c10
        try clear c10b0
        try clear c10b1
        try clear c11
        try clear c11b0
        try clear c11b1
        try clear c12
        try clear c12b0
        try clear c12b1
        try clear p12
        try clear q12
        try clear hx12
        try clear qi12
        try clear hx123_0
        try clear hx124_0
        try clear p123
        try clear p124
        try clear q123
        try clear q124
        obtain ⟨kq, x39_6, rfl, HA, HJ6, HB⟩ := hcut
        cases kq with
        | zero => exact absurd HA.out (by simp [spec_PageFault.j0])
        | succ kj6 =>
          have H := HA.out
          clear HA
          simp only [spec_PageFault.j0] at H
          by_cases c13 : x39_6 = true
          · subst c13
            have H1 : (some 3) = some r := by rw [if_pos rfl] at H; exact H
            clear H
            have H := H1
            clear H1
            obtain rfl := Option.some.inj H
            go_wp2
            repeat (go_quiet (fail); try go_wp2)
            go_ret
            exact ⟨by first | rfl | (simp [errW_none, errW_some] <;> rfl) | (simp [*, errW_none, errW_some] <;> rfl), by repeat (first | (with_reducible first | exact HB.out | apply below_alloc | apply pw_below_drewN | apply below_drew1) | exact HB.out)⟩
          · replace c13 := Bool.eq_false_iff.mpr c13
            subst c13
            have H1 : ((spec_l3Bottom.f kj6 l0).bind fun t125 => (if t125 < 148 then (spec_PageFault.j1 kj6 l0 t125 true) else (spec_PageFault.j1 kj6 l0 t125 (decide (t125 > 4096))))) = some r := by rw [if_neg (show ¬ (false = true) by decide)] at H; exact H
            clear H
            have H := H1
            clear H1
            replace H := Option.bind_eq_some_iff.mp H
            obtain ⟨t125, A140, H⟩ := H
            replace H : (if t125 < 148 then (spec_PageFault.j1 kj6 l0 t125 true) else (spec_PageFault.j1 kj6 l0 t125 (decide (t125 > 4096)))) = some r := H
            have A14 := Aside0.mk A140
            clear A140
            have HC15 := Aside0.mk H
            clear H
            go_upto_region 9 with (first | (go_at_call 28; (with_reducible refine (spec_l3Bottom.calls kj6 _ _ l0 t125 _ ?side1 ?side2 A14.out).mono ?_); (case side1 => repeat (first | exact (Kd.C_below HR0.out HB.out) | (with_reducible refine Kd.C_alloc ?_ _) | (with_reducible refine Kd.C_drewN ?_ _) | (with_reducible refine Kd.C_drew ?_))); (case side2 => exact HC0.out); rintro e w' ⟨rfl, ⟨nd, rfl⟩⟩; (try first | exact ⟨rfl, _, World.drewN_drewN _ _ _⟩ | exact ⟨rfl, _, Eq.trans (World.drewN_drewN _ _ _) (congrArg (World.drewN _) (Nat.add_assoc _ _ _))⟩)))
            repeat (go_quiet (first | (go_at_call 28; (with_reducible refine (spec_l3Bottom.calls kj6 _ _ l0 t125 _ ?side1 ?side2 A14.out).mono ?_); (case side1 => repeat (first | exact (Kd.C_below HR0.out HB.out) | (with_reducible refine Kd.C_alloc ?_ _) | (with_reducible refine Kd.C_drewN ?_ _) | (with_reducible refine Kd.C_drew ?_))); (case side2 => exact HC0.out); rintro e w' ⟨rfl, ⟨nd, rfl⟩⟩; (try first | exact ⟨rfl, _, World.drewN_drewN _ _ _⟩ | exact ⟨rfl, _, Eq.trans (World.drewN_drewN _ _ _) (congrArg (World.drewN _) (Nat.add_assoc _ _ _))⟩))); go_upto_region 9 with (first | (go_at_call 28; (with_reducible refine (spec_l3Bottom.calls kj6 _ _ l0 t125 _ ?side1 ?side2 A14.out).mono ?_); (case side1 => repeat (first | exact (Kd.C_below HR0.out HB.out) | (with_reducible refine Kd.C_alloc ?_ _) | (with_reducible refine Kd.C_drewN ?_ _) | (with_reducible refine Kd.C_drew ?_))); (case side2 => exact HC0.out); rintro e w' ⟨rfl, ⟨nd, rfl⟩⟩; (try first | exact ⟨rfl, _, World.drewN_drewN _ _ _⟩ | exact ⟨rfl, _, Eq.trans (World.drewN_drewN _ _ _) (congrArg (World.drewN _) (Nat.add_assoc _ _ _))⟩))))
            (try simp only [Act.put, List.setIfInBounds_toArray, List.set_cons_zero, List.set_cons_succ])
            go_cut [47] (fun v47 wc => ∃ (kq : Nat) (x47_14 : Bool), v47 = .bool x47_14 ∧ Aside0 (spec_PageFault.j1 kq l0 t125 x47_14 = some r) ∧ Aside0 (kq ≤ kj6) ∧ Aside0 (Below w.heap.size w wc))
            case first =>
              have H := HC15.out
              clear HC15
              by_cases c16 : t125 < 148
              · rw [if_pos c16] at H
                have c16b0 : decide (t125 < 148) = true := decide_eq_true c16
                clear c16
                (first | rw [c16b0] | (simp only [i64_w, i32_w]; rw [c16b0]) | skip)
                have H' := Aside0.mk H
                clear H
                go_wp2
                repeat (go_quiet (fail); try go_wp2)
                go_meet
                case rel => exact ⟨_, (true), (by first | rfl | (simp; done) | (simp [*]; done)), H', ⟨by have := HJ6.out; first | omega | exact Nat.le_refl _⟩, ⟨by repeat (first | (with_reducible first | exact HB.out | apply below_alloc | apply pw_below_drewN | apply below_drew1) | exact HB.out)⟩⟩
              · rw [if_neg c16] at H
                have c16b0 : decide (t125 < 148) = false := decide_eq_false c16
                clear c16
                (first | rw [c16b0] | (simp only [i64_w, i32_w]; rw [c16b0]) | skip)
                have H' := Aside0.mk H
                clear H
                go_wp2
                repeat (go_quiet (fail); try go_wp2)
                go_meet
                case rel => exact ⟨_, (decide (t125 > 4096)), (by first | rfl | (simp; done) | (simp [*]; done)), H', ⟨by have := HJ6.out; first | omega | exact Nat.le_refl _⟩, ⟨by repeat (first | (with_reducible first | exact HB.out | apply below_alloc | apply pw_below_drewN | apply below_drew1) | exact HB.out)⟩⟩
            case rest =>
              clear HC15
              try clear c1
              try clear p1
              try clear q1
              try clear hx1
              try clear qi1
              try clear p2
              try clear c3
              try clear c3b0
              try clear c3b1
              try clear c5
              try clear c5b0
              try clear c5b1
              try clear c8
              try clear c8b0
              try clear c9
              try clear c9b0
              try clear c10
              try clear c10b0
              try clear c10b1
              try clear c11
              try clear c11b0
              try clear c11b1
              try clear c12
              try clear c12b0
              try clear c12b1
              try clear p12
              try clear q12
              try clear hx12
              try clear qi12
              try clear c13
              try clear c15
              try clear c16
              try clear c16b0
              try clear hx123_0
              try clear hx124_0
              try clear p1
              try clear p12
              try clear p123
              try clear p124
              try clear p2
              try clear q1
              try clear q12
              try clear q123
              try clear q124
              obtain ⟨kq, x47_14, rfl, HA, HJ14, HB⟩ := hcut
              cases kq with
              | zero => exact absurd HA.out (by simp [spec_PageFault.j1])
              | succ kj14 =>
                have H := HA.out
                clear HA
                simp only [spec_PageFault.j1] at H
                by_cases c17 : x47_14 = true
                · subst c17
                  have H1 : (some 4) = some r := by rw [if_pos rfl] at H; exact H
                  clear H
                  have H := H1
                  clear H1
                  obtain rfl := Option.some.inj H
                  go_wp2
                  repeat (go_quiet (fail); try go_wp2)
                  go_ret
                  exact ⟨by first | rfl | (simp [errW_none, errW_some] <;> rfl) | (simp [*, errW_none, errW_some] <;> rfl), by repeat (first | (with_reducible first | exact HB.out | apply below_alloc | apply pw_below_drewN | apply below_drew1) | exact HB.out)⟩
                · replace c17 := Bool.eq_false_iff.mpr c17
                  subst c17
                  have H1 : ((spec_l3Slots.f kj14 l0).bind fun t126 => (spec_PageFault.l0 kj14 t125 t126 0)) = some r := by rw [if_neg (show ¬ (false = true) by decide)] at H; exact H
                  clear H
                  have H := H1
                  clear H1
                  replace H := Option.bind_eq_some_iff.mp H
                  obtain ⟨t126, A180, H⟩ := H
                  replace H : (spec_PageFault.l0 kj14 t125 t126 0) = some r := H
                  have A18 := Aside0.mk A180
                  clear A180
                  have H' := Aside0.mk H
                  clear H
                  go_wp2_with (first | (go_at_call 22; (with_reducible refine (spec_l3Slots.calls kj14 _ _ l0 t126 _ ?side1 ?side2 A18.out).mono ?_); (case side1 => repeat (first | exact (Kd.C_below HR0.out HB.out) | (with_reducible refine Kd.C_alloc ?_ _) | (with_reducible refine Kd.C_drewN ?_ _) | (with_reducible refine Kd.C_drew ?_))); (case side2 => exact HC0.out); rintro e w19 ⟨v127, rfl, ho0, hb⟩; have n0_ := Aside0.mk (Kd.R_lower ho0 (below_size (by repeat (first | (with_reducible first | exact HB.out | apply below_alloc | apply pw_below_drewN | apply below_drew1) | exact HB.out)))); have n1_ := Aside0.mk (below_step (by repeat (first | (with_reducible first | exact HB.out | apply below_alloc | apply pw_below_drewN | apply below_drew1) | exact HB.out)) hb); clear HB; have HO128 := n0_; have HB := n1_; clear n0_ n1_; (try clear hb); (try clear hb2); (try clear hk); (try clear hi); (try clear ho0)))
                  repeat (go_quiet (first | (go_at_call 22; (with_reducible refine (spec_l3Slots.calls kj14 _ _ l0 t126 _ ?side1 ?side2 A18.out).mono ?_); (case side1 => repeat (first | exact (Kd.C_below HR0.out HB.out) | (with_reducible refine Kd.C_alloc ?_ _) | (with_reducible refine Kd.C_drewN ?_ _) | (with_reducible refine Kd.C_drew ?_))); (case side2 => exact HC0.out); rintro e w19 ⟨v127, rfl, ho0, hb⟩; have n0_ := Aside0.mk (Kd.R_lower ho0 (below_size (by repeat (first | (with_reducible first | exact HB.out | apply below_alloc | apply pw_below_drewN | apply below_drew1) | exact HB.out)))); have n1_ := Aside0.mk (below_step (by repeat (first | (with_reducible first | exact HB.out | apply below_alloc | apply pw_below_drewN | apply below_drew1) | exact HB.out)) hb); clear HB; have HO128 := n0_; have HB := n1_; clear n0_ n1_; (try clear hb); (try clear hb2); (try clear hk); (try clear hi); (try clear ho0))); try go_wp2_with (first | (go_at_call 22; (with_reducible refine (spec_l3Slots.calls kj14 _ _ l0 t126 _ ?side1 ?side2 A18.out).mono ?_); (case side1 => repeat (first | exact (Kd.C_below HR0.out HB.out) | (with_reducible refine Kd.C_alloc ?_ _) | (with_reducible refine Kd.C_drewN ?_ _) | (with_reducible refine Kd.C_drew ?_))); (case side2 => exact HC0.out); rintro e w19 ⟨v127, rfl, ho0, hb⟩; have n0_ := Aside0.mk (Kd.R_lower ho0 (below_size (by repeat (first | (with_reducible first | exact HB.out | apply below_alloc | apply pw_below_drewN | apply below_drew1) | exact HB.out)))); have n1_ := Aside0.mk (below_step (by repeat (first | (with_reducible first | exact HB.out | apply below_alloc | apply pw_below_drewN | apply below_drew1) | exact HB.out)) hb); clear HB; have HO128 := n0_; have HB := n1_; clear n0_ n1_; (try clear hb); (try clear hb2); (try clear hk); (try clear hi); (try clear ho0))))
                  go_loopg [8] kj14 (fun kq v8 w' => ∃ (x8_3 : Int), v8 = .int .i64 x8_3 ∧ Aside0 (spec_PageFault.l0 kq t125 t126 x8_3 = some r) ∧ Aside0 (kq ≤ kj14) ∧ Aside0 (Kd.R k36 36 w' w.heap.size (fun _ => True) v127 t126) ∧ Aside0 (Below w.heap.size w w'))
                  case atStart => exact ⟨(0), (by first | rfl | (simp; done) | (simp [*]; done)), H', ⟨Nat.le_refl _⟩, ⟨by (with_reducible repeat (first | apply Kd.R_alloc | apply Kd.R_drewN | apply Kd.R_drew)); exact HO128.out⟩, ⟨by repeat (first | (with_reducible first | exact HB.out | apply below_alloc | apply pw_below_drewN | apply below_drew1) | exact HB.out)⟩⟩
                  case round =>
                    clear H'
                    try clear c1
                    try clear p1
                    try clear q1
                    try clear hx1
                    try clear qi1
                    try clear p2
                    try clear c3
                    try clear c3b0
                    try clear c3b1
                    try clear c5
                    try clear c5b0
                    try clear c5b1
                    try clear c8
                    try clear c8b0
                    try clear c9
                    try clear c9b0
                    try clear c10
                    try clear c10b0
                    try clear c10b1
                    try clear c11
                    try clear c11b0
                    try clear c11b1
                    try clear c12
                    try clear c12b0
                    try clear c12b1
                    try clear p12
                    try clear q12
                    try clear hx12
                    try clear qi12
                    try clear c13
                    try clear c15
                    try clear c16
                    try clear c16b0
                    try clear c17
                    try clear hx123_0
                    try clear hx124_0
                    try clear p1
                    try clear p12
                    try clear p123
                    try clear p124
                    try clear p2
                    try clear q1
                    try clear q12
                    try clear q123
                    try clear q124
                    obtain ⟨x8_3, rfl, HA, HK3, HO_7, HB⟩ := hrel
                    cases gk with
                    | zero => exact absurd HA.out (by simp [spec_PageFault.l0])
                    | succ k3 =>
                      have H := HA.out
                      clear HA
                      simp only [spec_PageFault.l0] at H
                      by_cases c20 : x8_3 < (t126.length : Int)
                      · rw [if_pos c20] at H
                        have c20b0 : decide (x8_3 < (t126.length : Int)) = true := decide_eq_true c20
                        clear c20
                        by_cases c21 : 0 ≤ x8_3
                        · rw [if_pos c21] at H
                          have c21b0 : decide (0 ≤ x8_3) = true := decide_eq_true c21
                          clear c21
                          have HC22 := Aside0.mk H
                          clear H
                          obtain ⟨Ao23, co23, eo23⟩ := Kd.R_slice HO_7.out
                          subst eo23
                          have p129 : 0 ≤ (x8_3 : Int) := of_decide_eq_true (by first | (with_reducible assumption) | assumption)
                          have q129 : x8_3 < (t126.length : Int) := of_decide_eq_true (by first | (with_reducible assumption) | assumption)
                          obtain ⟨ad129, e129, hx129_0, hx129_1⟩ := at_T36 (Kd.R_reads' HO_7.out).2.2 x8_3 p129 q129
                          cases e129
                          replace p129 := eq_true p129
                          replace q129 := eq_true q129
                          go_upto_region 16 with (first | ((with_reducible refine gate_dst (N := 9) rfl ?_); refine box_event ?hg (N := 9) ?hd (cs := #[.int .i64 0, .int .i64 0]) (t := 36) ?hr ?_; (case hd => rfl); (case hg => rfl); (case hr => first | (go_simp; done) | (go_simp; rfl)); intro gb130 hg w24 hbox hb; have n0_ := Aside0.mk (Kd.R_below (Kd.R_elderB (by (with_reducible repeat (first | apply Kd.R_alloc | apply Kd.R_drewN | apply Kd.R_drew)); exact HO_7.out) gb130 (Nat.le_of_eq hg.symm)) hb); have n1_ := Aside0.mk (below_step (by repeat (first | (with_reducible first | exact HB.out | apply below_alloc | apply pw_below_drewN | apply below_drew1) | exact HB.out)) hb); have n2_ := Aside0.mk (hbox); have n3_ := Aside0.mk ((by rw [hg]; exact (below_size (by repeat (first | (with_reducible first | exact HB.out | apply below_alloc | apply pw_below_drewN | apply below_drew1) | exact HB.out))) : w.heap.size ≤ gb130)); have n4_ := Aside0.mk ((by rw [hg]; exact (below_size (by repeat (first | (with_reducible first | exact HB.out | apply below_alloc | apply pw_below_drewN | apply below_drew1) | exact HB.out))) : w.heap.size ≤ gb130)); clear HO_7; clear HB; have HO_7 := n0_; have HB := n1_; have BK130 := n2_; have GW130 := n3_; have GE130 := n4_; clear n0_ n1_ n2_ n3_ n4_; clear hb hbox hg; have hcz25_0 : w24.cell? ⟨gb130, 0, none⟩ = some (.int .i64 0) := (blk_cell BK130.out 0).trans rfl; have hcz25_1 : w24.cell? ⟨gb130, 1, none⟩ = some (.int .i64 0) := (blk_cell BK130.out 1).trans rfl; have hfz25_0 := blk_frozen BK130.out 0; have hfz25_1 := blk_frozen BK130.out 1))
                          repeat (go_quiet (first | ((with_reducible refine gate_dst (N := 9) rfl ?_); refine box_event ?hg (N := 9) ?hd (cs := #[.int .i64 0, .int .i64 0]) (t := 36) ?hr ?_; (case hd => rfl); (case hg => rfl); (case hr => first | (go_simp; done) | (go_simp; rfl)); intro gb130 hg w24 hbox hb; have n0_ := Aside0.mk (Kd.R_below (Kd.R_elderB (by (with_reducible repeat (first | apply Kd.R_alloc | apply Kd.R_drewN | apply Kd.R_drew)); exact HO_7.out) gb130 (Nat.le_of_eq hg.symm)) hb); have n1_ := Aside0.mk (below_step (by repeat (first | (with_reducible first | exact HB.out | apply below_alloc | apply pw_below_drewN | apply below_drew1) | exact HB.out)) hb); have n2_ := Aside0.mk (hbox); have n3_ := Aside0.mk ((by rw [hg]; exact (below_size (by repeat (first | (with_reducible first | exact HB.out | apply below_alloc | apply pw_below_drewN | apply below_drew1) | exact HB.out))) : w.heap.size ≤ gb130)); have n4_ := Aside0.mk ((by rw [hg]; exact (below_size (by repeat (first | (with_reducible first | exact HB.out | apply below_alloc | apply pw_below_drewN | apply below_drew1) | exact HB.out))) : w.heap.size ≤ gb130)); clear HO_7; clear HB; have HO_7 := n0_; have HB := n1_; have BK130 := n2_; have GW130 := n3_; have GE130 := n4_; clear n0_ n1_ n2_ n3_ n4_; clear hb hbox hg; have hcz25_0 : w24.cell? ⟨gb130, 0, none⟩ = some (.int .i64 0) := (blk_cell BK130.out 0).trans rfl; have hcz25_1 : w24.cell? ⟨gb130, 1, none⟩ = some (.int .i64 0) := (blk_cell BK130.out 1).trans rfl; have hfz25_0 := blk_frozen BK130.out 0; have hfz25_1 := blk_frozen BK130.out 1)); go_upto_region 16 with (first | ((with_reducible refine gate_dst (N := 9) rfl ?_); refine box_event ?hg (N := 9) ?hd (cs := #[.int .i64 0, .int .i64 0]) (t := 36) ?hr ?_; (case hd => rfl); (case hg => rfl); (case hr => first | (go_simp; done) | (go_simp; rfl)); intro gb130 hg w24 hbox hb; have n0_ := Aside0.mk (Kd.R_below (Kd.R_elderB (by (with_reducible repeat (first | apply Kd.R_alloc | apply Kd.R_drewN | apply Kd.R_drew)); exact HO_7.out) gb130 (Nat.le_of_eq hg.symm)) hb); have n1_ := Aside0.mk (below_step (by repeat (first | (with_reducible first | exact HB.out | apply below_alloc | apply pw_below_drewN | apply below_drew1) | exact HB.out)) hb); have n2_ := Aside0.mk (hbox); have n3_ := Aside0.mk ((by rw [hg]; exact (below_size (by repeat (first | (with_reducible first | exact HB.out | apply below_alloc | apply pw_below_drewN | apply below_drew1) | exact HB.out))) : w.heap.size ≤ gb130)); have n4_ := Aside0.mk ((by rw [hg]; exact (below_size (by repeat (first | (with_reducible first | exact HB.out | apply below_alloc | apply pw_below_drewN | apply below_drew1) | exact HB.out))) : w.heap.size ≤ gb130)); clear HO_7; clear HB; have HO_7 := n0_; have HB := n1_; have BK130 := n2_; have GW130 := n3_; have GE130 := n4_; clear n0_ n1_ n2_ n3_ n4_; clear hb hbox hg; have hcz25_0 : w24.cell? ⟨gb130, 0, none⟩ = some (.int .i64 0) := (blk_cell BK130.out 0).trans rfl; have hcz25_1 : w24.cell? ⟨gb130, 1, none⟩ = some (.int .i64 0) := (blk_cell BK130.out 1).trans rfl; have hfz25_0 := blk_frozen BK130.out 0; have hfz25_1 := blk_frozen BK130.out 1)))
                          (try simp only [Act.put, List.setIfInBounds_toArray, List.set_cons_zero, List.set_cons_succ])
                          go_cut [67] (fun v67 wc => ∃ (kq : Nat) (x67_21 : Bool), v67 = .bool x67_21 ∧ Aside0 (spec_PageFault.j3 kq t125 t126 x8_3 x67_21 ((rd_T36 t126 x8_3).f0) ((rd_T36 t126 x8_3).f1) = some r) ∧ Aside0 (kq ≤ k3) ∧ Aside0 (Kd.R k36 36 wc w.heap.size (fun k_ => k_ ≠ gb130) (.slice (some ad129) t126.length co23) t126) ∧ Aside0 (wc.heap[gb130]? = some (.cells #[.int .i64 ((rd_T36 t126 x8_3).f0), .int .i64 ((rd_T36 t126 x8_3).f1)] 36 (0, 0))) ∧ Aside0 (Below w.heap.size w wc))
                          case first =>
                            have H := HC22.out
                            clear HC22
                            by_cases c26 : ((rd_T36 t126 x8_3).f0) = 0
                            · rw [if_pos c26] at H
                              have c26b0 : (((rd_T36 t126 x8_3).f0) == 0) = true := beq_iff_eq.mpr c26
                              have c26b1 : (((rd_T36 t126 x8_3).f0) != 0) = false := bne_eq_false_iff_eq.mpr c26
                              clear c26
                              (first | rw [c26b0] | (simp only [i64_w, i32_w]; rw [c26b0]) | skip)
                              have H' := Aside0.mk H
                              clear H
                              have hcz27_0 : w24.cell? ⟨gb130, 0, none⟩ = some (.int .i64 0) := (blk_cell BK130.out 0).trans rfl
                              have hcz27_1 : w24.cell? ⟨gb130, 1, none⟩ = some (.int .i64 0) := (blk_cell BK130.out 1).trans rfl
                              have hfz27_0 := blk_frozen BK130.out 0
                              have hfz27_1 := blk_frozen BK130.out 1
                              go_wp2
                              repeat (go_quiet (fail); try go_wp2)
                              go_meet
                              case rel => exact ⟨_, ((((rd_T36 t126 x8_3).f1) != 0)), (by first | rfl | (simp; done) | (simp [*]; done)), H', ⟨by have := HJ6.out; have := HJ14.out; have := HK3.out; first | omega | exact Nat.le_refl _⟩, ⟨by (with_reducible repeat (first | apply Kd.R_alloc | apply Kd.R_drewN | apply Kd.R_drew)); exact Kd.R_mono (Kd.R_far (p := ⟨gb130, 1, none⟩) (Kd.R_far (p := ⟨gb130, 0, none⟩) (Kd.R_mono HO_7.out (fun k_ hk => (⟨hk, hk.2⟩ : _ ∧ k_ ≠ gb130))) (fun _ hk => hk.2) (.int .i64 ((rd_T36 t126 x8_3).f0))) (fun _ hk => hk.2) (.int .i64 ((rd_T36 t126 x8_3).f1))) (fun _ hk => hk.1.2)⟩, ⟨by (with_reducible repeat (first | refine blk_drewN ?_ _ | refine blk_drew ?_ | refine blk_alloc ?_ _)); refine blk_put (cs := #[.int .i64 ((rd_T36 t126 x8_3).f0), .int .i64 0]) ?_ 1 _ rfl; (with_reducible repeat (first | refine blk_drewN ?_ _ | refine blk_drew ?_ | refine blk_alloc ?_ _)); refine blk_put (cs := #[.int .i64 0, .int .i64 0]) ?_ 0 _ rfl; (with_reducible repeat (first | refine blk_drewN ?_ _ | refine blk_drew ?_ | refine blk_alloc ?_ _)); exact BK130.out⟩, ⟨by repeat (first | (with_reducible first | exact HB.out | apply below_alloc | apply pw_below_drewN | apply below_drew1 | refine below_set ?_ GE130.out) | exact HB.out)⟩⟩
                            · rw [if_neg c26] at H
                              have c26b0 : (((rd_T36 t126 x8_3).f0) == 0) = false := beq_eq_false_iff_ne.mpr c26
                              have c26b1 : (((rd_T36 t126 x8_3).f0) != 0) = true := bne_iff_ne.mpr c26
                              (first | rw [c26b0] | (simp only [i64_w, i32_w]; rw [c26b0]) | skip)
                              have H' := Aside0.mk H
                              clear H
                              have hcz28_0 : w24.cell? ⟨gb130, 0, none⟩ = some (.int .i64 0) := (blk_cell BK130.out 0).trans rfl
                              have hcz28_1 : w24.cell? ⟨gb130, 1, none⟩ = some (.int .i64 0) := (blk_cell BK130.out 1).trans rfl
                              have hfz28_0 := blk_frozen BK130.out 0
                              have hfz28_1 := blk_frozen BK130.out 1
                              go_wp2
                              repeat (go_quiet (fail); try go_wp2)
                              go_meet
                              case rel => exact ⟨_, (false), (by first | rfl | (simp; done) | (simp [*]; done)), H', ⟨by have := HJ6.out; have := HJ14.out; have := HK3.out; first | omega | exact Nat.le_refl _⟩, ⟨by (with_reducible repeat (first | apply Kd.R_alloc | apply Kd.R_drewN | apply Kd.R_drew)); exact Kd.R_mono (Kd.R_far (p := ⟨gb130, 1, none⟩) (Kd.R_far (p := ⟨gb130, 0, none⟩) (Kd.R_mono HO_7.out (fun k_ hk => (⟨hk, hk.2⟩ : _ ∧ k_ ≠ gb130))) (fun _ hk => hk.2) (.int .i64 ((rd_T36 t126 x8_3).f0))) (fun _ hk => hk.2) (.int .i64 ((rd_T36 t126 x8_3).f1))) (fun _ hk => hk.1.2)⟩, ⟨by (with_reducible repeat (first | refine blk_drewN ?_ _ | refine blk_drew ?_ | refine blk_alloc ?_ _)); refine blk_put (cs := #[.int .i64 ((rd_T36 t126 x8_3).f0), .int .i64 0]) ?_ 1 _ rfl; (with_reducible repeat (first | refine blk_drewN ?_ _ | refine blk_drew ?_ | refine blk_alloc ?_ _)); refine blk_put (cs := #[.int .i64 0, .int .i64 0]) ?_ 0 _ rfl; (with_reducible repeat (first | refine blk_drewN ?_ _ | refine blk_drew ?_ | refine blk_alloc ?_ _)); exact BK130.out⟩, ⟨by repeat (first | (with_reducible first | exact HB.out | apply below_alloc | apply pw_below_drewN | apply below_drew1 | refine below_set ?_ GE130.out) | exact HB.out)⟩⟩
                          case rest =>
                            clear HC22
                            try clear c1
                            try clear p1
                            try clear q1
                            try clear hx1
                            try clear qi1
                            try clear c2
                            try clear p2
                            try clear c3
                            try clear c3b0
                            try clear c3b1
                            try clear c5
                            try clear c5b0
                            try clear c5b1
                            try clear c8
                            try clear c8b0
                            try clear c9
                            try clear c9b0
                            try clear c10
                            try clear c10b0
                            try clear c10b1
                            try clear c11
                            try clear c11b0
                            try clear c11b1
                            try clear c12
                            try clear c12b0
                            try clear c12b1
                            try clear p12
                            try clear q12
                            try clear hx12
                            try clear qi12
                            try clear c13
                            try clear c15
                            try clear c16
                            try clear c16b0
                            try clear c17
                            try clear c20
                            try clear c20b0
                            try clear c21
                            try clear c21b0
                            try clear c26
                            try clear c26b0
                            try clear c26b1
                            try clear hcz25_0
                            try clear hcz25_1
                            try clear hcz27_0
                            try clear hcz27_1
                            try clear hcz28_0
                            try clear hcz28_1
                            try clear hfz25_0
                            try clear hfz25_1
                            try clear hfz27_0
                            try clear hfz27_1
                            try clear hfz28_0
                            try clear hfz28_1
                            try clear hx123_0
                            try clear hx124_0
                            try clear hx129_0
                            try clear hx129_1
                            try clear p1
                            try clear p12
                            try clear p123
                            try clear p124
                            try clear p129
                            try clear p2
                            try clear q1
                            try clear q12
                            try clear q123
                            try clear q124
                            try clear q129
                            obtain ⟨kq, x67_21, rfl, HA, HJ21, HO_7, BK130, HB⟩ := hcut
                            cases kq with
                            | zero => exact absurd HA.out (by simp [spec_PageFault.j3])
                            | succ kj21 =>
                              have H := HA.out
                              clear HA
                              simp only [spec_PageFault.j3] at H
                              by_cases c29 : x67_21 = true
                              · subst c29
                                have H1 : (some 5) = some r := by rw [if_pos rfl] at H; exact H
                                clear H
                                have H := H1
                                clear H1
                                obtain rfl := Option.some.inj H
                                go_wp2
                                repeat (go_quiet (fail); try go_wp2)
                                go_ret
                                exact ⟨by first | rfl | (simp [errW_none, errW_some] <;> rfl) | (simp [*, errW_none, errW_some] <;> rfl), by repeat (first | (with_reducible first | exact HB.out | apply below_alloc | apply pw_below_drewN | apply below_drew1 | refine below_set ?_ GE130.out) | exact HB.out)⟩
                              · replace c29 := Bool.eq_false_iff.mpr c29
                                subst c29
                                have H1 : (if ((rd_T36 t126 x8_3).f0) = 0 then (spec_PageFault.l0 kj21 t125 t126 (wrap64 (x8_3 + 1))) else (if ((rd_T36 t126 x8_3).f1) > 1000 then (some 5) else (if ((rd_T36 t126 x8_3).f0) < t125 then (some 5) else (if (wrap64 (((rd_T36 t126 x8_3).f0) + ((rd_T36 t126 x8_3).f1))) > 4096 then (some 5) else (spec_PageFault.l0 kj21 t125 t126 (wrap64 (x8_3 + 1))))))) = some r := by rw [if_neg (show ¬ (false = true) by decide)] at H; exact H
                                clear H
                                have H := H1
                                clear H1
                                by_cases c30 : ((rd_T36 t126 x8_3).f0) = 0
                                · rw [if_pos c30] at H
                                  have c30b0 : (((rd_T36 t126 x8_3).f0) == 0) = true := beq_iff_eq.mpr c30
                                  have c30b1 : (((rd_T36 t126 x8_3).f0) != 0) = false := bne_eq_false_iff_eq.mpr c30
                                  clear c30
                                  have H' := Aside0.mk H
                                  clear H
                                  have hcz31_0 : wc.cell? ⟨gb130, 0, none⟩ = some (.int .i64 ((rd_T36 t126 x8_3).f0)) := (blk_cell BK130.out 0).trans rfl
                                  have hcz31_1 : wc.cell? ⟨gb130, 1, none⟩ = some (.int .i64 ((rd_T36 t126 x8_3).f1)) := (blk_cell BK130.out 1).trans rfl
                                  have hfz31_0 := blk_frozen BK130.out 0
                                  have hfz31_1 := blk_frozen BK130.out 1
                                  go_wp2
                                  repeat (go_quiet (fail); try go_wp2)
                                  go_roundg kj21
                                  case measure => have := HJ6.out; have := HJ14.out; have := HK3.out; have := HJ21.out; omega
                                  case rel => exact ⟨(wrap64 (x8_3 + 1)), (by first | rfl | (simp; done) | (simp [*]; done)), H', ⟨by have := HJ6.out; have := HJ14.out; have := HK3.out; have := HJ21.out; omega⟩, ⟨by (with_reducible repeat (first | apply Kd.R_alloc | apply Kd.R_drewN | apply Kd.R_drew)); exact Kd.R_mono HO_7.out (fun _ hk => trivial)⟩, ⟨by repeat (first | (with_reducible first | exact HB.out | apply below_alloc | apply pw_below_drewN | apply below_drew1 | refine below_set ?_ GE130.out) | exact HB.out)⟩⟩
                                · rw [if_neg c30] at H
                                  have c30b0 : (((rd_T36 t126 x8_3).f0) == 0) = false := beq_eq_false_iff_ne.mpr c30
                                  have c30b1 : (((rd_T36 t126 x8_3).f0) != 0) = true := bne_iff_ne.mpr c30
                                  by_cases c32 : ((rd_T36 t126 x8_3).f1) > 1000
                                  · rw [if_pos c32] at H
                                    have c32b0 : decide (1000 < ((rd_T36 t126 x8_3).f1)) = true := decide_eq_true c32
                                    clear c32
                                    obtain rfl := Option.some.inj H
                                    have hcz33_0 : wc.cell? ⟨gb130, 0, none⟩ = some (.int .i64 ((rd_T36 t126 x8_3).f0)) := (blk_cell BK130.out 0).trans rfl
                                    have hcz33_1 : wc.cell? ⟨gb130, 1, none⟩ = some (.int .i64 ((rd_T36 t126 x8_3).f1)) := (blk_cell BK130.out 1).trans rfl
                                    have hfz33_0 := blk_frozen BK130.out 0
                                    have hfz33_1 := blk_frozen BK130.out 1
                                    go_wp2
                                    repeat (go_quiet (fail); try go_wp2)
                                    go_ret
                                    exact ⟨by first | rfl | (simp [errW_none, errW_some] <;> rfl) | (simp [*, errW_none, errW_some] <;> rfl), by repeat (first | (with_reducible first | exact HB.out | apply below_alloc | apply pw_below_drewN | apply below_drew1 | refine below_set ?_ GE130.out) | exact HB.out)⟩
                                  · rw [if_neg c32] at H
                                    have c32b0 : decide (1000 < ((rd_T36 t126 x8_3).f1)) = false := decide_eq_false c32
                                    clear c32
                                    by_cases c34 : ((rd_T36 t126 x8_3).f0) < t125
                                    · rw [if_pos c34] at H
                                      have c34b0 : decide (((rd_T36 t126 x8_3).f0) < t125) = true := decide_eq_true c34
                                      clear c34
                                      obtain rfl := Option.some.inj H
                                      have hcz35_0 : wc.cell? ⟨gb130, 0, none⟩ = some (.int .i64 ((rd_T36 t126 x8_3).f0)) := (blk_cell BK130.out 0).trans rfl
                                      have hcz35_1 : wc.cell? ⟨gb130, 1, none⟩ = some (.int .i64 ((rd_T36 t126 x8_3).f1)) := (blk_cell BK130.out 1).trans rfl
                                      have hfz35_0 := blk_frozen BK130.out 0
                                      have hfz35_1 := blk_frozen BK130.out 1
                                      go_wp2
                                      repeat (go_quiet (fail); try go_wp2)
                                      go_ret
                                      exact ⟨by first | rfl | (simp [errW_none, errW_some] <;> rfl) | (simp [*, errW_none, errW_some] <;> rfl), by repeat (first | (with_reducible first | exact HB.out | apply below_alloc | apply pw_below_drewN | apply below_drew1 | refine below_set ?_ GE130.out) | exact HB.out)⟩
                                    · rw [if_neg c34] at H
                                      have c34b0 : decide (((rd_T36 t126 x8_3).f0) < t125) = false := decide_eq_false c34
                                      clear c34
                                      by_cases c36 : (wrap64 (((rd_T36 t126 x8_3).f0) + ((rd_T36 t126 x8_3).f1))) > 4096
                                      · rw [if_pos c36] at H
                                        have c36b0 : decide (4096 < (wrap64 (((rd_T36 t126 x8_3).f0) + ((rd_T36 t126 x8_3).f1)))) = true := decide_eq_true c36
                                        clear c36
                                        obtain rfl := Option.some.inj H
                                        have hcz37_0 : wc.cell? ⟨gb130, 0, none⟩ = some (.int .i64 ((rd_T36 t126 x8_3).f0)) := (blk_cell BK130.out 0).trans rfl
                                        have hcz37_1 : wc.cell? ⟨gb130, 1, none⟩ = some (.int .i64 ((rd_T36 t126 x8_3).f1)) := (blk_cell BK130.out 1).trans rfl
                                        have hfz37_0 := blk_frozen BK130.out 0
                                        have hfz37_1 := blk_frozen BK130.out 1
                                        go_wp2
                                        repeat (go_quiet (fail); try go_wp2)
                                        go_ret
                                        exact ⟨by first | rfl | (simp [errW_none, errW_some] <;> rfl) | (simp [*, errW_none, errW_some] <;> rfl), by repeat (first | (with_reducible first | exact HB.out | apply below_alloc | apply pw_below_drewN | apply below_drew1 | refine below_set ?_ GE130.out) | exact HB.out)⟩
                                      · rw [if_neg c36] at H
                                        have c36b0 : decide (4096 < (wrap64 (((rd_T36 t126 x8_3).f0) + ((rd_T36 t126 x8_3).f1)))) = false := decide_eq_false c36
                                        clear c36
                                        have H' := Aside0.mk H
                                        clear H
                                        have hcz38_0 : wc.cell? ⟨gb130, 0, none⟩ = some (.int .i64 ((rd_T36 t126 x8_3).f0)) := (blk_cell BK130.out 0).trans rfl
                                        have hcz38_1 : wc.cell? ⟨gb130, 1, none⟩ = some (.int .i64 ((rd_T36 t126 x8_3).f1)) := (blk_cell BK130.out 1).trans rfl
                                        have hfz38_0 := blk_frozen BK130.out 0
                                        have hfz38_1 := blk_frozen BK130.out 1
                                        go_wp2
                                        repeat (go_quiet (fail); try go_wp2)
                                        go_roundg kj21
                                        case measure => have := HJ6.out; have := HJ14.out; have := HK3.out; have := HJ21.out; omega
                                        case rel => exact ⟨(wrap64 (x8_3 + 1)), (by first | rfl | (simp; done) | (simp [*]; done)), H', ⟨by have := HJ6.out; have := HJ14.out; have := HK3.out; have := HJ21.out; omega⟩, ⟨by (with_reducible repeat (first | apply Kd.R_alloc | apply Kd.R_drewN | apply Kd.R_drew)); exact Kd.R_mono HO_7.out (fun _ hk => trivial)⟩, ⟨by repeat (first | (with_reducible first | exact HB.out | apply below_alloc | apply pw_below_drewN | apply below_drew1 | refine below_set ?_ GE130.out) | exact HB.out)⟩⟩
                        · rw [if_neg c21] at H
                          exact absurd H (by simp)
                      · rw [if_neg c20] at H
                        have c20b0 : decide (x8_3 < (t126.length : Int)) = false := decide_eq_false c20
                        clear c20
                        by_cases c39 : 4096 ≤ 281474976710656
                        · rw [if_pos c39] at H
                          have c39b0 := eq_true c39
                          have c39b1 : decide (4096 ≤ 281474976710656) = true := decide_eq_true c39
                          clear c39
                          obtain ⟨y131, hy131⟩ : ∃ y_ : List Bool, y_ = (List.replicate 4096 false) := ⟨_, rfl⟩
                          replace H : (spec_PageFault.l1 k3 t126 y131 0) = some r := by first | (rw [hy131]; with_reducible exact H) | (have H2_ := (Option.bind_some _ _).symm.trans H; rw [hy131]; with_reducible exact H2_) | (have H2_ := (Option.bind_some _ _).symm.trans H; with_reducible exact H2_) | with_reducible exact H | (rw [hy131]; exact H) | exact H
                          have Ny131 := Aside0.mk hy131
                          clear hy131
                          have H' := Aside0.mk H
                          clear H
                          obtain ⟨Ao40, co40, eo40⟩ := Kd.R_slice HO_7.out
                          subst eo40
                          go_wp2_with (first | ((with_reducible refine gate_dst (N := 90) rfl ?_); refine Kd.R_make Kd.bool _ 4 rfl (N := 90) rfl 40 _ _ rfl 4096 rfl rfl Tryd.underlying40 (.bool false) 1 info4 rfl (by decide) (by omega) false (ok := fun _ => True) (okp := fun _ => True) rfl (fun _ hk => hk) trivial (by omega) (by omega) (Below.refl _ _) (Nat.le_refl _) ?_; intro v132 w41 ho42 hb hg_ hnew_; clear hg_ hnew_; (first | rw [← Ny131.out] at ho42 | (simp only [Int.reduceToNat] at ho42; rw [← Ny131.out] at ho42)); have n0_ := Aside0.mk (Kd.R_below (by (with_reducible repeat (first | apply Kd.R_alloc | apply Kd.R_drewN | apply Kd.R_drew)); exact HO_7.out) hb); have n1_ := Aside0.mk (Kd.R_lower ho42 (below_size (by repeat (first | (with_reducible first | exact HB.out | apply below_alloc | apply pw_below_drewN | apply below_drew1) | exact HB.out)))); have n2_ := Aside0.mk (below_step (by repeat (first | (with_reducible first | exact HB.out | apply below_alloc | apply pw_below_drewN | apply below_drew1) | exact HB.out)) hb); clear HO_7; clear HB; have HO_7 := n0_; have HO133 := n1_; have HB := n2_; clear n0_ n1_ n2_; clear hb ho42))
                          repeat (go_quiet (first | ((with_reducible refine gate_dst (N := 90) rfl ?_); refine Kd.R_make Kd.bool _ 4 rfl (N := 90) rfl 40 _ _ rfl 4096 rfl rfl Tryd.underlying40 (.bool false) 1 info4 rfl (by decide) (by omega) false (ok := fun _ => True) (okp := fun _ => True) rfl (fun _ hk => hk) trivial (by omega) (by omega) (Below.refl _ _) (Nat.le_refl _) ?_; intro v132 w41 ho42 hb hg_ hnew_; clear hg_ hnew_; (first | rw [← Ny131.out] at ho42 | (simp only [Int.reduceToNat] at ho42; rw [← Ny131.out] at ho42)); have n0_ := Aside0.mk (Kd.R_below (by (with_reducible repeat (first | apply Kd.R_alloc | apply Kd.R_drewN | apply Kd.R_drew)); exact HO_7.out) hb); have n1_ := Aside0.mk (Kd.R_lower ho42 (below_size (by repeat (first | (with_reducible first | exact HB.out | apply below_alloc | apply pw_below_drewN | apply below_drew1) | exact HB.out)))); have n2_ := Aside0.mk (below_step (by repeat (first | (with_reducible first | exact HB.out | apply below_alloc | apply pw_below_drewN | apply below_drew1) | exact HB.out)) hb); clear HO_7; clear HB; have HO_7 := n0_; have HO133 := n1_; have HB := n2_; clear n0_ n1_ n2_; clear hb ho42)); try go_wp2_with (first | ((with_reducible refine gate_dst (N := 90) rfl ?_); refine Kd.R_make Kd.bool _ 4 rfl (N := 90) rfl 40 _ _ rfl 4096 rfl rfl Tryd.underlying40 (.bool false) 1 info4 rfl (by decide) (by omega) false (ok := fun _ => True) (okp := fun _ => True) rfl (fun _ hk => hk) trivial (by omega) (by omega) (Below.refl _ _) (Nat.le_refl _) ?_; intro v132 w41 ho42 hb hg_ hnew_; clear hg_ hnew_; (first | rw [← Ny131.out] at ho42 | (simp only [Int.reduceToNat] at ho42; rw [← Ny131.out] at ho42)); have n0_ := Aside0.mk (Kd.R_below (by (with_reducible repeat (first | apply Kd.R_alloc | apply Kd.R_drewN | apply Kd.R_drew)); exact HO_7.out) hb); have n1_ := Aside0.mk (Kd.R_lower ho42 (below_size (by repeat (first | (with_reducible first | exact HB.out | apply below_alloc | apply pw_below_drewN | apply below_drew1) | exact HB.out)))); have n2_ := Aside0.mk (below_step (by repeat (first | (with_reducible first | exact HB.out | apply below_alloc | apply pw_below_drewN | apply below_drew1) | exact HB.out)) hb); clear HO_7; clear HB; have HO_7 := n0_; have HO133 := n1_; have HB := n2_; clear n0_ n1_ n2_; clear hb ho42)))
                          go_loopg [11] k3 (fun kq v11 w' => ∃ (x10_4 : List Bool) (x11_4 : Int), v11 = .int .i64 x11_4 ∧ Aside0 (spec_PageFault.l1 kq t126 x10_4 x11_4 = some r) ∧ Aside0 (kq ≤ k3) ∧ Aside0 (Kd.R k36 36 w' w.heap.size (fun _ => True) (.slice Ao40 t126.length co40) t126) ∧ Aside0 (Kd.R Kd.bool 4 w' w.heap.size (fun _ => True) v132 x10_4) ∧ Aside0 (Below w.heap.size w w'))
                          case atStart => exact ⟨(y131), (0), (by first | rfl | (simp; done) | (simp [*]; done)), H', ⟨Nat.le_refl _⟩, ⟨by (with_reducible repeat (first | apply Kd.R_alloc | apply Kd.R_drewN | apply Kd.R_drew)); exact HO_7.out⟩, ⟨by (with_reducible repeat (first | apply Kd.R_alloc | apply Kd.R_drewN | apply Kd.R_drew)); exact HO133.out⟩, ⟨by repeat (first | (with_reducible first | exact HB.out | apply below_alloc | apply pw_below_drewN | apply below_drew1) | exact HB.out)⟩⟩
                          case round =>
                            clear H'
                            try clear c1
                            try clear p1
                            try clear q1
                            try clear hx1
                            try clear qi1
                            try clear c2
                            try clear p2
                            try clear c3
                            try clear c3b0
                            try clear c3b1
                            try clear c5
                            try clear c5b0
                            try clear c5b1
                            try clear p6
                            try clear c8
                            try clear c8b0
                            try clear c9
                            try clear c9b0
                            try clear c10
                            try clear c10b0
                            try clear c10b1
                            try clear c11
                            try clear c11b0
                            try clear c11b1
                            try clear c12
                            try clear c12b0
                            try clear c12b1
                            try clear p12
                            try clear q12
                            try clear hx12
                            try clear qi12
                            try clear c13
                            try clear c15
                            try clear c16
                            try clear c16b0
                            try clear c17
                            try clear c20
                            try clear c20b0
                            try clear c21
                            try clear c21b0
                            try clear c26
                            try clear c26b0
                            try clear c26b1
                            try clear c29
                            try clear c30
                            try clear c30b0
                            try clear c30b1
                            try clear c32
                            try clear c32b0
                            try clear c34
                            try clear c34b0
                            try clear c36
                            try clear c36b0
                            try clear c39
                            try clear c39b0
                            try clear c39b1
                            try clear hcz25_0
                            try clear hcz25_1
                            try clear hcz27_0
                            try clear hcz27_1
                            try clear hcz28_0
                            try clear hcz28_1
                            try clear hcz31_0
                            try clear hcz31_1
                            try clear hcz33_0
                            try clear hcz33_1
                            try clear hcz35_0
                            try clear hcz35_1
                            try clear hcz37_0
                            try clear hcz37_1
                            try clear hcz38_0
                            try clear hcz38_1
                            try clear hfz25_0
                            try clear hfz25_1
                            try clear hfz27_0
                            try clear hfz27_1
                            try clear hfz28_0
                            try clear hfz28_1
                            try clear hfz31_0
                            try clear hfz31_1
                            try clear hfz33_0
                            try clear hfz33_1
                            try clear hfz35_0
                            try clear hfz35_1
                            try clear hfz37_0
                            try clear hfz37_1
                            try clear hfz38_0
                            try clear hfz38_1
                            try clear hx123_0
                            try clear hx124_0
                            try clear hx129_0
                            try clear hx129_1
                            try clear p1
                            try clear p12
                            try clear p123
                            try clear p124
                            try clear p129
                            try clear p2
                            try clear q1
                            try clear q12
                            try clear q123
                            try clear q124
                            try clear q129
                            obtain ⟨x10_4, x11_4, rfl, HA, HK4, HO_7, HO_10, HB⟩ := hrel
                            cases gk with
                            | zero => exact absurd HA.out (by simp [spec_PageFault.l1])
                            | succ k4 =>
                              have H := HA.out
                              clear HA
                              simp only [spec_PageFault.l1] at H
                              by_cases c43 : x11_4 < (t126.length : Int)
                              · rw [if_pos c43] at H
                                have c43b0 : decide (x11_4 < (t126.length : Int)) = true := decide_eq_true c43
                                clear c43
                                by_cases c44 : 0 ≤ x11_4
                                · rw [if_pos c44] at H
                                  have c44b0 : decide (0 ≤ x11_4) = true := decide_eq_true c44
                                  clear c44
                                  have H' := Aside0.mk H
                                  clear H
                                  have p134 : 0 ≤ (x11_4 : Int) := of_decide_eq_true (by first | (with_reducible assumption) | assumption)
                                  have q134 : x11_4 < (t126.length : Int) := of_decide_eq_true (by first | (with_reducible assumption) | assumption)
                                  obtain ⟨ad134, e134, hx134_0, hx134_1⟩ := at_T36 (Kd.R_reads' HO_7.out).2.2 x11_4 p134 q134
                                  cases e134
                                  replace p134 := eq_true p134
                                  replace q134 := eq_true q134
                                  go_wp2
                                  repeat (go_quiet (fail); try go_wp2)
                                  go_loopg [12] k4 (fun kq v12 w' => ∃ (x10_5 : List Bool) (x12_5 : Int), v12 = .int .i64 x12_5 ∧ Aside0 (spec_PageFault.l2 kq t126 x10_5 x11_4 x12_5 = some r) ∧ Aside0 (kq ≤ k4) ∧ Aside0 (Kd.R k36 36 w' w.heap.size (fun _ => True) (.slice (some ad134) t126.length co40) t126) ∧ Aside0 (Kd.R Kd.bool 4 w' w.heap.size (fun _ => True) v132 x10_5) ∧ Aside0 (Below w.heap.size w w'))
                                  case atStart => exact ⟨(x10_4), ((rd_T36 t126 x11_4).f0), (by first | rfl | (simp; done) | (simp [*]; done)), H', ⟨Nat.le_refl _⟩, ⟨by (with_reducible repeat (first | apply Kd.R_alloc | apply Kd.R_drewN | apply Kd.R_drew)); exact HO_7.out⟩, ⟨by (with_reducible repeat (first | apply Kd.R_alloc | apply Kd.R_drewN | apply Kd.R_drew)); exact HO_10.out⟩, ⟨by repeat (first | (with_reducible first | exact HB.out | apply below_alloc | apply pw_below_drewN | apply below_drew1) | exact HB.out)⟩⟩
                                  case round =>
                                    clear H'
                                    try clear c1
                                    try clear p1
                                    try clear q1
                                    try clear hx1
                                    try clear qi1
                                    try clear c2
                                    try clear p2
                                    try clear c3
                                    try clear c3b0
                                    try clear c3b1
                                    try clear c4
                                    try clear c5
                                    try clear c5b0
                                    try clear c5b1
                                    try clear p6
                                    try clear c8
                                    try clear c8b0
                                    try clear c9
                                    try clear c9b0
                                    try clear c10
                                    try clear c10b0
                                    try clear c10b1
                                    try clear c11
                                    try clear c11b0
                                    try clear c11b1
                                    try clear c12
                                    try clear c12b0
                                    try clear c12b1
                                    try clear p12
                                    try clear q12
                                    try clear hx12
                                    try clear qi12
                                    try clear c13
                                    try clear p13
                                    try clear q13
                                    try clear hx13
                                    try clear c15
                                    try clear c16
                                    try clear c16b0
                                    try clear c17
                                    try clear c20
                                    try clear c20b0
                                    try clear c21
                                    try clear c21b0
                                    try clear c26
                                    try clear c26b0
                                    try clear c26b1
                                    try clear c29
                                    try clear c30
                                    try clear c30b0
                                    try clear c30b1
                                    try clear c32
                                    try clear c32b0
                                    try clear c34
                                    try clear c34b0
                                    try clear c36
                                    try clear c36b0
                                    try clear c39
                                    try clear c39b0
                                    try clear c39b1
                                    try clear c43
                                    try clear c43b0
                                    try clear c44
                                    try clear c44b0
                                    try clear hcz25_0
                                    try clear hcz25_1
                                    try clear hcz27_0
                                    try clear hcz27_1
                                    try clear hcz28_0
                                    try clear hcz28_1
                                    try clear hcz31_0
                                    try clear hcz31_1
                                    try clear hcz33_0
                                    try clear hcz33_1
                                    try clear hcz35_0
                                    try clear hcz35_1
                                    try clear hcz37_0
                                    try clear hcz37_1
                                    try clear hcz38_0
                                    try clear hcz38_1
                                    try clear hfz25_0
                                    try clear hfz25_1
                                    try clear hfz27_0
                                    try clear hfz27_1
                                    try clear hfz28_0
                                    try clear hfz28_1
                                    try clear hfz31_0
                                    try clear hfz31_1
                                    try clear hfz33_0
                                    try clear hfz33_1
                                    try clear hfz35_0
                                    try clear hfz35_1
                                    try clear hfz37_0
                                    try clear hfz37_1
                                    try clear hfz38_0
                                    try clear hfz38_1
                                    try clear hx123_0
                                    try clear hx124_0
                                    try clear hx129_0
                                    try clear hx129_1
                                    try clear hx134_0
                                    try clear hx134_1
                                    try clear p1
                                    try clear p12
                                    try clear p123
                                    try clear p124
                                    try clear p129
                                    try clear p134
                                    try clear p2
                                    try clear p6
                                    try clear q1
                                    try clear q12
                                    try clear q123
                                    try clear q124
                                    try clear q129
                                    try clear q134
                                    obtain ⟨x10_5, x12_5, rfl, HA, HK5, HO_7, HO_10, HB⟩ := hrel
                                    cases gk with
                                    | zero => exact absurd HA.out (by simp [spec_PageFault.l2])
                                    | succ k5 =>
                                      have H := HA.out
                                      clear HA
                                      simp only [spec_PageFault.l2] at H
                                      by_cases c45 : 0 ≤ x11_4
                                      · rw [if_pos c45] at H
                                        have c45b0 : decide (0 ≤ x11_4) = true := decide_eq_true c45
                                        clear c45
                                        by_cases c46 : x11_4 < (t126.length : Int)
                                        · rw [if_pos c46] at H
                                          have c46b0 : decide (x11_4 < (t126.length : Int)) = true := decide_eq_true c46
                                          clear c46
                                          by_cases c47 : x12_5 < (wrap64 (((rd_T36 t126 x11_4).f0) + ((rd_T36 t126 x11_4).f1)))
                                          · rw [if_pos c47] at H
                                            have c47b0 : decide (x12_5 < (wrap64 (((rd_T36 t126 x11_4).f0) + ((rd_T36 t126 x11_4).f1)))) = true := decide_eq_true c47
                                            clear c47
                                            by_cases c48 : 0 ≤ x12_5
                                            · rw [if_pos c48] at H
                                              have c48b0 : decide (0 ≤ x12_5) = true := decide_eq_true c48
                                              clear c48
                                              by_cases c49 : x12_5 < (x10_5.length : Int)
                                              · rw [if_pos c49] at H
                                                have c49b0 : decide (x12_5 < (x10_5.length : Int)) = true := decide_eq_true c49
                                                clear c49
                                                obtain ⟨bq50, hbq50⟩ : ∃ b_ : Bool, b_ = (rdOf false x10_5 x12_5) := ⟨_, rfl⟩
                                                replace H : (if bq50 = true then (some 6) else (spec_PageFault.l2 k5 t126 (x10_5.set (x12_5 : Int).toNat true) x11_4 (wrap64 (x12_5 + 1)))) = some r := by rw [← hbq50] at H; exact H
                                                have Nbq50 := Aside0.mk hbq50
                                                clear hbq50
                                                by_cases c51 : bq50 = true
                                                · subst c51
                                                  have H1 : (some 6) = some r := by rw [if_pos rfl] at H; exact H
                                                  clear H
                                                  have H := H1
                                                  clear H1
                                                  obtain rfl := Option.some.inj H
                                                  have p135 : 0 ≤ (x11_4 : Int) := of_decide_eq_true (by first | (with_reducible assumption) | assumption)
                                                  have q135 : x11_4 < (t126.length : Int) := of_decide_eq_true (by first | (with_reducible assumption) | assumption)
                                                  obtain ⟨ad135, e135, hx135_0, hx135_1⟩ := at_T36 (Kd.R_reads' HO_7.out).2.2 x11_4 p135 q135
                                                  obtain rfl : ad134 = ad135 := (by injection e135)
                                                  replace p135 := eq_true p135
                                                  replace q135 := eq_true q135
                                                  have p136 : 0 ≤ (x11_4 : Int) := of_decide_eq_true (by first | (with_reducible assumption) | assumption)
                                                  have q136 : x11_4 < (t126.length : Int) := of_decide_eq_true (by first | (with_reducible assumption) | assumption)
                                                  obtain ⟨ad136, e136, hx136_0, hx136_1⟩ := at_T36 (Kd.R_reads' HO_7.out).2.2 x11_4 p136 q136
                                                  obtain rfl : ad134 = ad136 := (by injection e136)
                                                  replace p136 := eq_true p136
                                                  replace q136 := eq_true q136
                                                  obtain ⟨Ao52, co52, eo52⟩ := Kd.R_slice HO_10.out
                                                  subst eo52
                                                  have p137 : 0 ≤ (x12_5 : Int) := of_decide_eq_true (by first | (with_reducible assumption) | assumption)
                                                  have q137 : x12_5 < (x10_5.length : Int) := of_decide_eq_true (by first | (with_reducible assumption) | assumption)
                                                  obtain ⟨ad137, e137, hx137_0⟩ := Kd.at_bool (Kd.R_reads' HO_10.out).2.2 x12_5 p137 q137
                                                  (try rw [← Nbq50.out] at hx137_0)
                                                  cases e137
                                                  replace p137 := eq_true p137
                                                  replace q137 := eq_true q137
                                                  go_wp2
                                                  repeat (go_quiet (fail); try go_wp2)
                                                  go_ret
                                                  exact ⟨by first | rfl | (simp [errW_none, errW_some] <;> rfl) | (simp [*, errW_none, errW_some] <;> rfl), by repeat (first | (with_reducible first | exact HB.out | apply below_alloc | apply pw_below_drewN | apply below_drew1) | exact HB.out)⟩
                                                · replace c51 := Bool.eq_false_iff.mpr c51
                                                  subst c51
                                                  have H1 : (spec_PageFault.l2 k5 t126 (x10_5.set (x12_5 : Int).toNat true) x11_4 (wrap64 (x12_5 + 1))) = some r := by rw [if_neg (show ¬ (false = true) by decide)] at H; exact H
                                                  clear H
                                                  have H := H1
                                                  clear H1
                                                  obtain ⟨y138, hy138⟩ : ∃ y_ : List Bool, y_ = (x10_5.set (x12_5 : Int).toNat true) := ⟨_, rfl⟩
                                                  replace H : (spec_PageFault.l2 k5 t126 y138 x11_4 (wrap64 (x12_5 + 1))) = some r := by first | (rw [hy138]; with_reducible exact H) | (have H2_ := (Option.bind_some _ _).symm.trans H; rw [hy138]; with_reducible exact H2_) | (have H2_ := (Option.bind_some _ _).symm.trans H; with_reducible exact H2_) | with_reducible exact H | (rw [hy138]; exact H) | exact H
                                                  have Ny138 := Aside0.mk hy138
                                                  clear hy138
                                                  have H' := Aside0.mk H
                                                  clear H
                                                  have p135 : 0 ≤ (x11_4 : Int) := of_decide_eq_true (by first | (with_reducible assumption) | assumption)
                                                  have q135 : x11_4 < (t126.length : Int) := of_decide_eq_true (by first | (with_reducible assumption) | assumption)
                                                  obtain ⟨ad135, e135, hx135_0, hx135_1⟩ := at_T36 (Kd.R_reads' HO_7.out).2.2 x11_4 p135 q135
                                                  obtain rfl : ad134 = ad135 := (by injection e135)
                                                  replace p135 := eq_true p135
                                                  replace q135 := eq_true q135
                                                  have p136 : 0 ≤ (x11_4 : Int) := of_decide_eq_true (by first | (with_reducible assumption) | assumption)
                                                  have q136 : x11_4 < (t126.length : Int) := of_decide_eq_true (by first | (with_reducible assumption) | assumption)
                                                  obtain ⟨ad136, e136, hx136_0, hx136_1⟩ := at_T36 (Kd.R_reads' HO_7.out).2.2 x11_4 p136 q136
                                                  obtain rfl : ad134 = ad136 := (by injection e136)
                                                  replace p136 := eq_true p136
                                                  replace q136 := eq_true q136
                                                  obtain ⟨Ao54, co54, eo54⟩ := Kd.R_slice HO_10.out
                                                  subst eo54
                                                  have p137 : 0 ≤ (x12_5 : Int) := of_decide_eq_true (by first | (with_reducible assumption) | assumption)
                                                  have q137 : x12_5 < (x10_5.length : Int) := of_decide_eq_true (by first | (with_reducible assumption) | assumption)
                                                  obtain ⟨ad137, e137, hx137_0⟩ := Kd.at_bool (Kd.R_reads' HO_10.out).2.2 x12_5 p137 q137
                                                  (try rw [← Nbq50.out] at hx137_0)
                                                  cases e137
                                                  replace p137 := eq_true p137
                                                  replace q137 := eq_true q137
                                                  have p53 : 0 ≤ (x12_5 : Int) := of_decide_eq_true (by first | (with_reducible assumption) | assumption)
                                                  have q53 : (x12_5 : Int) < ((x10_5.length : Int) : Int) := of_decide_eq_true (by first | (with_reducible assumption) | assumption)
                                                  obtain ⟨go53, co53, eo53, gb53, gl53, cl53, HG53⟩ := Kd.R_form HO_10.out (by omega)
                                                  (first | cases eo53 | (injection eo53 with ea_ en_ ec_; (first | subst ea_ | (injection ea_ with ea_; subst ea_)); subst ec_; clear en_))
                                                  have GB53 := Aside0.mk gb53
                                                  have GG53 := Aside0.mk HG53
                                                  clear gb53 gl53 HG53
                                                  (first | simp only [add_plain] at hx137_0 | skip)
                                                  obtain ⟨hx53_0, hf53_0⟩ := Kd.R_celln false HO_10.out (x12_5 : Int) p53 q53
                                                  replace p53 := eq_true p53
                                                  replace q53 := eq_true q53
                                                  have HP55 := Kd.R_putg HO_10.out (x12_5 : Int) true
                                                  go_wp2_with (first | ((with_reducible refine gate_store (t := 4) (p := 123) rfl ?_); (try (rw [drewN_self wr]; generalize hq_ : World.drewN wr _ = wr; have n0_ := Aside0.mk (Kd.R_at hq_ HO_7.out); have n1_ := Aside0.mk (Kd.R_at hq_ HO_10.out); have n2_ := Aside0.mk (below_at hq_ HB.out); clear hq_ HO_7 HO_10 HB; have HO_7 := n0_; have HO_10 := n1_; have HB := n2_; clear n0_ n1_ n2_; (try (have HP55 := Kd.R_putg HO_10.out (x12_5 : Int) true)))); refine store_event (t := 4) (p := 123) (v := ?vo_w56) (w1 := (wr.setCell ⟨go53, (x12_5 : Int).toNat, none⟩ (.bool true))) ?hg ?ho ?hn ?hr ?_; (case ho => rfl); (case hg => rfl); (case hn => rfl); (case hr => first | (go_simp; done) | (go_simp; rfl)); intro w56 hw; have hg : wr.grownBy w56 (some go53) := (by rw [hw]; exact HP55.2); have hp_ : Kd.R Kd.bool 4 w56 w.heap.size (fun _ => True) (.slice (some ⟨go53, 0, none⟩) x10_5.length co54) y138 := (by rw [hw, Ny138.out]; exact HP55.1); clear HP55; have n0_ := Aside0.mk (Kd.R_over' (v := (.slice (some ⟨go53, 0, none⟩) x10_5.length co54)) (by (with_reducible repeat (first | apply Kd.R_alloc | apply Kd.R_drewN | apply Kd.R_drew)); exact HO_7.out) (Kd.R_typed HO_10.out) (by decide) hg); have n1_ := Aside0.mk (hp_); have n2_ := Aside0.mk ((by rw [hw]; exact below_set (HB.out) GB53.out : Below w.heap.size w w56)); clear HO_7; clear HO_10; clear HB; have HO_7 := n0_; have HO_10 := n1_; have HB := n2_; clear n0_ n1_ n2_; clear hg hw hp_))
                                                  repeat (go_quiet (first | ((with_reducible refine gate_store (t := 4) (p := 123) rfl ?_); (try (rw [drewN_self wr]; generalize hq_ : World.drewN wr _ = wr; have n0_ := Aside0.mk (Kd.R_at hq_ HO_7.out); have n1_ := Aside0.mk (Kd.R_at hq_ HO_10.out); have n2_ := Aside0.mk (below_at hq_ HB.out); clear hq_ HO_7 HO_10 HB; have HO_7 := n0_; have HO_10 := n1_; have HB := n2_; clear n0_ n1_ n2_; (try (have HP55 := Kd.R_putg HO_10.out (x12_5 : Int) true)))); refine store_event (t := 4) (p := 123) (v := ?vo_w56) (w1 := (wr.setCell ⟨go53, (x12_5 : Int).toNat, none⟩ (.bool true))) ?hg ?ho ?hn ?hr ?_; (case ho => rfl); (case hg => rfl); (case hn => rfl); (case hr => first | (go_simp; done) | (go_simp; rfl)); intro w56 hw; have hg : wr.grownBy w56 (some go53) := (by rw [hw]; exact HP55.2); have hp_ : Kd.R Kd.bool 4 w56 w.heap.size (fun _ => True) (.slice (some ⟨go53, 0, none⟩) x10_5.length co54) y138 := (by rw [hw, Ny138.out]; exact HP55.1); clear HP55; have n0_ := Aside0.mk (Kd.R_over' (v := (.slice (some ⟨go53, 0, none⟩) x10_5.length co54)) (by (with_reducible repeat (first | apply Kd.R_alloc | apply Kd.R_drewN | apply Kd.R_drew)); exact HO_7.out) (Kd.R_typed HO_10.out) (by decide) hg); have n1_ := Aside0.mk (hp_); have n2_ := Aside0.mk ((by rw [hw]; exact below_set (HB.out) GB53.out : Below w.heap.size w w56)); clear HO_7; clear HO_10; clear HB; have HO_7 := n0_; have HO_10 := n1_; have HB := n2_; clear n0_ n1_ n2_; clear hg hw hp_)); try go_wp2_with (first | ((with_reducible refine gate_store (t := 4) (p := 123) rfl ?_); (try (rw [drewN_self wr]; generalize hq_ : World.drewN wr _ = wr; have n0_ := Aside0.mk (Kd.R_at hq_ HO_7.out); have n1_ := Aside0.mk (Kd.R_at hq_ HO_10.out); have n2_ := Aside0.mk (below_at hq_ HB.out); clear hq_ HO_7 HO_10 HB; have HO_7 := n0_; have HO_10 := n1_; have HB := n2_; clear n0_ n1_ n2_; (try (have HP55 := Kd.R_putg HO_10.out (x12_5 : Int) true)))); refine store_event (t := 4) (p := 123) (v := ?vo_w56) (w1 := (wr.setCell ⟨go53, (x12_5 : Int).toNat, none⟩ (.bool true))) ?hg ?ho ?hn ?hr ?_; (case ho => rfl); (case hg => rfl); (case hn => rfl); (case hr => first | (go_simp; done) | (go_simp; rfl)); intro w56 hw; have hg : wr.grownBy w56 (some go53) := (by rw [hw]; exact HP55.2); have hp_ : Kd.R Kd.bool 4 w56 w.heap.size (fun _ => True) (.slice (some ⟨go53, 0, none⟩) x10_5.length co54) y138 := (by rw [hw, Ny138.out]; exact HP55.1); clear HP55; have n0_ := Aside0.mk (Kd.R_over' (v := (.slice (some ⟨go53, 0, none⟩) x10_5.length co54)) (by (with_reducible repeat (first | apply Kd.R_alloc | apply Kd.R_drewN | apply Kd.R_drew)); exact HO_7.out) (Kd.R_typed HO_10.out) (by decide) hg); have n1_ := Aside0.mk (hp_); have n2_ := Aside0.mk ((by rw [hw]; exact below_set (HB.out) GB53.out : Below w.heap.size w w56)); clear HO_7; clear HO_10; clear HB; have HO_7 := n0_; have HO_10 := n1_; have HB := n2_; clear n0_ n1_ n2_; clear hg hw hp_)))
                                                  go_roundg k5
                                                  case measure => have := HJ6.out; have := HJ14.out; have := HK3.out; have := HK4.out; have := HK5.out; omega
                                                  case rel => exact ⟨(y138), (wrap64 (x12_5 + 1)), (by first | rfl | (simp; done) | (simp [*]; done)), H', ⟨by have := HJ6.out; have := HJ14.out; have := HK3.out; have := HK4.out; have := HK5.out; omega⟩, ⟨Kd.R_over' (v := (.slice (some ⟨go53, 0, none⟩) x10_5.length co54)) (Kd.R_drewN HO_7.out _) (Kd.R_typed (Kd.R_drewN HO_10.out _)) (by decide) (Kd.R_putg (Kd.R_drewN HO_10.out _) (x12_5 : Int) true).2⟩, ⟨by rw [Ny138.out]; exact (Kd.R_putg (Kd.R_drewN HO_10.out _) (x12_5 : Int) true).1⟩, ⟨below_set (pw_below_drewN HB.out _) GB53.out⟩⟩
                                              · rw [if_neg c49] at H
                                                exact absurd H (by simp)
                                            · rw [if_neg c48] at H
                                              exact absurd H (by simp)
                                          · rw [if_neg c47] at H
                                            have c47b0 : decide (x12_5 < (wrap64 (((rd_T36 t126 x11_4).f0) + ((rd_T36 t126 x11_4).f1)))) = false := decide_eq_false c47
                                            clear c47
                                            have H' := Aside0.mk H
                                            clear H
                                            have p135 : 0 ≤ (x11_4 : Int) := of_decide_eq_true (by first | (with_reducible assumption) | assumption)
                                            have q135 : x11_4 < (t126.length : Int) := of_decide_eq_true (by first | (with_reducible assumption) | assumption)
                                            obtain ⟨ad135, e135, hx135_0, hx135_1⟩ := at_T36 (Kd.R_reads' HO_7.out).2.2 x11_4 p135 q135
                                            obtain rfl : ad134 = ad135 := (by injection e135)
                                            replace p135 := eq_true p135
                                            replace q135 := eq_true q135
                                            have p136 : 0 ≤ (x11_4 : Int) := of_decide_eq_true (by first | (with_reducible assumption) | assumption)
                                            have q136 : x11_4 < (t126.length : Int) := of_decide_eq_true (by first | (with_reducible assumption) | assumption)
                                            obtain ⟨ad136, e136, hx136_0, hx136_1⟩ := at_T36 (Kd.R_reads' HO_7.out).2.2 x11_4 p136 q136
                                            obtain rfl : ad134 = ad136 := (by injection e136)
                                            replace p136 := eq_true p136
                                            replace q136 := eq_true q136
                                            go_wp2
                                            repeat (go_quiet (fail); try go_wp2)
                                            go_roundg k5
                                            case measure => have := HJ6.out; have := HJ14.out; have := HK3.out; have := HK4.out; have := HK5.out; omega
                                            case rel => exact ⟨(x10_5), (wrap64 (x11_4 + 1)), (by first | rfl | (simp; done) | (simp [*]; done)), H', ⟨by have := HJ6.out; have := HJ14.out; have := HK3.out; have := HK4.out; have := HK5.out; omega⟩, ⟨by (with_reducible repeat (first | apply Kd.R_alloc | apply Kd.R_drewN | apply Kd.R_drew)); exact HO_7.out⟩, ⟨by (with_reducible repeat (first | apply Kd.R_alloc | apply Kd.R_drewN | apply Kd.R_drew)); exact HO_10.out⟩, ⟨by repeat (first | (with_reducible first | exact HB.out | apply below_alloc | apply pw_below_drewN | apply below_drew1) | exact HB.out)⟩⟩
                                        · rw [if_neg c46] at H
                                          exact absurd H (by simp)
                                      · rw [if_neg c45] at H
                                        exact absurd H (by simp)
                                · rw [if_neg c44] at H
                                  exact absurd H (by simp)
                              · rw [if_neg c43] at H
                                have c43b0 : decide (x11_4 < (t126.length : Int)) = false := decide_eq_false c43
                                clear c43
                                obtain rfl := Option.some.inj H
                                go_wp2
                                repeat (go_quiet (fail); try go_wp2)
                                go_ret
                                exact ⟨by first | rfl | (simp [errW_none, errW_some] <;> rfl) | (simp [*, errW_none, errW_some] <;> rfl), by repeat (first | (with_reducible first | exact HB.out | apply below_alloc | apply pw_below_drewN | apply below_drew1) | exact HB.out)⟩
                        · rw [if_neg c39] at H
                          exact absurd H (by simp)
    · rw [if_neg c5] at H
      have c5b0 : (t121 == a1) = false := beq_eq_false_iff_ne.mpr c5
      have c5b1 : (t121 != a1) = true := bne_iff_ne.mpr c5
      obtain rfl := Option.some.inj H
      go_enter Tryd.func15, Tryd.ntmps15
      go_wp2_with (first | (go_at_call 27; (with_reducible refine (spec_l3Number.calls k _ _ l0 12 4 t121 _ ?side1 ?side2 A4.out).mono ?_); (case side1 => repeat (first | exact HR0.out | (with_reducible refine Kd.C_alloc ?_ _) | (with_reducible refine Kd.C_drewN ?_ _) | (with_reducible refine Kd.C_drew ?_))); (case side2 => exact HC0.out); rintro e w' ⟨rfl, ⟨nd, rfl⟩⟩; (try first | exact ⟨rfl, _, World.drewN_drewN _ _ _⟩ | exact ⟨rfl, _, Eq.trans (World.drewN_drewN _ _ _) (congrArg (World.drewN _) (Nat.add_assoc _ _ _))⟩)))
      repeat (go_quiet (first | (go_at_call 27; (with_reducible refine (spec_l3Number.calls k _ _ l0 12 4 t121 _ ?side1 ?side2 A4.out).mono ?_); (case side1 => repeat (first | exact HR0.out | (with_reducible refine Kd.C_alloc ?_ _) | (with_reducible refine Kd.C_drewN ?_ _) | (with_reducible refine Kd.C_drew ?_))); (case side2 => exact HC0.out); rintro e w' ⟨rfl, ⟨nd, rfl⟩⟩; (try first | exact ⟨rfl, _, World.drewN_drewN _ _ _⟩ | exact ⟨rfl, _, Eq.trans (World.drewN_drewN _ _ _) (congrArg (World.drewN _) (Nat.add_assoc _ _ _))⟩))); try go_wp2_with (first | (go_at_call 27; (with_reducible refine (spec_l3Number.calls k _ _ l0 12 4 t121 _ ?side1 ?side2 A4.out).mono ?_); (case side1 => repeat (first | exact HR0.out | (with_reducible refine Kd.C_alloc ?_ _) | (with_reducible refine Kd.C_drewN ?_ _) | (with_reducible refine Kd.C_drew ?_))); (case side2 => exact HC0.out); rintro e w' ⟨rfl, ⟨nd, rfl⟩⟩; (try first | exact ⟨rfl, _, World.drewN_drewN _ _ _⟩ | exact ⟨rfl, _, Eq.trans (World.drewN_drewN _ _ _) (congrArg (World.drewN _) (Nat.add_assoc _ _ _))⟩))))
      go_ret
      exact ⟨by first | rfl | (simp [errW_none, errW_some] <;> rfl) | (simp [*, errW_none, errW_some] <;> rfl), by repeat (first | (with_reducible first | exact HB.out | apply below_alloc | apply pw_below_drewN | apply below_drew1) | exact HB.out)⟩
  · rw [if_neg c3] at H
    have c3b0 : ((l0.length : Int) == 4096) = false := beq_eq_false_iff_ne.mpr c3
    have c3b1 : ((l0.length : Int) != 4096) = true := bne_iff_ne.mpr c3
    obtain rfl := Option.some.inj H
    go_enter Tryd.func15, Tryd.ntmps15
    go_wp2
    repeat (go_quiet (fail); try go_wp2)
    go_ret
    exact ⟨by first | rfl | (simp [errW_none, errW_some] <;> rfl) | (simp [*, errW_none, errW_some] <;> rfl), by repeat (first | (with_reducible first | exact HB.out | apply below_alloc | apply pw_below_drewN | apply below_drew1) | exact HB.out)⟩

end Go.Proofs.YtknodhkifmklfaaDoor.QFnExactPageLSN
