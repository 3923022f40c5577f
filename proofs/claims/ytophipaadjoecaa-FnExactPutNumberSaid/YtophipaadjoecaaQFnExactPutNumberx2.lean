/- Proved: contracts of functions that FnExactPutNumber reaches (a print of the kit's program, parted and shortened by squeeze.py). No statement of the seat is proved here. -/
import Derived.Test.YtophipaadjoecaaQFnExactPutNumberx0
import Derived.Test.YtophipaadjoecaaQFnExactPutNumberx1
namespace Go.Proofs.Ytophipaadjoecaa.QFnExactPutNumber
open Go.RowKit Go.Proofs.YtophipaadjoecaaW.PrintWords Go.Proofs.YtophipaadjoecaaW.PrintLast Go.Proofs.YtophipaadjoecaaW.PrintMore
attribute [local go_sem] max2_int min2_int max_two min_two max_three min_three max_four min_four   -- for this text's walks alone
set_option linter.unusedVariables false
set_option linter.unusedSimpArgs false

/-! ### laws_FnExactPutNumber: function 3 -/
def laws_FnExactPutNumber.f (k : Nat) (a0 : Int) (a1 : Int) : Option (Bool) := (spec_PutNumber.f k a0 a1).bind fun t125 => ((impl_PutNumber.f a0 a1).bind fun t128 => ((laws_eqByteS.f k t128 t125).bind fun t131 => (if t131 = true then ((laws_markByteS.f k t128 1).bind fun bt132 => ((laws_heldByteS.f k bt132.2 1).bind fun t134 => (if t134 < 0 then (some false) else (if t134 = bt132.1 then ((impl_PutNumber.f a0 a1).bind fun t135 => ((laws_eqByteS.f k t135 t125).bind fun t138 => (if t138 = true then ((laws_heldByteS.f k bt132.2 1).bind fun t139 => (if t139 < 0 then (some false) else (if t139 = bt132.1 then (some true) else (some false)))) else (some false)))) else (some false))))) else (some false))))
theorem laws_FnExactPutNumber.mono : ∀ a0 a1 k, LeO (laws_FnExactPutNumber.f k a0 a1) (laws_FnExactPutNumber.f (k + 1) a0 a1) := by
  intro a0 a1 k
  unfold laws_FnExactPutNumber.f
  repeat' first
      | (with_reducible exact LeO.refl _ _)
      | (with_reducible exact laws_eqByteS.mono _ _ _)
      | (with_reducible exact laws_heldByteS.mono _ _ _)
      | (with_reducible exact laws_markByteS.mono _ _ _)
      | (with_reducible exact spec_PutNumber.mono _ _ _)
      | (with_reducible exact LeO.refl _)
      | (with_reducible exact LeO.none _)
      | (with_reducible refine LeO.ite ?_ ?_)
      | (with_reducible refine LeO.bind ?_ (fun _ => ?_))
      | exact LeO.refl _ _
      | exact laws_eqByteS.mono _ _ _
      | exact laws_heldByteS.mono _ _ _
      | exact laws_markByteS.mono _ _ _
      | exact spec_PutNumber.mono _ _ _
      | exact LeO.none _
      | refine LeO.ite ?_ ?_
      | refine LeO.bind ?_ (fun _ => ?_)
namespace Kd
theorem Q_tight {α : Type} {d : Kd α} {e : Nat} {w : World} {base : Nat} {ok : Nat → Prop} {v : Value} {xs : List α} (hE : d.E = []) (h : d.Q e w base ok v xs) : d.Q e w base (fun k => some k = v.ownBlock) v xs := by
  obtain ⟨h0, inner, ho, hr⟩ := h
  refine ⟨fun k hk => hk.symm, inner, ho, hr.imp_ (fun p c hp => d.M_mono (fun k hk => ?_) (d.M_bound hp))⟩
  obtain ⟨_, _, _, q, hq, _⟩ := hk
  rw [hE] at hq
  cases hq
theorem Q_reok {α : Type} {d : Kd α} {e : Nat} {w : World} {base : Nat} {ok ok1 : Nat → Prop} {v : Value} {xs : List α} (hE : d.E = []) (h : d.Q e w base ok1 v xs) (hok : ∀ k, v.ownBlock = some k → ok k) : d.Q e w base ok v xs := Kd.Q_mono (Q_tight hE h) (fun k hk => hok k hk.symm)
end Kd
theorem spec_PutNumber.callsQ (k : Nat) (a0 : Int) (a1 : Int) (r : List Int) (w : World) (h : spec_PutNumber.f k a0 a1 = some r) :
    Calls Try.prog 13 #[.int .i64 a0, .int .i64 a1] w fun e w' => ∃ v0_ : Value, e = .returned (v0_) ∧ Kd.Q (Kd.int .u8) 5 w' w.heap.size (fun _ => True) v0_ r ∧ Below w.heap.size w w' := by
  refine (spec_PutNumber.calls k a0 a1 r w h).mono ?_
  rintro e w' ⟨v, rfl, h1, h2⟩
  exact ⟨v, rfl, Kd.Q_of_R h1, h2⟩
theorem impl_PutNumber.callsQ (k : Nat) (a0 : Int) (a1 : Int) (r : List Int) (w : World) (h : impl_PutNumber.f a0 a1 = some r) :
    Calls Try.prog 14 #[.int .i64 a0, .int .i64 a1] w fun e w' => ∃ v0_ : Value, e = .returned (v0_) ∧ Kd.Q (Kd.int .u8) 5 w' w.heap.size (fun _ => True) v0_ r ∧ Below w.heap.size w w' := impl_PutNumber.calls a0 a1 r w h
set_option maxHeartbeats 8000000 in
set_option maxRecDepth 100000 in
theorem laws_FnExactPutNumber.calls (k : Nat) (a0 : Int) (a1 : Int) (w : World) (h : laws_FnExactPutNumber.f k a0 a1 = some true) :
    Calls Try.prog 3 #[.int .i64 a0, .int .i64 a1] w fun e w' => e = .returned (.bool true) ∧ Below w.heap.size w w' := by
  have HB := Aside0.mk (Below.refl w.heap.size w)
  have H : ((spec_PutNumber.f k a0 a1).bind fun t125 => ((impl_PutNumber.f a0 a1).bind fun t128 => ((laws_eqByteS.f k t128 t125).bind fun t131 => (if t131 = true then ((laws_markByteS.f k t128 1).bind fun bt132 => ((laws_heldByteS.f k bt132.2 1).bind fun t134 => (if t134 < 0 then (some false) else (if t134 = bt132.1 then ((impl_PutNumber.f a0 a1).bind fun t135 => ((laws_eqByteS.f k t135 t125).bind fun t138 => (if t138 = true then ((laws_heldByteS.f k bt132.2 1).bind fun t139 => (if t139 < 0 then (some false) else (if t139 = bt132.1 then (some true) else (some false)))) else (some false)))) else (some false))))) else (some false))))) = some true := h
  clear h
  replace H := Option.bind_eq_some_iff.mp H
  obtain ⟨t125, A30, H⟩ := H
  replace H : ((impl_PutNumber.f a0 a1).bind fun t128 => ((laws_eqByteS.f k t128 t125).bind fun t131 => (if t131 = true then ((laws_markByteS.f k t128 1).bind fun bt132 => ((laws_heldByteS.f k bt132.2 1).bind fun t134 => (if t134 < 0 then (some false) else (if t134 = bt132.1 then ((impl_PutNumber.f a0 a1).bind fun t135 => ((laws_eqByteS.f k t135 t125).bind fun t138 => (if t138 = true then ((laws_heldByteS.f k bt132.2 1).bind fun t139 => (if t139 < 0 then (some false) else (if t139 = bt132.1 then (some true) else (some false)))) else (some false)))) else (some false))))) else (some false)))) = some true := H
  have A3 := Aside0.mk A30
  clear A30
  replace H := Option.bind_eq_some_iff.mp H
  obtain ⟨t128, A40, H⟩ := H
  replace H : ((laws_eqByteS.f k t128 t125).bind fun t131 => (if t131 = true then ((laws_markByteS.f k t128 1).bind fun bt132 => ((laws_heldByteS.f k bt132.2 1).bind fun t134 => (if t134 < 0 then (some false) else (if t134 = bt132.1 then ((impl_PutNumber.f a0 a1).bind fun t135 => ((laws_eqByteS.f k t135 t125).bind fun t138 => (if t138 = true then ((laws_heldByteS.f k bt132.2 1).bind fun t139 => (if t139 < 0 then (some false) else (if t139 = bt132.1 then (some true) else (some false)))) else (some false)))) else (some false))))) else (some false))) = some true := H
  have A4 := Aside0.mk A40
  clear A40
  replace H := Option.bind_eq_some_iff.mp H
  obtain ⟨t131, A50, H⟩ := H
  replace H : (if t131 = true then ((laws_markByteS.f k t128 1).bind fun bt132 => ((laws_heldByteS.f k bt132.2 1).bind fun t134 => (if t134 < 0 then (some false) else (if t134 = bt132.1 then ((impl_PutNumber.f a0 a1).bind fun t135 => ((laws_eqByteS.f k t135 t125).bind fun t138 => (if t138 = true then ((laws_heldByteS.f k bt132.2 1).bind fun t139 => (if t139 < 0 then (some false) else (if t139 = bt132.1 then (some true) else (some false)))) else (some false)))) else (some false))))) else (some false)) = some true := H
  have A5 := Aside0.mk A50
  clear A50
  by_cases c6 : t131 = true
  · subst c6
    have H1 : ((laws_markByteS.f k t128 1).bind fun bt132 => ((laws_heldByteS.f k bt132.2 1).bind fun t134 => (if t134 < 0 then (some false) else (if t134 = bt132.1 then ((impl_PutNumber.f a0 a1).bind fun t135 => ((laws_eqByteS.f k t135 t125).bind fun t138 => (if t138 = true then ((laws_heldByteS.f k bt132.2 1).bind fun t139 => (if t139 < 0 then (some false) else (if t139 = bt132.1 then (some true) else (some false)))) else (some false)))) else (some false))))) = some true := by rw [if_pos rfl] at H; exact H
    clear H
    have H := H1
    clear H1
    replace H := Option.bind_eq_some_iff.mp H
    obtain ⟨⟨t132, t133⟩, A70, H⟩ := H
    replace H : ((laws_heldByteS.f k t133 1).bind fun t134 => (if t134 < 0 then (some false) else (if t134 = t132 then ((impl_PutNumber.f a0 a1).bind fun t135 => ((laws_eqByteS.f k t135 t125).bind fun t138 => (if t138 = true then ((laws_heldByteS.f k t133 1).bind fun t139 => (if t139 < 0 then (some false) else (if t139 = t132 then (some true) else (some false)))) else (some false)))) else (some false)))) = some true := H
    have A7 := Aside0.mk A70
    clear A70
    replace H := Option.bind_eq_some_iff.mp H
    obtain ⟨t134, A80, H⟩ := H
    replace H : (if t134 < 0 then (some false) else (if t134 = t132 then ((impl_PutNumber.f a0 a1).bind fun t135 => ((laws_eqByteS.f k t135 t125).bind fun t138 => (if t138 = true then ((laws_heldByteS.f k t133 1).bind fun t139 => (if t139 < 0 then (some false) else (if t139 = t132 then (some true) else (some false)))) else (some false)))) else (some false))) = some true := H
    have A8 := Aside0.mk A80
    clear A80
    by_cases c9 : t134 < 0
    · rw [if_pos c9] at H
      have c9b0 : decide (t134 < 0) = true := decide_eq_true c9
      clear c9
      exact absurd H (by simp)
    · rw [if_neg c9] at H
      have c9b0 : decide (t134 < 0) = false := decide_eq_false c9
      clear c9
      by_cases c15 : t134 = t132
      · rw [if_pos c15] at H
        have c15b0 : (t134 == t132) = true := beq_iff_eq.mpr c15
        have c15b1 : (t134 != t132) = false := bne_eq_false_iff_eq.mpr c15
        clear c15
        replace H := Option.bind_eq_some_iff.mp H
        obtain ⟨t135, A160, H⟩ := H
        replace H : ((laws_eqByteS.f k t135 t125).bind fun t138 => (if t138 = true then ((laws_heldByteS.f k t133 1).bind fun t139 => (if t139 < 0 then (some false) else (if t139 = t132 then (some true) else (some false)))) else (some false))) = some true := H
        have A16 := Aside0.mk A160
        clear A160
        replace H := Option.bind_eq_some_iff.mp H
        obtain ⟨t138, A170, H⟩ := H
        replace H : (if t138 = true then ((laws_heldByteS.f k t133 1).bind fun t139 => (if t139 < 0 then (some false) else (if t139 = t132 then (some true) else (some false)))) else (some false)) = some true := H
        have A17 := Aside0.mk A170
        clear A170
        by_cases c18 : t138 = true
        · subst c18
          have H1 : ((laws_heldByteS.f k t133 1).bind fun t139 => (if t139 < 0 then (some false) else (if t139 = t132 then (some true) else (some false)))) = some true := by rw [if_pos rfl] at H; exact H
          clear H
          have H := H1
          clear H1
          replace H := Option.bind_eq_some_iff.mp H
          obtain ⟨t139, A190, H⟩ := H
          replace H : (if t139 < 0 then (some false) else (if t139 = t132 then (some true) else (some false))) = some true := H
          have A19 := Aside0.mk A190
          clear A190
          by_cases c20 : t139 < 0
          · rw [if_pos c20] at H
            have c20b0 : decide (t139 < 0) = true := decide_eq_true c20
            clear c20
            exact absurd H (by simp)
          · rw [if_neg c20] at H
            have c20b0 : decide (t139 < 0) = false := decide_eq_false c20
            clear c20
            by_cases c28 : t139 = t132
            · rw [if_pos c28] at H
              have c28b0 : (t139 == t132) = true := beq_iff_eq.mpr c28
              have c28b1 : (t139 != t132) = false := bne_eq_false_iff_eq.mpr c28
              clear c28
              skip
              go_enter Try.func3, Try.ntmps3
              go_wp2_with (first | ((with_reducible refine gate_callee (f := 13) rfl ?_); refine goesL_ (some 12) rfl rfl Try.func13 (by kernel_rfl) rfl #[.int .i64 a0, .int .i64 a1] rfl (by (try simp only [List.map_toArray, List.map_cons, List.map_nil]); first | done | rfl | (simp only [List.length_drop, List.length_take]; rfl)) ?_; (with_reducible refine (spec_PutNumber.callsQ k a0 a1 t125 _ A3.out).mono ?_); rintro e w29 ⟨v126, rfl, ho0, hb⟩; refine ⟨_, rfl, ?_⟩; have n0_ := Aside0.mk (Kd.Q_lower ho0 (below_size (by repeat (first | (with_reducible first | exact HB.out | apply below_alloc | apply pw_below_drewN | apply below_drew1) | exact HB.out)))); have n1_ := Aside0.mk (below_step (by repeat (first | (with_reducible first | exact HB.out | apply below_alloc | apply pw_below_drewN | apply below_drew1) | exact HB.out)) hb); clear HB; have HO127 := n0_; have HB := n1_; clear n0_ n1_; (try clear hb); (try clear hb2); (try clear hk); (try clear hi); (try clear ho0)) | ((with_reducible refine gate_callee (f := 14) rfl ?_); refine goesL_ (some 15) rfl rfl Try.func14 (by kernel_rfl) rfl #[.int .i64 a0, .int .i64 a1] rfl (by (try simp only [List.map_toArray, List.map_cons, List.map_nil]); first | done | rfl | (simp only [List.length_drop, List.length_take]; rfl)) ?_; (with_reducible refine (impl_PutNumber.callsQ k a0 a1 t128 _ A4.out).mono ?_); rintro e w30 ⟨v129, rfl, ho0, hb⟩; refine ⟨_, rfl, ?_⟩; have n0_ := Aside0.mk (Kd.Q_elder' (by (with_reducible repeat (first | apply Kd.Q_alloc | apply Kd.Q_drewN | apply Kd.Q_drew)); exact HO127.out) (Kd.Q_base ho0) hb); have n1_ := Aside0.mk (Kd.Q_lower (Kd.Q_new' ho0 (Kd.Q_lt (by (with_reducible repeat (first | apply Kd.Q_alloc | apply Kd.Q_drewN | apply Kd.Q_drew)); exact HO127.out))) (below_size (by repeat (first | (with_reducible first | exact HB.out | apply below_alloc | apply pw_below_drewN | apply below_drew1) | exact HB.out)))); have n2_ := Aside0.mk (below_step (by repeat (first | (with_reducible first | exact HB.out | apply below_alloc | apply pw_below_drewN | apply below_drew1) | exact HB.out)) hb); clear HO127; clear HB; have HO127 := n0_; have HO130 := n1_; have HB := n2_; clear n0_ n1_ n2_; (try clear hb); (try clear hb2); (try clear hk); (try clear hi); (try clear ho0); obtain ⟨Ao31, co31, eo31, -⟩ := Kd.Q_slice HO130.out; subst eo31; obtain ⟨Ao32, co32, eo32, -⟩ := Kd.Q_slice HO127.out; subst eo32) | ((with_reducible refine gate_callee (f := 15) rfl ?_); refine goesL_ (some 18) rfl rfl Try.func15 (by kernel_rfl) rfl #[.slice Ao31 t128.length co31, .slice Ao32 t125.length co32] rfl (by (try simp only [List.map_toArray, List.map_cons, List.map_nil]); first | done | rfl | (simp only [List.length_drop, List.length_take]; rfl)) ?_; (with_reducible refine (laws_eqByteS.calls k _ _ t128 _ _ t125 true _ ?side1 ?side2 ?side3 ?side4 A5.out).mono ?_); (case side1 => repeat (first | exact (Kd.Q_reads' HO130.out).2.2 | (with_reducible refine Kd.C_alloc ?_ _) | (with_reducible refine Kd.C_drewN ?_ _) | (with_reducible refine Kd.C_drew ?_))); (case side2 => exact (Kd.Q_reads' HO130.out).2.1); (case side3 => repeat (first | exact (Kd.Q_reads' HO127.out).2.2 | (with_reducible refine Kd.C_alloc ?_ _) | (with_reducible refine Kd.C_drewN ?_ _) | (with_reducible refine Kd.C_drew ?_))); (case side4 => exact (Kd.Q_reads' HO127.out).2.1); rintro e w' ⟨rfl, ⟨nd, rfl⟩⟩; refine ⟨_, rfl, ?_⟩) | ((with_reducible refine gate_callee (f := 16) rfl ?_); refine goesL_ (some 22) rfl rfl Try.func16 (by kernel_rfl) rfl #[.slice Ao31 t128.length co31, .int .i64 1] rfl (by (try simp only [List.map_toArray, List.map_cons, List.map_nil]); first | done | rfl | (simp only [List.length_drop, List.length_take]; rfl)) ?_; (with_reducible refine (laws_markByteS.calls k (fun k_ => some k_ = (.slice Ao31 t128.length co31 : Value).ownBlock) (.slice Ao31 t128.length co31) t128 1 t132 t133 w _ ?side1 ?side2 A7.out).mono ?_); (case side1 => repeat (first | (with_reducible first | exact HB.out | apply below_alloc | apply pw_below_drewN | apply below_drew1) | exact HB.out)); (case side2 => exact Kd.Q_tight rfl HO130.out); rintro e w33 ⟨rfl, hy0, hb, hkp⟩; refine ⟨_, rfl, ?_⟩; have n0_ := Aside0.mk (Kd.Q_mono (ok' := fun k_ => some k_ ≠ (.slice Ao31 t128.length co31 : Value).ownBlock) (Kd.Q_keptB (HO127.out) hkp (fun k_ hk_ hs_ => (hk_.2) hs_)) (fun k_ hk_ => hk_.1.2)); have n1_ := Aside0.mk (Kd.Q_reok rfl hy0 (fun k_ e_ => HO130.out.1 k_ e_)); have n2_ := Aside0.mk (hb); clear HO127; clear HO130; clear HB; have HO127 := n0_; have HO130 := n1_; have HB := n2_; clear n0_ n1_ n2_; (try clear hb); (try clear hkp); (try clear hy0)) | ((with_reducible refine gate_callee (f := 17) rfl ?_); refine goesL_ (some 25) rfl rfl Try.func17 (by kernel_rfl) rfl #[.slice Ao31 t133.length co31, .int .i64 1] rfl (by (try simp only [List.map_toArray, List.map_cons, List.map_nil]); first | done | (rw [show t133.length = t128.length from (Kd.Q_reads' HO130.out).1.symm] <;> rfl) | rfl | (simp only [List.length_drop, List.length_take]; rfl)) ?_; (with_reducible refine (laws_heldByteS.calls k _ _ t133 1 t134 _ ?side1 ?side2 A8.out).mono ?_); (case side1 => repeat (first | exact (Kd.Q_reads' HO130.out).2.2 | (with_reducible refine Kd.C_alloc ?_ _) | (with_reducible refine Kd.C_drewN ?_ _) | (with_reducible refine Kd.C_drew ?_))); (case side2 => rw [show t133.length = t128.length from (Kd.Q_reads' HO130.out).1.symm]; exact (Kd.Q_reads' HO130.out).2.1); rintro e w' ⟨rfl, ⟨nd, rfl⟩⟩; refine ⟨_, rfl, ?_⟩) | ((with_reducible refine gate_callee (f := 14) rfl ?_); refine goesL_ (some 33) rfl rfl Try.func14 (by kernel_rfl) rfl #[.int .i64 a0, .int .i64 a1] rfl (by (try simp only [List.map_toArray, List.map_cons, List.map_nil]); first | done | rfl | (simp only [List.length_drop, List.length_take]; rfl)) ?_; (with_reducible refine (impl_PutNumber.callsQ k a0 a1 t135 _ A16.out).mono ?_); rintro e w34 ⟨v136, rfl, ho0, hb⟩; refine ⟨_, rfl, ?_⟩; have n0_ := Aside0.mk (Kd.Q_elder' (by (with_reducible repeat (first | apply Kd.Q_alloc | apply Kd.Q_drewN | apply Kd.Q_drew)); exact HO127.out) (Kd.Q_base ho0) hb); have n1_ := Aside0.mk (Kd.Q_elder' (by (with_reducible repeat (first | apply Kd.Q_alloc | apply Kd.Q_drewN | apply Kd.Q_drew)); exact HO130.out) (Kd.Q_base ho0) hb); have n2_ := Aside0.mk (Kd.Q_lower (Kd.Q_new' (Kd.Q_new' ho0 (Kd.Q_lt (by (with_reducible repeat (first | apply Kd.Q_alloc | apply Kd.Q_drewN | apply Kd.Q_drew)); exact HO127.out))) (Kd.Q_lt (by (with_reducible repeat (first | apply Kd.Q_alloc | apply Kd.Q_drewN | apply Kd.Q_drew)); exact HO130.out))) (below_size (by repeat (first | (with_reducible first | exact HB.out | apply below_alloc | apply pw_below_drewN | apply below_drew1) | exact HB.out)))); have n3_ := Aside0.mk (below_step (by repeat (first | (with_reducible first | exact HB.out | apply below_alloc | apply pw_below_drewN | apply below_drew1) | exact HB.out)) hb); clear HO127; clear HO130; clear HB; have HO127 := n0_; have HO130 := n1_; have HO137 := n2_; have HB := n3_; clear n0_ n1_ n2_ n3_; (try clear hb); (try clear hb2); (try clear hk); (try clear hi); (try clear ho0); obtain ⟨Ao35, co35, eo35, -⟩ := Kd.Q_slice HO137.out; subst eo35) | ((with_reducible refine gate_callee (f := 15) rfl ?_); refine goesL_ (some 36) rfl rfl Try.func15 (by kernel_rfl) rfl #[.slice Ao35 t135.length co35, .slice Ao32 t125.length co32] rfl (by (try simp only [List.map_toArray, List.map_cons, List.map_nil]); first | done | rfl | (simp only [List.length_drop, List.length_take]; rfl)) ?_; (with_reducible refine (laws_eqByteS.calls k _ _ t135 _ _ t125 true _ ?side1 ?side2 ?side3 ?side4 A17.out).mono ?_); (case side1 => repeat (first | exact (Kd.Q_reads' HO137.out).2.2 | (with_reducible refine Kd.C_alloc ?_ _) | (with_reducible refine Kd.C_drewN ?_ _) | (with_reducible refine Kd.C_drew ?_))); (case side2 => exact (Kd.Q_reads' HO137.out).2.1); (case side3 => repeat (first | exact (Kd.Q_reads' HO127.out).2.2 | (with_reducible refine Kd.C_alloc ?_ _) | (with_reducible refine Kd.C_drewN ?_ _) | (with_reducible refine Kd.C_drew ?_))); (case side4 => exact (Kd.Q_reads' HO127.out).2.1); rintro e w' ⟨rfl, ⟨nd, rfl⟩⟩; refine ⟨_, rfl, ?_⟩) | ((with_reducible refine gate_callee (f := 17) rfl ?_); refine goesL_ (some 40) rfl rfl Try.func17 (by kernel_rfl) rfl #[.slice Ao31 t133.length co31, .int .i64 1] rfl (by (try simp only [List.map_toArray, List.map_cons, List.map_nil]); first | done | (rw [show t133.length = t128.length from (Kd.Q_reads' HO130.out).1.symm] <;> rfl) | rfl | (simp only [List.length_drop, List.length_take]; rfl)) ?_; (with_reducible refine (laws_heldByteS.calls k _ _ t133 1 t139 _ ?side1 ?side2 A19.out).mono ?_); (case side1 => repeat (first | exact (Kd.Q_reads' HO130.out).2.2 | (with_reducible refine Kd.C_alloc ?_ _) | (with_reducible refine Kd.C_drewN ?_ _) | (with_reducible refine Kd.C_drew ?_))); (case side2 => rw [show t133.length = t128.length from (Kd.Q_reads' HO130.out).1.symm]; exact (Kd.Q_reads' HO130.out).2.1); rintro e w' ⟨rfl, ⟨nd, rfl⟩⟩; refine ⟨_, rfl, ?_⟩))
              go_ret
              exact ⟨by first | rfl | (simp [errW_none, errW_some] <;> rfl) | (simp [*, errW_none, errW_some] <;> rfl), by repeat (first | (with_reducible first | exact HB.out | apply below_alloc | apply pw_below_drewN | apply below_drew1) | exact HB.out)⟩
            · rw [if_neg c28] at H
              have c28b0 : (t139 == t132) = false := beq_eq_false_iff_ne.mpr c28
              have c28b1 : (t139 != t132) = true := bne_iff_ne.mpr c28
              exact absurd H (by simp)
        · replace c18 := Bool.eq_false_iff.mpr c18
          subst c18
          have H1 : (some false) = some true := by rw [if_neg (show ¬ (false = true) by decide)] at H; exact H
          clear H
          have H := H1
          clear H1
          exact absurd H (by simp)
      · rw [if_neg c15] at H
        have c15b0 : (t134 == t132) = false := beq_eq_false_iff_ne.mpr c15
        have c15b1 : (t134 != t132) = true := bne_iff_ne.mpr c15
        exact absurd H (by simp)
  · replace c6 := Bool.eq_false_iff.mpr c6
    subst c6
    have H1 : (some false) = some true := by rw [if_neg (show ¬ (false = true) by decide)] at H; exact H
    clear H
    have H := H1
    clear H1
    exact absurd H (by simp)

end Go.Proofs.Ytophipaadjoecaa.QFnExactPutNumber
