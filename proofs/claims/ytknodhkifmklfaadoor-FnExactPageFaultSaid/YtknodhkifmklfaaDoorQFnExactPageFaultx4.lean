/- Proved: contracts of functions that FnExactPageFault reaches (a print of the kit's program, parted and shortened by squeeze.py). No statement of the seat is proved here. -/
import Derived.Test.YtknodhkifmklfaaDoorMineUse
import Derived.Test.YtknodhkifmklfaaDoorQFnExactPageFaultx0
import Derived.Test.YtknodhkifmklfaaDoorQFnExactPageFaultx1
namespace Go.Proofs.YtknodhkifmklfaaDoor.QFnExactPageFault
open Go.RowKit Go.Proofs.YtknodhkifmklfaaDoorW.PrintWords Go.Proofs.YtknodhkifmklfaaDoorW.PrintLast Go.Proofs.YtknodhkifmklfaaDoorW.PrintMore
attribute [local go_sem] max2_int min2_int max_two min_two max_three min_three max_four min_four   -- for this text's walks alone
set_option linter.unusedVariables false
set_option linter.unusedSimpArgs false

/-! ### impl_PageFault: function 16 -/
theorem len_some {A : Option Addr} {l0 : List Int} {w : World} (hr : Kd.C (Kd.int .u8) w A l0.length l0) (h : l0.length = 4096) : ∃ ad, A = some ad := by
  obtain ⟨ad, e, _⟩ := Kd.at_int hr 0 (by omega) (by omega)
  exact ⟨ad, e⟩
instance wfDec (l0 : List Int) : Decidable (Mine.Wf l0) := by unfold Mine.Wf; infer_instance

def impl_PageFault.f (k : Nat) (l0 : List Int) (a1 : Int) : Option (Int) := if l0.length ≠ 4096 then some 1 else (if Mine.Wf l0 then some (Mine.pfault l0 a1) else none)
theorem impl_PageFault.mono : ∀ a0 a1 k, LeO (impl_PageFault.f k a0 a1) (impl_PageFault.f (k + 1) a0 a1) := fun _ _ _ => LeO.refl _
theorem impl_PageFault.calls (k : Nat) (A0 : Option Addr) (c0 : Nat) (l0 : List Int) (a1 : Int) (r : Int) (w : World) (hr0 : Kd.C (Kd.int .u8) w A0 l0.length l0) (hc0 : l0.length ≤ c0) (h : impl_PageFault.f k l0 a1 = some r) :
    Calls Tryd.prog 16 #[.slice A0 l0.length c0, .int .i64 a1] w fun e w' => e = .returned (.int .i64 r) ∧ Below w.heap.size w w' := by
  unfold impl_PageFault.f at h
  by_cases hl : l0.length = 4096
  · rw [if_neg (by simpa using hl)] at h
    by_cases hw : Mine.Wf l0
    · rw [if_pos hw] at h
      obtain rfl := Option.some.inj h
      obtain ⟨ad, rfl⟩ := len_some hr0 hl
      have := Mine.pageFault ad c0 l0 w a1 hr0 (by omega) hw hl
      rw [hl]
      exact this
    · rw [if_neg hw] at h
      cases h
  · rw [if_pos hl] at h
    obtain rfl := Option.some.inj h
    exact Mine.pageFault1 A0 c0 l0.length w a1 hl


end Go.Proofs.YtknodhkifmklfaaDoor.QFnExactPageFault
