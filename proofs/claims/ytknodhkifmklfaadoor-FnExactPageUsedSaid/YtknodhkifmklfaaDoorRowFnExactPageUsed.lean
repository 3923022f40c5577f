/- Proved: FnExactPageUsedSaid: PageUsed of the program answers as the reference at every page. Conditions: none beyond the statement. -/
import Derived.Test.YtknodhkifmklfaaDoorRows
import Derived.Test.YtknodhkifmklfaaDoorQFnExactPageUsedx3
import Derived.Test.YtknodhkifmklfaaDoorPureFnExactPageUsed
import Derived.Test.YtknodhkifmklfaaDoorOpen
import Derived.WalkKit
import Derived.ProofKit
import Derived.OpenShut
import Derived.ShutString
import Derived.ChangeOld
import Derived.Below
import Derived.OpenVars
import Derived.SizedLaws
namespace Go.Proofs.YtknodhkifmklfaaDoor.fnExactPageUsed
open Go.ChangeShapes Go.WideShapes Go.ChangeAt Go.RowKit
open Go.ChangeMaps (open_string shut_string)
open Go.Proofs.YtknodhkifmklfaaDoor.Open Go.Proofs.YtknodhkifmklfaaDoor.QFnExactPageUsed Go.Proofs.YtknodhkifmklfaaDoorW.PrintWords
set_option linter.unusedVariables false
theorem own : ownKnob Tryd.prog.godebug = none := by kernel_rfl
theorem laidOut : laidOutB Tryd.prog = true := by kernel_rfl
set_option maxRecDepth 100000 in
theorem lifted (os : Os) (started : os.Started) (H : Type) (enc : TypeId × Value → H) :
    ReturnsInHanded {} Tryd.checked os 6 .any (Rows.fnExactPageUsedSpec.pre6 enc Tryd.prog Tryd.f6 Rows.fnExactPageUsedRow.domain false) (Rows.fnExactPageUsedSpec.post enc Tryd.prog Tryd.f6 false true false false) := by
  refine returnsInHanded_of_change_sized (C := Tryd.checked) own started (by kernel_rfl) Tryd.func6
    (ChangeSpec.witness6 (enc := enc) (C := Tryd.checked) false ⟨#[], #[.slice none 0 0], []⟩ 8 (by kernel_rfl) (by kernel_rfl) (by kernel_rfl) (by kernel_rfl)) ?_
  intro W base args ds gs before hval0 hW hcnd hsz0 _
  have hval : ∀ (j : Nat) t v, Tryd.f6.params[j]? = some t → args[j]? = some v → Value.okWide Tryd.prog W .any base t v := hval0
  have hW' := hW
  obtain ⟨p, q, hA0, hV, rfl, hfz, hnd⟩ := hW
  have hA : DataW.TrodAll enc Tryd.prog W 0 (fun _ => true) true Tryd.f6.params.toList args.toList ds p := hA0
  rw [Tryd.params6] at hA hval
  obtain ⟨v0, vs0, d0, ds0, p0, q0, hargs, rfl, rfl, h0, r0⟩ := trodAll_cons hA
  obtain ⟨rfl, rfl, rfl⟩ := trodAll_nil r0
  obtain rfl : args = #[v0] := by cases args; simp_all
  have hV1 : DataW.TrodVars enc Tryd.checked.prog W (fun _ => true) ["loop.example/s02544/impl.be"] gs q := hV
  obtain ⟨g1, rfl⟩ : ∃ g1, gs = [g1] := by
    match gs, hV1 with
    | [], h => exact h.elim
    | [x], _ => exact ⟨x, rfl⟩
    | x :: y :: r, ⟨_, _, _, _, _, _, _, _, _, _, hs, _⟩ => exact hs.elim
  have k0_ := h0
  have lt0 : ∀ x ∈ p0, x.block < W.heap.size := by obtain ⟨m, hm⟩ := k0_; exact DataW.trod_lt m _ _ _ hm
  obtain ⟨A0, len0, cap0, rfl⟩ := okWide_slice Tryd.underlying22 (hval 0 22 v0 rfl rfl)
  obtain ⟨l0, ⟨A0_, c0, e0, hc0, hr0⟩, w0⟩ := opened (opens_slice (d := (Kd.int .u8)) Tryd.underlying22 (by kernel_rfl) (opens_int Tryd.underlying5)) h0
  obtain ⟨rfl, rfl, rfl⟩ : A0 = A0_ ∧ len0 = l0.length ∧ cap0 = c0 := by simpa [Value.cells] using e0
  clear hA0 hval0 hsz0
  have hp := Pure.FnExactPageUsed l0 w0
  obtain ⟨k, hk⟩ := hp
  refine (laws_FnExactPageUsed.calls k A0 cap0 l0 W hr0 hc0 hk).mono fun e W' ⟨he, bel⟩ => ?_
  subst he
  exact ⟨_, rfl, _, _, _, [], _, q, hW', trodAll_mk1 (shut_bool Tryd.underlying4 _), (trodAll_cons_mk (Below.trod laidOut (by kernel_rfl) (of_decide_eq_true (by kernel_rfl)) k0_ bel lt0) trodAll_mk0), bel.trodVars laidOut (by kernel_rfl) hV1, bel.frame _, fun h => by cases h⟩
theorem over : Rows.fnExactPageUsedRow.holds Tryd.pinned (OpenSpec.ofChange Rows.fnExactPageUsedSpec) :=
  OpenClaim.holds_of_wide 6 Tryd.f6 rfl rfl rfl rfl rfl rfl rfl ⟨rfl, rfl, rfl, rfl, rfl⟩ rfl rfl rfl rfl rfl (by kernel_rfl) Tryd.func6 (by kernel_rfl)
    (of_decide_eq_true (by kernel_rfl)) (by unfold Func.isWrapper; first | (rw [if_pos (by decide +kernel)]; kernel_rfl) | (rw [if_neg (by decide +kernel)]; exact ⟨rfl, rfl⟩))
    (fun os started H enc _ => lifted os started H enc)
theorem proved : Rows.FnExactPageUsedSaid := over
#print axioms proved
end Go.Proofs.YtknodhkifmklfaaDoor.fnExactPageUsed
namespace Go.Proofs.YtknodhkifmklfaaDoor
/-- The row, under a short name, for the claim. -/
theorem fnExactPageUsed_holds : Rows.FnExactPageUsedSaid := fnExactPageUsed.proved
end Go.Proofs.YtknodhkifmklfaaDoor
