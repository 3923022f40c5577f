/- Proved: FnExactPoolFaultSaid: PoolFault of the program answers as the reference at every pool, and leaves it alone. Conditions: none beyond the statement. -/
import Derived.Test.YtmggneijkhmigaaRows
import Derived.Test.YtmggneijkhmigaaQFnExactPoolFaultx6
import Derived.Test.YtmggneijkhmigaaPureFnExactPoolFault
import Derived.Test.YtmggneijkhmigaaOpen
import Derived.WalkKit
import Derived.ProofKit
import Derived.OpenShut
import Derived.ShutString
import Derived.ChangeOld
import Derived.Below
import Derived.SizedLaws
namespace Go.Proofs.Ytmggneijkhmigaa.fnExactPoolFault
open Go.ChangeShapes Go.WideShapes Go.ChangeAt Go.RowKit
open Go.ChangeMaps (open_string shut_string)
open Go.Proofs.Ytmggneijkhmigaa.Open Go.Proofs.Ytmggneijkhmigaa.QFnExactPoolFault Go.Proofs.YtmggneijkhmigaaW.PrintWords
set_option linter.unusedVariables false
theorem own : ownKnob Try.prog.godebug = none := by kernel_rfl
theorem laidOut : laidOutB Try.prog = true := by kernel_rfl
set_option maxRecDepth 100000 in
theorem lifted (os : Os) (started : os.Started) (H : Type) (enc : TypeId × Value → H) :
    ReturnsInHanded {} Try.checked os 10 .any (Rows.fnExactPoolFaultSpec.pre6 enc Try.prog Try.f10 Rows.fnExactPoolFaultRow.domain false) (Rows.fnExactPoolFaultSpec.post enc Try.prog Try.f10 false true false false) := by
  refine returnsInHanded_of_change_sized (C := Try.checked) own started (by kernel_rfl) Try.func10
    (ChangeSpec.witness6 (enc := enc) (C := Try.checked) false ⟨#[], #[.agg #[.slice none 0 0, .int .i64 0]], []⟩ 8 (by kernel_rfl) (by kernel_rfl) (by kernel_rfl) (by kernel_rfl)) ?_
  intro W base args ds gs before hval0 hW hcnd hsz0 _
  have hval : ∀ (j : Nat) t v, Try.f10.params[j]? = some t → args[j]? = some v → Value.okWide Try.prog W .any base t v := hval0
  have hW' := hW
  obtain ⟨p, q, hA0, hV, rfl, hfz, hnd⟩ := hW
  have hA : DataW.TrodAll enc Try.prog W 0 (fun _ => true) true Try.f10.params.toList args.toList ds p := hA0
  rw [Try.params10] at hA hval
  obtain ⟨v0, vs0, d0, ds0, p0, q0, hargs, rfl, rfl, h0, r0⟩ := trodAll_cons hA
  obtain ⟨rfl, rfl, rfl⟩ := trodAll_nil r0
  obtain rfl : args = #[v0] := by cases args; simp_all
  obtain ⟨rfl, rfl⟩ := trodVars_none hV
  have k0_ := h0
  have lt0 : ∀ x ∈ p0, x.block < W.heap.size := by obtain ⟨m, hm⟩ := k0_; exact DataW.trod_lt m _ _ _ hm
  obtain ⟨cs0, rfl, _⟩ := okWide_struct Try.underlying85 (hval 0 85 v0 rfl rfl)
  obtain ⟨⟨l0_0, a0_1⟩, ⟨_, _, e0, ⟨A0_0, c0_0, rfl, hc0_0, hr0_0⟩, rfl⟩, w0_0, w0_1⟩ := opened (opens_struct2 Try.underlying85 (by kernel_rfl) (by kernel_rfl) (opens_slice (d := k154) Try.underlying83 (by kernel_rfl) (opens_iso (d := (Kd.pair (Kd.int .i64) (Kd.pair (Kd.slice 5 (Kd.int .u8)) (Kd.pair (Kd.int .i64) (Kd.pair Kd.bool (Kd.pair (Kd.int .i64) Kd.bool)))))) (f := fun x : S154 => (x.f0, x.f1, x.f2, x.f3, x.f4, x.f5)) (g := fun x => ⟨x.1, x.2.1, x.2.2.1, x.2.2.2.1, x.2.2.2.2.1, x.2.2.2.2.2⟩) (fun _ => rfl) (opens_struct6 Try.underlying154 (by kernel_rfl) (by kernel_rfl) (opens_int Try.underlying2) (opens_slice (d := (Kd.int .u8)) Try.underlying22 (by kernel_rfl) (opens_int Try.underlying5)) (opens_int Try.underlying2) (opens_bool Try.underlying4) (opens_int Try.underlying2) (opens_bool Try.underlying4)))) (opens_int Try.underlying2)) h0
  obtain rfl : cs0 = #[.slice A0_0 l0_0.length c0_0, .int .i64 a0_1] := Value.agg.inj (agg_cells e0)
  clear hA0 hval0 hsz0
  have hp := Pure.FnExactPoolFault l0_0 a0_1 w0_0 w0_1
  obtain ⟨k, hk⟩ := hp
  refine (laws_FnExactPoolFault.calls k A0_0 c0_0 l0_0 a0_1 true W hr0_0 hc0_0 hk).mono fun e W' ⟨he, bel⟩ => ?_
  subst he
  exact ⟨_, rfl, _, _, _, [], _, [], hW', trodAll_mk1 (shut_bool Try.underlying4 _), (trodAll_cons_mk (Below.trod laidOut (by kernel_rfl) (of_decide_eq_true (by kernel_rfl)) k0_ bel lt0) trodAll_mk0), rfl, bel.frame _, fun h => by cases h⟩
theorem over : Rows.fnExactPoolFaultRow.holds Try.pinned (OpenSpec.ofChange Rows.fnExactPoolFaultSpec) :=
  OpenClaim.holds_of_wide 10 Try.f10 rfl rfl rfl rfl rfl rfl rfl ⟨rfl, rfl, rfl, rfl, rfl⟩ rfl rfl rfl rfl rfl (by kernel_rfl) Try.func10 (by kernel_rfl)
    (of_decide_eq_true (by kernel_rfl)) (by unfold Func.isWrapper; first | (rw [if_pos (by decide +kernel)]; kernel_rfl) | (rw [if_neg (by decide +kernel)]; exact ⟨rfl, rfl⟩))
    (fun os started H enc _ => lifted os started H enc)
theorem proved : Rows.FnExactPoolFaultSaid := over
#print axioms proved
end Go.Proofs.Ytmggneijkhmigaa.fnExactPoolFault
namespace Go.Proofs.Ytmggneijkhmigaa
/-- The row, under a short name, for the claim. -/
theorem fnExactPoolFault_holds : Rows.FnExactPoolFaultSaid := fnExactPoolFault.proved
end Go.Proofs.Ytmggneijkhmigaa
