/- Proved: FnExactLogFlushOpsSaid: LogFlushOps of the program answers as the reference at every log; it leaves the log alone, and its answer owns its memory. Conditions: none beyond the statement. -/
import Derived.Test.YtjkhmagnlaijhaaRows
import Derived.Test.YtjkhmagnlaijhaaQFnExactLogFlushOpsx6
import Derived.Test.YtjkhmagnlaijhaaPureFnExactLogFlushOps
import Derived.Test.YtjkhmagnlaijhaaOpen
import Derived.WalkKit
import Derived.ProofKit
import Derived.OpenShut
import Derived.ShutString
import Derived.ChangeOld
import Derived.Below
import Derived.SizedLaws
namespace Go.Proofs.Ytjkhmagnlaijhaa.fnExactLogFlushOps
open Go.ChangeShapes Go.WideShapes Go.ChangeAt Go.RowKit
open Go.ChangeMaps (open_string shut_string)
open Go.Proofs.Ytjkhmagnlaijhaa.Open Go.Proofs.Ytjkhmagnlaijhaa.QFnExactLogFlushOps Go.Proofs.YtjkhmagnlaijhaaW.PrintWords
set_option linter.unusedVariables false
theorem own : ownKnob Try.prog.godebug = none := by kernel_rfl
theorem laidOut : laidOutB Try.prog = true := by kernel_rfl
set_option maxRecDepth 100000 in
theorem lifted (os : Os) (started : os.Started) (H : Type) (enc : TypeId × Value → H) :
    ReturnsInHanded {} Try.checked os 11 .any (Rows.fnExactLogFlushOpsSpec.pre6 enc Try.prog Try.f11 Rows.fnExactLogFlushOpsRow.domain false) (Rows.fnExactLogFlushOpsSpec.post enc Try.prog Try.f11 false true false false) := by
  refine returnsInHanded_of_change_sized (C := Try.checked) own started (by kernel_rfl) Try.func11
    (ChangeSpec.witness6 (enc := enc) (C := Try.checked) false ⟨#[], #[.agg #[.int .i64 0, .int .i64 0, .int .i64 0, .int .i64 0, .slice none 0 0]], []⟩ 8 (by kernel_rfl) (by kernel_rfl) (by kernel_rfl) (by kernel_rfl)) ?_
  intro W base args ds gs before hval0 hW hcnd hsz0 _
  have hval : ∀ (j : Nat) t v, Try.f11.params[j]? = some t → args[j]? = some v → Value.okWide Try.prog W .any base t v := hval0
  have hW' := hW
  obtain ⟨p, q, hA0, hV, rfl, hfz, hnd⟩ := hW
  have hA : DataW.TrodAll enc Try.prog W 0 (fun _ => true) true Try.f11.params.toList args.toList ds p := hA0
  rw [Try.params11] at hA hval
  obtain ⟨v0, vs0, d0, ds0, p0, q0, hargs, rfl, rfl, h0, r0⟩ := trodAll_cons hA
  obtain ⟨rfl, rfl, rfl⟩ := trodAll_nil r0
  obtain rfl : args = #[v0] := by cases args; simp_all
  obtain ⟨rfl, rfl⟩ := trodVars_none hV
  have k0_ := h0
  have lt0 : ∀ x ∈ p0, x.block < W.heap.size := by obtain ⟨m, hm⟩ := k0_; exact DataW.trod_lt m _ _ _ hm
  obtain ⟨cs0, rfl, _⟩ := okWide_struct Try.underlying58 (hval 0 58 v0 rfl rfl)
  obtain ⟨⟨a0_0, a0_1, a0_2, a0_3, l0_4⟩, ⟨_, _, e0, rfl, _, _, rfl, rfl, _, _, rfl, rfl, _, _, rfl, rfl, ⟨A0_4, c0_4, rfl, hc0_4, hr0_4⟩⟩, w0_0, w0_1, w0_2, w0_3, w0_4⟩ := opened (opens_struct5 Try.underlying58 (by kernel_rfl) (by kernel_rfl) (opens_int Try.underlying2) (opens_int Try.underlying2) (opens_int Try.underlying2) (opens_int Try.underlying2) (opens_slice (d := (Kd.int .u8)) Try.underlying27 (by kernel_rfl) (opens_int Try.underlying5))) h0
  obtain rfl : cs0 = #[.int .i64 a0_0, .int .i64 a0_1, .int .i64 a0_2, .int .i64 a0_3, .slice A0_4 l0_4.length c0_4] := Value.agg.inj (agg_cells e0)
  clear hA0 hval0 hsz0
  have hp := Pure.FnExactLogFlushOps a0_0 a0_1 a0_2 a0_3 l0_4 w0_0 w0_1 w0_2 w0_3 w0_4
  obtain ⟨k, hk⟩ := hp
  refine (laws_FnExactLogFlushOps.calls k a0_0 a0_1 a0_2 a0_3 A0_4 c0_4 l0_4 W hr0_4 hc0_4 hk).mono fun e W' ⟨he, bel⟩ => ?_
  subst he
  exact ⟨_, rfl, _, _, _, [], _, [], hW', trodAll_mk1 (shut_bool Try.underlying4 _), (trodAll_cons_mk (Below.trod laidOut (by kernel_rfl) (of_decide_eq_true (by kernel_rfl)) k0_ bel lt0) trodAll_mk0), rfl, bel.frame _, fun h => by cases h⟩
theorem over : Rows.fnExactLogFlushOpsRow.holds Try.pinned (OpenSpec.ofChange Rows.fnExactLogFlushOpsSpec) :=
  OpenClaim.holds_of_wide 11 Try.f11 rfl rfl rfl rfl rfl rfl rfl ⟨rfl, rfl, rfl, rfl, rfl⟩ rfl rfl rfl rfl rfl (by kernel_rfl) Try.func11 (by kernel_rfl)
    (of_decide_eq_true (by kernel_rfl)) (by unfold Func.isWrapper; first | (rw [if_pos (by decide +kernel)]; kernel_rfl) | (rw [if_neg (by decide +kernel)]; exact ⟨rfl, rfl⟩))
    (fun os started H enc _ => lifted os started H enc)
theorem proved : Rows.FnExactLogFlushOpsSaid := over
#print axioms proved
end Go.Proofs.Ytjkhmagnlaijhaa.fnExactLogFlushOps
namespace Go.Proofs.Ytjkhmagnlaijhaa
/-- The row, under a short name, for the claim. -/
theorem fnExactLogFlushOps_holds : Rows.FnExactLogFlushOpsSaid := fnExactLogFlushOps.proved
end Go.Proofs.Ytjkhmagnlaijhaa
