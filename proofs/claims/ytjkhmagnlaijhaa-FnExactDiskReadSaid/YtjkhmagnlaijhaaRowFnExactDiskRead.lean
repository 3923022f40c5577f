/- Proved: FnExactDiskReadSaid: Read of the program answers as the reference at every disk and sector, leaves the disk alone, and its answer owns its memory. Conditions: none beyond the statement. -/
import Derived.Test.YtjkhmagnlaijhaaRows
import Derived.Test.YtjkhmagnlaijhaaQFnExactDiskReadx5
import Derived.Test.YtjkhmagnlaijhaaPureFnExactDiskRead
import Derived.Test.YtjkhmagnlaijhaaOpen
import Derived.WalkKit
import Derived.ProofKit
import Derived.OpenShut
import Derived.ShutString
import Derived.ChangeOld
import Derived.Below
import Derived.SizedLaws
namespace Go.Proofs.Ytjkhmagnlaijhaa.fnExactDiskRead
open Go.ChangeShapes Go.WideShapes Go.ChangeAt Go.RowKit
open Go.ChangeMaps (open_string shut_string)
open Go.Proofs.Ytjkhmagnlaijhaa.Open Go.Proofs.Ytjkhmagnlaijhaa.QFnExactDiskRead Go.Proofs.YtjkhmagnlaijhaaW.PrintWords
set_option linter.unusedVariables false
theorem own : ownKnob Try.prog.godebug = none := by kernel_rfl
theorem laidOut : laidOutB Try.prog = true := by kernel_rfl
set_option maxRecDepth 100000 in
theorem lifted (os : Os) (started : os.Started) (H : Type) (enc : TypeId × Value → H) :
    ReturnsInHanded {} Try.checked os 7 .any (Rows.fnExactDiskReadSpec.pre6 enc Try.prog Try.f7 Rows.fnExactDiskReadRow.domain false) (Rows.fnExactDiskReadSpec.post enc Try.prog Try.f7 false true false false) := by
  refine returnsInHanded_of_change_sized (C := Try.checked) own started (by kernel_rfl) Try.func7
    (ChangeSpec.witness6 (enc := enc) (C := Try.checked) false ⟨#[], #[.agg #[.slice none 0 0, .slice none 0 0], .int .i64 0], []⟩ 8 (by kernel_rfl) (by kernel_rfl) (by kernel_rfl) (by kernel_rfl)) ?_
  intro W base args ds gs before hval0 hW hcnd hsz0 _
  have hval : ∀ (j : Nat) t v, Try.f7.params[j]? = some t → args[j]? = some v → Value.okWide Try.prog W .any base t v := hval0
  have hW' := hW
  obtain ⟨p, q, hA0, hV, rfl, hfz, hnd⟩ := hW
  have hA : DataW.TrodAll enc Try.prog W 0 (fun _ => true) true Try.f7.params.toList args.toList ds p := hA0
  rw [Try.params7] at hA hval
  obtain ⟨v0, vs0, d0, ds0, p0, q0, hargs, rfl, rfl, h0, r0⟩ := trodAll_cons hA
  obtain ⟨v1, vs1, d1, ds1, p1, q1, rfl, rfl, rfl, h1, r1⟩ := trodAll_cons r0
  obtain ⟨rfl, rfl, rfl⟩ := trodAll_nil r1
  obtain rfl : args = #[v0, v1] := by cases args; simp_all
  obtain ⟨rfl, rfl⟩ := trodVars_none hV
  have k0_ := h0
  have lt0 : ∀ x ∈ p0, x.block < W.heap.size := by obtain ⟨m, hm⟩ := k0_; exact DataW.trod_lt m _ _ _ hm
  obtain ⟨cs0, rfl, _⟩ := okWide_struct Try.underlying30 (hval 0 30 v0 rfl rfl)
  obtain ⟨⟨l0_0, l0_1⟩, ⟨_, _, e0, ⟨A0_0, c0_0, rfl, hc0_0, hr0_0⟩, ⟨A0_1, c0_1, rfl, hc0_1, hr0_1⟩⟩, w0_0, w0_1⟩ := opened (opens_struct2 Try.underlying30 (by kernel_rfl) (by kernel_rfl) (opens_slice (d := (Kd.int .u8)) Try.underlying27 (by kernel_rfl) (opens_int Try.underlying5)) (opens_slice (d := k88) Try.underlying28 (by kernel_rfl) (opens_iso (d := (Kd.pair (Kd.int .i64) (Kd.slice 5 (Kd.int .u8)))) (f := fun x : S88 => (x.f0, x.f1)) (g := fun x => ⟨x.1, x.2⟩) (fun _ => rfl) (opens_struct2 Try.underlying88 (by kernel_rfl) (by kernel_rfl) (opens_int Try.underlying2) (opens_slice (d := (Kd.int .u8)) Try.underlying27 (by kernel_rfl) (opens_int Try.underlying5)))))) h0
  obtain rfl : cs0 = #[.slice A0_0 l0_0.length c0_0, .slice A0_1 l0_1.length c0_1] := Value.agg.inj (agg_cells e0)
  have k1_ := h1
  have lt1 : ∀ x ∈ p1, x.block < W.heap.size := by obtain ⟨m, hm⟩ := k1_; exact DataW.trod_lt m _ _ _ hm
  obtain ⟨a1, rfl, rfl, rfl, w1⟩ := open_int Try.underlying2 (hval 1 2 v1 rfl rfl) h1
  clear hA0 hval0 hsz0
  have hp := Pure.FnExactDiskRead l0_0 l0_1 a1 w0_0 w0_1 w1
  obtain ⟨k, hk⟩ := hp
  refine (laws_FnExactDiskRead.calls k A0_0 c0_0 l0_0 A0_1 c0_1 l0_1 a1 W hr0_0 hc0_0 hr0_1 hc0_1 hk).mono fun e W' ⟨he, bel⟩ => ?_
  subst he
  exact ⟨_, rfl, _, _, _, [], _, [], hW', trodAll_mk1 (shut_bool Try.underlying4 _), (trodAll_cons_mk (Below.trod laidOut (by kernel_rfl) (of_decide_eq_true (by kernel_rfl)) k0_ bel lt0) (trodAll_cons_mk (Below.trod laidOut (by kernel_rfl) (of_decide_eq_true (by kernel_rfl)) k1_ bel lt1) trodAll_mk0)), rfl, bel.frame _, fun h => by cases h⟩
theorem over : Rows.fnExactDiskReadRow.holds Try.pinned (OpenSpec.ofChange Rows.fnExactDiskReadSpec) :=
  OpenClaim.holds_of_wide 7 Try.f7 rfl rfl rfl rfl rfl rfl rfl ⟨rfl, rfl, rfl, rfl, rfl⟩ rfl rfl rfl rfl rfl (by kernel_rfl) Try.func7 (by kernel_rfl)
    (of_decide_eq_true (by kernel_rfl)) (by unfold Func.isWrapper; first | (rw [if_pos (by decide +kernel)]; kernel_rfl) | (rw [if_neg (by decide +kernel)]; exact ⟨rfl, rfl⟩))
    (fun os started H enc _ => lifted os started H enc)
theorem proved : Rows.FnExactDiskReadSaid := over
#print axioms proved
end Go.Proofs.Ytjkhmagnlaijhaa.fnExactDiskRead
namespace Go.Proofs.Ytjkhmagnlaijhaa
/-- The row, under a short name, for the claim. -/
theorem fnExactDiskRead_holds : Rows.FnExactDiskReadSaid := fnExactDiskRead.proved
end Go.Proofs.Ytjkhmagnlaijhaa
