/-
  No cell of these rows narrows 'for every input' (looked for: loops, veiled, ifaces, maps, wideKeys, modest, calm, conditions, laid).
  DERIVED. THE GIVEN ROWS OF THIS SEAT. 4 by the template 'for every input the law returns true; each argument reads behind the call as it read before'; 0 by the template 'total and deterministic' (their statements: YtknodhkifmklfaaDoorTotals.lean).
  GIVEN WITH THE SEED: the statements are not yours to turn. If you find one false, say at which input.
  Laid BY PROGRAM, IN A SANDBOX (cutbox-rows.mjs): the forced cells as the released guide's own fill.sh prints them over the translation 7dd434cd0b98fbad… (all of the seat's roots in one cut). By AI agents, Wed Nov 11 2026. No macro, syntax, notation, axiom, sorry.
-/
import Derived.Test.YtknodhkifmklfaaDoorChecked
import GoSem.Claim
import GoSem.ClaimJoined
import GoSem.ClaimMapViews
import Derived.JoinedTies
import Derived.KernelRfl
namespace Go.Proofs.YtknodhkifmklfaaDoor
/- THE CELL 'sum', in the pinned program and in every row, IS THE sha256 OF THE DUMP (.gsa) THAT YtknodhkifmklfaaDoorProg.lean LOADS. Nothing in Lean hashes anything: it is a label: what it is worth is what the hold of that sum in a sandbox is worth. -/
noncomputable def Tryd.pinned : Pinned := { name := "ytknodhkifmklfaadoor", sum := "7dd434cd0b98fbad9fe132b2c3f74c72e61a0d00b2500372dfac3708c08cdd16", checked := Tryd.checked }
namespace Rows
def none {H : Type} : Left H := { results := [], args := [] }

/-- 'laws.FnExactPageGet': WHATEVER THE INPUT: true; the input reads as it did. -/
def fnExactPageGetSpec : ChangeSpec := { name := "fnExactPageGet", vars := ["loop.example/s02544/impl.be"], fn := fun _ => fun
  | [d1, d2, g1] => { results := [.lit (.bool true)], args := [d1, d2], vars := [g1] }
  | _ => none }
def fnExactPageGetRow : OpenClaim := { program := "ytknodhkifmklfaadoor", sum := "7dd434cd0b98fbad9fe132b2c3f74c72e61a0d00b2500372dfac3708c08cdd16", func := "loop.example/s02544/laws.FnExactPageGet", spec := "fnExactPageGet", named := ["loop.example/s02544/impl.be"], apart := false }
def FnExactPageGetSaid : Prop := fnExactPageGetRow.holds Tryd.pinned (OpenSpec.ofChange fnExactPageGetSpec)

/-- ITS FALSE NEIGHBOUR: 'it returns false'. Refute it at one input. -/
def fnExactPageGetWrong : ChangeSpec := { name := "fnExactPageGet", vars := ["loop.example/s02544/impl.be"], fn := fun _ => fun
  | [d1, d2, g1] => { results := [.lit (.bool false)], args := [d1, d2], vars := [g1] }
  | _ => none }
def FnExactPageGetWrongFalsely : Prop := fnExactPageGetRow.holds Tryd.pinned (OpenSpec.ofChange fnExactPageGetWrong)

/-- 'laws.FnExactPageFault': WHATEVER THE INPUT: true; the input reads as it did. -/
def fnExactPageFaultSpec : ChangeSpec := { name := "fnExactPageFault", vars := ["loop.example/s02544/impl.be"], fn := fun _ => fun
  | [d1, d2, g1] => { results := [.lit (.bool true)], args := [d1, d2], vars := [g1] }
  | _ => none }
def fnExactPageFaultRow : OpenClaim := { program := "ytknodhkifmklfaadoor", sum := "7dd434cd0b98fbad9fe132b2c3f74c72e61a0d00b2500372dfac3708c08cdd16", func := "loop.example/s02544/laws.FnExactPageFault", spec := "fnExactPageFault", named := ["loop.example/s02544/impl.be"], apart := false }
def FnExactPageFaultSaid : Prop := fnExactPageFaultRow.holds Tryd.pinned (OpenSpec.ofChange fnExactPageFaultSpec)

/-- ITS FALSE NEIGHBOUR: 'it returns false'. Refute it at one input. -/
def fnExactPageFaultWrong : ChangeSpec := { name := "fnExactPageFault", vars := ["loop.example/s02544/impl.be"], fn := fun _ => fun
  | [d1, d2, g1] => { results := [.lit (.bool false)], args := [d1, d2], vars := [g1] }
  | _ => none }
def FnExactPageFaultWrongFalsely : Prop := fnExactPageFaultRow.holds Tryd.pinned (OpenSpec.ofChange fnExactPageFaultWrong)

/-- 'laws.FnExactPageLSN': WHATEVER THE INPUT: true; the input reads as it did. -/
def fnExactPageLSNSpec : ChangeSpec := { name := "fnExactPageLSN", vars := ["loop.example/s02544/impl.be"], fn := fun _ => fun
  | [d, g1] => { results := [.lit (.bool true)], args := [d], vars := [g1] }
  | _ => none }
def fnExactPageLSNRow : OpenClaim := { program := "ytknodhkifmklfaadoor", sum := "7dd434cd0b98fbad9fe132b2c3f74c72e61a0d00b2500372dfac3708c08cdd16", func := "loop.example/s02544/laws.FnExactPageLSN", spec := "fnExactPageLSN", named := ["loop.example/s02544/impl.be"], apart := false }
def FnExactPageLSNSaid : Prop := fnExactPageLSNRow.holds Tryd.pinned (OpenSpec.ofChange fnExactPageLSNSpec)

/-- ITS FALSE NEIGHBOUR: 'it returns false'. Refute it at one input. -/
def fnExactPageLSNWrong : ChangeSpec := { name := "fnExactPageLSN", vars := ["loop.example/s02544/impl.be"], fn := fun _ => fun
  | [d, g1] => { results := [.lit (.bool false)], args := [d], vars := [g1] }
  | _ => none }
def FnExactPageLSNWrongFalsely : Prop := fnExactPageLSNRow.holds Tryd.pinned (OpenSpec.ofChange fnExactPageLSNWrong)

/-- 'laws.FnExactPageUsed': WHATEVER THE INPUT: true; the input reads as it did. -/
def fnExactPageUsedSpec : ChangeSpec := { name := "fnExactPageUsed", vars := ["loop.example/s02544/impl.be"], fn := fun _ => fun
  | [d, g1] => { results := [.lit (.bool true)], args := [d], vars := [g1] }
  | _ => none }
def fnExactPageUsedRow : OpenClaim := { program := "ytknodhkifmklfaadoor", sum := "7dd434cd0b98fbad9fe132b2c3f74c72e61a0d00b2500372dfac3708c08cdd16", func := "loop.example/s02544/laws.FnExactPageUsed", spec := "fnExactPageUsed", named := ["loop.example/s02544/impl.be"], apart := false }
def FnExactPageUsedSaid : Prop := fnExactPageUsedRow.holds Tryd.pinned (OpenSpec.ofChange fnExactPageUsedSpec)

/-- ITS FALSE NEIGHBOUR: 'it returns false'. Refute it at one input. -/
def fnExactPageUsedWrong : ChangeSpec := { name := "fnExactPageUsed", vars := ["loop.example/s02544/impl.be"], fn := fun _ => fun
  | [d, g1] => { results := [.lit (.bool false)], args := [d], vars := [g1] }
  | _ => none }
def FnExactPageUsedWrongFalsely : Prop := fnExactPageUsedRow.holds Tryd.pinned (OpenSpec.ofChange fnExactPageUsedWrong)

/- THE SECOND FORM. 'bulk': how many values and letters a reading holds, each counted each time it is reached (what is shared counts as often as it is met; a slice's spare places count too). A statement '..UptoSaid' is the law's where the arguments, and the package variables that the reading takes, are together of bulk at most 1048576: NARROWER than '..Said'. Prove '..Said' where nothing that the law and all that it calls make is longer than what came in: it says more and counts as full. Else prove '..UptoSaid'. A law counts once. -/
mutual
def uptoBulk {H : Type} : DataW H → Nat
  | .lit (.string bytes) => bytes.length + 1
  | .lit _ => 1
  | .nil => 1
  | .ptr d => uptoBulk d + 1
  | .slice elems spare => uptoBulkAll elems + uptoBulkAll spare + 1
  | .agg parts => uptoBulkAll parts + 1
  | .iface _ d => uptoBulk d + 1
  | .map entries => uptoBulkEntries entries + 1
  | .held _ => 1
def uptoBulkAll {H : Type} : List (DataW H) → Nat
  | [] => 0
  | d :: r => uptoBulk d + uptoBulkAll r
def uptoBulkEntries {H : Type} : List (Lit × DataW H) → Nat
  | [] => 0
  | x :: r => uptoBulkEntry x + uptoBulkEntries r
def uptoBulkEntry {H : Type} : Lit × DataW H → Nat
  | (.string bytes, d) => bytes.length + uptoBulk d + 1
  | (_, d) => uptoBulk d + 1
 end
def uptoSmall : (H : Type) → List (DataW H) → Bool := fun _ ds => decide (uptoBulkAll ds ≤ 1048576)
def OpenSpec.upto (s : _root_.Go.ChangeSpec) : _root_.Go.OpenSpec := { _root_.Go.OpenSpec.ofChange s with cond := some uptoSmall }

/-- 'laws.FnExactPageGet', WHERE WHAT IT READS IS OF BULK AT MOST 1048576: true; the input reads as it did. -/
def fnExactPageGetUptoRow : OpenClaim := { program := "ytknodhkifmklfaadoor", sum := "7dd434cd0b98fbad9fe132b2c3f74c72e61a0d00b2500372dfac3708c08cdd16", func := "loop.example/s02544/laws.FnExactPageGet", spec := "fnExactPageGet", named := ["loop.example/s02544/impl.be"], apart := false, narrowed := true }
def FnExactPageGetUptoSaid : Prop := fnExactPageGetUptoRow.holds Tryd.pinned (OpenSpec.upto fnExactPageGetSpec)

/-- 'laws.FnExactPageFault', WHERE WHAT IT READS IS OF BULK AT MOST 1048576: true; the input reads as it did. -/
def fnExactPageFaultUptoRow : OpenClaim := { program := "ytknodhkifmklfaadoor", sum := "7dd434cd0b98fbad9fe132b2c3f74c72e61a0d00b2500372dfac3708c08cdd16", func := "loop.example/s02544/laws.FnExactPageFault", spec := "fnExactPageFault", named := ["loop.example/s02544/impl.be"], apart := false, narrowed := true }
def FnExactPageFaultUptoSaid : Prop := fnExactPageFaultUptoRow.holds Tryd.pinned (OpenSpec.upto fnExactPageFaultSpec)

/-- 'laws.FnExactPageLSN', WHERE WHAT IT READS IS OF BULK AT MOST 1048576: true; the input reads as it did. -/
def fnExactPageLSNUptoRow : OpenClaim := { program := "ytknodhkifmklfaadoor", sum := "7dd434cd0b98fbad9fe132b2c3f74c72e61a0d00b2500372dfac3708c08cdd16", func := "loop.example/s02544/laws.FnExactPageLSN", spec := "fnExactPageLSN", named := ["loop.example/s02544/impl.be"], apart := false, narrowed := true }
def FnExactPageLSNUptoSaid : Prop := fnExactPageLSNUptoRow.holds Tryd.pinned (OpenSpec.upto fnExactPageLSNSpec)

/-- 'laws.FnExactPageUsed', WHERE WHAT IT READS IS OF BULK AT MOST 1048576: true; the input reads as it did. -/
def fnExactPageUsedUptoRow : OpenClaim := { program := "ytknodhkifmklfaadoor", sum := "7dd434cd0b98fbad9fe132b2c3f74c72e61a0d00b2500372dfac3708c08cdd16", func := "loop.example/s02544/laws.FnExactPageUsed", spec := "fnExactPageUsed", named := ["loop.example/s02544/impl.be"], apart := false, narrowed := true }
def FnExactPageUsedUptoSaid : Prop := fnExactPageUsedUptoRow.holds Tryd.pinned (OpenSpec.upto fnExactPageUsedSpec)

end Rows
end Go.Proofs.YtknodhkifmklfaaDoor
