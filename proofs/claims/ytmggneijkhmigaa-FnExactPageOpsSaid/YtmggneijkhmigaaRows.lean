/-
  No cell of these rows narrows 'for every input' (looked for: loops, veiled, ifaces, maps, wideKeys, modest, calm, conditions, laid).
  DERIVED. THE GIVEN ROWS OF THIS SEAT. 10 by the template 'for every input the law returns true; each argument reads behind the call as it read before'; 0 by the template 'total and deterministic' (their statements: YtmggneijkhmigaaTotals.lean).
  GIVEN WITH THE SEED: the statements are not yours to turn. If you find one false, say at which input.
  Laid BY PROGRAM, IN A SANDBOX (cutbox-rows.mjs): the forced cells as the released guide's own fill.sh prints them over the translation e9a079cffff9ea34… (all of the seat's roots in one cut). By AI agents, Wed Nov 11 2026. No macro, syntax, notation, axiom, sorry.
-/
import Derived.Test.YtmggneijkhmigaaChecked
import GoSem.Claim
import GoSem.ClaimJoined
import GoSem.ClaimMapViews
import Derived.JoinedTies
import Derived.KernelRfl
namespace Go.Proofs.Ytmggneijkhmigaa
/- THE CELL 'sum', in the pinned program and in every row, IS THE sha256 OF THE DUMP (.gsa) THAT YtmggneijkhmigaaProg.lean LOADS. Nothing in Lean hashes anything: it is a label: what it is worth is what the hold of that sum in a sandbox is worth. -/
noncomputable def Try.pinned : Pinned := { name := "ytmggneijkhmigaa", sum := "e9a079cffff9ea3479fd90c9cafa8810a7af711d1a580203ae0fda77d919c649", checked := Try.checked }
namespace Rows
def none {H : Type} : Left H := { results := [], args := [] }

/-- 'laws.FnExactValidDisk': WHATEVER THE INPUT: true; the input reads as it did. -/
def fnExactValidDiskSpec : ChangeSpec := { name := "fnExactValidDisk", fn := fun _ => fun
  | [d] => { results := [.lit (.bool true)], args := [d] }
  | _ => none }
def fnExactValidDiskRow : OpenClaim := { program := "ytmggneijkhmigaa", sum := "e9a079cffff9ea3479fd90c9cafa8810a7af711d1a580203ae0fda77d919c649", func := "loop.example/s02544/laws.FnExactValidDisk", spec := "fnExactValidDisk", apart := false }
def FnExactValidDiskSaid : Prop := fnExactValidDiskRow.holds Try.pinned (OpenSpec.ofChange fnExactValidDiskSpec)

/-- ITS FALSE NEIGHBOUR: 'it returns false'. Refute it at one input. -/
def fnExactValidDiskWrong : ChangeSpec := { name := "fnExactValidDisk", fn := fun _ => fun
  | [d] => { results := [.lit (.bool false)], args := [d] }
  | _ => none }
def FnExactValidDiskWrongFalsely : Prop := fnExactValidDiskRow.holds Try.pinned (OpenSpec.ofChange fnExactValidDiskWrong)

/-- 'laws.FnExactStepFault': WHATEVER THE INPUT: true; the input reads as it did. -/
def fnExactStepFaultSpec : ChangeSpec := { name := "fnExactStepFault", fn := fun _ => fun
  | [d] => { results := [.lit (.bool true)], args := [d] }
  | _ => none }
def fnExactStepFaultRow : OpenClaim := { program := "ytmggneijkhmigaa", sum := "e9a079cffff9ea3479fd90c9cafa8810a7af711d1a580203ae0fda77d919c649", func := "loop.example/s02544/laws.FnExactStepFault", spec := "fnExactStepFault", apart := false }
def FnExactStepFaultSaid : Prop := fnExactStepFaultRow.holds Try.pinned (OpenSpec.ofChange fnExactStepFaultSpec)

/-- ITS FALSE NEIGHBOUR: 'it returns false'. Refute it at one input. -/
def fnExactStepFaultWrong : ChangeSpec := { name := "fnExactStepFault", fn := fun _ => fun
  | [d] => { results := [.lit (.bool false)], args := [d] }
  | _ => none }
def FnExactStepFaultWrongFalsely : Prop := fnExactStepFaultRow.holds Try.pinned (OpenSpec.ofChange fnExactStepFaultWrong)

/-- 'laws.FnExactLogFlushed': WHATEVER THE INPUT: true; the input reads as it did. -/
def fnExactLogFlushedSpec : ChangeSpec := { name := "fnExactLogFlushed", fn := fun _ => fun
  | [d] => { results := [.lit (.bool true)], args := [d] }
  | _ => none }
def fnExactLogFlushedRow : OpenClaim := { program := "ytmggneijkhmigaa", sum := "e9a079cffff9ea3479fd90c9cafa8810a7af711d1a580203ae0fda77d919c649", func := "loop.example/s02544/laws.FnExactLogFlushed", spec := "fnExactLogFlushed", apart := false }
def FnExactLogFlushedSaid : Prop := fnExactLogFlushedRow.holds Try.pinned (OpenSpec.ofChange fnExactLogFlushedSpec)

/-- ITS FALSE NEIGHBOUR: 'it returns false'. Refute it at one input. -/
def fnExactLogFlushedWrong : ChangeSpec := { name := "fnExactLogFlushed", fn := fun _ => fun
  | [d] => { results := [.lit (.bool false)], args := [d] }
  | _ => none }
def FnExactLogFlushedWrongFalsely : Prop := fnExactLogFlushedRow.holds Try.pinned (OpenSpec.ofChange fnExactLogFlushedWrong)

/-- 'laws.FnExactPoolNew': WHATEVER THE INPUT: true; the input reads as it did. -/
def fnExactPoolNewSpec : ChangeSpec := { name := "fnExactPoolNew", fn := fun _ => fun
  | [d] => { results := [.lit (.bool true)], args := [d] }
  | _ => none }
def fnExactPoolNewRow : OpenClaim := { program := "ytmggneijkhmigaa", sum := "e9a079cffff9ea3479fd90c9cafa8810a7af711d1a580203ae0fda77d919c649", func := "loop.example/s02544/laws.FnExactPoolNew", spec := "fnExactPoolNew", apart := false }
def FnExactPoolNewSaid : Prop := fnExactPoolNewRow.holds Try.pinned (OpenSpec.ofChange fnExactPoolNewSpec)

/-- ITS FALSE NEIGHBOUR: 'it returns false'. Refute it at one input. -/
def fnExactPoolNewWrong : ChangeSpec := { name := "fnExactPoolNew", fn := fun _ => fun
  | [d] => { results := [.lit (.bool false)], args := [d] }
  | _ => none }
def FnExactPoolNewWrongFalsely : Prop := fnExactPoolNewRow.holds Try.pinned (OpenSpec.ofChange fnExactPoolNewWrong)

/-- 'laws.FnExactHoldFree': WHATEVER THE INPUT: true; the input reads as it did. -/
def fnExactHoldFreeSpec : ChangeSpec := { name := "fnExactHoldFree", fn := fun _ => fun
  | [d1, d2] => { results := [.lit (.bool true)], args := [d1, d2] }
  | _ => none }
def fnExactHoldFreeRow : OpenClaim := { program := "ytmggneijkhmigaa", sum := "e9a079cffff9ea3479fd90c9cafa8810a7af711d1a580203ae0fda77d919c649", func := "loop.example/s02544/laws.FnExactHoldFree", spec := "fnExactHoldFree", unfollowed := true, recurses := true, apart := false }
def FnExactHoldFreeSaid : Prop := fnExactHoldFreeRow.holds Try.pinned (OpenSpec.ofChange fnExactHoldFreeSpec)

/-- ITS FALSE NEIGHBOUR: 'it returns false'. Refute it at one input. -/
def fnExactHoldFreeWrong : ChangeSpec := { name := "fnExactHoldFree", fn := fun _ => fun
  | [d1, d2] => { results := [.lit (.bool false)], args := [d1, d2] }
  | _ => none }
def FnExactHoldFreeWrongFalsely : Prop := fnExactHoldFreeRow.holds Try.pinned (OpenSpec.ofChange fnExactHoldFreeWrong)

/-- 'laws.FnExactPageOps': WHATEVER THE INPUT: true; the input reads as it did. -/
def fnExactPageOpsSpec : ChangeSpec := { name := "fnExactPageOps", fn := fun _ => fun
  | [d1, d2, d3] => { results := [.lit (.bool true)], args := [d1, d2, d3] }
  | _ => none }
def fnExactPageOpsRow : OpenClaim := { program := "ytmggneijkhmigaa", sum := "e9a079cffff9ea3479fd90c9cafa8810a7af711d1a580203ae0fda77d919c649", func := "loop.example/s02544/laws.FnExactPageOps", spec := "fnExactPageOps", apart := false }
def FnExactPageOpsSaid : Prop := fnExactPageOpsRow.holds Try.pinned (OpenSpec.ofChange fnExactPageOpsSpec)

/-- ITS FALSE NEIGHBOUR: 'it returns false'. Refute it at one input. -/
def fnExactPageOpsWrong : ChangeSpec := { name := "fnExactPageOps", fn := fun _ => fun
  | [d1, d2, d3] => { results := [.lit (.bool false)], args := [d1, d2, d3] }
  | _ => none }
def FnExactPageOpsWrongFalsely : Prop := fnExactPageOpsRow.holds Try.pinned (OpenSpec.ofChange fnExactPageOpsWrong)

/-- 'laws.FnExactRoomLeft': WHATEVER THE INPUT: true; the input reads as it did. -/
def fnExactRoomLeftSpec : ChangeSpec := { name := "fnExactRoomLeft", fn := fun _ => fun
  | [d1, d2, d3] => { results := [.lit (.bool true)], args := [d1, d2, d3] }
  | _ => none }
def fnExactRoomLeftRow : OpenClaim := { program := "ytmggneijkhmigaa", sum := "e9a079cffff9ea3479fd90c9cafa8810a7af711d1a580203ae0fda77d919c649", func := "loop.example/s02544/laws.FnExactRoomLeft", spec := "fnExactRoomLeft", unfollowed := true, recurses := true, apart := false }
def FnExactRoomLeftSaid : Prop := fnExactRoomLeftRow.holds Try.pinned (OpenSpec.ofChange fnExactRoomLeftSpec)

/-- ITS FALSE NEIGHBOUR: 'it returns false'. Refute it at one input. -/
def fnExactRoomLeftWrong : ChangeSpec := { name := "fnExactRoomLeft", fn := fun _ => fun
  | [d1, d2, d3] => { results := [.lit (.bool false)], args := [d1, d2, d3] }
  | _ => none }
def FnExactRoomLeftWrongFalsely : Prop := fnExactRoomLeftRow.holds Try.pinned (OpenSpec.ofChange fnExactRoomLeftWrong)

/-- 'laws.FnExactPoolFault': WHATEVER THE INPUT: true; the input reads as it did. -/
def fnExactPoolFaultSpec : ChangeSpec := { name := "fnExactPoolFault", fn := fun _ => fun
  | [d] => { results := [.lit (.bool true)], args := [d] }
  | _ => none }
def fnExactPoolFaultRow : OpenClaim := { program := "ytmggneijkhmigaa", sum := "e9a079cffff9ea3479fd90c9cafa8810a7af711d1a580203ae0fda77d919c649", func := "loop.example/s02544/laws.FnExactPoolFault", spec := "fnExactPoolFault", apart := false }
def FnExactPoolFaultSaid : Prop := fnExactPoolFaultRow.holds Try.pinned (OpenSpec.ofChange fnExactPoolFaultSpec)

/-- ITS FALSE NEIGHBOUR: 'it returns false'. Refute it at one input. -/
def fnExactPoolFaultWrong : ChangeSpec := { name := "fnExactPoolFault", fn := fun _ => fun
  | [d] => { results := [.lit (.bool false)], args := [d] }
  | _ => none }
def FnExactPoolFaultWrongFalsely : Prop := fnExactPoolFaultRow.holds Try.pinned (OpenSpec.ofChange fnExactPoolFaultWrong)

/-- 'laws.FnExactRoomFor': WHATEVER THE INPUT: true; the input reads as it did. -/
def fnExactRoomForSpec : ChangeSpec := { name := "fnExactRoomFor", fn := fun _ => fun
  | [d1, d2, d3, d4] => { results := [.lit (.bool true)], args := [d1, d2, d3, d4] }
  | _ => none }
def fnExactRoomForRow : OpenClaim := { program := "ytmggneijkhmigaa", sum := "e9a079cffff9ea3479fd90c9cafa8810a7af711d1a580203ae0fda77d919c649", func := "loop.example/s02544/laws.FnExactRoomFor", spec := "fnExactRoomFor", unfollowed := true, recurses := true, apart := false }
def FnExactRoomForSaid : Prop := fnExactRoomForRow.holds Try.pinned (OpenSpec.ofChange fnExactRoomForSpec)

/-- ITS FALSE NEIGHBOUR: 'it returns false'. Refute it at one input. -/
def fnExactRoomForWrong : ChangeSpec := { name := "fnExactRoomFor", fn := fun _ => fun
  | [d1, d2, d3, d4] => { results := [.lit (.bool false)], args := [d1, d2, d3, d4] }
  | _ => none }
def FnExactRoomForWrongFalsely : Prop := fnExactRoomForRow.holds Try.pinned (OpenSpec.ofChange fnExactRoomForWrong)

/-- 'laws.FnExactLockFree': WHATEVER THE INPUT: true; the input reads as it did. -/
def fnExactLockFreeSpec : ChangeSpec := { name := "fnExactLockFree", fn := fun _ => fun
  | [d1, d2] => { results := [.lit (.bool true)], args := [d1, d2] }
  | _ => none }
def fnExactLockFreeRow : OpenClaim := { program := "ytmggneijkhmigaa", sum := "e9a079cffff9ea3479fd90c9cafa8810a7af711d1a580203ae0fda77d919c649", func := "loop.example/s02544/laws.FnExactLockFree", spec := "fnExactLockFree", unfollowed := true, recurses := true, apart := false }
def FnExactLockFreeSaid : Prop := fnExactLockFreeRow.holds Try.pinned (OpenSpec.ofChange fnExactLockFreeSpec)

/-- ITS FALSE NEIGHBOUR: 'it returns false'. Refute it at one input. -/
def fnExactLockFreeWrong : ChangeSpec := { name := "fnExactLockFree", fn := fun _ => fun
  | [d1, d2] => { results := [.lit (.bool false)], args := [d1, d2] }
  | _ => none }
def FnExactLockFreeWrongFalsely : Prop := fnExactLockFreeRow.holds Try.pinned (OpenSpec.ofChange fnExactLockFreeWrong)

/- THE SECOND FORM. 'bulk': how many values and letters a reading holds, each counted each time it is reached (what is shared counts as often as it is met; a slice's spare places count too). A statement '..UptoSaid' is the law's where the arguments, and the package variables that the reading takes, are together of bulk at most 1048576: NARROWER than '..Said'. Prove '..Said' where nothing that the law and all that it calls make is longer than what came in: it says more and counts as full. Else prove '..UptoSaid'. A law counts once. -/
mutual
def uptoBulk {H : Type} : DataW H → Nat
  | .lit (.string bytes) => bytes.length + 1
  | .lit _ => 1
  | .nil => 1
  | .ptr d => uptoBulk d + 1
  | .slice elems spare => uptoBulkAll elems + uptoBulkAll spare + 1
  | .agg parts => uptoBulkAll parts + 1
  | .iface _ d => uptoBulk d + 1
  | .map entries => uptoBulkEntries entries + 1
  | .held _ => 1
def uptoBulkAll {H : Type} : List (DataW H) → Nat
  | [] => 0
  | d :: r => uptoBulk d + uptoBulkAll r
def uptoBulkEntries {H : Type} : List (Lit × DataW H) → Nat
  | [] => 0
  | x :: r => uptoBulkEntry x + uptoBulkEntries r
def uptoBulkEntry {H : Type} : Lit × DataW H → Nat
  | (.string bytes, d) => bytes.length + uptoBulk d + 1
  | (_, d) => uptoBulk d + 1
 end
def uptoSmall : (H : Type) → List (DataW H) → Bool := fun _ ds => decide (uptoBulkAll ds ≤ 1048576)
def OpenSpec.upto (s : _root_.Go.ChangeSpec) : _root_.Go.OpenSpec := { _root_.Go.OpenSpec.ofChange s with cond := some uptoSmall }

/-- 'laws.FnExactValidDisk', WHERE WHAT IT READS IS OF BULK AT MOST 1048576: true; the input reads as it did. -/
def fnExactValidDiskUptoRow : OpenClaim := { program := "ytmggneijkhmigaa", sum := "e9a079cffff9ea3479fd90c9cafa8810a7af711d1a580203ae0fda77d919c649", func := "loop.example/s02544/laws.FnExactValidDisk", spec := "fnExactValidDisk", apart := false, narrowed := true }
def FnExactValidDiskUptoSaid : Prop := fnExactValidDiskUptoRow.holds Try.pinned (OpenSpec.upto fnExactValidDiskSpec)

/-- 'laws.FnExactStepFault', WHERE WHAT IT READS IS OF BULK AT MOST 1048576: true; the input reads as it did. -/
def fnExactStepFaultUptoRow : OpenClaim := { program := "ytmggneijkhmigaa", sum := "e9a079cffff9ea3479fd90c9cafa8810a7af711d1a580203ae0fda77d919c649", func := "loop.example/s02544/laws.FnExactStepFault", spec := "fnExactStepFault", apart := false, narrowed := true }
def FnExactStepFaultUptoSaid : Prop := fnExactStepFaultUptoRow.holds Try.pinned (OpenSpec.upto fnExactStepFaultSpec)

/-- 'laws.FnExactLogFlushed', WHERE WHAT IT READS IS OF BULK AT MOST 1048576: true; the input reads as it did. -/
def fnExactLogFlushedUptoRow : OpenClaim := { program := "ytmggneijkhmigaa", sum := "e9a079cffff9ea3479fd90c9cafa8810a7af711d1a580203ae0fda77d919c649", func := "loop.example/s02544/laws.FnExactLogFlushed", spec := "fnExactLogFlushed", apart := false, narrowed := true }
def FnExactLogFlushedUptoSaid : Prop := fnExactLogFlushedUptoRow.holds Try.pinned (OpenSpec.upto fnExactLogFlushedSpec)

/-- 'laws.FnExactPoolNew', WHERE WHAT IT READS IS OF BULK AT MOST 1048576: true; the input reads as it did. -/
def fnExactPoolNewUptoRow : OpenClaim := { program := "ytmggneijkhmigaa", sum := "e9a079cffff9ea3479fd90c9cafa8810a7af711d1a580203ae0fda77d919c649", func := "loop.example/s02544/laws.FnExactPoolNew", spec := "fnExactPoolNew", apart := false, narrowed := true }
def FnExactPoolNewUptoSaid : Prop := fnExactPoolNewUptoRow.holds Try.pinned (OpenSpec.upto fnExactPoolNewSpec)

/-- 'laws.FnExactHoldFree', WHERE WHAT IT READS IS OF BULK AT MOST 1048576: true; the input reads as it did. -/
def fnExactHoldFreeUptoRow : OpenClaim := { program := "ytmggneijkhmigaa", sum := "e9a079cffff9ea3479fd90c9cafa8810a7af711d1a580203ae0fda77d919c649", func := "loop.example/s02544/laws.FnExactHoldFree", spec := "fnExactHoldFree", unfollowed := true, recurses := true, apart := false, narrowed := true }
def FnExactHoldFreeUptoSaid : Prop := fnExactHoldFreeUptoRow.holds Try.pinned (OpenSpec.upto fnExactHoldFreeSpec)

/-- 'laws.FnExactPageOps', WHERE WHAT IT READS IS OF BULK AT MOST 1048576: true; the input reads as it did. -/
def fnExactPageOpsUptoRow : OpenClaim := { program := "ytmggneijkhmigaa", sum := "e9a079cffff9ea3479fd90c9cafa8810a7af711d1a580203ae0fda77d919c649", func := "loop.example/s02544/laws.FnExactPageOps", spec := "fnExactPageOps", apart := false, narrowed := true }
def FnExactPageOpsUptoSaid : Prop := fnExactPageOpsUptoRow.holds Try.pinned (OpenSpec.upto fnExactPageOpsSpec)

/-- 'laws.FnExactRoomLeft', WHERE WHAT IT READS IS OF BULK AT MOST 1048576: true; the input reads as it did. -/
def fnExactRoomLeftUptoRow : OpenClaim := { program := "ytmggneijkhmigaa", sum := "e9a079cffff9ea3479fd90c9cafa8810a7af711d1a580203ae0fda77d919c649", func := "loop.example/s02544/laws.FnExactRoomLeft", spec := "fnExactRoomLeft", unfollowed := true, recurses := true, apart := false, narrowed := true }
def FnExactRoomLeftUptoSaid : Prop := fnExactRoomLeftUptoRow.holds Try.pinned (OpenSpec.upto fnExactRoomLeftSpec)

/-- 'laws.FnExactPoolFault', WHERE WHAT IT READS IS OF BULK AT MOST 1048576: true; the input reads as it did. -/
def fnExactPoolFaultUptoRow : OpenClaim := { program := "ytmggneijkhmigaa", sum := "e9a079cffff9ea3479fd90c9cafa8810a7af711d1a580203ae0fda77d919c649", func := "loop.example/s02544/laws.FnExactPoolFault", spec := "fnExactPoolFault", apart := false, narrowed := true }
def FnExactPoolFaultUptoSaid : Prop := fnExactPoolFaultUptoRow.holds Try.pinned (OpenSpec.upto fnExactPoolFaultSpec)

/-- 'laws.FnExactRoomFor', WHERE WHAT IT READS IS OF BULK AT MOST 1048576: true; the input reads as it did. -/
def fnExactRoomForUptoRow : OpenClaim := { program := "ytmggneijkhmigaa", sum := "e9a079cffff9ea3479fd90c9cafa8810a7af711d1a580203ae0fda77d919c649", func := "loop.example/s02544/laws.FnExactRoomFor", spec := "fnExactRoomFor", unfollowed := true, recurses := true, apart := false, narrowed := true }
def FnExactRoomForUptoSaid : Prop := fnExactRoomForUptoRow.holds Try.pinned (OpenSpec.upto fnExactRoomForSpec)

/-- 'laws.FnExactLockFree', WHERE WHAT IT READS IS OF BULK AT MOST 1048576: true; the input reads as it did. -/
def fnExactLockFreeUptoRow : OpenClaim := { program := "ytmggneijkhmigaa", sum := "e9a079cffff9ea3479fd90c9cafa8810a7af711d1a580203ae0fda77d919c649", func := "loop.example/s02544/laws.FnExactLockFree", spec := "fnExactLockFree", unfollowed := true, recurses := true, apart := false, narrowed := true }
def FnExactLockFreeUptoSaid : Prop := fnExactLockFreeUptoRow.holds Try.pinned (OpenSpec.upto fnExactLockFreeSpec)

end Rows
end Go.Proofs.Ytmggneijkhmigaa
