/-
  No cell of these rows narrows 'for every input' (looked for: loops, veiled, ifaces, maps, wideKeys, modest, calm, conditions, laid).
  DERIVED. THE GIVEN ROWS OF THIS SEAT. 12 by the template 'for every input the law returns true; each argument reads behind the call as it read before'; 0 by the template 'total and deterministic' (their statements: YtjkhmagnlaijhaaTotals.lean).
  GIVEN WITH THE SEED: the statements are not yours to turn. If you find one false, say at which input.
  Laid BY PROGRAM, IN A SANDBOX (cutbox-rows.mjs): the forced cells as the released guide's own fill.sh prints them over the translation 3e5495a426508537… (all of the seat's roots in one cut). By AI agents, Wed Nov 11 2026. No macro, syntax, notation, axiom, sorry.
-/
import Derived.Test.YtjkhmagnlaijhaaChecked
import GoSem.Claim
import GoSem.ClaimJoined
import GoSem.ClaimMapViews
import Derived.JoinedTies
import Derived.KernelRfl
namespace Go.Proofs.Ytjkhmagnlaijhaa
/- THE CELL 'sum', in the pinned program and in every row, IS THE sha256 OF THE DUMP (.gsa) THAT YtjkhmagnlaijhaaProg.lean LOADS. Nothing in Lean hashes anything: it is a label: what it is worth is what the hold of that sum in a sandbox is worth. -/
noncomputable def Try.pinned : Pinned := { name := "ytjkhmagnlaijhaa", sum := "3e5495a4265085377c2215fe3c7b120f8a2788c150ae09463708c57d8880650c", checked := Try.checked }
namespace Rows
def none {H : Type} : Left H := { results := [], args := [] }

/-- 'laws.FnExactConstants': WHATEVER THE INPUT: true; the input reads as it did. -/
def fnExactConstantsSpec : ChangeSpec := { name := "fnExactConstants", fn := fun _ => fun
  | [] => { results := [.lit (.bool true)], args := [] }
  | _ => none }
def fnExactConstantsRow : OpenClaim := { program := "ytjkhmagnlaijhaa", sum := "3e5495a4265085377c2215fe3c7b120f8a2788c150ae09463708c57d8880650c", func := "loop.example/s02544/laws.FnExactConstants", spec := "fnExactConstants", apart := false }
def FnExactConstantsSaid : Prop := fnExactConstantsRow.holds Try.pinned (OpenSpec.ofChange fnExactConstantsSpec)

/-- ITS FALSE NEIGHBOUR: 'it returns false'. Refute it at one input. -/
def fnExactConstantsWrong : ChangeSpec := { name := "fnExactConstants", fn := fun _ => fun
  | [] => { results := [.lit (.bool false)], args := [] }
  | _ => none }
def FnExactConstantsWrongFalsely : Prop := fnExactConstantsRow.holds Try.pinned (OpenSpec.ofChange fnExactConstantsWrong)

/-- 'laws.FnExactCheckpointSize': WHATEVER THE INPUT: true; the input reads as it did. -/
def fnExactCheckpointSizeSpec : ChangeSpec := { name := "fnExactCheckpointSize", fn := fun _ => fun
  | [d] => { results := [.lit (.bool true)], args := [d] }
  | _ => none }
def fnExactCheckpointSizeRow : OpenClaim := { program := "ytjkhmagnlaijhaa", sum := "3e5495a4265085377c2215fe3c7b120f8a2788c150ae09463708c57d8880650c", func := "loop.example/s02544/laws.FnExactCheckpointSize", spec := "fnExactCheckpointSize", apart := false }
def FnExactCheckpointSizeSaid : Prop := fnExactCheckpointSizeRow.holds Try.pinned (OpenSpec.ofChange fnExactCheckpointSizeSpec)

/-- ITS FALSE NEIGHBOUR: 'it returns false'. Refute it at one input. -/
def fnExactCheckpointSizeWrong : ChangeSpec := { name := "fnExactCheckpointSize", fn := fun _ => fun
  | [d] => { results := [.lit (.bool false)], args := [d] }
  | _ => none }
def FnExactCheckpointSizeWrongFalsely : Prop := fnExactCheckpointSizeRow.holds Try.pinned (OpenSpec.ofChange fnExactCheckpointSizeWrong)

/-- 'laws.FnExactLogPlace': WHATEVER THE INPUT: true; the input reads as it did. -/
def fnExactLogPlaceSpec : ChangeSpec := { name := "fnExactLogPlace", fn := fun _ => fun
  | [d1, d2] => { results := [.lit (.bool true)], args := [d1, d2] }
  | _ => none }
def fnExactLogPlaceRow : OpenClaim := { program := "ytjkhmagnlaijhaa", sum := "3e5495a4265085377c2215fe3c7b120f8a2788c150ae09463708c57d8880650c", func := "loop.example/s02544/laws.FnExactLogPlace", spec := "fnExactLogPlace", apart := false }
def FnExactLogPlaceSaid : Prop := fnExactLogPlaceRow.holds Try.pinned (OpenSpec.ofChange fnExactLogPlaceSpec)

/-- ITS FALSE NEIGHBOUR: 'it returns false'. Refute it at one input. -/
def fnExactLogPlaceWrong : ChangeSpec := { name := "fnExactLogPlace", fn := fun _ => fun
  | [d1, d2] => { results := [.lit (.bool false)], args := [d1, d2] }
  | _ => none }
def FnExactLogPlaceWrongFalsely : Prop := fnExactLogPlaceRow.holds Try.pinned (OpenSpec.ofChange fnExactLogPlaceWrong)

/-- 'laws.FnExactMinLog': WHATEVER THE INPUT: true; the input reads as it did. -/
def fnExactMinLogSpec : ChangeSpec := { name := "fnExactMinLog", fn := fun _ => fun
  | [d] => { results := [.lit (.bool true)], args := [d] }
  | _ => none }
def fnExactMinLogRow : OpenClaim := { program := "ytjkhmagnlaijhaa", sum := "3e5495a4265085377c2215fe3c7b120f8a2788c150ae09463708c57d8880650c", func := "loop.example/s02544/laws.FnExactMinLog", spec := "fnExactMinLog", apart := false }
def FnExactMinLogSaid : Prop := fnExactMinLogRow.holds Try.pinned (OpenSpec.ofChange fnExactMinLogSpec)

/-- ITS FALSE NEIGHBOUR: 'it returns false'. Refute it at one input. -/
def fnExactMinLogWrong : ChangeSpec := { name := "fnExactMinLog", fn := fun _ => fun
  | [d] => { results := [.lit (.bool false)], args := [d] }
  | _ => none }
def FnExactMinLogWrongFalsely : Prop := fnExactMinLogRow.holds Try.pinned (OpenSpec.ofChange fnExactMinLogWrong)

/-- 'laws.FnExactDiskRead': WHATEVER THE INPUT: true; the input reads as it did. -/
def fnExactDiskReadSpec : ChangeSpec := { name := "fnExactDiskRead", fn := fun _ => fun
  | [d1, d2] => { results := [.lit (.bool true)], args := [d1, d2] }
  | _ => none }
def fnExactDiskReadRow : OpenClaim := { program := "ytjkhmagnlaijhaa", sum := "3e5495a4265085377c2215fe3c7b120f8a2788c150ae09463708c57d8880650c", func := "loop.example/s02544/laws.FnExactDiskRead", spec := "fnExactDiskRead", apart := false }
def FnExactDiskReadSaid : Prop := fnExactDiskReadRow.holds Try.pinned (OpenSpec.ofChange fnExactDiskReadSpec)

/-- ITS FALSE NEIGHBOUR: 'it returns false'. Refute it at one input. -/
def fnExactDiskReadWrong : ChangeSpec := { name := "fnExactDiskRead", fn := fun _ => fun
  | [d1, d2] => { results := [.lit (.bool false)], args := [d1, d2] }
  | _ => none }
def FnExactDiskReadWrongFalsely : Prop := fnExactDiskReadRow.holds Try.pinned (OpenSpec.ofChange fnExactDiskReadWrong)

/-- 'laws.FnExactMasterFault': WHATEVER THE INPUT: true; the input reads as it did. -/
def fnExactMasterFaultSpec : ChangeSpec := { name := "fnExactMasterFault", fn := fun _ => fun
  | [d] => { results := [.lit (.bool true)], args := [d] }
  | _ => none }
def fnExactMasterFaultRow : OpenClaim := { program := "ytjkhmagnlaijhaa", sum := "3e5495a4265085377c2215fe3c7b120f8a2788c150ae09463708c57d8880650c", func := "loop.example/s02544/laws.FnExactMasterFault", spec := "fnExactMasterFault", apart := false }
def FnExactMasterFaultSaid : Prop := fnExactMasterFaultRow.holds Try.pinned (OpenSpec.ofChange fnExactMasterFaultSpec)

/-- ITS FALSE NEIGHBOUR: 'it returns false'. Refute it at one input. -/
def fnExactMasterFaultWrong : ChangeSpec := { name := "fnExactMasterFault", fn := fun _ => fun
  | [d] => { results := [.lit (.bool false)], args := [d] }
  | _ => none }
def FnExactMasterFaultWrongFalsely : Prop := fnExactMasterFaultRow.holds Try.pinned (OpenSpec.ofChange fnExactMasterFaultWrong)

/-- 'laws.FnExactGetNumber': WHATEVER THE INPUT: true; the input reads as it did. -/
def fnExactGetNumberSpec : ChangeSpec := { name := "fnExactGetNumber", fn := fun _ => fun
  | [d] => { results := [.lit (.bool true)], args := [d] }
  | _ => none }
def fnExactGetNumberRow : OpenClaim := { program := "ytjkhmagnlaijhaa", sum := "3e5495a4265085377c2215fe3c7b120f8a2788c150ae09463708c57d8880650c", func := "loop.example/s02544/laws.FnExactGetNumber", spec := "fnExactGetNumber", apart := false }
def FnExactGetNumberSaid : Prop := fnExactGetNumberRow.holds Try.pinned (OpenSpec.ofChange fnExactGetNumberSpec)

/-- ITS FALSE NEIGHBOUR: 'it returns false'. Refute it at one input. -/
def fnExactGetNumberWrong : ChangeSpec := { name := "fnExactGetNumber", fn := fun _ => fun
  | [d] => { results := [.lit (.bool false)], args := [d] }
  | _ => none }
def FnExactGetNumberWrongFalsely : Prop := fnExactGetNumberRow.holds Try.pinned (OpenSpec.ofChange fnExactGetNumberWrong)

/-- 'laws.FnExactGeometryFault': WHATEVER THE INPUT: true; the input reads as it did. -/
def fnExactGeometryFaultSpec : ChangeSpec := { name := "fnExactGeometryFault", fn := fun _ => fun
  | [d] => { results := [.lit (.bool true)], args := [d] }
  | _ => none }
def fnExactGeometryFaultRow : OpenClaim := { program := "ytjkhmagnlaijhaa", sum := "3e5495a4265085377c2215fe3c7b120f8a2788c150ae09463708c57d8880650c", func := "loop.example/s02544/laws.FnExactGeometryFault", spec := "fnExactGeometryFault", apart := false }
def FnExactGeometryFaultSaid : Prop := fnExactGeometryFaultRow.holds Try.pinned (OpenSpec.ofChange fnExactGeometryFaultSpec)

/-- ITS FALSE NEIGHBOUR: 'it returns false'. Refute it at one input. -/
def fnExactGeometryFaultWrong : ChangeSpec := { name := "fnExactGeometryFault", fn := fun _ => fun
  | [d] => { results := [.lit (.bool false)], args := [d] }
  | _ => none }
def FnExactGeometryFaultWrongFalsely : Prop := fnExactGeometryFaultRow.holds Try.pinned (OpenSpec.ofChange fnExactGeometryFaultWrong)

/-- 'laws.FnExactLogFlushOps': WHATEVER THE INPUT: true; the input reads as it did. -/
def fnExactLogFlushOpsSpec : ChangeSpec := { name := "fnExactLogFlushOps", fn := fun _ => fun
  | [d] => { results := [.lit (.bool true)], args := [d] }
  | _ => none }
def fnExactLogFlushOpsRow : OpenClaim := { program := "ytjkhmagnlaijhaa", sum := "3e5495a4265085377c2215fe3c7b120f8a2788c150ae09463708c57d8880650c", func := "loop.example/s02544/laws.FnExactLogFlushOps", spec := "fnExactLogFlushOps", apart := false }
def FnExactLogFlushOpsSaid : Prop := fnExactLogFlushOpsRow.holds Try.pinned (OpenSpec.ofChange fnExactLogFlushOpsSpec)

/-- ITS FALSE NEIGHBOUR: 'it returns false'. Refute it at one input. -/
def fnExactLogFlushOpsWrong : ChangeSpec := { name := "fnExactLogFlushOps", fn := fun _ => fun
  | [d] => { results := [.lit (.bool false)], args := [d] }
  | _ => none }
def FnExactLogFlushOpsWrongFalsely : Prop := fnExactLogFlushOpsRow.holds Try.pinned (OpenSpec.ofChange fnExactLogFlushOpsWrong)

/-- 'laws.FnExactDiskSectors': WHATEVER THE INPUT: true; the input reads as it did. -/
def fnExactDiskSectorsSpec : ChangeSpec := { name := "fnExactDiskSectors", fn := fun _ => fun
  | [d] => { results := [.lit (.bool true)], args := [d] }
  | _ => none }
def fnExactDiskSectorsRow : OpenClaim := { program := "ytjkhmagnlaijhaa", sum := "3e5495a4265085377c2215fe3c7b120f8a2788c150ae09463708c57d8880650c", func := "loop.example/s02544/laws.FnExactDiskSectors", spec := "fnExactDiskSectors", apart := false }
def FnExactDiskSectorsSaid : Prop := fnExactDiskSectorsRow.holds Try.pinned (OpenSpec.ofChange fnExactDiskSectorsSpec)

/-- ITS FALSE NEIGHBOUR: 'it returns false'. Refute it at one input. -/
def fnExactDiskSectorsWrong : ChangeSpec := { name := "fnExactDiskSectors", fn := fun _ => fun
  | [d] => { results := [.lit (.bool false)], args := [d] }
  | _ => none }
def FnExactDiskSectorsWrongFalsely : Prop := fnExactDiskSectorsRow.holds Try.pinned (OpenSpec.ofChange fnExactDiskSectorsWrong)

/-- 'laws.FnExactPageSector': WHATEVER THE INPUT: true; the input reads as it did. -/
def fnExactPageSectorSpec : ChangeSpec := { name := "fnExactPageSector", fn := fun _ => fun
  | [d1, d2] => { results := [.lit (.bool true)], args := [d1, d2] }
  | _ => none }
def fnExactPageSectorRow : OpenClaim := { program := "ytjkhmagnlaijhaa", sum := "3e5495a4265085377c2215fe3c7b120f8a2788c150ae09463708c57d8880650c", func := "loop.example/s02544/laws.FnExactPageSector", spec := "fnExactPageSector", apart := false }
def FnExactPageSectorSaid : Prop := fnExactPageSectorRow.holds Try.pinned (OpenSpec.ofChange fnExactPageSectorSpec)

/-- ITS FALSE NEIGHBOUR: 'it returns false'. Refute it at one input. -/
def fnExactPageSectorWrong : ChangeSpec := { name := "fnExactPageSector", fn := fun _ => fun
  | [d1, d2] => { results := [.lit (.bool false)], args := [d1, d2] }
  | _ => none }
def FnExactPageSectorWrongFalsely : Prop := fnExactPageSectorRow.holds Try.pinned (OpenSpec.ofChange fnExactPageSectorWrong)

/-- 'laws.FnExactRestartBound': WHATEVER THE INPUT: true; the input reads as it did. -/
def fnExactRestartBoundSpec : ChangeSpec := { name := "fnExactRestartBound", fn := fun _ => fun
  | [d] => { results := [.lit (.bool true)], args := [d] }
  | _ => none }
def fnExactRestartBoundRow : OpenClaim := { program := "ytjkhmagnlaijhaa", sum := "3e5495a4265085377c2215fe3c7b120f8a2788c150ae09463708c57d8880650c", func := "loop.example/s02544/laws.FnExactRestartBound", spec := "fnExactRestartBound", apart := false }
def FnExactRestartBoundSaid : Prop := fnExactRestartBoundRow.holds Try.pinned (OpenSpec.ofChange fnExactRestartBoundSpec)

/-- ITS FALSE NEIGHBOUR: 'it returns false'. Refute it at one input. -/
def fnExactRestartBoundWrong : ChangeSpec := { name := "fnExactRestartBound", fn := fun _ => fun
  | [d] => { results := [.lit (.bool false)], args := [d] }
  | _ => none }
def FnExactRestartBoundWrongFalsely : Prop := fnExactRestartBoundRow.holds Try.pinned (OpenSpec.ofChange fnExactRestartBoundWrong)

/- THE SECOND FORM. 'bulk': how many values and letters a reading holds, each counted each time it is reached (what is shared counts as often as it is met; a slice's spare places count too). A statement '..UptoSaid' is the law's where the arguments, and the package variables that the reading takes, are together of bulk at most 1048576: NARROWER than '..Said'. Prove '..Said' where nothing that the law and all that it calls make is longer than what came in: it says more and counts as full. Else prove '..UptoSaid'. A law counts once. -/
mutual
def uptoBulk {H : Type} : DataW H → Nat
  | .lit (.string bytes) => bytes.length + 1
  | .lit _ => 1
  | .nil => 1
  | .ptr d => uptoBulk d + 1
  | .slice elems spare => uptoBulkAll elems + uptoBulkAll spare + 1
  | .agg parts => uptoBulkAll parts + 1
  | .iface _ d => uptoBulk d + 1
  | .map entries => uptoBulkEntries entries + 1
  | .held _ => 1
def uptoBulkAll {H : Type} : List (DataW H) → Nat
  | [] => 0
  | d :: r => uptoBulk d + uptoBulkAll r
def uptoBulkEntries {H : Type} : List (Lit × DataW H) → Nat
  | [] => 0
  | x :: r => uptoBulkEntry x + uptoBulkEntries r
def uptoBulkEntry {H : Type} : Lit × DataW H → Nat
  | (.string bytes, d) => bytes.length + uptoBulk d + 1
  | (_, d) => uptoBulk d + 1
 end
def uptoSmall : (H : Type) → List (DataW H) → Bool := fun _ ds => decide (uptoBulkAll ds ≤ 1048576)
def OpenSpec.upto (s : _root_.Go.ChangeSpec) : _root_.Go.OpenSpec := { _root_.Go.OpenSpec.ofChange s with cond := some uptoSmall }

/-- 'laws.FnExactConstants', WHERE WHAT IT READS IS OF BULK AT MOST 1048576: true; the input reads as it did. -/
def fnExactConstantsUptoRow : OpenClaim := { program := "ytjkhmagnlaijhaa", sum := "3e5495a4265085377c2215fe3c7b120f8a2788c150ae09463708c57d8880650c", func := "loop.example/s02544/laws.FnExactConstants", spec := "fnExactConstants", apart := false, narrowed := true }
def FnExactConstantsUptoSaid : Prop := fnExactConstantsUptoRow.holds Try.pinned (OpenSpec.upto fnExactConstantsSpec)

/-- 'laws.FnExactCheckpointSize', WHERE WHAT IT READS IS OF BULK AT MOST 1048576: true; the input reads as it did. -/
def fnExactCheckpointSizeUptoRow : OpenClaim := { program := "ytjkhmagnlaijhaa", sum := "3e5495a4265085377c2215fe3c7b120f8a2788c150ae09463708c57d8880650c", func := "loop.example/s02544/laws.FnExactCheckpointSize", spec := "fnExactCheckpointSize", apart := false, narrowed := true }
def FnExactCheckpointSizeUptoSaid : Prop := fnExactCheckpointSizeUptoRow.holds Try.pinned (OpenSpec.upto fnExactCheckpointSizeSpec)

/-- 'laws.FnExactLogPlace', WHERE WHAT IT READS IS OF BULK AT MOST 1048576: true; the input reads as it did. -/
def fnExactLogPlaceUptoRow : OpenClaim := { program := "ytjkhmagnlaijhaa", sum := "3e5495a4265085377c2215fe3c7b120f8a2788c150ae09463708c57d8880650c", func := "loop.example/s02544/laws.FnExactLogPlace", spec := "fnExactLogPlace", apart := false, narrowed := true }
def FnExactLogPlaceUptoSaid : Prop := fnExactLogPlaceUptoRow.holds Try.pinned (OpenSpec.upto fnExactLogPlaceSpec)

/-- 'laws.FnExactMinLog', WHERE WHAT IT READS IS OF BULK AT MOST 1048576: true; the input reads as it did. -/
def fnExactMinLogUptoRow : OpenClaim := { program := "ytjkhmagnlaijhaa", sum := "3e5495a4265085377c2215fe3c7b120f8a2788c150ae09463708c57d8880650c", func := "loop.example/s02544/laws.FnExactMinLog", spec := "fnExactMinLog", apart := false, narrowed := true }
def FnExactMinLogUptoSaid : Prop := fnExactMinLogUptoRow.holds Try.pinned (OpenSpec.upto fnExactMinLogSpec)

/-- 'laws.FnExactDiskRead', WHERE WHAT IT READS IS OF BULK AT MOST 1048576: true; the input reads as it did. -/
def fnExactDiskReadUptoRow : OpenClaim := { program := "ytjkhmagnlaijhaa", sum := "3e5495a4265085377c2215fe3c7b120f8a2788c150ae09463708c57d8880650c", func := "loop.example/s02544/laws.FnExactDiskRead", spec := "fnExactDiskRead", apart := false, narrowed := true }
def FnExactDiskReadUptoSaid : Prop := fnExactDiskReadUptoRow.holds Try.pinned (OpenSpec.upto fnExactDiskReadSpec)

/-- 'laws.FnExactMasterFault', WHERE WHAT IT READS IS OF BULK AT MOST 1048576: true; the input reads as it did. -/
def fnExactMasterFaultUptoRow : OpenClaim := { program := "ytjkhmagnlaijhaa", sum := "3e5495a4265085377c2215fe3c7b120f8a2788c150ae09463708c57d8880650c", func := "loop.example/s02544/laws.FnExactMasterFault", spec := "fnExactMasterFault", apart := false, narrowed := true }
def FnExactMasterFaultUptoSaid : Prop := fnExactMasterFaultUptoRow.holds Try.pinned (OpenSpec.upto fnExactMasterFaultSpec)

/-- 'laws.FnExactGetNumber', WHERE WHAT IT READS IS OF BULK AT MOST 1048576: true; the input reads as it did. -/
def fnExactGetNumberUptoRow : OpenClaim := { program := "ytjkhmagnlaijhaa", sum := "3e5495a4265085377c2215fe3c7b120f8a2788c150ae09463708c57d8880650c", func := "loop.example/s02544/laws.FnExactGetNumber", spec := "fnExactGetNumber", apart := false, narrowed := true }
def FnExactGetNumberUptoSaid : Prop := fnExactGetNumberUptoRow.holds Try.pinned (OpenSpec.upto fnExactGetNumberSpec)

/-- 'laws.FnExactGeometryFault', WHERE WHAT IT READS IS OF BULK AT MOST 1048576: true; the input reads as it did. -/
def fnExactGeometryFaultUptoRow : OpenClaim := { program := "ytjkhmagnlaijhaa", sum := "3e5495a4265085377c2215fe3c7b120f8a2788c150ae09463708c57d8880650c", func := "loop.example/s02544/laws.FnExactGeometryFault", spec := "fnExactGeometryFault", apart := false, narrowed := true }
def FnExactGeometryFaultUptoSaid : Prop := fnExactGeometryFaultUptoRow.holds Try.pinned (OpenSpec.upto fnExactGeometryFaultSpec)

/-- 'laws.FnExactLogFlushOps', WHERE WHAT IT READS IS OF BULK AT MOST 1048576: true; the input reads as it did. -/
def fnExactLogFlushOpsUptoRow : OpenClaim := { program := "ytjkhmagnlaijhaa", sum := "3e5495a4265085377c2215fe3c7b120f8a2788c150ae09463708c57d8880650c", func := "loop.example/s02544/laws.FnExactLogFlushOps", spec := "fnExactLogFlushOps", apart := false, narrowed := true }
def FnExactLogFlushOpsUptoSaid : Prop := fnExactLogFlushOpsUptoRow.holds Try.pinned (OpenSpec.upto fnExactLogFlushOpsSpec)

/-- 'laws.FnExactDiskSectors', WHERE WHAT IT READS IS OF BULK AT MOST 1048576: true; the input reads as it did. -/
def fnExactDiskSectorsUptoRow : OpenClaim := { program := "ytjkhmagnlaijhaa", sum := "3e5495a4265085377c2215fe3c7b120f8a2788c150ae09463708c57d8880650c", func := "loop.example/s02544/laws.FnExactDiskSectors", spec := "fnExactDiskSectors", apart := false, narrowed := true }
def FnExactDiskSectorsUptoSaid : Prop := fnExactDiskSectorsUptoRow.holds Try.pinned (OpenSpec.upto fnExactDiskSectorsSpec)

/-- 'laws.FnExactPageSector', WHERE WHAT IT READS IS OF BULK AT MOST 1048576: true; the input reads as it did. -/
def fnExactPageSectorUptoRow : OpenClaim := { program := "ytjkhmagnlaijhaa", sum := "3e5495a4265085377c2215fe3c7b120f8a2788c150ae09463708c57d8880650c", func := "loop.example/s02544/laws.FnExactPageSector", spec := "fnExactPageSector", apart := false, narrowed := true }
def FnExactPageSectorUptoSaid : Prop := fnExactPageSectorUptoRow.holds Try.pinned (OpenSpec.upto fnExactPageSectorSpec)

/-- 'laws.FnExactRestartBound', WHERE WHAT IT READS IS OF BULK AT MOST 1048576: true; the input reads as it did. -/
def fnExactRestartBoundUptoRow : OpenClaim := { program := "ytjkhmagnlaijhaa", sum := "3e5495a4265085377c2215fe3c7b120f8a2788c150ae09463708c57d8880650c", func := "loop.example/s02544/laws.FnExactRestartBound", spec := "fnExactRestartBound", apart := false, narrowed := true }
def FnExactRestartBoundUptoSaid : Prop := fnExactRestartBoundUptoRow.holds Try.pinned (OpenSpec.upto fnExactRestartBoundSpec)

end Rows
end Go.Proofs.Ytjkhmagnlaijhaa
