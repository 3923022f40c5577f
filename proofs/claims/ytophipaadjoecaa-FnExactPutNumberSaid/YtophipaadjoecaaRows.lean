/-
  No cell of these rows narrows 'for every input' (looked for: loops, veiled, ifaces, maps, wideKeys, modest, calm, conditions, laid).
  DERIVED. THE GIVEN ROWS OF THIS SEAT. 10 by the template 'for every input the law returns true; each argument reads behind the call as it read before'; 0 by the template 'total and deterministic' (their statements: YtophipaadjoecaaTotals.lean).
  GIVEN WITH THE SEED: the statements are not yours to turn. If you find one false, say at which input.
  Laid BY PROGRAM, IN A SANDBOX (cutbox-rows.mjs): the forced cells as the released guide's own fill.sh prints them over the translation 33962d35d4717ad8… (all of the seat's roots in one cut). By AI agents, Wed Nov 11 2026. No macro, syntax, notation, axiom, sorry.
-/
import Derived.Test.YtophipaadjoecaaChecked
import GoSem.Claim
import GoSem.ClaimJoined
import GoSem.ClaimMapViews
import Derived.JoinedTies
import Derived.KernelRfl
namespace Go.Proofs.Ytophipaadjoecaa
/- THE CELL 'sum', in the pinned program and in every row, IS THE sha256 OF THE DUMP (.gsa) THAT YtophipaadjoecaaProg.lean LOADS. Nothing in Lean hashes anything: it is a label: what it is worth is what the hold of that sum in a sandbox is worth. -/
noncomputable def Try.pinned : Pinned := { name := "ytophipaadjoecaa", sum := "33962d35d4717ad898f388c85864e00d2467503225ede123ddd57d41ab217e66", checked := Try.checked }
namespace Rows
def none {H : Type} : Left H := { results := [], args := [] }

/-- 'laws.FnExactPutNumber': WHATEVER THE INPUT: true; the input reads as it did. -/
def fnExactPutNumberSpec : ChangeSpec := { name := "fnExactPutNumber", fn := fun _ => fun
  | [d1, d2] => { results := [.lit (.bool true)], args := [d1, d2] }
  | _ => none }
def fnExactPutNumberRow : OpenClaim := { program := "ytophipaadjoecaa", sum := "33962d35d4717ad898f388c85864e00d2467503225ede123ddd57d41ab217e66", func := "loop.example/s02544/laws.FnExactPutNumber", spec := "fnExactPutNumber", named := ["encoding/binary.BigEndian"], apart := false }
def FnExactPutNumberSaid : Prop := fnExactPutNumberRow.holds Try.pinned (OpenSpec.ofChange fnExactPutNumberSpec)

/-- ITS FALSE NEIGHBOUR: 'it returns false'. Refute it at one input. -/
def fnExactPutNumberWrong : ChangeSpec := { name := "fnExactPutNumber", fn := fun _ => fun
  | [d1, d2] => { results := [.lit (.bool false)], args := [d1, d2] }
  | _ => none }
def FnExactPutNumberWrongFalsely : Prop := fnExactPutNumberRow.holds Try.pinned (OpenSpec.ofChange fnExactPutNumberWrong)

/-- 'laws.FnExactEncodeHex': WHATEVER THE INPUT: true; the input reads as it did. -/
def fnExactEncodeHexSpec : ChangeSpec := { name := "fnExactEncodeHex", fn := fun _ => fun
  | [d] => { results := [.lit (.bool true)], args := [d] }
  | _ => none }
def fnExactEncodeHexRow : OpenClaim := { program := "ytophipaadjoecaa", sum := "33962d35d4717ad898f388c85864e00d2467503225ede123ddd57d41ab217e66", func := "loop.example/s02544/laws.FnExactEncodeHex", spec := "fnExactEncodeHex", inPlace := ["internal/abi.NoEscape"], apart := false }
def FnExactEncodeHexSaid : Prop := fnExactEncodeHexRow.holds Try.pinned (OpenSpec.ofChange fnExactEncodeHexSpec)

/-- ITS FALSE NEIGHBOUR: 'it returns false'. Refute it at one input. -/
def fnExactEncodeHexWrong : ChangeSpec := { name := "fnExactEncodeHex", fn := fun _ => fun
  | [d] => { results := [.lit (.bool false)], args := [d] }
  | _ => none }
def FnExactEncodeHexWrongFalsely : Prop := fnExactEncodeHexRow.holds Try.pinned (OpenSpec.ofChange fnExactEncodeHexWrong)

/-- 'laws.FnExactLogFree': WHATEVER THE INPUT: true; the input reads as it did. -/
def fnExactLogFreeSpec : ChangeSpec := { name := "fnExactLogFree", fn := fun _ => fun
  | [d1, d2, d3, d4, d5] => { results := [.lit (.bool true)], args := [d1, d2, d3, d4, d5] }
  | _ => none }
def fnExactLogFreeRow : OpenClaim := { program := "ytophipaadjoecaa", sum := "33962d35d4717ad898f388c85864e00d2467503225ede123ddd57d41ab217e66", func := "loop.example/s02544/laws.FnExactLogFree", spec := "fnExactLogFree", apart := false }
def FnExactLogFreeSaid : Prop := fnExactLogFreeRow.holds Try.pinned (OpenSpec.ofChange fnExactLogFreeSpec)

/-- ITS FALSE NEIGHBOUR: 'it returns false'. Refute it at one input. -/
def fnExactLogFreeWrong : ChangeSpec := { name := "fnExactLogFree", fn := fun _ => fun
  | [d1, d2, d3, d4, d5] => { results := [.lit (.bool false)], args := [d1, d2, d3, d4, d5] }
  | _ => none }
def FnExactLogFreeWrongFalsely : Prop := fnExactLogFreeRow.holds Try.pinned (OpenSpec.ofChange fnExactLogFreeWrong)

/-- 'laws.FnExactHoldsFault': WHATEVER THE INPUT: true; the input reads as it did. -/
def fnExactHoldsFaultSpec : ChangeSpec := { name := "fnExactHoldsFault", fn := fun _ => fun
  | [d] => { results := [.lit (.bool true)], args := [d] }
  | _ => none }
def fnExactHoldsFaultRow : OpenClaim := { program := "ytophipaadjoecaa", sum := "33962d35d4717ad898f388c85864e00d2467503225ede123ddd57d41ab217e66", func := "loop.example/s02544/laws.FnExactHoldsFault", spec := "fnExactHoldsFault", apart := false }
def FnExactHoldsFaultSaid : Prop := fnExactHoldsFaultRow.holds Try.pinned (OpenSpec.ofChange fnExactHoldsFaultSpec)

/-- ITS FALSE NEIGHBOUR: 'it returns false'. Refute it at one input. -/
def fnExactHoldsFaultWrong : ChangeSpec := { name := "fnExactHoldsFault", fn := fun _ => fun
  | [d] => { results := [.lit (.bool false)], args := [d] }
  | _ => none }
def FnExactHoldsFaultWrongFalsely : Prop := fnExactHoldsFaultRow.holds Try.pinned (OpenSpec.ofChange fnExactHoldsFaultWrong)

/-- 'laws.FnExactLogFault': WHATEVER THE INPUT: true; the input reads as it did. -/
def fnExactLogFaultSpec : ChangeSpec := { name := "fnExactLogFault", fn := fun _ => fun
  | [d] => { results := [.lit (.bool true)], args := [d] }
  | _ => none }
def fnExactLogFaultRow : OpenClaim := { program := "ytophipaadjoecaa", sum := "33962d35d4717ad898f388c85864e00d2467503225ede123ddd57d41ab217e66", func := "loop.example/s02544/laws.FnExactLogFault", spec := "fnExactLogFault", apart := false }
def FnExactLogFaultSaid : Prop := fnExactLogFaultRow.holds Try.pinned (OpenSpec.ofChange fnExactLogFaultSpec)

/-- ITS FALSE NEIGHBOUR: 'it returns false'. Refute it at one input. -/
def fnExactLogFaultWrong : ChangeSpec := { name := "fnExactLogFault", fn := fun _ => fun
  | [d] => { results := [.lit (.bool false)], args := [d] }
  | _ => none }
def FnExactLogFaultWrongFalsely : Prop := fnExactLogFaultRow.holds Try.pinned (OpenSpec.ofChange fnExactLogFaultWrong)

/-- 'laws.FnExactLocksFault': WHATEVER THE INPUT: true; the input reads as it did. -/
def fnExactLocksFaultSpec : ChangeSpec := { name := "fnExactLocksFault", fn := fun _ => fun
  | [d] => { results := [.lit (.bool true)], args := [d] }
  | _ => none }
def fnExactLocksFaultRow : OpenClaim := { program := "ytophipaadjoecaa", sum := "33962d35d4717ad898f388c85864e00d2467503225ede123ddd57d41ab217e66", func := "loop.example/s02544/laws.FnExactLocksFault", spec := "fnExactLocksFault", apart := false }
def FnExactLocksFaultSaid : Prop := fnExactLocksFaultRow.holds Try.pinned (OpenSpec.ofChange fnExactLocksFaultSpec)

/-- ITS FALSE NEIGHBOUR: 'it returns false'. Refute it at one input. -/
def fnExactLocksFaultWrong : ChangeSpec := { name := "fnExactLocksFault", fn := fun _ => fun
  | [d] => { results := [.lit (.bool false)], args := [d] }
  | _ => none }
def FnExactLocksFaultWrongFalsely : Prop := fnExactLocksFaultRow.holds Try.pinned (OpenSpec.ofChange fnExactLocksFaultWrong)

/-- 'laws.FnExactDecodeHex': WHATEVER THE INPUT: true; the input reads as it did. -/
def fnExactDecodeHexSpec : ChangeSpec := { name := "fnExactDecodeHex", fn := fun _ => fun
  | [d] => { results := [.lit (.bool true)], args := [d] }
  | _ => none }
def fnExactDecodeHexRow : OpenClaim := { program := "ytophipaadjoecaa", sum := "33962d35d4717ad898f388c85864e00d2467503225ede123ddd57d41ab217e66", func := "loop.example/s02544/laws.FnExactDecodeHex", spec := "fnExactDecodeHex", inPlace := ["internal/bytealg.IndexByteString"], apart := false }
def FnExactDecodeHexSaid : Prop := fnExactDecodeHexRow.holds Try.pinned (OpenSpec.ofChange fnExactDecodeHexSpec)

/-- ITS FALSE NEIGHBOUR: 'it returns false'. Refute it at one input. -/
def fnExactDecodeHexWrong : ChangeSpec := { name := "fnExactDecodeHex", fn := fun _ => fun
  | [d] => { results := [.lit (.bool false)], args := [d] }
  | _ => none }
def FnExactDecodeHexWrongFalsely : Prop := fnExactDecodeHexRow.holds Try.pinned (OpenSpec.ofChange fnExactDecodeHexWrong)

/-- 'laws.FnExactNewDisk': WHATEVER THE INPUT: true; the input reads as it did. -/
def fnExactNewDiskSpec : ChangeSpec := { name := "fnExactNewDisk", fn := fun _ => fun
  | [d] => { results := [.lit (.bool true)], args := [d] }
  | _ => none }
def fnExactNewDiskRow : OpenClaim := { program := "ytophipaadjoecaa", sum := "33962d35d4717ad898f388c85864e00d2467503225ede123ddd57d41ab217e66", func := "loop.example/s02544/laws.FnExactNewDisk", spec := "fnExactNewDisk", apart := false }
def FnExactNewDiskSaid : Prop := fnExactNewDiskRow.holds Try.pinned (OpenSpec.ofChange fnExactNewDiskSpec)

/-- ITS FALSE NEIGHBOUR: 'it returns false'. Refute it at one input. -/
def fnExactNewDiskWrong : ChangeSpec := { name := "fnExactNewDisk", fn := fun _ => fun
  | [d] => { results := [.lit (.bool false)], args := [d] }
  | _ => none }
def FnExactNewDiskWrongFalsely : Prop := fnExactNewDiskRow.holds Try.pinned (OpenSpec.ofChange fnExactNewDiskWrong)

/-- 'laws.FnExactLockMode': WHATEVER THE INPUT: true; the input reads as it did. -/
def fnExactLockModeSpec : ChangeSpec := { name := "fnExactLockMode", fn := fun _ => fun
  | [d1, d2, d3] => { results := [.lit (.bool true)], args := [d1, d2, d3] }
  | _ => none }
def fnExactLockModeRow : OpenClaim := { program := "ytophipaadjoecaa", sum := "33962d35d4717ad898f388c85864e00d2467503225ede123ddd57d41ab217e66", func := "loop.example/s02544/laws.FnExactLockMode", spec := "fnExactLockMode", apart := false }
def FnExactLockModeSaid : Prop := fnExactLockModeRow.holds Try.pinned (OpenSpec.ofChange fnExactLockModeSpec)

/-- ITS FALSE NEIGHBOUR: 'it returns false'. Refute it at one input. -/
def fnExactLockModeWrong : ChangeSpec := { name := "fnExactLockMode", fn := fun _ => fun
  | [d1, d2, d3] => { results := [.lit (.bool false)], args := [d1, d2, d3] }
  | _ => none }
def FnExactLockModeWrongFalsely : Prop := fnExactLockModeRow.holds Try.pinned (OpenSpec.ofChange fnExactLockModeWrong)

/-- 'laws.FnExactLockOthers': WHATEVER THE INPUT: true; the input reads as it did. -/
def fnExactLockOthersSpec : ChangeSpec := { name := "fnExactLockOthers", fn := fun _ => fun
  | [d1, d2, d3] => { results := [.lit (.bool true)], args := [d1, d2, d3] }
  | _ => none }
def fnExactLockOthersRow : OpenClaim := { program := "ytophipaadjoecaa", sum := "33962d35d4717ad898f388c85864e00d2467503225ede123ddd57d41ab217e66", func := "loop.example/s02544/laws.FnExactLockOthers", spec := "fnExactLockOthers", apart := false }
def FnExactLockOthersSaid : Prop := fnExactLockOthersRow.holds Try.pinned (OpenSpec.ofChange fnExactLockOthersSpec)

/-- ITS FALSE NEIGHBOUR: 'it returns false'. Refute it at one input. -/
def fnExactLockOthersWrong : ChangeSpec := { name := "fnExactLockOthers", fn := fun _ => fun
  | [d1, d2, d3] => { results := [.lit (.bool false)], args := [d1, d2, d3] }
  | _ => none }
def FnExactLockOthersWrongFalsely : Prop := fnExactLockOthersRow.holds Try.pinned (OpenSpec.ofChange fnExactLockOthersWrong)

/- THE SECOND FORM. 'bulk': how many values and letters a reading holds, each counted each time it is reached (what is shared counts as often as it is met; a slice's spare places count too). A statement '..UptoSaid' is the law's where the arguments, and the package variables that the reading takes, are together of bulk at most 1048576: NARROWER than '..Said'. Prove '..Said' where nothing that the law and all that it calls make is longer than what came in: it says more and counts as full. Else prove '..UptoSaid'. A law counts once. -/
mutual
def uptoBulk {H : Type} : DataW H → Nat
  | .lit (.string bytes) => bytes.length + 1
  | .lit _ => 1
  | .nil => 1
  | .ptr d => uptoBulk d + 1
  | .slice elems spare => uptoBulkAll elems + uptoBulkAll spare + 1
  | .agg parts => uptoBulkAll parts + 1
  | .iface _ d => uptoBulk d + 1
  | .map entries => uptoBulkEntries entries + 1
  | .held _ => 1
def uptoBulkAll {H : Type} : List (DataW H) → Nat
  | [] => 0
  | d :: r => uptoBulk d + uptoBulkAll r
def uptoBulkEntries {H : Type} : List (Lit × DataW H) → Nat
  | [] => 0
  | x :: r => uptoBulkEntry x + uptoBulkEntries r
def uptoBulkEntry {H : Type} : Lit × DataW H → Nat
  | (.string bytes, d) => bytes.length + uptoBulk d + 1
  | (_, d) => uptoBulk d + 1
 end
def uptoSmall : (H : Type) → List (DataW H) → Bool := fun _ ds => decide (uptoBulkAll ds ≤ 1048576)
def OpenSpec.upto (s : _root_.Go.ChangeSpec) : _root_.Go.OpenSpec := { _root_.Go.OpenSpec.ofChange s with cond := some uptoSmall }

/-- 'laws.FnExactPutNumber', WHERE WHAT IT READS IS OF BULK AT MOST 1048576: true; the input reads as it did. -/
def fnExactPutNumberUptoRow : OpenClaim := { program := "ytophipaadjoecaa", sum := "33962d35d4717ad898f388c85864e00d2467503225ede123ddd57d41ab217e66", func := "loop.example/s02544/laws.FnExactPutNumber", spec := "fnExactPutNumber", named := ["encoding/binary.BigEndian"], apart := false, narrowed := true }
def FnExactPutNumberUptoSaid : Prop := fnExactPutNumberUptoRow.holds Try.pinned (OpenSpec.upto fnExactPutNumberSpec)

/-- 'laws.FnExactEncodeHex', WHERE WHAT IT READS IS OF BULK AT MOST 1048576: true; the input reads as it did. -/
def fnExactEncodeHexUptoRow : OpenClaim := { program := "ytophipaadjoecaa", sum := "33962d35d4717ad898f388c85864e00d2467503225ede123ddd57d41ab217e66", func := "loop.example/s02544/laws.FnExactEncodeHex", spec := "fnExactEncodeHex", inPlace := ["internal/abi.NoEscape"], apart := false, narrowed := true }
def FnExactEncodeHexUptoSaid : Prop := fnExactEncodeHexUptoRow.holds Try.pinned (OpenSpec.upto fnExactEncodeHexSpec)

/-- 'laws.FnExactLogFree', WHERE WHAT IT READS IS OF BULK AT MOST 1048576: true; the input reads as it did. -/
def fnExactLogFreeUptoRow : OpenClaim := { program := "ytophipaadjoecaa", sum := "33962d35d4717ad898f388c85864e00d2467503225ede123ddd57d41ab217e66", func := "loop.example/s02544/laws.FnExactLogFree", spec := "fnExactLogFree", apart := false, narrowed := true }
def FnExactLogFreeUptoSaid : Prop := fnExactLogFreeUptoRow.holds Try.pinned (OpenSpec.upto fnExactLogFreeSpec)

/-- 'laws.FnExactHoldsFault', WHERE WHAT IT READS IS OF BULK AT MOST 1048576: true; the input reads as it did. -/
def fnExactHoldsFaultUptoRow : OpenClaim := { program := "ytophipaadjoecaa", sum := "33962d35d4717ad898f388c85864e00d2467503225ede123ddd57d41ab217e66", func := "loop.example/s02544/laws.FnExactHoldsFault", spec := "fnExactHoldsFault", apart := false, narrowed := true }
def FnExactHoldsFaultUptoSaid : Prop := fnExactHoldsFaultUptoRow.holds Try.pinned (OpenSpec.upto fnExactHoldsFaultSpec)

/-- 'laws.FnExactLogFault', WHERE WHAT IT READS IS OF BULK AT MOST 1048576: true; the input reads as it did. -/
def fnExactLogFaultUptoRow : OpenClaim := { program := "ytophipaadjoecaa", sum := "33962d35d4717ad898f388c85864e00d2467503225ede123ddd57d41ab217e66", func := "loop.example/s02544/laws.FnExactLogFault", spec := "fnExactLogFault", apart := false, narrowed := true }
def FnExactLogFaultUptoSaid : Prop := fnExactLogFaultUptoRow.holds Try.pinned (OpenSpec.upto fnExactLogFaultSpec)

/-- 'laws.FnExactLocksFault', WHERE WHAT IT READS IS OF BULK AT MOST 1048576: true; the input reads as it did. -/
def fnExactLocksFaultUptoRow : OpenClaim := { program := "ytophipaadjoecaa", sum := "33962d35d4717ad898f388c85864e00d2467503225ede123ddd57d41ab217e66", func := "loop.example/s02544/laws.FnExactLocksFault", spec := "fnExactLocksFault", apart := false, narrowed := true }
def FnExactLocksFaultUptoSaid : Prop := fnExactLocksFaultUptoRow.holds Try.pinned (OpenSpec.upto fnExactLocksFaultSpec)

/-- 'laws.FnExactDecodeHex', WHERE WHAT IT READS IS OF BULK AT MOST 1048576: true; the input reads as it did. -/
def fnExactDecodeHexUptoRow : OpenClaim := { program := "ytophipaadjoecaa", sum := "33962d35d4717ad898f388c85864e00d2467503225ede123ddd57d41ab217e66", func := "loop.example/s02544/laws.FnExactDecodeHex", spec := "fnExactDecodeHex", inPlace := ["internal/bytealg.IndexByteString"], apart := false, narrowed := true }
def FnExactDecodeHexUptoSaid : Prop := fnExactDecodeHexUptoRow.holds Try.pinned (OpenSpec.upto fnExactDecodeHexSpec)

/-- 'laws.FnExactNewDisk', WHERE WHAT IT READS IS OF BULK AT MOST 1048576: true; the input reads as it did. -/
def fnExactNewDiskUptoRow : OpenClaim := { program := "ytophipaadjoecaa", sum := "33962d35d4717ad898f388c85864e00d2467503225ede123ddd57d41ab217e66", func := "loop.example/s02544/laws.FnExactNewDisk", spec := "fnExactNewDisk", apart := false, narrowed := true }
def FnExactNewDiskUptoSaid : Prop := fnExactNewDiskUptoRow.holds Try.pinned (OpenSpec.upto fnExactNewDiskSpec)

/-- 'laws.FnExactLockMode', WHERE WHAT IT READS IS OF BULK AT MOST 1048576: true; the input reads as it did. -/
def fnExactLockModeUptoRow : OpenClaim := { program := "ytophipaadjoecaa", sum := "33962d35d4717ad898f388c85864e00d2467503225ede123ddd57d41ab217e66", func := "loop.example/s02544/laws.FnExactLockMode", spec := "fnExactLockMode", apart := false, narrowed := true }
def FnExactLockModeUptoSaid : Prop := fnExactLockModeUptoRow.holds Try.pinned (OpenSpec.upto fnExactLockModeSpec)

/-- 'laws.FnExactLockOthers', WHERE WHAT IT READS IS OF BULK AT MOST 1048576: true; the input reads as it did. -/
def fnExactLockOthersUptoRow : OpenClaim := { program := "ytophipaadjoecaa", sum := "33962d35d4717ad898f388c85864e00d2467503225ede123ddd57d41ab217e66", func := "loop.example/s02544/laws.FnExactLockOthers", spec := "fnExactLockOthers", apart := false, narrowed := true }
def FnExactLockOthersUptoSaid : Prop := fnExactLockOthersUptoRow.holds Try.pinned (OpenSpec.upto fnExactLockOthersSpec)

end Rows
end Go.Proofs.Ytophipaadjoecaa
