/-
  No cell of these rows narrows 'for every input' (looked for: loops, veiled, ifaces, maps, wideKeys, modest, calm, conditions, laid).
  DERIVED. THE GIVEN ROWS OF THIS SEAT. 12 by the template 'for every input the law returns true; each argument reads behind the call as it read before'; 0 by the template 'total and deterministic' (their statements: YtipgldfbjlhpoabTotals.lean).
  GIVEN WITH THE SEED: the statements are not yours to turn. If you find one false, say at which input.
  Laid BY PROGRAM, IN A SANDBOX (cutbox-rows.mjs): the forced cells as the released guide's own fill.sh prints them over the translation 6ff91a004c8f55e2… (all of the seat's roots in one cut). By AI agents, Wed Nov 11 2026. No macro, syntax, notation, axiom, sorry.
-/
import Derived.Test.YtipgldfbjlhpoabChecked
import GoSem.Claim
import GoSem.ClaimJoined
import GoSem.ClaimMapViews
import Derived.JoinedTies
import Derived.KernelRfl
namespace Go.Proofs.Ytipgldfbjlhpoab
/- THE CELL 'sum', in the pinned program and in every row, IS THE sha256 OF THE DUMP (.gsa) THAT YtipgldfbjlhpoabProg.lean LOADS. Nothing in Lean hashes anything: it is a label: what it is worth is what the hold of that sum in a sandbox is worth. -/
noncomputable def Try.pinned : Pinned := { name := "ytipgldfbjlhpoab", sum := "6ff91a004c8f55e2aeaa583d0de4d2168a0a2c87f7a83dede1a10b4646dd60cd", checked := Try.checked }
namespace Rows
def none {H : Type} : Left H := { results := [], args := [] }

/-- 'footbridgelaw13.HeaderBytes': WHATEVER THE INPUT: true; the input reads as it did. -/
def headerBytesSpec : ChangeSpec := { name := "headerBytes", fn := fun _ => fun
  | [d1, d2] => { results := [.lit (.bool true)], args := [d1, d2] }
  | _ => none }
def headerBytesRow : OpenClaim := { program := "ytipgldfbjlhpoab", sum := "6ff91a004c8f55e2aeaa583d0de4d2168a0a2c87f7a83dede1a10b4646dd60cd", func := "footbridge/footbridgelaw13.HeaderBytes", spec := "headerBytes", unfollowed := true, recurses := true, apart := false }
def HeaderBytesSaid : Prop := headerBytesRow.holds Try.pinned (OpenSpec.ofChange headerBytesSpec)

/-- ITS FALSE NEIGHBOUR: 'it returns false'. Refute it at one input. -/
def headerBytesWrong : ChangeSpec := { name := "headerBytes", fn := fun _ => fun
  | [d1, d2] => { results := [.lit (.bool false)], args := [d1, d2] }
  | _ => none }
def HeaderBytesWrongFalsely : Prop := headerBytesRow.holds Try.pinned (OpenSpec.ofChange headerBytesWrong)

/-- 'footbridgelaw13.HeaderSigns': WHATEVER THE INPUT: true; the input reads as it did. -/
def headerSignsSpec : ChangeSpec := { name := "headerSigns", fn := fun _ => fun
  | [d1, d2] => { results := [.lit (.bool true)], args := [d1, d2] }
  | _ => none }
def headerSignsRow : OpenClaim := { program := "ytipgldfbjlhpoab", sum := "6ff91a004c8f55e2aeaa583d0de4d2168a0a2c87f7a83dede1a10b4646dd60cd", func := "footbridge/footbridgelaw13.HeaderSigns", spec := "headerSigns", unfollowed := true, recurses := true, apart := false }
def HeaderSignsSaid : Prop := headerSignsRow.holds Try.pinned (OpenSpec.ofChange headerSignsSpec)

/-- ITS FALSE NEIGHBOUR: 'it returns false'. Refute it at one input. -/
def headerSignsWrong : ChangeSpec := { name := "headerSigns", fn := fun _ => fun
  | [d1, d2] => { results := [.lit (.bool false)], args := [d1, d2] }
  | _ => none }
def HeaderSignsWrongFalsely : Prop := headerSignsRow.holds Try.pinned (OpenSpec.ofChange headerSignsWrong)

/-- 'footbridgelaw13.HeaderBack': WHATEVER THE INPUT: true; the input reads as it did. -/
def headerBackSpec : ChangeSpec := { name := "headerBack", fn := fun _ => fun
  | [d1, d2] => { results := [.lit (.bool true)], args := [d1, d2] }
  | _ => none }
def headerBackRow : OpenClaim := { program := "ytipgldfbjlhpoab", sum := "6ff91a004c8f55e2aeaa583d0de4d2168a0a2c87f7a83dede1a10b4646dd60cd", func := "footbridge/footbridgelaw13.HeaderBack", spec := "headerBack", unfollowed := true, recurses := true, apart := false }
def HeaderBackSaid : Prop := headerBackRow.holds Try.pinned (OpenSpec.ofChange headerBackSpec)

/-- ITS FALSE NEIGHBOUR: 'it returns false'. Refute it at one input. -/
def headerBackWrong : ChangeSpec := { name := "headerBack", fn := fun _ => fun
  | [d1, d2] => { results := [.lit (.bool false)], args := [d1, d2] }
  | _ => none }
def HeaderBackWrongFalsely : Prop := headerBackRow.holds Try.pinned (OpenSpec.ofChange headerBackWrong)

/-- 'footbridgelaw51.DiffOf': WHATEVER THE INPUT: true; the input reads as it did. -/
def diffOfSpec : ChangeSpec := { name := "diffOf", fn := fun _ => fun
  | [d1, d2, d3] => { results := [.lit (.bool true)], args := [d1, d2, d3] }
  | _ => none }
def diffOfRow : OpenClaim := { program := "ytipgldfbjlhpoab", sum := "6ff91a004c8f55e2aeaa583d0de4d2168a0a2c87f7a83dede1a10b4646dd60cd", func := "footbridge/footbridgelaw51.DiffOf", spec := "diffOf", inPlace := ["internal/abi.NoEscape"], unfollowed := true, recurses := true, apart := false }
def DiffOfSaid : Prop := diffOfRow.holds Try.pinned (OpenSpec.ofChange diffOfSpec)

/-- ITS FALSE NEIGHBOUR: 'it returns false'. Refute it at one input. -/
def diffOfWrong : ChangeSpec := { name := "diffOf", fn := fun _ => fun
  | [d1, d2, d3] => { results := [.lit (.bool false)], args := [d1, d2, d3] }
  | _ => none }
def DiffOfWrongFalsely : Prop := diffOfRow.holds Try.pinned (OpenSpec.ofChange diffOfWrong)

/-- 'footbridgelaw51.DiffBytes': WHATEVER THE INPUT: true; the input reads as it did. -/
def diffBytesSpec : ChangeSpec := { name := "diffBytes", fn := fun _ => fun
  | [d1, d2] => { results := [.lit (.bool true)], args := [d1, d2] }
  | _ => none }
def diffBytesRow : OpenClaim := { program := "ytipgldfbjlhpoab", sum := "6ff91a004c8f55e2aeaa583d0de4d2168a0a2c87f7a83dede1a10b4646dd60cd", func := "footbridge/footbridgelaw51.DiffBytes", spec := "diffBytes", inPlace := ["internal/abi.NoEscape"], unfollowed := true, recurses := true, apart := false }
def DiffBytesSaid : Prop := diffBytesRow.holds Try.pinned (OpenSpec.ofChange diffBytesSpec)

/-- ITS FALSE NEIGHBOUR: 'it returns false'. Refute it at one input. -/
def diffBytesWrong : ChangeSpec := { name := "diffBytes", fn := fun _ => fun
  | [d1, d2] => { results := [.lit (.bool false)], args := [d1, d2] }
  | _ => none }
def DiffBytesWrongFalsely : Prop := diffBytesRow.holds Try.pinned (OpenSpec.ofChange diffBytesWrong)

/-- 'footbridgelaw51.DiffBack': WHATEVER THE INPUT: true; the input reads as it did. -/
def diffBackSpec : ChangeSpec := { name := "diffBack", fn := fun _ => fun
  | [d1, d2] => { results := [.lit (.bool true)], args := [d1, d2] }
  | _ => none }
def diffBackRow : OpenClaim := { program := "ytipgldfbjlhpoab", sum := "6ff91a004c8f55e2aeaa583d0de4d2168a0a2c87f7a83dede1a10b4646dd60cd", func := "footbridge/footbridgelaw51.DiffBack", spec := "diffBack", inPlace := ["internal/abi.NoEscape"], unfollowed := true, recurses := true, apart := false }
def DiffBackSaid : Prop := diffBackRow.holds Try.pinned (OpenSpec.ofChange diffBackSpec)

/-- ITS FALSE NEIGHBOUR: 'it returns false'. Refute it at one input. -/
def diffBackWrong : ChangeSpec := { name := "diffBack", fn := fun _ => fun
  | [d1, d2] => { results := [.lit (.bool false)], args := [d1, d2] }
  | _ => none }
def DiffBackWrongFalsely : Prop := diffBackRow.holds Try.pinned (OpenSpec.ofChange diffBackWrong)

/-- 'footbridgelaw37.MsgBytes': WHATEVER THE INPUT: true; the input reads as it did. -/
def msgBytesSpec : ChangeSpec := { name := "msgBytes", fn := fun _ => fun
  | [d1, d2] => { results := [.lit (.bool true)], args := [d1, d2] }
  | _ => none }
def msgBytesRow : OpenClaim := { program := "ytipgldfbjlhpoab", sum := "6ff91a004c8f55e2aeaa583d0de4d2168a0a2c87f7a83dede1a10b4646dd60cd", func := "footbridge/footbridgelaw37.MsgBytes", spec := "msgBytes", unfollowed := true, recurses := true, apart := false }
def MsgBytesSaid : Prop := msgBytesRow.holds Try.pinned (OpenSpec.ofChange msgBytesSpec)

/-- ITS FALSE NEIGHBOUR: 'it returns false'. Refute it at one input. -/
def msgBytesWrong : ChangeSpec := { name := "msgBytes", fn := fun _ => fun
  | [d1, d2] => { results := [.lit (.bool false)], args := [d1, d2] }
  | _ => none }
def MsgBytesWrongFalsely : Prop := msgBytesRow.holds Try.pinned (OpenSpec.ofChange msgBytesWrong)

/-- 'footbridgelaw37.MsgBack': WHATEVER THE INPUT: true; the input reads as it did. -/
def msgBackSpec : ChangeSpec := { name := "msgBack", fn := fun _ => fun
  | [d1, d2] => { results := [.lit (.bool true)], args := [d1, d2] }
  | _ => none }
def msgBackRow : OpenClaim := { program := "ytipgldfbjlhpoab", sum := "6ff91a004c8f55e2aeaa583d0de4d2168a0a2c87f7a83dede1a10b4646dd60cd", func := "footbridge/footbridgelaw37.MsgBack", spec := "msgBack", unfollowed := true, recurses := true, apart := false }
def MsgBackSaid : Prop := msgBackRow.holds Try.pinned (OpenSpec.ofChange msgBackSpec)

/-- ITS FALSE NEIGHBOUR: 'it returns false'. Refute it at one input. -/
def msgBackWrong : ChangeSpec := { name := "msgBack", fn := fun _ => fun
  | [d1, d2] => { results := [.lit (.bool false)], args := [d1, d2] }
  | _ => none }
def MsgBackWrongFalsely : Prop := msgBackRow.holds Try.pinned (OpenSpec.ofChange msgBackWrong)

/-- 'footbridgelaw12.ProofBuilds': WHATEVER THE INPUT: true; the input reads as it did. -/
def proofBuildsSpec : ChangeSpec := { name := "proofBuilds", fn := fun _ => fun
  | [d1, d2] => { results := [.lit (.bool true)], args := [d1, d2] }
  | _ => none }
def proofBuildsRow : OpenClaim := { program := "ytipgldfbjlhpoab", sum := "6ff91a004c8f55e2aeaa583d0de4d2168a0a2c87f7a83dede1a10b4646dd60cd", func := "footbridge/footbridgelaw12.ProofBuilds", spec := "proofBuilds", inPlace := ["internal/bytealg.abigen_runtime_cmpstring", "internal/abi.NoEscape"], unfollowed := true, recurses := true, apart := false }
def ProofBuildsSaid : Prop := proofBuildsRow.holds Try.pinned (OpenSpec.ofChange proofBuildsSpec)

/-- ITS FALSE NEIGHBOUR: 'it returns false'. Refute it at one input. -/
def proofBuildsWrong : ChangeSpec := { name := "proofBuilds", fn := fun _ => fun
  | [d1, d2] => { results := [.lit (.bool false)], args := [d1, d2] }
  | _ => none }
def ProofBuildsWrongFalsely : Prop := proofBuildsRow.holds Try.pinned (OpenSpec.ofChange proofBuildsWrong)

/-- 'footbridgelaw12.ProofLooks': WHATEVER THE INPUT: true; the input reads as it did. -/
def proofLooksSpec : ChangeSpec := { name := "proofLooks", fn := fun _ => fun
  | [d1, d2, d3] => { results := [.lit (.bool true)], args := [d1, d2, d3] }
  | _ => none }
def proofLooksRow : OpenClaim := { program := "ytipgldfbjlhpoab", sum := "6ff91a004c8f55e2aeaa583d0de4d2168a0a2c87f7a83dede1a10b4646dd60cd", func := "footbridge/footbridgelaw12.ProofLooks", spec := "proofLooks", inPlace := ["internal/bytealg.abigen_runtime_cmpstring", "internal/abi.NoEscape"], unfollowed := true, recurses := true, apart := false }
def ProofLooksSaid : Prop := proofLooksRow.holds Try.pinned (OpenSpec.ofChange proofLooksSpec)

/-- ITS FALSE NEIGHBOUR: 'it returns false'. Refute it at one input. -/
def proofLooksWrong : ChangeSpec := { name := "proofLooks", fn := fun _ => fun
  | [d1, d2, d3] => { results := [.lit (.bool false)], args := [d1, d2, d3] }
  | _ => none }
def ProofLooksWrongFalsely : Prop := proofLooksRow.holds Try.pinned (OpenSpec.ofChange proofLooksWrong)

/-- 'footbridgelaw12.ProofComplete': WHATEVER THE INPUT: true; the input reads as it did. -/
def proofCompleteSpec : ChangeSpec := { name := "proofComplete", fn := fun _ => fun
  | [d1, d2] => { results := [.lit (.bool true)], args := [d1, d2] }
  | _ => none }
def proofCompleteRow : OpenClaim := { program := "ytipgldfbjlhpoab", sum := "6ff91a004c8f55e2aeaa583d0de4d2168a0a2c87f7a83dede1a10b4646dd60cd", func := "footbridge/footbridgelaw12.ProofComplete", spec := "proofComplete", inPlace := ["internal/bytealg.abigen_runtime_cmpstring", "internal/abi.NoEscape"], unfollowed := true, recurses := true, apart := false }
def ProofCompleteSaid : Prop := proofCompleteRow.holds Try.pinned (OpenSpec.ofChange proofCompleteSpec)

/-- ITS FALSE NEIGHBOUR: 'it returns false'. Refute it at one input. -/
def proofCompleteWrong : ChangeSpec := { name := "proofComplete", fn := fun _ => fun
  | [d1, d2] => { results := [.lit (.bool false)], args := [d1, d2] }
  | _ => none }
def ProofCompleteWrongFalsely : Prop := proofCompleteRow.holds Try.pinned (OpenSpec.ofChange proofCompleteWrong)

/-- 'footbridgelaw12.ProofSound': WHATEVER THE INPUT: true; the input reads as it did. -/
def proofSoundSpec : ChangeSpec := { name := "proofSound", fn := fun _ => fun
  | [d1, d2, d3] => { results := [.lit (.bool true)], args := [d1, d2, d3] }
  | _ => none }
def proofSoundRow : OpenClaim := { program := "ytipgldfbjlhpoab", sum := "6ff91a004c8f55e2aeaa583d0de4d2168a0a2c87f7a83dede1a10b4646dd60cd", func := "footbridge/footbridgelaw12.ProofSound", spec := "proofSound", inPlace := ["internal/bytealg.abigen_runtime_cmpstring", "internal/abi.NoEscape"], unfollowed := true, recurses := true, apart := false }
def ProofSoundSaid : Prop := proofSoundRow.holds Try.pinned (OpenSpec.ofChange proofSoundSpec)

/-- ITS FALSE NEIGHBOUR: 'it returns false'. Refute it at one input. -/
def proofSoundWrong : ChangeSpec := { name := "proofSound", fn := fun _ => fun
  | [d1, d2, d3] => { results := [.lit (.bool false)], args := [d1, d2, d3] }
  | _ => none }
def ProofSoundWrongFalsely : Prop := proofSoundRow.holds Try.pinned (OpenSpec.ofChange proofSoundWrong)

/- THE SECOND FORM. 'bulk': how many values and letters a reading holds, each counted each time it is reached (what is shared counts as often as it is met; a slice's spare places count too). A statement '..UptoSaid' is the law's where the arguments, and the package variables that the reading takes, are together of bulk at most 1048576: NARROWER than '..Said'. Prove '..Said' where nothing that the law and all that it calls make is longer than what came in: it says more and counts as full. Else prove '..UptoSaid'. A law counts once. -/
mutual
def uptoBulk {H : Type} : DataW H → Nat
  | .lit (.string bytes) => bytes.length + 1
  | .lit _ => 1
  | .nil => 1
  | .ptr d => uptoBulk d + 1
  | .slice elems spare => uptoBulkAll elems + uptoBulkAll spare + 1
  | .agg parts => uptoBulkAll parts + 1
  | .iface _ d => uptoBulk d + 1
  | .map entries => uptoBulkEntries entries + 1
  | .held _ => 1
def uptoBulkAll {H : Type} : List (DataW H) → Nat
  | [] => 0
  | d :: r => uptoBulk d + uptoBulkAll r
def uptoBulkEntries {H : Type} : List (Lit × DataW H) → Nat
  | [] => 0
  | x :: r => uptoBulkEntry x + uptoBulkEntries r
def uptoBulkEntry {H : Type} : Lit × DataW H → Nat
  | (.string bytes, d) => bytes.length + uptoBulk d + 1
  | (_, d) => uptoBulk d + 1
 end
def uptoSmall : (H : Type) → List (DataW H) → Bool := fun _ ds => decide (uptoBulkAll ds ≤ 1048576)
def OpenSpec.upto (s : _root_.Go.ChangeSpec) : _root_.Go.OpenSpec := { _root_.Go.OpenSpec.ofChange s with cond := some uptoSmall }

/-- 'footbridgelaw13.HeaderBytes', WHERE WHAT IT READS IS OF BULK AT MOST 1048576: true; the input reads as it did. -/
def headerBytesUptoRow : OpenClaim := { program := "ytipgldfbjlhpoab", sum := "6ff91a004c8f55e2aeaa583d0de4d2168a0a2c87f7a83dede1a10b4646dd60cd", func := "footbridge/footbridgelaw13.HeaderBytes", spec := "headerBytes", unfollowed := true, recurses := true, apart := false, narrowed := true }
def HeaderBytesUptoSaid : Prop := headerBytesUptoRow.holds Try.pinned (OpenSpec.upto headerBytesSpec)

/-- 'footbridgelaw13.HeaderSigns', WHERE WHAT IT READS IS OF BULK AT MOST 1048576: true; the input reads as it did. -/
def headerSignsUptoRow : OpenClaim := { program := "ytipgldfbjlhpoab", sum := "6ff91a004c8f55e2aeaa583d0de4d2168a0a2c87f7a83dede1a10b4646dd60cd", func := "footbridge/footbridgelaw13.HeaderSigns", spec := "headerSigns", unfollowed := true, recurses := true, apart := false, narrowed := true }
def HeaderSignsUptoSaid : Prop := headerSignsUptoRow.holds Try.pinned (OpenSpec.upto headerSignsSpec)

/-- 'footbridgelaw13.HeaderBack', WHERE WHAT IT READS IS OF BULK AT MOST 1048576: true; the input reads as it did. -/
def headerBackUptoRow : OpenClaim := { program := "ytipgldfbjlhpoab", sum := "6ff91a004c8f55e2aeaa583d0de4d2168a0a2c87f7a83dede1a10b4646dd60cd", func := "footbridge/footbridgelaw13.HeaderBack", spec := "headerBack", unfollowed := true, recurses := true, apart := false, narrowed := true }
def HeaderBackUptoSaid : Prop := headerBackUptoRow.holds Try.pinned (OpenSpec.upto headerBackSpec)

/-- 'footbridgelaw51.DiffOf', WHERE WHAT IT READS IS OF BULK AT MOST 1048576: true; the input reads as it did. -/
def diffOfUptoRow : OpenClaim := { program := "ytipgldfbjlhpoab", sum := "6ff91a004c8f55e2aeaa583d0de4d2168a0a2c87f7a83dede1a10b4646dd60cd", func := "footbridge/footbridgelaw51.DiffOf", spec := "diffOf", inPlace := ["internal/abi.NoEscape"], unfollowed := true, recurses := true, apart := false, narrowed := true }
def DiffOfUptoSaid : Prop := diffOfUptoRow.holds Try.pinned (OpenSpec.upto diffOfSpec)

/-- 'footbridgelaw51.DiffBytes', WHERE WHAT IT READS IS OF BULK AT MOST 1048576: true; the input reads as it did. -/
def diffBytesUptoRow : OpenClaim := { program := "ytipgldfbjlhpoab", sum := "6ff91a004c8f55e2aeaa583d0de4d2168a0a2c87f7a83dede1a10b4646dd60cd", func := "footbridge/footbridgelaw51.DiffBytes", spec := "diffBytes", inPlace := ["internal/abi.NoEscape"], unfollowed := true, recurses := true, apart := false, narrowed := true }
def DiffBytesUptoSaid : Prop := diffBytesUptoRow.holds Try.pinned (OpenSpec.upto diffBytesSpec)

/-- 'footbridgelaw51.DiffBack', WHERE WHAT IT READS IS OF BULK AT MOST 1048576: true; the input reads as it did. -/
def diffBackUptoRow : OpenClaim := { program := "ytipgldfbjlhpoab", sum := "6ff91a004c8f55e2aeaa583d0de4d2168a0a2c87f7a83dede1a10b4646dd60cd", func := "footbridge/footbridgelaw51.DiffBack", spec := "diffBack", inPlace := ["internal/abi.NoEscape"], unfollowed := true, recurses := true, apart := false, narrowed := true }
def DiffBackUptoSaid : Prop := diffBackUptoRow.holds Try.pinned (OpenSpec.upto diffBackSpec)

/-- 'footbridgelaw37.MsgBytes', WHERE WHAT IT READS IS OF BULK AT MOST 1048576: true; the input reads as it did. -/
def msgBytesUptoRow : OpenClaim := { program := "ytipgldfbjlhpoab", sum := "6ff91a004c8f55e2aeaa583d0de4d2168a0a2c87f7a83dede1a10b4646dd60cd", func := "footbridge/footbridgelaw37.MsgBytes", spec := "msgBytes", unfollowed := true, recurses := true, apart := false, narrowed := true }
def MsgBytesUptoSaid : Prop := msgBytesUptoRow.holds Try.pinned (OpenSpec.upto msgBytesSpec)

/-- 'footbridgelaw37.MsgBack', WHERE WHAT IT READS IS OF BULK AT MOST 1048576: true; the input reads as it did. -/
def msgBackUptoRow : OpenClaim := { program := "ytipgldfbjlhpoab", sum := "6ff91a004c8f55e2aeaa583d0de4d2168a0a2c87f7a83dede1a10b4646dd60cd", func := "footbridge/footbridgelaw37.MsgBack", spec := "msgBack", unfollowed := true, recurses := true, apart := false, narrowed := true }
def MsgBackUptoSaid : Prop := msgBackUptoRow.holds Try.pinned (OpenSpec.upto msgBackSpec)

/-- 'footbridgelaw12.ProofBuilds', WHERE WHAT IT READS IS OF BULK AT MOST 1048576: true; the input reads as it did. -/
def proofBuildsUptoRow : OpenClaim := { program := "ytipgldfbjlhpoab", sum := "6ff91a004c8f55e2aeaa583d0de4d2168a0a2c87f7a83dede1a10b4646dd60cd", func := "footbridge/footbridgelaw12.ProofBuilds", spec := "proofBuilds", inPlace := ["internal/bytealg.abigen_runtime_cmpstring", "internal/abi.NoEscape"], unfollowed := true, recurses := true, apart := false, narrowed := true }
def ProofBuildsUptoSaid : Prop := proofBuildsUptoRow.holds Try.pinned (OpenSpec.upto proofBuildsSpec)

/-- 'footbridgelaw12.ProofLooks', WHERE WHAT IT READS IS OF BULK AT MOST 1048576: true; the input reads as it did. -/
def proofLooksUptoRow : OpenClaim := { program := "ytipgldfbjlhpoab", sum := "6ff91a004c8f55e2aeaa583d0de4d2168a0a2c87f7a83dede1a10b4646dd60cd", func := "footbridge/footbridgelaw12.ProofLooks", spec := "proofLooks", inPlace := ["internal/bytealg.abigen_runtime_cmpstring", "internal/abi.NoEscape"], unfollowed := true, recurses := true, apart := false, narrowed := true }
def ProofLooksUptoSaid : Prop := proofLooksUptoRow.holds Try.pinned (OpenSpec.upto proofLooksSpec)

/-- 'footbridgelaw12.ProofComplete', WHERE WHAT IT READS IS OF BULK AT MOST 1048576: true; the input reads as it did. -/
def proofCompleteUptoRow : OpenClaim := { program := "ytipgldfbjlhpoab", sum := "6ff91a004c8f55e2aeaa583d0de4d2168a0a2c87f7a83dede1a10b4646dd60cd", func := "footbridge/footbridgelaw12.ProofComplete", spec := "proofComplete", inPlace := ["internal/bytealg.abigen_runtime_cmpstring", "internal/abi.NoEscape"], unfollowed := true, recurses := true, apart := false, narrowed := true }
def ProofCompleteUptoSaid : Prop := proofCompleteUptoRow.holds Try.pinned (OpenSpec.upto proofCompleteSpec)

/-- 'footbridgelaw12.ProofSound', WHERE WHAT IT READS IS OF BULK AT MOST 1048576: true; the input reads as it did. -/
def proofSoundUptoRow : OpenClaim := { program := "ytipgldfbjlhpoab", sum := "6ff91a004c8f55e2aeaa583d0de4d2168a0a2c87f7a83dede1a10b4646dd60cd", func := "footbridge/footbridgelaw12.ProofSound", spec := "proofSound", inPlace := ["internal/bytealg.abigen_runtime_cmpstring", "internal/abi.NoEscape"], unfollowed := true, recurses := true, apart := false, narrowed := true }
def ProofSoundUptoSaid : Prop := proofSoundUptoRow.holds Try.pinned (OpenSpec.upto proofSoundSpec)

end Rows
end Go.Proofs.Ytipgldfbjlhpoab
