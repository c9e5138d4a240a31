/-
  No cell of these rows narrows 'for every input' (looked for: loops, veiled, ifaces, maps, wideKeys, modest, calm, conditions, laid).
  DERIVED. THE GIVEN ROWS OF THIS SEAT. 19 by the template 'for every input the law returns true; each argument reads behind the call as it read before'; 0 by the template 'total and deterministic' (their statements: YtodnahpegecpiaaTotals.lean).
  GIVEN WITH THE SEED: the statements are not yours to turn. If you find one false, say at which input.
  Laid BY PROGRAM, IN A SANDBOX (cutbox-rows.mjs): the forced cells as the released guide's own fill.sh prints them over the translation c057467c26d95f55… (all of the seat's roots in one cut). By AI agents, Wed Nov 11 2026. No macro, syntax, notation, axiom, sorry.
-/
import Derived.Test.YtodnahpegecpiaaChecked
import GoSem.Claim
import GoSem.ClaimJoined
import GoSem.ClaimMapViews
import Derived.JoinedTies
import Derived.KernelRfl
namespace Go.Proofs.Ytodnahpegecpiaa
/- THE CELL 'sum', in the pinned program and in every row, IS THE sha256 OF THE DUMP (.gsa) THAT YtodnahpegecpiaaProg.lean LOADS. Nothing in Lean hashes anything: it is a label: what it is worth is what the hold of that sum in a sandbox is worth. -/
noncomputable def Try.pinned : Pinned := { name := "ytodnahpegecpiaa", sum := "c057467c26d95f55beb27ff711a6ad5a1deedf52989ddbe1e83a8854e84d0170", checked := Try.checked }
namespace Rows
def none {H : Type} : Left H := { results := [], args := [] }

/-- 'laws.FnEveryWire': WHATEVER THE INPUT: true; the input reads as it did. -/
def fnEveryWireSpec : ChangeSpec := { name := "fnEveryWire", fn := fun _ => fun
  | [d] => { results := [.lit (.bool true)], args := [d] }
  | _ => none }
def fnEveryWireRow : OpenClaim := { program := "ytodnahpegecpiaa", sum := "c057467c26d95f55beb27ff711a6ad5a1deedf52989ddbe1e83a8854e84d0170", func := "loop.example/g00979/laws.FnEveryWire", spec := "fnEveryWire", apart := false }
def FnEveryWireSaid : Prop := fnEveryWireRow.holds Try.pinned (OpenSpec.ofChange fnEveryWireSpec)

/-- ITS FALSE NEIGHBOUR: 'it returns false'. Refute it at one input. -/
def fnEveryWireWrong : ChangeSpec := { name := "fnEveryWire", fn := fun _ => fun
  | [d] => { results := [.lit (.bool false)], args := [d] }
  | _ => none }
def FnEveryWireWrongFalsely : Prop := fnEveryWireRow.holds Try.pinned (OpenSpec.ofChange fnEveryWireWrong)

/-- 'laws.FnExactEvalAnd': WHATEVER THE INPUT: true; the input reads as it did. -/
def fnExactEvalAndSpec : ChangeSpec := { name := "fnExactEvalAnd", fn := fun _ => fun
  | [d1, d2, d3, d4, d5] => { results := [.lit (.bool true)], args := [d1, d2, d3, d4, d5] }
  | _ => none }
def fnExactEvalAndRow : OpenClaim := { program := "ytodnahpegecpiaa", sum := "c057467c26d95f55beb27ff711a6ad5a1deedf52989ddbe1e83a8854e84d0170", func := "loop.example/g00979/laws.FnExactEvalAnd", spec := "fnExactEvalAnd", apart := false }
def FnExactEvalAndSaid : Prop := fnExactEvalAndRow.holds Try.pinned (OpenSpec.ofChange fnExactEvalAndSpec)

/-- ITS FALSE NEIGHBOUR: 'it returns false'. Refute it at one input. -/
def fnExactEvalAndWrong : ChangeSpec := { name := "fnExactEvalAnd", fn := fun _ => fun
  | [d1, d2, d3, d4, d5] => { results := [.lit (.bool false)], args := [d1, d2, d3, d4, d5] }
  | _ => none }
def FnExactEvalAndWrongFalsely : Prop := fnExactEvalAndRow.holds Try.pinned (OpenSpec.ofChange fnExactEvalAndWrong)

/-- 'laws.FnExactCountAccepted': WHATEVER THE INPUT: true; the input reads as it did. -/
def fnExactCountAcceptedSpec : ChangeSpec := { name := "fnExactCountAccepted", fn := fun _ => fun
  | [d] => { results := [.lit (.bool true)], args := [d] }
  | _ => none }
def fnExactCountAcceptedRow : OpenClaim := { program := "ytodnahpegecpiaa", sum := "c057467c26d95f55beb27ff711a6ad5a1deedf52989ddbe1e83a8854e84d0170", func := "loop.example/g00979/laws.FnExactCountAccepted", spec := "fnExactCountAccepted", apart := false }
def FnExactCountAcceptedSaid : Prop := fnExactCountAcceptedRow.holds Try.pinned (OpenSpec.ofChange fnExactCountAcceptedSpec)

/-- ITS FALSE NEIGHBOUR: 'it returns false'. Refute it at one input. -/
def fnExactCountAcceptedWrong : ChangeSpec := { name := "fnExactCountAccepted", fn := fun _ => fun
  | [d] => { results := [.lit (.bool false)], args := [d] }
  | _ => none }
def FnExactCountAcceptedWrongFalsely : Prop := fnExactCountAcceptedRow.holds Try.pinned (OpenSpec.ofChange fnExactCountAcceptedWrong)

/-- 'laws.FnFlippedInputs': WHATEVER THE INPUT: true; the input reads as it did. -/
def fnFlippedInputsSpec : ChangeSpec := { name := "fnFlippedInputs", fn := fun _ => fun
  | [d] => { results := [.lit (.bool true)], args := [d] }
  | _ => none }
def fnFlippedInputsRow : OpenClaim := { program := "ytodnahpegecpiaa", sum := "c057467c26d95f55beb27ff711a6ad5a1deedf52989ddbe1e83a8854e84d0170", func := "loop.example/g00979/laws.FnFlippedInputs", spec := "fnFlippedInputs", apart := false }
def FnFlippedInputsSaid : Prop := fnFlippedInputsRow.holds Try.pinned (OpenSpec.ofChange fnFlippedInputsSpec)

/-- ITS FALSE NEIGHBOUR: 'it returns false'. Refute it at one input. -/
def fnFlippedInputsWrong : ChangeSpec := { name := "fnFlippedInputs", fn := fun _ => fun
  | [d] => { results := [.lit (.bool false)], args := [d] }
  | _ => none }
def FnFlippedInputsWrongFalsely : Prop := fnFlippedInputsRow.holds Try.pinned (OpenSpec.ofChange fnFlippedInputsWrong)

/-- 'laws.FnExactDecodeSafe': WHATEVER THE INPUT: true; the input reads as it did. -/
def fnExactDecodeSafeSpec : ChangeSpec := { name := "fnExactDecodeSafe", fn := fun _ => fun
  | [d1, d2] => { results := [.lit (.bool true)], args := [d1, d2] }
  | _ => none }
def fnExactDecodeSafeRow : OpenClaim := { program := "ytodnahpegecpiaa", sum := "c057467c26d95f55beb27ff711a6ad5a1deedf52989ddbe1e83a8854e84d0170", func := "loop.example/g00979/laws.FnExactDecodeSafe", spec := "fnExactDecodeSafe", apart := false }
def FnExactDecodeSafeSaid : Prop := fnExactDecodeSafeRow.holds Try.pinned (OpenSpec.ofChange fnExactDecodeSafeSpec)

/-- ITS FALSE NEIGHBOUR: 'it returns false'. Refute it at one input. -/
def fnExactDecodeSafeWrong : ChangeSpec := { name := "fnExactDecodeSafe", fn := fun _ => fun
  | [d1, d2] => { results := [.lit (.bool false)], args := [d1, d2] }
  | _ => none }
def FnExactDecodeSafeWrongFalsely : Prop := fnExactDecodeSafeRow.holds Try.pinned (OpenSpec.ofChange fnExactDecodeSafeWrong)

/-- 'laws.FnExactOutputLabels': WHATEVER THE INPUT: true; the input reads as it did. -/
def fnExactOutputLabelsSpec : ChangeSpec := { name := "fnExactOutputLabels", fn := fun _ => fun
  | [d1, d2] => { results := [.lit (.bool true)], args := [d1, d2] }
  | _ => none }
def fnExactOutputLabelsRow : OpenClaim := { program := "ytodnahpegecpiaa", sum := "c057467c26d95f55beb27ff711a6ad5a1deedf52989ddbe1e83a8854e84d0170", func := "loop.example/g00979/laws.FnExactOutputLabels", spec := "fnExactOutputLabels", apart := false }
def FnExactOutputLabelsSaid : Prop := fnExactOutputLabelsRow.holds Try.pinned (OpenSpec.ofChange fnExactOutputLabelsSpec)

/-- ITS FALSE NEIGHBOUR: 'it returns false'. Refute it at one input. -/
def fnExactOutputLabelsWrong : ChangeSpec := { name := "fnExactOutputLabels", fn := fun _ => fun
  | [d1, d2] => { results := [.lit (.bool false)], args := [d1, d2] }
  | _ => none }
def FnExactOutputLabelsWrongFalsely : Prop := fnExactOutputLabelsRow.holds Try.pinned (OpenSpec.ofChange fnExactOutputLabelsWrong)

/-- 'laws.FnExactInputLabels': WHATEVER THE INPUT: true; the input reads as it did. -/
def fnExactInputLabelsSpec : ChangeSpec := { name := "fnExactInputLabels", fn := fun _ => fun
  | [d1, d2] => { results := [.lit (.bool true)], args := [d1, d2] }
  | _ => none }
def fnExactInputLabelsRow : OpenClaim := { program := "ytodnahpegecpiaa", sum := "c057467c26d95f55beb27ff711a6ad5a1deedf52989ddbe1e83a8854e84d0170", func := "loop.example/g00979/laws.FnExactInputLabels", spec := "fnExactInputLabels", apart := false }
def FnExactInputLabelsSaid : Prop := fnExactInputLabelsRow.holds Try.pinned (OpenSpec.ofChange fnExactInputLabelsSpec)

/-- ITS FALSE NEIGHBOUR: 'it returns false'. Refute it at one input. -/
def fnExactInputLabelsWrong : ChangeSpec := { name := "fnExactInputLabels", fn := fun _ => fun
  | [d1, d2] => { results := [.lit (.bool false)], args := [d1, d2] }
  | _ => none }
def FnExactInputLabelsWrongFalsely : Prop := fnExactInputLabelsRow.holds Try.pinned (OpenSpec.ofChange fnExactInputLabelsWrong)

/-- 'laws.FnOneGate': WHATEVER THE INPUT: true; the input reads as it did. -/
def fnOneGateSpec : ChangeSpec := { name := "fnOneGate", fn := fun _ => fun
  | [d] => { results := [.lit (.bool true)], args := [d] }
  | _ => none }
def fnOneGateRow : OpenClaim := { program := "ytodnahpegecpiaa", sum := "c057467c26d95f55beb27ff711a6ad5a1deedf52989ddbe1e83a8854e84d0170", func := "loop.example/g00979/laws.FnOneGate", spec := "fnOneGate", apart := false }
def FnOneGateSaid : Prop := fnOneGateRow.holds Try.pinned (OpenSpec.ofChange fnOneGateSpec)

/-- ITS FALSE NEIGHBOUR: 'it returns false'. Refute it at one input. -/
def fnOneGateWrong : ChangeSpec := { name := "fnOneGate", fn := fun _ => fun
  | [d] => { results := [.lit (.bool false)], args := [d] }
  | _ => none }
def FnOneGateWrongFalsely : Prop := fnOneGateRow.holds Try.pinned (OpenSpec.ofChange fnOneGateWrong)

/-- 'laws.FnExactGarbledOk': WHATEVER THE INPUT: true; the input reads as it did. -/
def fnExactGarbledOkSpec : ChangeSpec := { name := "fnExactGarbledOk", fn := fun _ => fun
  | [d1, d2] => { results := [.lit (.bool true)], args := [d1, d2] }
  | _ => none }
def fnExactGarbledOkRow : OpenClaim := { program := "ytodnahpegecpiaa", sum := "c057467c26d95f55beb27ff711a6ad5a1deedf52989ddbe1e83a8854e84d0170", func := "loop.example/g00979/laws.FnExactGarbledOk", spec := "fnExactGarbledOk", apart := false }
def FnExactGarbledOkSaid : Prop := fnExactGarbledOkRow.holds Try.pinned (OpenSpec.ofChange fnExactGarbledOkSpec)

/-- ITS FALSE NEIGHBOUR: 'it returns false'. Refute it at one input. -/
def fnExactGarbledOkWrong : ChangeSpec := { name := "fnExactGarbledOk", fn := fun _ => fun
  | [d1, d2] => { results := [.lit (.bool false)], args := [d1, d2] }
  | _ => none }
def FnExactGarbledOkWrongFalsely : Prop := fnExactGarbledOkRow.holds Try.pinned (OpenSpec.ofChange fnExactGarbledOkWrong)

/-- 'laws.FnExactPublicOk': WHATEVER THE INPUT: true; the input reads as it did. -/
def fnExactPublicOkSpec : ChangeSpec := { name := "fnExactPublicOk", fn := fun _ => fun
  | [d1, d2] => { results := [.lit (.bool true)], args := [d1, d2] }
  | _ => none }
def fnExactPublicOkRow : OpenClaim := { program := "ytodnahpegecpiaa", sum := "c057467c26d95f55beb27ff711a6ad5a1deedf52989ddbe1e83a8854e84d0170", func := "loop.example/g00979/laws.FnExactPublicOk", spec := "fnExactPublicOk", apart := false }
def FnExactPublicOkSaid : Prop := fnExactPublicOkRow.holds Try.pinned (OpenSpec.ofChange fnExactPublicOkSpec)

/-- ITS FALSE NEIGHBOUR: 'it returns false'. Refute it at one input. -/
def fnExactPublicOkWrong : ChangeSpec := { name := "fnExactPublicOk", fn := fun _ => fun
  | [d1, d2] => { results := [.lit (.bool false)], args := [d1, d2] }
  | _ => none }
def FnExactPublicOkWrongFalsely : Prop := fnExactPublicOkRow.holds Try.pinned (OpenSpec.ofChange fnExactPublicOkWrong)

/-- 'laws.FnTables': WHATEVER THE INPUT: true; the input reads as it did. -/
def fnTablesSpec : ChangeSpec := { name := "fnTables", fn := fun _ => fun
  | [d] => { results := [.lit (.bool true)], args := [d] }
  | _ => none }
def fnTablesRow : OpenClaim := { program := "ytodnahpegecpiaa", sum := "c057467c26d95f55beb27ff711a6ad5a1deedf52989ddbe1e83a8854e84d0170", func := "loop.example/g00979/laws.FnTables", spec := "fnTables", apart := false }
def FnTablesSaid : Prop := fnTablesRow.holds Try.pinned (OpenSpec.ofChange fnTablesSpec)

/-- ITS FALSE NEIGHBOUR: 'it returns false'. Refute it at one input. -/
def fnTablesWrong : ChangeSpec := { name := "fnTables", fn := fun _ => fun
  | [d] => { results := [.lit (.bool false)], args := [d] }
  | _ => none }
def FnTablesWrongFalsely : Prop := fnTablesRow.holds Try.pinned (OpenSpec.ofChange fnTablesWrong)

/-- 'laws.FnExactDecodeOutputs': WHATEVER THE INPUT: true; the input reads as it did. -/
def fnExactDecodeOutputsSpec : ChangeSpec := { name := "fnExactDecodeOutputs", fn := fun _ => fun
  | [d1, d2, d3] => { results := [.lit (.bool true)], args := [d1, d2, d3] }
  | _ => none }
def fnExactDecodeOutputsRow : OpenClaim := { program := "ytodnahpegecpiaa", sum := "c057467c26d95f55beb27ff711a6ad5a1deedf52989ddbe1e83a8854e84d0170", func := "loop.example/g00979/laws.FnExactDecodeOutputs", spec := "fnExactDecodeOutputs", apart := false }
def FnExactDecodeOutputsSaid : Prop := fnExactDecodeOutputsRow.holds Try.pinned (OpenSpec.ofChange fnExactDecodeOutputsSpec)

/-- ITS FALSE NEIGHBOUR: 'it returns false'. Refute it at one input. -/
def fnExactDecodeOutputsWrong : ChangeSpec := { name := "fnExactDecodeOutputs", fn := fun _ => fun
  | [d1, d2, d3] => { results := [.lit (.bool false)], args := [d1, d2, d3] }
  | _ => none }
def FnExactDecodeOutputsWrongFalsely : Prop := fnExactDecodeOutputsRow.holds Try.pinned (OpenSpec.ofChange fnExactDecodeOutputsWrong)

/-- 'laws.FnExactPublicOf': WHATEVER THE INPUT: true; the input reads as it did. -/
def fnExactPublicOfSpec : ChangeSpec := { name := "fnExactPublicOf", fn := fun _ => fun
  | [d1, d2] => { results := [.lit (.bool true)], args := [d1, d2] }
  | _ => none }
def fnExactPublicOfRow : OpenClaim := { program := "ytodnahpegecpiaa", sum := "c057467c26d95f55beb27ff711a6ad5a1deedf52989ddbe1e83a8854e84d0170", func := "loop.example/g00979/laws.FnExactPublicOf", spec := "fnExactPublicOf", apart := false }
def FnExactPublicOfSaid : Prop := fnExactPublicOfRow.holds Try.pinned (OpenSpec.ofChange fnExactPublicOfSpec)

/-- ITS FALSE NEIGHBOUR: 'it returns false'. Refute it at one input. -/
def fnExactPublicOfWrong : ChangeSpec := { name := "fnExactPublicOf", fn := fun _ => fun
  | [d1, d2] => { results := [.lit (.bool false)], args := [d1, d2] }
  | _ => none }
def FnExactPublicOfWrongFalsely : Prop := fnExactPublicOfRow.holds Try.pinned (OpenSpec.ofChange fnExactPublicOfWrong)

/-- 'laws.FnExactOutputHashes': WHATEVER THE INPUT: true; the input reads as it did. -/
def fnExactOutputHashesSpec : ChangeSpec := { name := "fnExactOutputHashes", fn := fun _ => fun
  | [d1, d2] => { results := [.lit (.bool true)], args := [d1, d2] }
  | _ => none }
def fnExactOutputHashesRow : OpenClaim := { program := "ytodnahpegecpiaa", sum := "c057467c26d95f55beb27ff711a6ad5a1deedf52989ddbe1e83a8854e84d0170", func := "loop.example/g00979/laws.FnExactOutputHashes", spec := "fnExactOutputHashes", apart := false }
def FnExactOutputHashesSaid : Prop := fnExactOutputHashesRow.holds Try.pinned (OpenSpec.ofChange fnExactOutputHashesSpec)

/-- ITS FALSE NEIGHBOUR: 'it returns false'. Refute it at one input. -/
def fnExactOutputHashesWrong : ChangeSpec := { name := "fnExactOutputHashes", fn := fun _ => fun
  | [d1, d2] => { results := [.lit (.bool false)], args := [d1, d2] }
  | _ => none }
def FnExactOutputHashesWrongFalsely : Prop := fnExactOutputHashesRow.holds Try.pinned (OpenSpec.ofChange fnExactOutputHashesWrong)

/-- 'laws.FnGarbled': WHATEVER THE INPUT: true; the input reads as it did. -/
def fnGarbledSpec : ChangeSpec := { name := "fnGarbled", fn := fun _ => fun
  | [d] => { results := [.lit (.bool true)], args := [d] }
  | _ => none }
def fnGarbledRow : OpenClaim := { program := "ytodnahpegecpiaa", sum := "c057467c26d95f55beb27ff711a6ad5a1deedf52989ddbe1e83a8854e84d0170", func := "loop.example/g00979/laws.FnGarbled", spec := "fnGarbled", apart := false }
def FnGarbledSaid : Prop := fnGarbledRow.holds Try.pinned (OpenSpec.ofChange fnGarbledSpec)

/-- ITS FALSE NEIGHBOUR: 'it returns false'. Refute it at one input. -/
def fnGarbledWrong : ChangeSpec := { name := "fnGarbled", fn := fun _ => fun
  | [d] => { results := [.lit (.bool false)], args := [d] }
  | _ => none }
def FnGarbledWrongFalsely : Prop := fnGarbledRow.holds Try.pinned (OpenSpec.ofChange fnGarbledWrong)

/-- 'laws.FnExactEvalGarbled': WHATEVER THE INPUT: true; the input reads as it did. -/
def fnExactEvalGarbledSpec : ChangeSpec := { name := "fnExactEvalGarbled", fn := fun _ => fun
  | [d1, d2, d3] => { results := [.lit (.bool true)], args := [d1, d2, d3] }
  | _ => none }
def fnExactEvalGarbledRow : OpenClaim := { program := "ytodnahpegecpiaa", sum := "c057467c26d95f55beb27ff711a6ad5a1deedf52989ddbe1e83a8854e84d0170", func := "loop.example/g00979/laws.FnExactEvalGarbled", spec := "fnExactEvalGarbled", apart := false }
def FnExactEvalGarbledSaid : Prop := fnExactEvalGarbledRow.holds Try.pinned (OpenSpec.ofChange fnExactEvalGarbledSpec)

/-- ITS FALSE NEIGHBOUR: 'it returns false'. Refute it at one input. -/
def fnExactEvalGarbledWrong : ChangeSpec := { name := "fnExactEvalGarbled", fn := fun _ => fun
  | [d1, d2, d3] => { results := [.lit (.bool false)], args := [d1, d2, d3] }
  | _ => none }
def FnExactEvalGarbledWrongFalsely : Prop := fnExactEvalGarbledRow.holds Try.pinned (OpenSpec.ofChange fnExactEvalGarbledWrong)

/-- 'laws.FnExactGarble': WHATEVER THE INPUT: true; the input reads as it did. -/
def fnExactGarbleSpec : ChangeSpec := { name := "fnExactGarble", fn := fun _ => fun
  | [d1, d2] => { results := [.lit (.bool true)], args := [d1, d2] }
  | _ => none }
def fnExactGarbleRow : OpenClaim := { program := "ytodnahpegecpiaa", sum := "c057467c26d95f55beb27ff711a6ad5a1deedf52989ddbe1e83a8854e84d0170", func := "loop.example/g00979/laws.FnExactGarble", spec := "fnExactGarble", apart := false }
def FnExactGarbleSaid : Prop := fnExactGarbleRow.holds Try.pinned (OpenSpec.ofChange fnExactGarbleSpec)

/-- ITS FALSE NEIGHBOUR: 'it returns false'. Refute it at one input. -/
def fnExactGarbleWrong : ChangeSpec := { name := "fnExactGarble", fn := fun _ => fun
  | [d1, d2] => { results := [.lit (.bool false)], args := [d1, d2] }
  | _ => none }
def FnExactGarbleWrongFalsely : Prop := fnExactGarbleRow.holds Try.pinned (OpenSpec.ofChange fnExactGarbleWrong)

/-- 'laws.FnSafeOutputs': WHATEVER THE INPUT: true; the input reads as it did. -/
def fnSafeOutputsSpec : ChangeSpec := { name := "fnSafeOutputs", fn := fun _ => fun
  | [d] => { results := [.lit (.bool true)], args := [d] }
  | _ => none }
def fnSafeOutputsRow : OpenClaim := { program := "ytodnahpegecpiaa", sum := "c057467c26d95f55beb27ff711a6ad5a1deedf52989ddbe1e83a8854e84d0170", func := "loop.example/g00979/laws.FnSafeOutputs", spec := "fnSafeOutputs", apart := false }
def FnSafeOutputsSaid : Prop := fnSafeOutputsRow.holds Try.pinned (OpenSpec.ofChange fnSafeOutputsSpec)

/-- ITS FALSE NEIGHBOUR: 'it returns false'. Refute it at one input. -/
def fnSafeOutputsWrong : ChangeSpec := { name := "fnSafeOutputs", fn := fun _ => fun
  | [d] => { results := [.lit (.bool false)], args := [d] }
  | _ => none }
def FnSafeOutputsWrongFalsely : Prop := fnSafeOutputsRow.holds Try.pinned (OpenSpec.ofChange fnSafeOutputsWrong)

/-- 'laws.FnExactRunGarbled': WHATEVER THE INPUT: true; the input reads as it did. -/
def fnExactRunGarbledSpec : ChangeSpec := { name := "fnExactRunGarbled", fn := fun _ => fun
  | [d1, d2, d3] => { results := [.lit (.bool true)], args := [d1, d2, d3] }
  | _ => none }
def fnExactRunGarbledRow : OpenClaim := { program := "ytodnahpegecpiaa", sum := "c057467c26d95f55beb27ff711a6ad5a1deedf52989ddbe1e83a8854e84d0170", func := "loop.example/g00979/laws.FnExactRunGarbled", spec := "fnExactRunGarbled", apart := false }
def FnExactRunGarbledSaid : Prop := fnExactRunGarbledRow.holds Try.pinned (OpenSpec.ofChange fnExactRunGarbledSpec)

/-- ITS FALSE NEIGHBOUR: 'it returns false'. Refute it at one input. -/
def fnExactRunGarbledWrong : ChangeSpec := { name := "fnExactRunGarbled", fn := fun _ => fun
  | [d1, d2, d3] => { results := [.lit (.bool false)], args := [d1, d2, d3] }
  | _ => none }
def FnExactRunGarbledWrongFalsely : Prop := fnExactRunGarbledRow.holds Try.pinned (OpenSpec.ofChange fnExactRunGarbledWrong)

/- THE SECOND FORM. 'bulk': how many values and letters a reading holds, each counted each time it is reached (what is shared counts as often as it is met; a slice's spare places count too). A statement '..UptoSaid' is the law's where the arguments, and the package variables that the reading takes, are together of bulk at most 1048576: NARROWER than '..Said'. Prove '..Said' where nothing that the law and all that it calls make is longer than what came in: it says more and counts as full. Else prove '..UptoSaid'. A law counts once. -/
mutual
def uptoBulk {H : Type} : DataW H → Nat
  | .lit (.string bytes) => bytes.length + 1
  | .lit _ => 1
  | .nil => 1
  | .ptr d => uptoBulk d + 1
  | .slice elems spare => uptoBulkAll elems + uptoBulkAll spare + 1
  | .agg parts => uptoBulkAll parts + 1
  | .iface _ d => uptoBulk d + 1
  | .map entries => uptoBulkEntries entries + 1
  | .held _ => 1
def uptoBulkAll {H : Type} : List (DataW H) → Nat
  | [] => 0
  | d :: r => uptoBulk d + uptoBulkAll r
def uptoBulkEntries {H : Type} : List (Lit × DataW H) → Nat
  | [] => 0
  | x :: r => uptoBulkEntry x + uptoBulkEntries r
def uptoBulkEntry {H : Type} : Lit × DataW H → Nat
  | (.string bytes, d) => bytes.length + uptoBulk d + 1
  | (_, d) => uptoBulk d + 1
 end
def uptoSmall : (H : Type) → List (DataW H) → Bool := fun _ ds => decide (uptoBulkAll ds ≤ 1048576)
def OpenSpec.upto (s : _root_.Go.ChangeSpec) : _root_.Go.OpenSpec := { _root_.Go.OpenSpec.ofChange s with cond := some uptoSmall }

/-- 'laws.FnEveryWire', WHERE WHAT IT READS IS OF BULK AT MOST 1048576: true; the input reads as it did. -/
def fnEveryWireUptoRow : OpenClaim := { program := "ytodnahpegecpiaa", sum := "c057467c26d95f55beb27ff711a6ad5a1deedf52989ddbe1e83a8854e84d0170", func := "loop.example/g00979/laws.FnEveryWire", spec := "fnEveryWire", apart := false, narrowed := true }
def FnEveryWireUptoSaid : Prop := fnEveryWireUptoRow.holds Try.pinned (OpenSpec.upto fnEveryWireSpec)

/-- 'laws.FnExactEvalAnd', WHERE WHAT IT READS IS OF BULK AT MOST 1048576: true; the input reads as it did. -/
def fnExactEvalAndUptoRow : OpenClaim := { program := "ytodnahpegecpiaa", sum := "c057467c26d95f55beb27ff711a6ad5a1deedf52989ddbe1e83a8854e84d0170", func := "loop.example/g00979/laws.FnExactEvalAnd", spec := "fnExactEvalAnd", apart := false, narrowed := true }
def FnExactEvalAndUptoSaid : Prop := fnExactEvalAndUptoRow.holds Try.pinned (OpenSpec.upto fnExactEvalAndSpec)

/-- 'laws.FnExactCountAccepted', WHERE WHAT IT READS IS OF BULK AT MOST 1048576: true; the input reads as it did. -/
def fnExactCountAcceptedUptoRow : OpenClaim := { program := "ytodnahpegecpiaa", sum := "c057467c26d95f55beb27ff711a6ad5a1deedf52989ddbe1e83a8854e84d0170", func := "loop.example/g00979/laws.FnExactCountAccepted", spec := "fnExactCountAccepted", apart := false, narrowed := true }
def FnExactCountAcceptedUptoSaid : Prop := fnExactCountAcceptedUptoRow.holds Try.pinned (OpenSpec.upto fnExactCountAcceptedSpec)

/-- 'laws.FnFlippedInputs', WHERE WHAT IT READS IS OF BULK AT MOST 1048576: true; the input reads as it did. -/
def fnFlippedInputsUptoRow : OpenClaim := { program := "ytodnahpegecpiaa", sum := "c057467c26d95f55beb27ff711a6ad5a1deedf52989ddbe1e83a8854e84d0170", func := "loop.example/g00979/laws.FnFlippedInputs", spec := "fnFlippedInputs", apart := false, narrowed := true }
def FnFlippedInputsUptoSaid : Prop := fnFlippedInputsUptoRow.holds Try.pinned (OpenSpec.upto fnFlippedInputsSpec)

/-- 'laws.FnExactDecodeSafe', WHERE WHAT IT READS IS OF BULK AT MOST 1048576: true; the input reads as it did. -/
def fnExactDecodeSafeUptoRow : OpenClaim := { program := "ytodnahpegecpiaa", sum := "c057467c26d95f55beb27ff711a6ad5a1deedf52989ddbe1e83a8854e84d0170", func := "loop.example/g00979/laws.FnExactDecodeSafe", spec := "fnExactDecodeSafe", apart := false, narrowed := true }
def FnExactDecodeSafeUptoSaid : Prop := fnExactDecodeSafeUptoRow.holds Try.pinned (OpenSpec.upto fnExactDecodeSafeSpec)

/-- 'laws.FnExactOutputLabels', WHERE WHAT IT READS IS OF BULK AT MOST 1048576: true; the input reads as it did. -/
def fnExactOutputLabelsUptoRow : OpenClaim := { program := "ytodnahpegecpiaa", sum := "c057467c26d95f55beb27ff711a6ad5a1deedf52989ddbe1e83a8854e84d0170", func := "loop.example/g00979/laws.FnExactOutputLabels", spec := "fnExactOutputLabels", apart := false, narrowed := true }
def FnExactOutputLabelsUptoSaid : Prop := fnExactOutputLabelsUptoRow.holds Try.pinned (OpenSpec.upto fnExactOutputLabelsSpec)

/-- 'laws.FnExactInputLabels', WHERE WHAT IT READS IS OF BULK AT MOST 1048576: true; the input reads as it did. -/
def fnExactInputLabelsUptoRow : OpenClaim := { program := "ytodnahpegecpiaa", sum := "c057467c26d95f55beb27ff711a6ad5a1deedf52989ddbe1e83a8854e84d0170", func := "loop.example/g00979/laws.FnExactInputLabels", spec := "fnExactInputLabels", apart := false, narrowed := true }
def FnExactInputLabelsUptoSaid : Prop := fnExactInputLabelsUptoRow.holds Try.pinned (OpenSpec.upto fnExactInputLabelsSpec)

/-- 'laws.FnOneGate', WHERE WHAT IT READS IS OF BULK AT MOST 1048576: true; the input reads as it did. -/
def fnOneGateUptoRow : OpenClaim := { program := "ytodnahpegecpiaa", sum := "c057467c26d95f55beb27ff711a6ad5a1deedf52989ddbe1e83a8854e84d0170", func := "loop.example/g00979/laws.FnOneGate", spec := "fnOneGate", apart := false, narrowed := true }
def FnOneGateUptoSaid : Prop := fnOneGateUptoRow.holds Try.pinned (OpenSpec.upto fnOneGateSpec)

/-- 'laws.FnExactGarbledOk', WHERE WHAT IT READS IS OF BULK AT MOST 1048576: true; the input reads as it did. -/
def fnExactGarbledOkUptoRow : OpenClaim := { program := "ytodnahpegecpiaa", sum := "c057467c26d95f55beb27ff711a6ad5a1deedf52989ddbe1e83a8854e84d0170", func := "loop.example/g00979/laws.FnExactGarbledOk", spec := "fnExactGarbledOk", apart := false, narrowed := true }
def FnExactGarbledOkUptoSaid : Prop := fnExactGarbledOkUptoRow.holds Try.pinned (OpenSpec.upto fnExactGarbledOkSpec)

/-- 'laws.FnExactPublicOk', WHERE WHAT IT READS IS OF BULK AT MOST 1048576: true; the input reads as it did. -/
def fnExactPublicOkUptoRow : OpenClaim := { program := "ytodnahpegecpiaa", sum := "c057467c26d95f55beb27ff711a6ad5a1deedf52989ddbe1e83a8854e84d0170", func := "loop.example/g00979/laws.FnExactPublicOk", spec := "fnExactPublicOk", apart := false, narrowed := true }
def FnExactPublicOkUptoSaid : Prop := fnExactPublicOkUptoRow.holds Try.pinned (OpenSpec.upto fnExactPublicOkSpec)

/-- 'laws.FnTables', WHERE WHAT IT READS IS OF BULK AT MOST 1048576: true; the input reads as it did. -/
def fnTablesUptoRow : OpenClaim := { program := "ytodnahpegecpiaa", sum := "c057467c26d95f55beb27ff711a6ad5a1deedf52989ddbe1e83a8854e84d0170", func := "loop.example/g00979/laws.FnTables", spec := "fnTables", apart := false, narrowed := true }
def FnTablesUptoSaid : Prop := fnTablesUptoRow.holds Try.pinned (OpenSpec.upto fnTablesSpec)

/-- 'laws.FnExactDecodeOutputs', WHERE WHAT IT READS IS OF BULK AT MOST 1048576: true; the input reads as it did. -/
def fnExactDecodeOutputsUptoRow : OpenClaim := { program := "ytodnahpegecpiaa", sum := "c057467c26d95f55beb27ff711a6ad5a1deedf52989ddbe1e83a8854e84d0170", func := "loop.example/g00979/laws.FnExactDecodeOutputs", spec := "fnExactDecodeOutputs", apart := false, narrowed := true }
def FnExactDecodeOutputsUptoSaid : Prop := fnExactDecodeOutputsUptoRow.holds Try.pinned (OpenSpec.upto fnExactDecodeOutputsSpec)

/-- 'laws.FnExactPublicOf', WHERE WHAT IT READS IS OF BULK AT MOST 1048576: true; the input reads as it did. -/
def fnExactPublicOfUptoRow : OpenClaim := { program := "ytodnahpegecpiaa", sum := "c057467c26d95f55beb27ff711a6ad5a1deedf52989ddbe1e83a8854e84d0170", func := "loop.example/g00979/laws.FnExactPublicOf", spec := "fnExactPublicOf", apart := false, narrowed := true }
def FnExactPublicOfUptoSaid : Prop := fnExactPublicOfUptoRow.holds Try.pinned (OpenSpec.upto fnExactPublicOfSpec)

/-- 'laws.FnExactOutputHashes', WHERE WHAT IT READS IS OF BULK AT MOST 1048576: true; the input reads as it did. -/
def fnExactOutputHashesUptoRow : OpenClaim := { program := "ytodnahpegecpiaa", sum := "c057467c26d95f55beb27ff711a6ad5a1deedf52989ddbe1e83a8854e84d0170", func := "loop.example/g00979/laws.FnExactOutputHashes", spec := "fnExactOutputHashes", apart := false, narrowed := true }
def FnExactOutputHashesUptoSaid : Prop := fnExactOutputHashesUptoRow.holds Try.pinned (OpenSpec.upto fnExactOutputHashesSpec)

/-- 'laws.FnGarbled', WHERE WHAT IT READS IS OF BULK AT MOST 1048576: true; the input reads as it did. -/
def fnGarbledUptoRow : OpenClaim := { program := "ytodnahpegecpiaa", sum := "c057467c26d95f55beb27ff711a6ad5a1deedf52989ddbe1e83a8854e84d0170", func := "loop.example/g00979/laws.FnGarbled", spec := "fnGarbled", apart := false, narrowed := true }
def FnGarbledUptoSaid : Prop := fnGarbledUptoRow.holds Try.pinned (OpenSpec.upto fnGarbledSpec)

/-- 'laws.FnExactEvalGarbled', WHERE WHAT IT READS IS OF BULK AT MOST 1048576: true; the input reads as it did. -/
def fnExactEvalGarbledUptoRow : OpenClaim := { program := "ytodnahpegecpiaa", sum := "c057467c26d95f55beb27ff711a6ad5a1deedf52989ddbe1e83a8854e84d0170", func := "loop.example/g00979/laws.FnExactEvalGarbled", spec := "fnExactEvalGarbled", apart := false, narrowed := true }
def FnExactEvalGarbledUptoSaid : Prop := fnExactEvalGarbledUptoRow.holds Try.pinned (OpenSpec.upto fnExactEvalGarbledSpec)

/-- 'laws.FnExactGarble', WHERE WHAT IT READS IS OF BULK AT MOST 1048576: true; the input reads as it did. -/
def fnExactGarbleUptoRow : OpenClaim := { program := "ytodnahpegecpiaa", sum := "c057467c26d95f55beb27ff711a6ad5a1deedf52989ddbe1e83a8854e84d0170", func := "loop.example/g00979/laws.FnExactGarble", spec := "fnExactGarble", apart := false, narrowed := true }
def FnExactGarbleUptoSaid : Prop := fnExactGarbleUptoRow.holds Try.pinned (OpenSpec.upto fnExactGarbleSpec)

/-- 'laws.FnSafeOutputs', WHERE WHAT IT READS IS OF BULK AT MOST 1048576: true; the input reads as it did. -/
def fnSafeOutputsUptoRow : OpenClaim := { program := "ytodnahpegecpiaa", sum := "c057467c26d95f55beb27ff711a6ad5a1deedf52989ddbe1e83a8854e84d0170", func := "loop.example/g00979/laws.FnSafeOutputs", spec := "fnSafeOutputs", apart := false, narrowed := true }
def FnSafeOutputsUptoSaid : Prop := fnSafeOutputsUptoRow.holds Try.pinned (OpenSpec.upto fnSafeOutputsSpec)

/-- 'laws.FnExactRunGarbled', WHERE WHAT IT READS IS OF BULK AT MOST 1048576: true; the input reads as it did. -/
def fnExactRunGarbledUptoRow : OpenClaim := { program := "ytodnahpegecpiaa", sum := "c057467c26d95f55beb27ff711a6ad5a1deedf52989ddbe1e83a8854e84d0170", func := "loop.example/g00979/laws.FnExactRunGarbled", spec := "fnExactRunGarbled", apart := false, narrowed := true }
def FnExactRunGarbledUptoSaid : Prop := fnExactRunGarbledUptoRow.holds Try.pinned (OpenSpec.upto fnExactRunGarbledSpec)

end Rows
end Go.Proofs.Ytodnahpegecpiaa
