/-
  No cell of these rows narrows 'for every input' (looked for: loops, veiled, ifaces, maps, wideKeys, modest, calm, conditions, laid).
  DERIVED. THE GIVEN ROWS OF THIS SEAT. 20 by the template 'for every input the law returns true; each argument reads behind the call as it read before'; 0 by the template 'total and deterministic' (their statements: YtakmgghjpompoaaTotals.lean).
  GIVEN WITH THE SEED: the statements are not yours to turn. If you find one false, say at which input.
  Laid BY PROGRAM, IN A SANDBOX (cutbox-rows.mjs): the forced cells as the released guide's own fill.sh prints them over the translation aae57e3dd8dae98b… (all of the seat's roots in one cut). By AI agents, Wed Nov 11 2026. No macro, syntax, notation, axiom, sorry.
-/
import Derived.Test.YtakmgghjpompoaaChecked
import GoSem.Claim
import GoSem.ClaimJoined
import GoSem.ClaimMapViews
import Derived.JoinedTies
import Derived.KernelRfl
namespace Go.Proofs.Ytakmgghjpompoaa
/- THE CELL 'sum', in the pinned program and in every row, IS THE sha256 OF THE DUMP (.gsa) THAT YtakmgghjpompoaaProg.lean LOADS. Nothing in Lean hashes anything: it is a label: what it is worth is what the hold of that sum in a sandbox is worth. -/
noncomputable def Try.pinned : Pinned := { name := "ytakmgghjpompoaa", sum := "aae57e3dd8dae98b7ac62b407fd5306c6635158067e9e9badb07a7a808e14d6c", checked := Try.checked }
namespace Rows
def none {H : Type} : Left H := { results := [], args := [] }

/-- 'laws.FnExactPoolOk': WHATEVER THE INPUT: true; the input reads as it did. -/
def fnExactPoolOkSpec : ChangeSpec := { name := "fnExactPoolOk", fn := fun _ => fun
  | [d] => { results := [.lit (.bool true)], args := [d] }
  | _ => none }
def fnExactPoolOkRow : OpenClaim := { program := "ytakmgghjpompoaa", sum := "aae57e3dd8dae98b7ac62b407fd5306c6635158067e9e9badb07a7a808e14d6c", func := "loop.example/g00979/laws.FnExactPoolOk", spec := "fnExactPoolOk", apart := false }
def FnExactPoolOkSaid : Prop := fnExactPoolOkRow.holds Try.pinned (OpenSpec.ofChange fnExactPoolOkSpec)

/-- ITS FALSE NEIGHBOUR: 'it returns false'. Refute it at one input. -/
def fnExactPoolOkWrong : ChangeSpec := { name := "fnExactPoolOk", fn := fun _ => fun
  | [d] => { results := [.lit (.bool false)], args := [d] }
  | _ => none }
def FnExactPoolOkWrongFalsely : Prop := fnExactPoolOkRow.holds Try.pinned (OpenSpec.ofChange fnExactPoolOkWrong)

/-- 'laws.FnExactOtAsk': WHATEVER THE INPUT: true; the input reads as it did. -/
def fnExactOtAskSpec : ChangeSpec := { name := "fnExactOtAsk", fn := fun _ => fun
  | [d1, d2] => { results := [.lit (.bool true)], args := [d1, d2] }
  | _ => none }
def fnExactOtAskRow : OpenClaim := { program := "ytakmgghjpompoaa", sum := "aae57e3dd8dae98b7ac62b407fd5306c6635158067e9e9badb07a7a808e14d6c", func := "loop.example/g00979/laws.FnExactOtAsk", spec := "fnExactOtAsk", apart := false }
def FnExactOtAskSaid : Prop := fnExactOtAskRow.holds Try.pinned (OpenSpec.ofChange fnExactOtAskSpec)

/-- ITS FALSE NEIGHBOUR: 'it returns false'. Refute it at one input. -/
def fnExactOtAskWrong : ChangeSpec := { name := "fnExactOtAsk", fn := fun _ => fun
  | [d1, d2] => { results := [.lit (.bool false)], args := [d1, d2] }
  | _ => none }
def FnExactOtAskWrongFalsely : Prop := fnExactOtAskRow.holds Try.pinned (OpenSpec.ofChange fnExactOtAskWrong)

/-- 'laws.FnExactPoolNew': WHATEVER THE INPUT: true; the input reads as it did. -/
def fnExactPoolNewSpec : ChangeSpec := { name := "fnExactPoolNew", fn := fun _ => fun
  | [d] => { results := [.lit (.bool true)], args := [d] }
  | _ => none }
def fnExactPoolNewRow : OpenClaim := { program := "ytakmgghjpompoaa", sum := "aae57e3dd8dae98b7ac62b407fd5306c6635158067e9e9badb07a7a808e14d6c", func := "loop.example/g00979/laws.FnExactPoolNew", spec := "fnExactPoolNew", apart := false }
def FnExactPoolNewSaid : Prop := fnExactPoolNewRow.holds Try.pinned (OpenSpec.ofChange fnExactPoolNewSpec)

/-- ITS FALSE NEIGHBOUR: 'it returns false'. Refute it at one input. -/
def fnExactPoolNewWrong : ChangeSpec := { name := "fnExactPoolNew", fn := fun _ => fun
  | [d] => { results := [.lit (.bool false)], args := [d] }
  | _ => none }
def FnExactPoolNewWrongFalsely : Prop := fnExactPoolNewRow.holds Try.pinned (OpenSpec.ofChange fnExactPoolNewWrong)

/-- 'laws.FnExactCountAsks': WHATEVER THE INPUT: true; the input reads as it did. -/
def fnExactCountAsksSpec : ChangeSpec := { name := "fnExactCountAsks", fn := fun _ => fun
  | [d1, d2] => { results := [.lit (.bool true)], args := [d1, d2] }
  | _ => none }
def fnExactCountAsksRow : OpenClaim := { program := "ytakmgghjpompoaa", sum := "aae57e3dd8dae98b7ac62b407fd5306c6635158067e9e9badb07a7a808e14d6c", func := "loop.example/g00979/laws.FnExactCountAsks", spec := "fnExactCountAsks", apart := false }
def FnExactCountAsksSaid : Prop := fnExactCountAsksRow.holds Try.pinned (OpenSpec.ofChange fnExactCountAsksSpec)

/-- ITS FALSE NEIGHBOUR: 'it returns false'. Refute it at one input. -/
def fnExactCountAsksWrong : ChangeSpec := { name := "fnExactCountAsks", fn := fun _ => fun
  | [d1, d2] => { results := [.lit (.bool false)], args := [d1, d2] }
  | _ => none }
def FnExactCountAsksWrongFalsely : Prop := fnExactCountAsksRow.holds Try.pinned (OpenSpec.ofChange fnExactCountAsksWrong)

/-- 'laws.FnExactOtReceive': WHATEVER THE INPUT: true; the input reads as it did. -/
def fnExactOtReceiveSpec : ChangeSpec := { name := "fnExactOtReceive", fn := fun _ => fun
  | [d1, d2, d3, d4] => { results := [.lit (.bool true)], args := [d1, d2, d3, d4] }
  | _ => none }
def fnExactOtReceiveRow : OpenClaim := { program := "ytakmgghjpompoaa", sum := "aae57e3dd8dae98b7ac62b407fd5306c6635158067e9e9badb07a7a808e14d6c", func := "loop.example/g00979/laws.FnExactOtReceive", spec := "fnExactOtReceive", apart := false }
def FnExactOtReceiveSaid : Prop := fnExactOtReceiveRow.holds Try.pinned (OpenSpec.ofChange fnExactOtReceiveSpec)

/-- ITS FALSE NEIGHBOUR: 'it returns false'. Refute it at one input. -/
def fnExactOtReceiveWrong : ChangeSpec := { name := "fnExactOtReceive", fn := fun _ => fun
  | [d1, d2, d3, d4] => { results := [.lit (.bool false)], args := [d1, d2, d3, d4] }
  | _ => none }
def FnExactOtReceiveWrongFalsely : Prop := fnExactOtReceiveRow.holds Try.pinned (OpenSpec.ofChange fnExactOtReceiveWrong)

/-- 'laws.FnExactOtReply': WHATEVER THE INPUT: true; the input reads as it did. -/
def fnExactOtReplySpec : ChangeSpec := { name := "fnExactOtReply", fn := fun _ => fun
  | [d1, d2, d3, d4] => { results := [.lit (.bool true)], args := [d1, d2, d3, d4] }
  | _ => none }
def fnExactOtReplyRow : OpenClaim := { program := "ytakmgghjpompoaa", sum := "aae57e3dd8dae98b7ac62b407fd5306c6635158067e9e9badb07a7a808e14d6c", func := "loop.example/g00979/laws.FnExactOtReply", spec := "fnExactOtReply", apart := false }
def FnExactOtReplySaid : Prop := fnExactOtReplyRow.holds Try.pinned (OpenSpec.ofChange fnExactOtReplySpec)

/-- ITS FALSE NEIGHBOUR: 'it returns false'. Refute it at one input. -/
def fnExactOtReplyWrong : ChangeSpec := { name := "fnExactOtReply", fn := fun _ => fun
  | [d1, d2, d3, d4] => { results := [.lit (.bool false)], args := [d1, d2, d3, d4] }
  | _ => none }
def FnExactOtReplyWrongFalsely : Prop := fnExactOtReplyRow.holds Try.pinned (OpenSpec.ofChange fnExactOtReplyWrong)

/-- 'laws.FnExactPoolCrash': WHATEVER THE INPUT: true; the input reads as it did. -/
def fnExactPoolCrashSpec : ChangeSpec := { name := "fnExactPoolCrash", fn := fun _ => fun
  | [d] => { results := [.lit (.bool true)], args := [d] }
  | _ => none }
def fnExactPoolCrashRow : OpenClaim := { program := "ytakmgghjpompoaa", sum := "aae57e3dd8dae98b7ac62b407fd5306c6635158067e9e9badb07a7a808e14d6c", func := "loop.example/g00979/laws.FnExactPoolCrash", spec := "fnExactPoolCrash", apart := false }
def FnExactPoolCrashSaid : Prop := fnExactPoolCrashRow.holds Try.pinned (OpenSpec.ofChange fnExactPoolCrashSpec)

/-- ITS FALSE NEIGHBOUR: 'it returns false'. Refute it at one input. -/
def fnExactPoolCrashWrong : ChangeSpec := { name := "fnExactPoolCrash", fn := fun _ => fun
  | [d] => { results := [.lit (.bool false)], args := [d] }
  | _ => none }
def FnExactPoolCrashWrongFalsely : Prop := fnExactPoolCrashRow.holds Try.pinned (OpenSpec.ofChange fnExactPoolCrashWrong)

/-- 'laws.FnExactMul256': WHATEVER THE INPUT: true; the input reads as it did. -/
def fnExactMul256Spec : ChangeSpec := { name := "fnExactMul256", fn := fun _ => fun
  | [d1, d2] => { results := [.lit (.bool true)], args := [d1, d2] }
  | _ => none }
def fnExactMul256Row : OpenClaim := { program := "ytakmgghjpompoaa", sum := "aae57e3dd8dae98b7ac62b407fd5306c6635158067e9e9badb07a7a808e14d6c", func := "loop.example/g00979/laws.FnExactMul256", spec := "fnExactMul256", apart := false }
def FnExactMul256Said : Prop := fnExactMul256Row.holds Try.pinned (OpenSpec.ofChange fnExactMul256Spec)

/-- ITS FALSE NEIGHBOUR: 'it returns false'. Refute it at one input. -/
def fnExactMul256Wrong : ChangeSpec := { name := "fnExactMul256", fn := fun _ => fun
  | [d1, d2] => { results := [.lit (.bool false)], args := [d1, d2] }
  | _ => none }
def FnExactMul256WrongFalsely : Prop := fnExactMul256Row.holds Try.pinned (OpenSpec.ofChange fnExactMul256Wrong)

/-- 'laws.FnMul256': WHATEVER THE INPUT: true; the input reads as it did. -/
def fnMul256Spec : ChangeSpec := { name := "fnMul256", fn := fun _ => fun
  | [d] => { results := [.lit (.bool true)], args := [d] }
  | _ => none }
def fnMul256Row : OpenClaim := { program := "ytakmgghjpompoaa", sum := "aae57e3dd8dae98b7ac62b407fd5306c6635158067e9e9badb07a7a808e14d6c", func := "loop.example/g00979/laws.FnMul256", spec := "fnMul256", apart := false }
def FnMul256Said : Prop := fnMul256Row.holds Try.pinned (OpenSpec.ofChange fnMul256Spec)

/-- ITS FALSE NEIGHBOUR: 'it returns false'. Refute it at one input. -/
def fnMul256Wrong : ChangeSpec := { name := "fnMul256", fn := fun _ => fun
  | [d] => { results := [.lit (.bool false)], args := [d] }
  | _ => none }
def FnMul256WrongFalsely : Prop := fnMul256Row.holds Try.pinned (OpenSpec.ofChange fnMul256Wrong)

/-- 'laws.FnExactExtMask': WHATEVER THE INPUT: true; the input reads as it did. -/
def fnExactExtMaskSpec : ChangeSpec := { name := "fnExactExtMask", fn := fun _ => fun
  | [d] => { results := [.lit (.bool true)], args := [d] }
  | _ => none }
def fnExactExtMaskRow : OpenClaim := { program := "ytakmgghjpompoaa", sum := "aae57e3dd8dae98b7ac62b407fd5306c6635158067e9e9badb07a7a808e14d6c", func := "loop.example/g00979/laws.FnExactExtMask", spec := "fnExactExtMask", apart := false }
def FnExactExtMaskSaid : Prop := fnExactExtMaskRow.holds Try.pinned (OpenSpec.ofChange fnExactExtMaskSpec)

/-- ITS FALSE NEIGHBOUR: 'it returns false'. Refute it at one input. -/
def fnExactExtMaskWrong : ChangeSpec := { name := "fnExactExtMask", fn := fun _ => fun
  | [d] => { results := [.lit (.bool false)], args := [d] }
  | _ => none }
def FnExactExtMaskWrongFalsely : Prop := fnExactExtMaskRow.holds Try.pinned (OpenSpec.ofChange fnExactExtMaskWrong)

/-- 'laws.FnExactExtPads': WHATEVER THE INPUT: true; the input reads as it did. -/
def fnExactExtPadsSpec : ChangeSpec := { name := "fnExactExtPads", fn := fun _ => fun
  | [d1, d2, d3] => { results := [.lit (.bool true)], args := [d1, d2, d3] }
  | _ => none }
def fnExactExtPadsRow : OpenClaim := { program := "ytakmgghjpompoaa", sum := "aae57e3dd8dae98b7ac62b407fd5306c6635158067e9e9badb07a7a808e14d6c", func := "loop.example/g00979/laws.FnExactExtPads", spec := "fnExactExtPads", apart := false }
def FnExactExtPadsSaid : Prop := fnExactExtPadsRow.holds Try.pinned (OpenSpec.ofChange fnExactExtPadsSpec)

/-- ITS FALSE NEIGHBOUR: 'it returns false'. Refute it at one input. -/
def fnExactExtPadsWrong : ChangeSpec := { name := "fnExactExtPads", fn := fun _ => fun
  | [d1, d2, d3] => { results := [.lit (.bool false)], args := [d1, d2, d3] }
  | _ => none }
def FnExactExtPadsWrongFalsely : Prop := fnExactExtPadsRow.holds Try.pinned (OpenSpec.ofChange fnExactExtPadsWrong)

/-- 'laws.FnExactExtSend': WHATEVER THE INPUT: true; the input reads as it did. -/
def fnExactExtSendSpec : ChangeSpec := { name := "fnExactExtSend", fn := fun _ => fun
  | [d1, d2, d3] => { results := [.lit (.bool true)], args := [d1, d2, d3] }
  | _ => none }
def fnExactExtSendRow : OpenClaim := { program := "ytakmgghjpompoaa", sum := "aae57e3dd8dae98b7ac62b407fd5306c6635158067e9e9badb07a7a808e14d6c", func := "loop.example/g00979/laws.FnExactExtSend", spec := "fnExactExtSend", apart := false }
def FnExactExtSendSaid : Prop := fnExactExtSendRow.holds Try.pinned (OpenSpec.ofChange fnExactExtSendSpec)

/-- ITS FALSE NEIGHBOUR: 'it returns false'. Refute it at one input. -/
def fnExactExtSendWrong : ChangeSpec := { name := "fnExactExtSend", fn := fun _ => fun
  | [d1, d2, d3] => { results := [.lit (.bool false)], args := [d1, d2, d3] }
  | _ => none }
def FnExactExtSendWrongFalsely : Prop := fnExactExtSendRow.holds Try.pinned (OpenSpec.ofChange fnExactExtSendWrong)

/-- 'laws.FnExactExtCheck': WHATEVER THE INPUT: true; the input reads as it did. -/
def fnExactExtCheckSpec : ChangeSpec := { name := "fnExactExtCheck", fn := fun _ => fun
  | [d1, d2, d3, d4, d5] => { results := [.lit (.bool true)], args := [d1, d2, d3, d4, d5] }
  | _ => none }
def fnExactExtCheckRow : OpenClaim := { program := "ytakmgghjpompoaa", sum := "aae57e3dd8dae98b7ac62b407fd5306c6635158067e9e9badb07a7a808e14d6c", func := "loop.example/g00979/laws.FnExactExtCheck", spec := "fnExactExtCheck", apart := false }
def FnExactExtCheckSaid : Prop := fnExactExtCheckRow.holds Try.pinned (OpenSpec.ofChange fnExactExtCheckSpec)

/-- ITS FALSE NEIGHBOUR: 'it returns false'. Refute it at one input. -/
def fnExactExtCheckWrong : ChangeSpec := { name := "fnExactExtCheck", fn := fun _ => fun
  | [d1, d2, d3, d4, d5] => { results := [.lit (.bool false)], args := [d1, d2, d3, d4, d5] }
  | _ => none }
def FnExactExtCheckWrongFalsely : Prop := fnExactExtCheckRow.holds Try.pinned (OpenSpec.ofChange fnExactExtCheckWrong)

/-- 'laws.FnExactOtDeal': WHATEVER THE INPUT: true; the input reads as it did. -/
def fnExactOtDealSpec : ChangeSpec := { name := "fnExactOtDeal", fn := fun _ => fun
  | [d] => { results := [.lit (.bool true)], args := [d] }
  | _ => none }
def fnExactOtDealRow : OpenClaim := { program := "ytakmgghjpompoaa", sum := "aae57e3dd8dae98b7ac62b407fd5306c6635158067e9e9badb07a7a808e14d6c", func := "loop.example/g00979/laws.FnExactOtDeal", spec := "fnExactOtDeal", apart := false }
def FnExactOtDealSaid : Prop := fnExactOtDealRow.holds Try.pinned (OpenSpec.ofChange fnExactOtDealSpec)

/-- ITS FALSE NEIGHBOUR: 'it returns false'. Refute it at one input. -/
def fnExactOtDealWrong : ChangeSpec := { name := "fnExactOtDeal", fn := fun _ => fun
  | [d] => { results := [.lit (.bool false)], args := [d] }
  | _ => none }
def FnExactOtDealWrongFalsely : Prop := fnExactOtDealRow.holds Try.pinned (OpenSpec.ofChange fnExactOtDealWrong)

/-- 'laws.FnHiddenChoice': WHATEVER THE INPUT: true; the input reads as it did. -/
def fnHiddenChoiceSpec : ChangeSpec := { name := "fnHiddenChoice", fn := fun _ => fun
  | [d] => { results := [.lit (.bool true)], args := [d] }
  | _ => none }
def fnHiddenChoiceRow : OpenClaim := { program := "ytakmgghjpompoaa", sum := "aae57e3dd8dae98b7ac62b407fd5306c6635158067e9e9badb07a7a808e14d6c", func := "loop.example/g00979/laws.FnHiddenChoice", spec := "fnHiddenChoice", apart := false }
def FnHiddenChoiceSaid : Prop := fnHiddenChoiceRow.holds Try.pinned (OpenSpec.ofChange fnHiddenChoiceSpec)

/-- ITS FALSE NEIGHBOUR: 'it returns false'. Refute it at one input. -/
def fnHiddenChoiceWrong : ChangeSpec := { name := "fnHiddenChoice", fn := fun _ => fun
  | [d] => { results := [.lit (.bool false)], args := [d] }
  | _ => none }
def FnHiddenChoiceWrongFalsely : Prop := fnHiddenChoiceRow.holds Try.pinned (OpenSpec.ofChange fnHiddenChoiceWrong)

/-- 'laws.FnTransferred': WHATEVER THE INPUT: true; the input reads as it did. -/
def fnTransferredSpec : ChangeSpec := { name := "fnTransferred", fn := fun _ => fun
  | [d] => { results := [.lit (.bool true)], args := [d] }
  | _ => none }
def fnTransferredRow : OpenClaim := { program := "ytakmgghjpompoaa", sum := "aae57e3dd8dae98b7ac62b407fd5306c6635158067e9e9badb07a7a808e14d6c", func := "loop.example/g00979/laws.FnTransferred", spec := "fnTransferred", apart := false }
def FnTransferredSaid : Prop := fnTransferredRow.holds Try.pinned (OpenSpec.ofChange fnTransferredSpec)

/-- ITS FALSE NEIGHBOUR: 'it returns false'. Refute it at one input. -/
def fnTransferredWrong : ChangeSpec := { name := "fnTransferred", fn := fun _ => fun
  | [d] => { results := [.lit (.bool false)], args := [d] }
  | _ => none }
def FnTransferredWrongFalsely : Prop := fnTransferredRow.holds Try.pinned (OpenSpec.ofChange fnTransferredWrong)

/-- 'laws.FnExactExtRows': WHATEVER THE INPUT: true; the input reads as it did. -/
def fnExactExtRowsSpec : ChangeSpec := { name := "fnExactExtRows", fn := fun _ => fun
  | [d1, d2] => { results := [.lit (.bool true)], args := [d1, d2] }
  | _ => none }
def fnExactExtRowsRow : OpenClaim := { program := "ytakmgghjpompoaa", sum := "aae57e3dd8dae98b7ac62b407fd5306c6635158067e9e9badb07a7a808e14d6c", func := "loop.example/g00979/laws.FnExactExtRows", spec := "fnExactExtRows", apart := false }
def FnExactExtRowsSaid : Prop := fnExactExtRowsRow.holds Try.pinned (OpenSpec.ofChange fnExactExtRowsSpec)

/-- ITS FALSE NEIGHBOUR: 'it returns false'. Refute it at one input. -/
def fnExactExtRowsWrong : ChangeSpec := { name := "fnExactExtRows", fn := fun _ => fun
  | [d1, d2] => { results := [.lit (.bool false)], args := [d1, d2] }
  | _ => none }
def FnExactExtRowsWrongFalsely : Prop := fnExactExtRowsRow.holds Try.pinned (OpenSpec.ofChange fnExactExtRowsWrong)

/-- 'laws.FnExactCountPassing': WHATEVER THE INPUT: true; the input reads as it did. -/
def fnExactCountPassingSpec : ChangeSpec := { name := "fnExactCountPassing", fn := fun _ => fun
  | [d1, d2, d3] => { results := [.lit (.bool true)], args := [d1, d2, d3] }
  | _ => none }
def fnExactCountPassingRow : OpenClaim := { program := "ytakmgghjpompoaa", sum := "aae57e3dd8dae98b7ac62b407fd5306c6635158067e9e9badb07a7a808e14d6c", func := "loop.example/g00979/laws.FnExactCountPassing", spec := "fnExactCountPassing", apart := false }
def FnExactCountPassingSaid : Prop := fnExactCountPassingRow.holds Try.pinned (OpenSpec.ofChange fnExactCountPassingSpec)

/-- ITS FALSE NEIGHBOUR: 'it returns false'. Refute it at one input. -/
def fnExactCountPassingWrong : ChangeSpec := { name := "fnExactCountPassing", fn := fun _ => fun
  | [d1, d2, d3] => { results := [.lit (.bool false)], args := [d1, d2, d3] }
  | _ => none }
def FnExactCountPassingWrongFalsely : Prop := fnExactCountPassingRow.holds Try.pinned (OpenSpec.ofChange fnExactCountPassingWrong)

/-- 'laws.FnExtended': WHATEVER THE INPUT: true; the input reads as it did. -/
def fnExtendedSpec : ChangeSpec := { name := "fnExtended", fn := fun _ => fun
  | [d] => { results := [.lit (.bool true)], args := [d] }
  | _ => none }
def fnExtendedRow : OpenClaim := { program := "ytakmgghjpompoaa", sum := "aae57e3dd8dae98b7ac62b407fd5306c6635158067e9e9badb07a7a808e14d6c", func := "loop.example/g00979/laws.FnExtended", spec := "fnExtended", apart := false }
def FnExtendedSaid : Prop := fnExtendedRow.holds Try.pinned (OpenSpec.ofChange fnExtendedSpec)

/-- ITS FALSE NEIGHBOUR: 'it returns false'. Refute it at one input. -/
def fnExtendedWrong : ChangeSpec := { name := "fnExtended", fn := fun _ => fun
  | [d] => { results := [.lit (.bool false)], args := [d] }
  | _ => none }
def FnExtendedWrongFalsely : Prop := fnExtendedRow.holds Try.pinned (OpenSpec.ofChange fnExtendedWrong)

/-- 'laws.FnConsistent': WHATEVER THE INPUT: true; the input reads as it did. -/
def fnConsistentSpec : ChangeSpec := { name := "fnConsistent", fn := fun _ => fun
  | [d] => { results := [.lit (.bool true)], args := [d] }
  | _ => none }
def fnConsistentRow : OpenClaim := { program := "ytakmgghjpompoaa", sum := "aae57e3dd8dae98b7ac62b407fd5306c6635158067e9e9badb07a7a808e14d6c", func := "loop.example/g00979/laws.FnConsistent", spec := "fnConsistent", apart := false }
def FnConsistentSaid : Prop := fnConsistentRow.holds Try.pinned (OpenSpec.ofChange fnConsistentSpec)

/-- ITS FALSE NEIGHBOUR: 'it returns false'. Refute it at one input. -/
def fnConsistentWrong : ChangeSpec := { name := "fnConsistent", fn := fun _ => fun
  | [d] => { results := [.lit (.bool false)], args := [d] }
  | _ => none }
def FnConsistentWrongFalsely : Prop := fnConsistentRow.holds Try.pinned (OpenSpec.ofChange fnConsistentWrong)

/- THE SECOND FORM. 'bulk': how many values and letters a reading holds, each counted each time it is reached (what is shared counts as often as it is met; a slice's spare places count too). A statement '..UptoSaid' is the law's where the arguments, and the package variables that the reading takes, are together of bulk at most 1048576: NARROWER than '..Said'. Prove '..Said' where nothing that the law and all that it calls make is longer than what came in: it says more and counts as full. Else prove '..UptoSaid'. A law counts once. -/
mutual
def uptoBulk {H : Type} : DataW H → Nat
  | .lit (.string bytes) => bytes.length + 1
  | .lit _ => 1
  | .nil => 1
  | .ptr d => uptoBulk d + 1
  | .slice elems spare => uptoBulkAll elems + uptoBulkAll spare + 1
  | .agg parts => uptoBulkAll parts + 1
  | .iface _ d => uptoBulk d + 1
  | .map entries => uptoBulkEntries entries + 1
  | .held _ => 1
def uptoBulkAll {H : Type} : List (DataW H) → Nat
  | [] => 0
  | d :: r => uptoBulk d + uptoBulkAll r
def uptoBulkEntries {H : Type} : List (Lit × DataW H) → Nat
  | [] => 0
  | x :: r => uptoBulkEntry x + uptoBulkEntries r
def uptoBulkEntry {H : Type} : Lit × DataW H → Nat
  | (.string bytes, d) => bytes.length + uptoBulk d + 1
  | (_, d) => uptoBulk d + 1
 end
def uptoSmall : (H : Type) → List (DataW H) → Bool := fun _ ds => decide (uptoBulkAll ds ≤ 1048576)
def OpenSpec.upto (s : _root_.Go.ChangeSpec) : _root_.Go.OpenSpec := { _root_.Go.OpenSpec.ofChange s with cond := some uptoSmall }

/-- 'laws.FnExactPoolOk', WHERE WHAT IT READS IS OF BULK AT MOST 1048576: true; the input reads as it did. -/
def fnExactPoolOkUptoRow : OpenClaim := { program := "ytakmgghjpompoaa", sum := "aae57e3dd8dae98b7ac62b407fd5306c6635158067e9e9badb07a7a808e14d6c", func := "loop.example/g00979/laws.FnExactPoolOk", spec := "fnExactPoolOk", apart := false, narrowed := true }
def FnExactPoolOkUptoSaid : Prop := fnExactPoolOkUptoRow.holds Try.pinned (OpenSpec.upto fnExactPoolOkSpec)

/-- 'laws.FnExactOtAsk', WHERE WHAT IT READS IS OF BULK AT MOST 1048576: true; the input reads as it did. -/
def fnExactOtAskUptoRow : OpenClaim := { program := "ytakmgghjpompoaa", sum := "aae57e3dd8dae98b7ac62b407fd5306c6635158067e9e9badb07a7a808e14d6c", func := "loop.example/g00979/laws.FnExactOtAsk", spec := "fnExactOtAsk", apart := false, narrowed := true }
def FnExactOtAskUptoSaid : Prop := fnExactOtAskUptoRow.holds Try.pinned (OpenSpec.upto fnExactOtAskSpec)

/-- 'laws.FnExactPoolNew', WHERE WHAT IT READS IS OF BULK AT MOST 1048576: true; the input reads as it did. -/
def fnExactPoolNewUptoRow : OpenClaim := { program := "ytakmgghjpompoaa", sum := "aae57e3dd8dae98b7ac62b407fd5306c6635158067e9e9badb07a7a808e14d6c", func := "loop.example/g00979/laws.FnExactPoolNew", spec := "fnExactPoolNew", apart := false, narrowed := true }
def FnExactPoolNewUptoSaid : Prop := fnExactPoolNewUptoRow.holds Try.pinned (OpenSpec.upto fnExactPoolNewSpec)

/-- 'laws.FnExactCountAsks', WHERE WHAT IT READS IS OF BULK AT MOST 1048576: true; the input reads as it did. -/
def fnExactCountAsksUptoRow : OpenClaim := { program := "ytakmgghjpompoaa", sum := "aae57e3dd8dae98b7ac62b407fd5306c6635158067e9e9badb07a7a808e14d6c", func := "loop.example/g00979/laws.FnExactCountAsks", spec := "fnExactCountAsks", apart := false, narrowed := true }
def FnExactCountAsksUptoSaid : Prop := fnExactCountAsksUptoRow.holds Try.pinned (OpenSpec.upto fnExactCountAsksSpec)

/-- 'laws.FnExactOtReceive', WHERE WHAT IT READS IS OF BULK AT MOST 1048576: true; the input reads as it did. -/
def fnExactOtReceiveUptoRow : OpenClaim := { program := "ytakmgghjpompoaa", sum := "aae57e3dd8dae98b7ac62b407fd5306c6635158067e9e9badb07a7a808e14d6c", func := "loop.example/g00979/laws.FnExactOtReceive", spec := "fnExactOtReceive", apart := false, narrowed := true }
def FnExactOtReceiveUptoSaid : Prop := fnExactOtReceiveUptoRow.holds Try.pinned (OpenSpec.upto fnExactOtReceiveSpec)

/-- 'laws.FnExactOtReply', WHERE WHAT IT READS IS OF BULK AT MOST 1048576: true; the input reads as it did. -/
def fnExactOtReplyUptoRow : OpenClaim := { program := "ytakmgghjpompoaa", sum := "aae57e3dd8dae98b7ac62b407fd5306c6635158067e9e9badb07a7a808e14d6c", func := "loop.example/g00979/laws.FnExactOtReply", spec := "fnExactOtReply", apart := false, narrowed := true }
def FnExactOtReplyUptoSaid : Prop := fnExactOtReplyUptoRow.holds Try.pinned (OpenSpec.upto fnExactOtReplySpec)

/-- 'laws.FnExactPoolCrash', WHERE WHAT IT READS IS OF BULK AT MOST 1048576: true; the input reads as it did. -/
def fnExactPoolCrashUptoRow : OpenClaim := { program := "ytakmgghjpompoaa", sum := "aae57e3dd8dae98b7ac62b407fd5306c6635158067e9e9badb07a7a808e14d6c", func := "loop.example/g00979/laws.FnExactPoolCrash", spec := "fnExactPoolCrash", apart := false, narrowed := true }
def FnExactPoolCrashUptoSaid : Prop := fnExactPoolCrashUptoRow.holds Try.pinned (OpenSpec.upto fnExactPoolCrashSpec)

/-- 'laws.FnExactMul256', WHERE WHAT IT READS IS OF BULK AT MOST 1048576: true; the input reads as it did. -/
def fnExactMul256UptoRow : OpenClaim := { program := "ytakmgghjpompoaa", sum := "aae57e3dd8dae98b7ac62b407fd5306c6635158067e9e9badb07a7a808e14d6c", func := "loop.example/g00979/laws.FnExactMul256", spec := "fnExactMul256", apart := false, narrowed := true }
def FnExactMul256UptoSaid : Prop := fnExactMul256UptoRow.holds Try.pinned (OpenSpec.upto fnExactMul256Spec)

/-- 'laws.FnMul256', WHERE WHAT IT READS IS OF BULK AT MOST 1048576: true; the input reads as it did. -/
def fnMul256UptoRow : OpenClaim := { program := "ytakmgghjpompoaa", sum := "aae57e3dd8dae98b7ac62b407fd5306c6635158067e9e9badb07a7a808e14d6c", func := "loop.example/g00979/laws.FnMul256", spec := "fnMul256", apart := false, narrowed := true }
def FnMul256UptoSaid : Prop := fnMul256UptoRow.holds Try.pinned (OpenSpec.upto fnMul256Spec)

/-- 'laws.FnExactExtMask', WHERE WHAT IT READS IS OF BULK AT MOST 1048576: true; the input reads as it did. -/
def fnExactExtMaskUptoRow : OpenClaim := { program := "ytakmgghjpompoaa", sum := "aae57e3dd8dae98b7ac62b407fd5306c6635158067e9e9badb07a7a808e14d6c", func := "loop.example/g00979/laws.FnExactExtMask", spec := "fnExactExtMask", apart := false, narrowed := true }
def FnExactExtMaskUptoSaid : Prop := fnExactExtMaskUptoRow.holds Try.pinned (OpenSpec.upto fnExactExtMaskSpec)

/-- 'laws.FnExactExtPads', WHERE WHAT IT READS IS OF BULK AT MOST 1048576: true; the input reads as it did. -/
def fnExactExtPadsUptoRow : OpenClaim := { program := "ytakmgghjpompoaa", sum := "aae57e3dd8dae98b7ac62b407fd5306c6635158067e9e9badb07a7a808e14d6c", func := "loop.example/g00979/laws.FnExactExtPads", spec := "fnExactExtPads", apart := false, narrowed := true }
def FnExactExtPadsUptoSaid : Prop := fnExactExtPadsUptoRow.holds Try.pinned (OpenSpec.upto fnExactExtPadsSpec)

/-- 'laws.FnExactExtSend', WHERE WHAT IT READS IS OF BULK AT MOST 1048576: true; the input reads as it did. -/
def fnExactExtSendUptoRow : OpenClaim := { program := "ytakmgghjpompoaa", sum := "aae57e3dd8dae98b7ac62b407fd5306c6635158067e9e9badb07a7a808e14d6c", func := "loop.example/g00979/laws.FnExactExtSend", spec := "fnExactExtSend", apart := false, narrowed := true }
def FnExactExtSendUptoSaid : Prop := fnExactExtSendUptoRow.holds Try.pinned (OpenSpec.upto fnExactExtSendSpec)

/-- 'laws.FnExactExtCheck', WHERE WHAT IT READS IS OF BULK AT MOST 1048576: true; the input reads as it did. -/
def fnExactExtCheckUptoRow : OpenClaim := { program := "ytakmgghjpompoaa", sum := "aae57e3dd8dae98b7ac62b407fd5306c6635158067e9e9badb07a7a808e14d6c", func := "loop.example/g00979/laws.FnExactExtCheck", spec := "fnExactExtCheck", apart := false, narrowed := true }
def FnExactExtCheckUptoSaid : Prop := fnExactExtCheckUptoRow.holds Try.pinned (OpenSpec.upto fnExactExtCheckSpec)

/-- 'laws.FnExactOtDeal', WHERE WHAT IT READS IS OF BULK AT MOST 1048576: true; the input reads as it did. -/
def fnExactOtDealUptoRow : OpenClaim := { program := "ytakmgghjpompoaa", sum := "aae57e3dd8dae98b7ac62b407fd5306c6635158067e9e9badb07a7a808e14d6c", func := "loop.example/g00979/laws.FnExactOtDeal", spec := "fnExactOtDeal", apart := false, narrowed := true }
def FnExactOtDealUptoSaid : Prop := fnExactOtDealUptoRow.holds Try.pinned (OpenSpec.upto fnExactOtDealSpec)

/-- 'laws.FnHiddenChoice', WHERE WHAT IT READS IS OF BULK AT MOST 1048576: true; the input reads as it did. -/
def fnHiddenChoiceUptoRow : OpenClaim := { program := "ytakmgghjpompoaa", sum := "aae57e3dd8dae98b7ac62b407fd5306c6635158067e9e9badb07a7a808e14d6c", func := "loop.example/g00979/laws.FnHiddenChoice", spec := "fnHiddenChoice", apart := false, narrowed := true }
def FnHiddenChoiceUptoSaid : Prop := fnHiddenChoiceUptoRow.holds Try.pinned (OpenSpec.upto fnHiddenChoiceSpec)

/-- 'laws.FnTransferred', WHERE WHAT IT READS IS OF BULK AT MOST 1048576: true; the input reads as it did. -/
def fnTransferredUptoRow : OpenClaim := { program := "ytakmgghjpompoaa", sum := "aae57e3dd8dae98b7ac62b407fd5306c6635158067e9e9badb07a7a808e14d6c", func := "loop.example/g00979/laws.FnTransferred", spec := "fnTransferred", apart := false, narrowed := true }
def FnTransferredUptoSaid : Prop := fnTransferredUptoRow.holds Try.pinned (OpenSpec.upto fnTransferredSpec)

/-- 'laws.FnExactExtRows', WHERE WHAT IT READS IS OF BULK AT MOST 1048576: true; the input reads as it did. -/
def fnExactExtRowsUptoRow : OpenClaim := { program := "ytakmgghjpompoaa", sum := "aae57e3dd8dae98b7ac62b407fd5306c6635158067e9e9badb07a7a808e14d6c", func := "loop.example/g00979/laws.FnExactExtRows", spec := "fnExactExtRows", apart := false, narrowed := true }
def FnExactExtRowsUptoSaid : Prop := fnExactExtRowsUptoRow.holds Try.pinned (OpenSpec.upto fnExactExtRowsSpec)

/-- 'laws.FnExactCountPassing', WHERE WHAT IT READS IS OF BULK AT MOST 1048576: true; the input reads as it did. -/
def fnExactCountPassingUptoRow : OpenClaim := { program := "ytakmgghjpompoaa", sum := "aae57e3dd8dae98b7ac62b407fd5306c6635158067e9e9badb07a7a808e14d6c", func := "loop.example/g00979/laws.FnExactCountPassing", spec := "fnExactCountPassing", apart := false, narrowed := true }
def FnExactCountPassingUptoSaid : Prop := fnExactCountPassingUptoRow.holds Try.pinned (OpenSpec.upto fnExactCountPassingSpec)

/-- 'laws.FnExtended', WHERE WHAT IT READS IS OF BULK AT MOST 1048576: true; the input reads as it did. -/
def fnExtendedUptoRow : OpenClaim := { program := "ytakmgghjpompoaa", sum := "aae57e3dd8dae98b7ac62b407fd5306c6635158067e9e9badb07a7a808e14d6c", func := "loop.example/g00979/laws.FnExtended", spec := "fnExtended", apart := false, narrowed := true }
def FnExtendedUptoSaid : Prop := fnExtendedUptoRow.holds Try.pinned (OpenSpec.upto fnExtendedSpec)

/-- 'laws.FnConsistent', WHERE WHAT IT READS IS OF BULK AT MOST 1048576: true; the input reads as it did. -/
def fnConsistentUptoRow : OpenClaim := { program := "ytakmgghjpompoaa", sum := "aae57e3dd8dae98b7ac62b407fd5306c6635158067e9e9badb07a7a808e14d6c", func := "loop.example/g00979/laws.FnConsistent", spec := "fnConsistent", apart := false, narrowed := true }
def FnConsistentUptoSaid : Prop := fnConsistentUptoRow.holds Try.pinned (OpenSpec.upto fnConsistentSpec)

end Rows
end Go.Proofs.Ytakmgghjpompoaa
