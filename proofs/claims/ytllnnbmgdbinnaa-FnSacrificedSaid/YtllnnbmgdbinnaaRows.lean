/-
  No cell of these rows narrows 'for every input' (looked for: loops, veiled, ifaces, maps, wideKeys, modest, calm, conditions, laid).
  DERIVED. THE GIVEN ROWS OF THIS SEAT. 23 by the template 'for every input the law returns true; each argument reads behind the call as it read before'; 0 by the template 'total and deterministic' (their statements: YtllnnbmgdbinnaaTotals.lean).
  GIVEN WITH THE SEED: the statements are not yours to turn. If you find one false, say at which input.
  Laid BY PROGRAM, IN A SANDBOX (cutbox-rows.mjs): the forced cells as the released guide's own fill.sh prints them over the translation d87693c9ba29709a… (all of the seat's roots in one cut). By AI agents, Wed Nov 11 2026. No macro, syntax, notation, axiom, sorry.
-/
import Derived.Test.YtllnnbmgdbinnaaChecked
import GoSem.Claim
import GoSem.ClaimJoined
import GoSem.ClaimMapViews
import Derived.JoinedTies
import Derived.KernelRfl
namespace Go.Proofs.Ytllnnbmgdbinnaa
/- THE CELL 'sum', in the pinned program and in every row, IS THE sha256 OF THE DUMP (.gsa) THAT YtllnnbmgdbinnaaProg.lean LOADS. Nothing in Lean hashes anything: it is a label: what it is worth is what the hold of that sum in a sandbox is worth. -/
noncomputable def Try.pinned : Pinned := { name := "ytllnnbmgdbinnaa", sum := "d87693c9ba29709ab24edc65bc9f1a8a57a00671c7b101f83152d84b0ad8f53d", checked := Try.checked }
namespace Rows
def none {H : Type} : Left H := { results := [], args := [] }

/-- 'laws.FnExactCountForgeries': WHATEVER THE INPUT: true; the input reads as it did. -/
def fnExactCountForgeriesSpec : ChangeSpec := { name := "fnExactCountForgeries", fn := fun _ => fun
  | [d1, d2, d3] => { results := [.lit (.bool true)], args := [d1, d2, d3] }
  | _ => none }
def fnExactCountForgeriesRow : OpenClaim := { program := "ytllnnbmgdbinnaa", sum := "d87693c9ba29709ab24edc65bc9f1a8a57a00671c7b101f83152d84b0ad8f53d", func := "loop.example/g00979/laws.FnExactCountForgeries", spec := "fnExactCountForgeries", apart := false }
def FnExactCountForgeriesSaid : Prop := fnExactCountForgeriesRow.holds Try.pinned (OpenSpec.ofChange fnExactCountForgeriesSpec)

/-- ITS FALSE NEIGHBOUR: 'it returns false'. Refute it at one input. -/
def fnExactCountForgeriesWrong : ChangeSpec := { name := "fnExactCountForgeries", fn := fun _ => fun
  | [d1, d2, d3] => { results := [.lit (.bool false)], args := [d1, d2, d3] }
  | _ => none }
def FnExactCountForgeriesWrongFalsely : Prop := fnExactCountForgeriesRow.holds Try.pinned (OpenSpec.ofChange fnExactCountForgeriesWrong)

/-- 'laws.FnExactCountViews': WHATEVER THE INPUT: true; the input reads as it did. -/
def fnExactCountViewsSpec : ChangeSpec := { name := "fnExactCountViews", fn := fun _ => fun
  | [d1, d2, d3] => { results := [.lit (.bool true)], args := [d1, d2, d3] }
  | _ => none }
def fnExactCountViewsRow : OpenClaim := { program := "ytllnnbmgdbinnaa", sum := "d87693c9ba29709ab24edc65bc9f1a8a57a00671c7b101f83152d84b0ad8f53d", func := "loop.example/g00979/laws.FnExactCountViews", spec := "fnExactCountViews", apart := false }
def FnExactCountViewsSaid : Prop := fnExactCountViewsRow.holds Try.pinned (OpenSpec.ofChange fnExactCountViewsSpec)

/-- ITS FALSE NEIGHBOUR: 'it returns false'. Refute it at one input. -/
def fnExactCountViewsWrong : ChangeSpec := { name := "fnExactCountViews", fn := fun _ => fun
  | [d1, d2, d3] => { results := [.lit (.bool false)], args := [d1, d2, d3] }
  | _ => none }
def FnExactCountViewsWrongFalsely : Prop := fnExactCountViewsRow.holds Try.pinned (OpenSpec.ofChange fnExactCountViewsWrong)

/-- 'laws.FnOpenings': WHATEVER THE INPUT: true; the input reads as it did. -/
def fnOpeningsSpec : ChangeSpec := { name := "fnOpenings", fn := fun _ => fun
  | [d] => { results := [.lit (.bool true)], args := [d] }
  | _ => none }
def fnOpeningsRow : OpenClaim := { program := "ytllnnbmgdbinnaa", sum := "d87693c9ba29709ab24edc65bc9f1a8a57a00671c7b101f83152d84b0ad8f53d", func := "loop.example/g00979/laws.FnOpenings", spec := "fnOpenings", apart := false }
def FnOpeningsSaid : Prop := fnOpeningsRow.holds Try.pinned (OpenSpec.ofChange fnOpeningsSpec)

/-- ITS FALSE NEIGHBOUR: 'it returns false'. Refute it at one input. -/
def fnOpeningsWrong : ChangeSpec := { name := "fnOpenings", fn := fun _ => fun
  | [d] => { results := [.lit (.bool false)], args := [d] }
  | _ => none }
def FnOpeningsWrongFalsely : Prop := fnOpeningsRow.holds Try.pinned (OpenSpec.ofChange fnOpeningsWrong)

/-- 'laws.FnExactKeysOk': WHATEVER THE INPUT: true; the input reads as it did. -/
def fnExactKeysOkSpec : ChangeSpec := { name := "fnExactKeysOk", fn := fun _ => fun
  | [d] => { results := [.lit (.bool true)], args := [d] }
  | _ => none }
def fnExactKeysOkRow : OpenClaim := { program := "ytllnnbmgdbinnaa", sum := "d87693c9ba29709ab24edc65bc9f1a8a57a00671c7b101f83152d84b0ad8f53d", func := "loop.example/g00979/laws.FnExactKeysOk", spec := "fnExactKeysOk", apart := false }
def FnExactKeysOkSaid : Prop := fnExactKeysOkRow.holds Try.pinned (OpenSpec.ofChange fnExactKeysOkSpec)

/-- ITS FALSE NEIGHBOUR: 'it returns false'. Refute it at one input. -/
def fnExactKeysOkWrong : ChangeSpec := { name := "fnExactKeysOk", fn := fun _ => fun
  | [d] => { results := [.lit (.bool false)], args := [d] }
  | _ => none }
def FnExactKeysOkWrongFalsely : Prop := fnExactKeysOkRow.holds Try.pinned (OpenSpec.ofChange fnExactKeysOkWrong)

/-- 'laws.FnForged': WHATEVER THE INPUT: true; the input reads as it did. -/
def fnForgedSpec : ChangeSpec := { name := "fnForged", fn := fun _ => fun
  | [d] => { results := [.lit (.bool true)], args := [d] }
  | _ => none }
def fnForgedRow : OpenClaim := { program := "ytllnnbmgdbinnaa", sum := "d87693c9ba29709ab24edc65bc9f1a8a57a00671c7b101f83152d84b0ad8f53d", func := "loop.example/g00979/laws.FnForged", spec := "fnForged", apart := false }
def FnForgedSaid : Prop := fnForgedRow.holds Try.pinned (OpenSpec.ofChange fnForgedSpec)

/-- ITS FALSE NEIGHBOUR: 'it returns false'. Refute it at one input. -/
def fnForgedWrong : ChangeSpec := { name := "fnForged", fn := fun _ => fun
  | [d] => { results := [.lit (.bool false)], args := [d] }
  | _ => none }
def FnForgedWrongFalsely : Prop := fnForgedRow.holds Try.pinned (OpenSpec.ofChange fnForgedWrong)

/-- 'laws.FnExactMacCheck': WHATEVER THE INPUT: true; the input reads as it did. -/
def fnExactMacCheckSpec : ChangeSpec := { name := "fnExactMacCheck", fn := fun _ => fun
  | [d1, d2, d3] => { results := [.lit (.bool true)], args := [d1, d2, d3] }
  | _ => none }
def fnExactMacCheckRow : OpenClaim := { program := "ytllnnbmgdbinnaa", sum := "d87693c9ba29709ab24edc65bc9f1a8a57a00671c7b101f83152d84b0ad8f53d", func := "loop.example/g00979/laws.FnExactMacCheck", spec := "fnExactMacCheck", apart := false }
def FnExactMacCheckSaid : Prop := fnExactMacCheckRow.holds Try.pinned (OpenSpec.ofChange fnExactMacCheckSpec)

/-- ITS FALSE NEIGHBOUR: 'it returns false'. Refute it at one input. -/
def fnExactMacCheckWrong : ChangeSpec := { name := "fnExactMacCheck", fn := fun _ => fun
  | [d1, d2, d3] => { results := [.lit (.bool false)], args := [d1, d2, d3] }
  | _ => none }
def FnExactMacCheckWrongFalsely : Prop := fnExactMacCheckRow.holds Try.pinned (OpenSpec.ofChange fnExactMacCheckWrong)

/-- 'laws.FnExactAuthOk': WHATEVER THE INPUT: true; the input reads as it did. -/
def fnExactAuthOkSpec : ChangeSpec := { name := "fnExactAuthOk", fn := fun _ => fun
  | [d1, d2] => { results := [.lit (.bool true)], args := [d1, d2] }
  | _ => none }
def fnExactAuthOkRow : OpenClaim := { program := "ytllnnbmgdbinnaa", sum := "d87693c9ba29709ab24edc65bc9f1a8a57a00671c7b101f83152d84b0ad8f53d", func := "loop.example/g00979/laws.FnExactAuthOk", spec := "fnExactAuthOk", apart := false }
def FnExactAuthOkSaid : Prop := fnExactAuthOkRow.holds Try.pinned (OpenSpec.ofChange fnExactAuthOkSpec)

/-- ITS FALSE NEIGHBOUR: 'it returns false'. Refute it at one input. -/
def fnExactAuthOkWrong : ChangeSpec := { name := "fnExactAuthOk", fn := fun _ => fun
  | [d1, d2] => { results := [.lit (.bool false)], args := [d1, d2] }
  | _ => none }
def FnExactAuthOkWrongFalsely : Prop := fnExactAuthOkRow.holds Try.pinned (OpenSpec.ofChange fnExactAuthOkWrong)

/-- 'laws.FnExactKeysNew': WHATEVER THE INPUT: true; the input reads as it did. -/
def fnExactKeysNewSpec : ChangeSpec := { name := "fnExactKeysNew", fn := fun _ => fun
  | [d1, d2, d3] => { results := [.lit (.bool true)], args := [d1, d2, d3] }
  | _ => none }
def fnExactKeysNewRow : OpenClaim := { program := "ytllnnbmgdbinnaa", sum := "d87693c9ba29709ab24edc65bc9f1a8a57a00671c7b101f83152d84b0ad8f53d", func := "loop.example/g00979/laws.FnExactKeysNew", spec := "fnExactKeysNew", apart := false }
def FnExactKeysNewSaid : Prop := fnExactKeysNewRow.holds Try.pinned (OpenSpec.ofChange fnExactKeysNewSpec)

/-- ITS FALSE NEIGHBOUR: 'it returns false'. Refute it at one input. -/
def fnExactKeysNewWrong : ChangeSpec := { name := "fnExactKeysNew", fn := fun _ => fun
  | [d1, d2, d3] => { results := [.lit (.bool false)], args := [d1, d2, d3] }
  | _ => none }
def FnExactKeysNewWrongFalsely : Prop := fnExactKeysNewRow.holds Try.pinned (OpenSpec.ofChange fnExactKeysNewWrong)

/-- 'laws.FnExactAuthScale': WHATEVER THE INPUT: true; the input reads as it did. -/
def fnExactAuthScaleSpec : ChangeSpec := { name := "fnExactAuthScale", fn := fun _ => fun
  | [d1, d2, d3] => { results := [.lit (.bool true)], args := [d1, d2, d3] }
  | _ => none }
def fnExactAuthScaleRow : OpenClaim := { program := "ytllnnbmgdbinnaa", sum := "d87693c9ba29709ab24edc65bc9f1a8a57a00671c7b101f83152d84b0ad8f53d", func := "loop.example/g00979/laws.FnExactAuthScale", spec := "fnExactAuthScale", apart := false }
def FnExactAuthScaleSaid : Prop := fnExactAuthScaleRow.holds Try.pinned (OpenSpec.ofChange fnExactAuthScaleSpec)

/-- ITS FALSE NEIGHBOUR: 'it returns false'. Refute it at one input. -/
def fnExactAuthScaleWrong : ChangeSpec := { name := "fnExactAuthScale", fn := fun _ => fun
  | [d1, d2, d3] => { results := [.lit (.bool false)], args := [d1, d2, d3] }
  | _ => none }
def FnExactAuthScaleWrongFalsely : Prop := fnExactAuthScaleRow.holds Try.pinned (OpenSpec.ofChange fnExactAuthScaleWrong)

/-- 'laws.FnExactAuthAdd': WHATEVER THE INPUT: true; the input reads as it did. -/
def fnExactAuthAddSpec : ChangeSpec := { name := "fnExactAuthAdd", fn := fun _ => fun
  | [d1, d2, d3] => { results := [.lit (.bool true)], args := [d1, d2, d3] }
  | _ => none }
def fnExactAuthAddRow : OpenClaim := { program := "ytllnnbmgdbinnaa", sum := "d87693c9ba29709ab24edc65bc9f1a8a57a00671c7b101f83152d84b0ad8f53d", func := "loop.example/g00979/laws.FnExactAuthAdd", spec := "fnExactAuthAdd", apart := false }
def FnExactAuthAddSaid : Prop := fnExactAuthAddRow.holds Try.pinned (OpenSpec.ofChange fnExactAuthAddSpec)

/-- ITS FALSE NEIGHBOUR: 'it returns false'. Refute it at one input. -/
def fnExactAuthAddWrong : ChangeSpec := { name := "fnExactAuthAdd", fn := fun _ => fun
  | [d1, d2, d3] => { results := [.lit (.bool false)], args := [d1, d2, d3] }
  | _ => none }
def FnExactAuthAddWrongFalsely : Prop := fnExactAuthAddRow.holds Try.pinned (OpenSpec.ofChange fnExactAuthAddWrong)

/-- 'laws.FnExactTripleOk': WHATEVER THE INPUT: true; the input reads as it did. -/
def fnExactTripleOkSpec : ChangeSpec := { name := "fnExactTripleOk", fn := fun _ => fun
  | [d1, d2] => { results := [.lit (.bool true)], args := [d1, d2] }
  | _ => none }
def fnExactTripleOkRow : OpenClaim := { program := "ytllnnbmgdbinnaa", sum := "d87693c9ba29709ab24edc65bc9f1a8a57a00671c7b101f83152d84b0ad8f53d", func := "loop.example/g00979/laws.FnExactTripleOk", spec := "fnExactTripleOk", apart := false }
def FnExactTripleOkSaid : Prop := fnExactTripleOkRow.holds Try.pinned (OpenSpec.ofChange fnExactTripleOkSpec)

/-- ITS FALSE NEIGHBOUR: 'it returns false'. Refute it at one input. -/
def fnExactTripleOkWrong : ChangeSpec := { name := "fnExactTripleOk", fn := fun _ => fun
  | [d1, d2] => { results := [.lit (.bool false)], args := [d1, d2] }
  | _ => none }
def FnExactTripleOkWrongFalsely : Prop := fnExactTripleOkRow.holds Try.pinned (OpenSpec.ofChange fnExactTripleOkWrong)

/-- 'laws.FnExactTripleOpen': WHATEVER THE INPUT: true; the input reads as it did. -/
def fnExactTripleOpenSpec : ChangeSpec := { name := "fnExactTripleOpen", fn := fun _ => fun
  | [d1, d2, d3, d4] => { results := [.lit (.bool true)], args := [d1, d2, d3, d4] }
  | _ => none }
def fnExactTripleOpenRow : OpenClaim := { program := "ytllnnbmgdbinnaa", sum := "d87693c9ba29709ab24edc65bc9f1a8a57a00671c7b101f83152d84b0ad8f53d", func := "loop.example/g00979/laws.FnExactTripleOpen", spec := "fnExactTripleOpen", apart := false }
def FnExactTripleOpenSaid : Prop := fnExactTripleOpenRow.holds Try.pinned (OpenSpec.ofChange fnExactTripleOpenSpec)

/-- ITS FALSE NEIGHBOUR: 'it returns false'. Refute it at one input. -/
def fnExactTripleOpenWrong : ChangeSpec := { name := "fnExactTripleOpen", fn := fun _ => fun
  | [d1, d2, d3, d4] => { results := [.lit (.bool false)], args := [d1, d2, d3, d4] }
  | _ => none }
def FnExactTripleOpenWrongFalsely : Prop := fnExactTripleOpenRow.holds Try.pinned (OpenSpec.ofChange fnExactTripleOpenWrong)

/-- 'laws.FnExactSacrificeOpen': WHATEVER THE INPUT: true; the input reads as it did. -/
def fnExactSacrificeOpenSpec : ChangeSpec := { name := "fnExactSacrificeOpen", fn := fun _ => fun
  | [d1, d2, d3, d4] => { results := [.lit (.bool true)], args := [d1, d2, d3, d4] }
  | _ => none }
def fnExactSacrificeOpenRow : OpenClaim := { program := "ytllnnbmgdbinnaa", sum := "d87693c9ba29709ab24edc65bc9f1a8a57a00671c7b101f83152d84b0ad8f53d", func := "loop.example/g00979/laws.FnExactSacrificeOpen", spec := "fnExactSacrificeOpen", apart := false }
def FnExactSacrificeOpenSaid : Prop := fnExactSacrificeOpenRow.holds Try.pinned (OpenSpec.ofChange fnExactSacrificeOpenSpec)

/-- ITS FALSE NEIGHBOUR: 'it returns false'. Refute it at one input. -/
def fnExactSacrificeOpenWrong : ChangeSpec := { name := "fnExactSacrificeOpen", fn := fun _ => fun
  | [d1, d2, d3, d4] => { results := [.lit (.bool false)], args := [d1, d2, d3, d4] }
  | _ => none }
def FnExactSacrificeOpenWrongFalsely : Prop := fnExactSacrificeOpenRow.holds Try.pinned (OpenSpec.ofChange fnExactSacrificeOpenWrong)

/-- 'laws.FnExactSacrificeOk': WHATEVER THE INPUT: true; the input reads as it did. -/
def fnExactSacrificeOkSpec : ChangeSpec := { name := "fnExactSacrificeOk", fn := fun _ => fun
  | [d1, d2, d3, d4] => { results := [.lit (.bool true)], args := [d1, d2, d3, d4] }
  | _ => none }
def fnExactSacrificeOkRow : OpenClaim := { program := "ytllnnbmgdbinnaa", sum := "d87693c9ba29709ab24edc65bc9f1a8a57a00671c7b101f83152d84b0ad8f53d", func := "loop.example/g00979/laws.FnExactSacrificeOk", spec := "fnExactSacrificeOk", apart := false }
def FnExactSacrificeOkSaid : Prop := fnExactSacrificeOkRow.holds Try.pinned (OpenSpec.ofChange fnExactSacrificeOkSpec)

/-- ITS FALSE NEIGHBOUR: 'it returns false'. Refute it at one input. -/
def fnExactSacrificeOkWrong : ChangeSpec := { name := "fnExactSacrificeOk", fn := fun _ => fun
  | [d1, d2, d3, d4] => { results := [.lit (.bool false)], args := [d1, d2, d3, d4] }
  | _ => none }
def FnExactSacrificeOkWrongFalsely : Prop := fnExactSacrificeOkRow.holds Try.pinned (OpenSpec.ofChange fnExactSacrificeOkWrong)

/-- 'laws.FnSacrificed': WHATEVER THE INPUT: true; the input reads as it did. -/
def fnSacrificedSpec : ChangeSpec := { name := "fnSacrificed", fn := fun _ => fun
  | [d] => { results := [.lit (.bool true)], args := [d] }
  | _ => none }
def fnSacrificedRow : OpenClaim := { program := "ytllnnbmgdbinnaa", sum := "d87693c9ba29709ab24edc65bc9f1a8a57a00671c7b101f83152d84b0ad8f53d", func := "loop.example/g00979/laws.FnSacrificed", spec := "fnSacrificed", apart := false }
def FnSacrificedSaid : Prop := fnSacrificedRow.holds Try.pinned (OpenSpec.ofChange fnSacrificedSpec)

/-- ITS FALSE NEIGHBOUR: 'it returns false'. Refute it at one input. -/
def fnSacrificedWrong : ChangeSpec := { name := "fnSacrificed", fn := fun _ => fun
  | [d] => { results := [.lit (.bool false)], args := [d] }
  | _ => none }
def FnSacrificedWrongFalsely : Prop := fnSacrificedRow.holds Try.pinned (OpenSpec.ofChange fnSacrificedWrong)

/-- 'laws.FnExactAuthConst': WHATEVER THE INPUT: true; the input reads as it did. -/
def fnExactAuthConstSpec : ChangeSpec := { name := "fnExactAuthConst", fn := fun _ => fun
  | [d1, d2, d3] => { results := [.lit (.bool true)], args := [d1, d2, d3] }
  | _ => none }
def fnExactAuthConstRow : OpenClaim := { program := "ytllnnbmgdbinnaa", sum := "d87693c9ba29709ab24edc65bc9f1a8a57a00671c7b101f83152d84b0ad8f53d", func := "loop.example/g00979/laws.FnExactAuthConst", spec := "fnExactAuthConst", apart := false }
def FnExactAuthConstSaid : Prop := fnExactAuthConstRow.holds Try.pinned (OpenSpec.ofChange fnExactAuthConstSpec)

/-- ITS FALSE NEIGHBOUR: 'it returns false'. Refute it at one input. -/
def fnExactAuthConstWrong : ChangeSpec := { name := "fnExactAuthConst", fn := fun _ => fun
  | [d1, d2, d3] => { results := [.lit (.bool false)], args := [d1, d2, d3] }
  | _ => none }
def FnExactAuthConstWrongFalsely : Prop := fnExactAuthConstRow.holds Try.pinned (OpenSpec.ofChange fnExactAuthConstWrong)

/-- 'laws.FnExactCountPassingR': WHATEVER THE INPUT: true; the input reads as it did. -/
def fnExactCountPassingRSpec : ChangeSpec := { name := "fnExactCountPassingR", fn := fun _ => fun
  | [d1, d2, d3] => { results := [.lit (.bool true)], args := [d1, d2, d3] }
  | _ => none }
def fnExactCountPassingRRow : OpenClaim := { program := "ytllnnbmgdbinnaa", sum := "d87693c9ba29709ab24edc65bc9f1a8a57a00671c7b101f83152d84b0ad8f53d", func := "loop.example/g00979/laws.FnExactCountPassingR", spec := "fnExactCountPassingR", apart := false }
def FnExactCountPassingRSaid : Prop := fnExactCountPassingRRow.holds Try.pinned (OpenSpec.ofChange fnExactCountPassingRSpec)

/-- ITS FALSE NEIGHBOUR: 'it returns false'. Refute it at one input. -/
def fnExactCountPassingRWrong : ChangeSpec := { name := "fnExactCountPassingR", fn := fun _ => fun
  | [d1, d2, d3] => { results := [.lit (.bool false)], args := [d1, d2, d3] }
  | _ => none }
def FnExactCountPassingRWrongFalsely : Prop := fnExactCountPassingRRow.holds Try.pinned (OpenSpec.ofChange fnExactCountPassingRWrong)

/-- 'laws.FnDoubled': WHATEVER THE INPUT: true; the input reads as it did. -/
def fnDoubledSpec : ChangeSpec := { name := "fnDoubled", fn := fun _ => fun
  | [d] => { results := [.lit (.bool true)], args := [d] }
  | _ => none }
def fnDoubledRow : OpenClaim := { program := "ytllnnbmgdbinnaa", sum := "d87693c9ba29709ab24edc65bc9f1a8a57a00671c7b101f83152d84b0ad8f53d", func := "loop.example/g00979/laws.FnDoubled", spec := "fnDoubled", apart := false }
def FnDoubledSaid : Prop := fnDoubledRow.holds Try.pinned (OpenSpec.ofChange fnDoubledSpec)

/-- ITS FALSE NEIGHBOUR: 'it returns false'. Refute it at one input. -/
def fnDoubledWrong : ChangeSpec := { name := "fnDoubled", fn := fun _ => fun
  | [d] => { results := [.lit (.bool false)], args := [d] }
  | _ => none }
def FnDoubledWrongFalsely : Prop := fnDoubledRow.holds Try.pinned (OpenSpec.ofChange fnDoubledWrong)

/-- 'laws.FnExactAuthNew': WHATEVER THE INPUT: true; the input reads as it did. -/
def fnExactAuthNewSpec : ChangeSpec := { name := "fnExactAuthNew", fn := fun _ => fun
  | [d1, d2, d3] => { results := [.lit (.bool true)], args := [d1, d2, d3] }
  | _ => none }
def fnExactAuthNewRow : OpenClaim := { program := "ytllnnbmgdbinnaa", sum := "d87693c9ba29709ab24edc65bc9f1a8a57a00671c7b101f83152d84b0ad8f53d", func := "loop.example/g00979/laws.FnExactAuthNew", spec := "fnExactAuthNew", apart := false }
def FnExactAuthNewSaid : Prop := fnExactAuthNewRow.holds Try.pinned (OpenSpec.ofChange fnExactAuthNewSpec)

/-- ITS FALSE NEIGHBOUR: 'it returns false'. Refute it at one input. -/
def fnExactAuthNewWrong : ChangeSpec := { name := "fnExactAuthNew", fn := fun _ => fun
  | [d1, d2, d3] => { results := [.lit (.bool false)], args := [d1, d2, d3] }
  | _ => none }
def FnExactAuthNewWrongFalsely : Prop := fnExactAuthNewRow.holds Try.pinned (OpenSpec.ofChange fnExactAuthNewWrong)

/-- 'laws.FnAuthentic': WHATEVER THE INPUT: true; the input reads as it did. -/
def fnAuthenticSpec : ChangeSpec := { name := "fnAuthentic", fn := fun _ => fun
  | [d] => { results := [.lit (.bool true)], args := [d] }
  | _ => none }
def fnAuthenticRow : OpenClaim := { program := "ytllnnbmgdbinnaa", sum := "d87693c9ba29709ab24edc65bc9f1a8a57a00671c7b101f83152d84b0ad8f53d", func := "loop.example/g00979/laws.FnAuthentic", spec := "fnAuthentic", apart := false }
def FnAuthenticSaid : Prop := fnAuthenticRow.holds Try.pinned (OpenSpec.ofChange fnAuthenticSpec)

/-- ITS FALSE NEIGHBOUR: 'it returns false'. Refute it at one input. -/
def fnAuthenticWrong : ChangeSpec := { name := "fnAuthentic", fn := fun _ => fun
  | [d] => { results := [.lit (.bool false)], args := [d] }
  | _ => none }
def FnAuthenticWrongFalsely : Prop := fnAuthenticRow.holds Try.pinned (OpenSpec.ofChange fnAuthenticWrong)

/-- 'laws.FnExactTripleUse': WHATEVER THE INPUT: true; the input reads as it did. -/
def fnExactTripleUseSpec : ChangeSpec := { name := "fnExactTripleUse", fn := fun _ => fun
  | [d1, d2, d3] => { results := [.lit (.bool true)], args := [d1, d2, d3] }
  | _ => none }
def fnExactTripleUseRow : OpenClaim := { program := "ytllnnbmgdbinnaa", sum := "d87693c9ba29709ab24edc65bc9f1a8a57a00671c7b101f83152d84b0ad8f53d", func := "loop.example/g00979/laws.FnExactTripleUse", spec := "fnExactTripleUse", apart := false }
def FnExactTripleUseSaid : Prop := fnExactTripleUseRow.holds Try.pinned (OpenSpec.ofChange fnExactTripleUseSpec)

/-- ITS FALSE NEIGHBOUR: 'it returns false'. Refute it at one input. -/
def fnExactTripleUseWrong : ChangeSpec := { name := "fnExactTripleUse", fn := fun _ => fun
  | [d1, d2, d3] => { results := [.lit (.bool false)], args := [d1, d2, d3] }
  | _ => none }
def FnExactTripleUseWrongFalsely : Prop := fnExactTripleUseRow.holds Try.pinned (OpenSpec.ofChange fnExactTripleUseWrong)

/-- 'laws.FnExactTripleNew': WHATEVER THE INPUT: true; the input reads as it did. -/
def fnExactTripleNewSpec : ChangeSpec := { name := "fnExactTripleNew", fn := fun _ => fun
  | [d1, d2] => { results := [.lit (.bool true)], args := [d1, d2] }
  | _ => none }
def fnExactTripleNewRow : OpenClaim := { program := "ytllnnbmgdbinnaa", sum := "d87693c9ba29709ab24edc65bc9f1a8a57a00671c7b101f83152d84b0ad8f53d", func := "loop.example/g00979/laws.FnExactTripleNew", spec := "fnExactTripleNew", apart := false }
def FnExactTripleNewSaid : Prop := fnExactTripleNewRow.holds Try.pinned (OpenSpec.ofChange fnExactTripleNewSpec)

/-- ITS FALSE NEIGHBOUR: 'it returns false'. Refute it at one input. -/
def fnExactTripleNewWrong : ChangeSpec := { name := "fnExactTripleNew", fn := fun _ => fun
  | [d1, d2] => { results := [.lit (.bool false)], args := [d1, d2] }
  | _ => none }
def FnExactTripleNewWrongFalsely : Prop := fnExactTripleNewRow.holds Try.pinned (OpenSpec.ofChange fnExactTripleNewWrong)

/-- 'laws.FnMultiplied': WHATEVER THE INPUT: true; the input reads as it did. -/
def fnMultipliedSpec : ChangeSpec := { name := "fnMultiplied", fn := fun _ => fun
  | [d] => { results := [.lit (.bool true)], args := [d] }
  | _ => none }
def fnMultipliedRow : OpenClaim := { program := "ytllnnbmgdbinnaa", sum := "d87693c9ba29709ab24edc65bc9f1a8a57a00671c7b101f83152d84b0ad8f53d", func := "loop.example/g00979/laws.FnMultiplied", spec := "fnMultiplied", apart := false }
def FnMultipliedSaid : Prop := fnMultipliedRow.holds Try.pinned (OpenSpec.ofChange fnMultipliedSpec)

/-- ITS FALSE NEIGHBOUR: 'it returns false'. Refute it at one input. -/
def fnMultipliedWrong : ChangeSpec := { name := "fnMultiplied", fn := fun _ => fun
  | [d] => { results := [.lit (.bool false)], args := [d] }
  | _ => none }
def FnMultipliedWrongFalsely : Prop := fnMultipliedRow.holds Try.pinned (OpenSpec.ofChange fnMultipliedWrong)

/- THE SECOND FORM. 'bulk': how many values and letters a reading holds, each counted each time it is reached (what is shared counts as often as it is met; a slice's spare places count too). A statement '..UptoSaid' is the law's where the arguments, and the package variables that the reading takes, are together of bulk at most 1048576: NARROWER than '..Said'. Prove '..Said' where nothing that the law and all that it calls make is longer than what came in: it says more and counts as full. Else prove '..UptoSaid'. A law counts once. -/
mutual
def uptoBulk {H : Type} : DataW H → Nat
  | .lit (.string bytes) => bytes.length + 1
  | .lit _ => 1
  | .nil => 1
  | .ptr d => uptoBulk d + 1
  | .slice elems spare => uptoBulkAll elems + uptoBulkAll spare + 1
  | .agg parts => uptoBulkAll parts + 1
  | .iface _ d => uptoBulk d + 1
  | .map entries => uptoBulkEntries entries + 1
  | .held _ => 1
def uptoBulkAll {H : Type} : List (DataW H) → Nat
  | [] => 0
  | d :: r => uptoBulk d + uptoBulkAll r
def uptoBulkEntries {H : Type} : List (Lit × DataW H) → Nat
  | [] => 0
  | x :: r => uptoBulkEntry x + uptoBulkEntries r
def uptoBulkEntry {H : Type} : Lit × DataW H → Nat
  | (.string bytes, d) => bytes.length + uptoBulk d + 1
  | (_, d) => uptoBulk d + 1
 end
def uptoSmall : (H : Type) → List (DataW H) → Bool := fun _ ds => decide (uptoBulkAll ds ≤ 1048576)
def OpenSpec.upto (s : _root_.Go.ChangeSpec) : _root_.Go.OpenSpec := { _root_.Go.OpenSpec.ofChange s with cond := some uptoSmall }

/-- 'laws.FnExactCountForgeries', WHERE WHAT IT READS IS OF BULK AT MOST 1048576: true; the input reads as it did. -/
def fnExactCountForgeriesUptoRow : OpenClaim := { program := "ytllnnbmgdbinnaa", sum := "d87693c9ba29709ab24edc65bc9f1a8a57a00671c7b101f83152d84b0ad8f53d", func := "loop.example/g00979/laws.FnExactCountForgeries", spec := "fnExactCountForgeries", apart := false, narrowed := true }
def FnExactCountForgeriesUptoSaid : Prop := fnExactCountForgeriesUptoRow.holds Try.pinned (OpenSpec.upto fnExactCountForgeriesSpec)

/-- 'laws.FnExactCountViews', WHERE WHAT IT READS IS OF BULK AT MOST 1048576: true; the input reads as it did. -/
def fnExactCountViewsUptoRow : OpenClaim := { program := "ytllnnbmgdbinnaa", sum := "d87693c9ba29709ab24edc65bc9f1a8a57a00671c7b101f83152d84b0ad8f53d", func := "loop.example/g00979/laws.FnExactCountViews", spec := "fnExactCountViews", apart := false, narrowed := true }
def FnExactCountViewsUptoSaid : Prop := fnExactCountViewsUptoRow.holds Try.pinned (OpenSpec.upto fnExactCountViewsSpec)

/-- 'laws.FnOpenings', WHERE WHAT IT READS IS OF BULK AT MOST 1048576: true; the input reads as it did. -/
def fnOpeningsUptoRow : OpenClaim := { program := "ytllnnbmgdbinnaa", sum := "d87693c9ba29709ab24edc65bc9f1a8a57a00671c7b101f83152d84b0ad8f53d", func := "loop.example/g00979/laws.FnOpenings", spec := "fnOpenings", apart := false, narrowed := true }
def FnOpeningsUptoSaid : Prop := fnOpeningsUptoRow.holds Try.pinned (OpenSpec.upto fnOpeningsSpec)

/-- 'laws.FnExactKeysOk', WHERE WHAT IT READS IS OF BULK AT MOST 1048576: true; the input reads as it did. -/
def fnExactKeysOkUptoRow : OpenClaim := { program := "ytllnnbmgdbinnaa", sum := "d87693c9ba29709ab24edc65bc9f1a8a57a00671c7b101f83152d84b0ad8f53d", func := "loop.example/g00979/laws.FnExactKeysOk", spec := "fnExactKeysOk", apart := false, narrowed := true }
def FnExactKeysOkUptoSaid : Prop := fnExactKeysOkUptoRow.holds Try.pinned (OpenSpec.upto fnExactKeysOkSpec)

/-- 'laws.FnForged', WHERE WHAT IT READS IS OF BULK AT MOST 1048576: true; the input reads as it did. -/
def fnForgedUptoRow : OpenClaim := { program := "ytllnnbmgdbinnaa", sum := "d87693c9ba29709ab24edc65bc9f1a8a57a00671c7b101f83152d84b0ad8f53d", func := "loop.example/g00979/laws.FnForged", spec := "fnForged", apart := false, narrowed := true }
def FnForgedUptoSaid : Prop := fnForgedUptoRow.holds Try.pinned (OpenSpec.upto fnForgedSpec)

/-- 'laws.FnExactMacCheck', WHERE WHAT IT READS IS OF BULK AT MOST 1048576: true; the input reads as it did. -/
def fnExactMacCheckUptoRow : OpenClaim := { program := "ytllnnbmgdbinnaa", sum := "d87693c9ba29709ab24edc65bc9f1a8a57a00671c7b101f83152d84b0ad8f53d", func := "loop.example/g00979/laws.FnExactMacCheck", spec := "fnExactMacCheck", apart := false, narrowed := true }
def FnExactMacCheckUptoSaid : Prop := fnExactMacCheckUptoRow.holds Try.pinned (OpenSpec.upto fnExactMacCheckSpec)

/-- 'laws.FnExactAuthOk', WHERE WHAT IT READS IS OF BULK AT MOST 1048576: true; the input reads as it did. -/
def fnExactAuthOkUptoRow : OpenClaim := { program := "ytllnnbmgdbinnaa", sum := "d87693c9ba29709ab24edc65bc9f1a8a57a00671c7b101f83152d84b0ad8f53d", func := "loop.example/g00979/laws.FnExactAuthOk", spec := "fnExactAuthOk", apart := false, narrowed := true }
def FnExactAuthOkUptoSaid : Prop := fnExactAuthOkUptoRow.holds Try.pinned (OpenSpec.upto fnExactAuthOkSpec)

/-- 'laws.FnExactKeysNew', WHERE WHAT IT READS IS OF BULK AT MOST 1048576: true; the input reads as it did. -/
def fnExactKeysNewUptoRow : OpenClaim := { program := "ytllnnbmgdbinnaa", sum := "d87693c9ba29709ab24edc65bc9f1a8a57a00671c7b101f83152d84b0ad8f53d", func := "loop.example/g00979/laws.FnExactKeysNew", spec := "fnExactKeysNew", apart := false, narrowed := true }
def FnExactKeysNewUptoSaid : Prop := fnExactKeysNewUptoRow.holds Try.pinned (OpenSpec.upto fnExactKeysNewSpec)

/-- 'laws.FnExactAuthScale', WHERE WHAT IT READS IS OF BULK AT MOST 1048576: true; the input reads as it did. -/
def fnExactAuthScaleUptoRow : OpenClaim := { program := "ytllnnbmgdbinnaa", sum := "d87693c9ba29709ab24edc65bc9f1a8a57a00671c7b101f83152d84b0ad8f53d", func := "loop.example/g00979/laws.FnExactAuthScale", spec := "fnExactAuthScale", apart := false, narrowed := true }
def FnExactAuthScaleUptoSaid : Prop := fnExactAuthScaleUptoRow.holds Try.pinned (OpenSpec.upto fnExactAuthScaleSpec)

/-- 'laws.FnExactAuthAdd', WHERE WHAT IT READS IS OF BULK AT MOST 1048576: true; the input reads as it did. -/
def fnExactAuthAddUptoRow : OpenClaim := { program := "ytllnnbmgdbinnaa", sum := "d87693c9ba29709ab24edc65bc9f1a8a57a00671c7b101f83152d84b0ad8f53d", func := "loop.example/g00979/laws.FnExactAuthAdd", spec := "fnExactAuthAdd", apart := false, narrowed := true }
def FnExactAuthAddUptoSaid : Prop := fnExactAuthAddUptoRow.holds Try.pinned (OpenSpec.upto fnExactAuthAddSpec)

/-- 'laws.FnExactTripleOk', WHERE WHAT IT READS IS OF BULK AT MOST 1048576: true; the input reads as it did. -/
def fnExactTripleOkUptoRow : OpenClaim := { program := "ytllnnbmgdbinnaa", sum := "d87693c9ba29709ab24edc65bc9f1a8a57a00671c7b101f83152d84b0ad8f53d", func := "loop.example/g00979/laws.FnExactTripleOk", spec := "fnExactTripleOk", apart := false, narrowed := true }
def FnExactTripleOkUptoSaid : Prop := fnExactTripleOkUptoRow.holds Try.pinned (OpenSpec.upto fnExactTripleOkSpec)

/-- 'laws.FnExactTripleOpen', WHERE WHAT IT READS IS OF BULK AT MOST 1048576: true; the input reads as it did. -/
def fnExactTripleOpenUptoRow : OpenClaim := { program := "ytllnnbmgdbinnaa", sum := "d87693c9ba29709ab24edc65bc9f1a8a57a00671c7b101f83152d84b0ad8f53d", func := "loop.example/g00979/laws.FnExactTripleOpen", spec := "fnExactTripleOpen", apart := false, narrowed := true }
def FnExactTripleOpenUptoSaid : Prop := fnExactTripleOpenUptoRow.holds Try.pinned (OpenSpec.upto fnExactTripleOpenSpec)

/-- 'laws.FnExactSacrificeOpen', WHERE WHAT IT READS IS OF BULK AT MOST 1048576: true; the input reads as it did. -/
def fnExactSacrificeOpenUptoRow : OpenClaim := { program := "ytllnnbmgdbinnaa", sum := "d87693c9ba29709ab24edc65bc9f1a8a57a00671c7b101f83152d84b0ad8f53d", func := "loop.example/g00979/laws.FnExactSacrificeOpen", spec := "fnExactSacrificeOpen", apart := false, narrowed := true }
def FnExactSacrificeOpenUptoSaid : Prop := fnExactSacrificeOpenUptoRow.holds Try.pinned (OpenSpec.upto fnExactSacrificeOpenSpec)

/-- 'laws.FnExactSacrificeOk', WHERE WHAT IT READS IS OF BULK AT MOST 1048576: true; the input reads as it did. -/
def fnExactSacrificeOkUptoRow : OpenClaim := { program := "ytllnnbmgdbinnaa", sum := "d87693c9ba29709ab24edc65bc9f1a8a57a00671c7b101f83152d84b0ad8f53d", func := "loop.example/g00979/laws.FnExactSacrificeOk", spec := "fnExactSacrificeOk", apart := false, narrowed := true }
def FnExactSacrificeOkUptoSaid : Prop := fnExactSacrificeOkUptoRow.holds Try.pinned (OpenSpec.upto fnExactSacrificeOkSpec)

/-- 'laws.FnSacrificed', WHERE WHAT IT READS IS OF BULK AT MOST 1048576: true; the input reads as it did. -/
def fnSacrificedUptoRow : OpenClaim := { program := "ytllnnbmgdbinnaa", sum := "d87693c9ba29709ab24edc65bc9f1a8a57a00671c7b101f83152d84b0ad8f53d", func := "loop.example/g00979/laws.FnSacrificed", spec := "fnSacrificed", apart := false, narrowed := true }
def FnSacrificedUptoSaid : Prop := fnSacrificedUptoRow.holds Try.pinned (OpenSpec.upto fnSacrificedSpec)

/-- 'laws.FnExactAuthConst', WHERE WHAT IT READS IS OF BULK AT MOST 1048576: true; the input reads as it did. -/
def fnExactAuthConstUptoRow : OpenClaim := { program := "ytllnnbmgdbinnaa", sum := "d87693c9ba29709ab24edc65bc9f1a8a57a00671c7b101f83152d84b0ad8f53d", func := "loop.example/g00979/laws.FnExactAuthConst", spec := "fnExactAuthConst", apart := false, narrowed := true }
def FnExactAuthConstUptoSaid : Prop := fnExactAuthConstUptoRow.holds Try.pinned (OpenSpec.upto fnExactAuthConstSpec)

/-- 'laws.FnExactCountPassingR', WHERE WHAT IT READS IS OF BULK AT MOST 1048576: true; the input reads as it did. -/
def fnExactCountPassingRUptoRow : OpenClaim := { program := "ytllnnbmgdbinnaa", sum := "d87693c9ba29709ab24edc65bc9f1a8a57a00671c7b101f83152d84b0ad8f53d", func := "loop.example/g00979/laws.FnExactCountPassingR", spec := "fnExactCountPassingR", apart := false, narrowed := true }
def FnExactCountPassingRUptoSaid : Prop := fnExactCountPassingRUptoRow.holds Try.pinned (OpenSpec.upto fnExactCountPassingRSpec)

/-- 'laws.FnDoubled', WHERE WHAT IT READS IS OF BULK AT MOST 1048576: true; the input reads as it did. -/
def fnDoubledUptoRow : OpenClaim := { program := "ytllnnbmgdbinnaa", sum := "d87693c9ba29709ab24edc65bc9f1a8a57a00671c7b101f83152d84b0ad8f53d", func := "loop.example/g00979/laws.FnDoubled", spec := "fnDoubled", apart := false, narrowed := true }
def FnDoubledUptoSaid : Prop := fnDoubledUptoRow.holds Try.pinned (OpenSpec.upto fnDoubledSpec)

/-- 'laws.FnExactAuthNew', WHERE WHAT IT READS IS OF BULK AT MOST 1048576: true; the input reads as it did. -/
def fnExactAuthNewUptoRow : OpenClaim := { program := "ytllnnbmgdbinnaa", sum := "d87693c9ba29709ab24edc65bc9f1a8a57a00671c7b101f83152d84b0ad8f53d", func := "loop.example/g00979/laws.FnExactAuthNew", spec := "fnExactAuthNew", apart := false, narrowed := true }
def FnExactAuthNewUptoSaid : Prop := fnExactAuthNewUptoRow.holds Try.pinned (OpenSpec.upto fnExactAuthNewSpec)

/-- 'laws.FnAuthentic', WHERE WHAT IT READS IS OF BULK AT MOST 1048576: true; the input reads as it did. -/
def fnAuthenticUptoRow : OpenClaim := { program := "ytllnnbmgdbinnaa", sum := "d87693c9ba29709ab24edc65bc9f1a8a57a00671c7b101f83152d84b0ad8f53d", func := "loop.example/g00979/laws.FnAuthentic", spec := "fnAuthentic", apart := false, narrowed := true }
def FnAuthenticUptoSaid : Prop := fnAuthenticUptoRow.holds Try.pinned (OpenSpec.upto fnAuthenticSpec)

/-- 'laws.FnExactTripleUse', WHERE WHAT IT READS IS OF BULK AT MOST 1048576: true; the input reads as it did. -/
def fnExactTripleUseUptoRow : OpenClaim := { program := "ytllnnbmgdbinnaa", sum := "d87693c9ba29709ab24edc65bc9f1a8a57a00671c7b101f83152d84b0ad8f53d", func := "loop.example/g00979/laws.FnExactTripleUse", spec := "fnExactTripleUse", apart := false, narrowed := true }
def FnExactTripleUseUptoSaid : Prop := fnExactTripleUseUptoRow.holds Try.pinned (OpenSpec.upto fnExactTripleUseSpec)

/-- 'laws.FnExactTripleNew', WHERE WHAT IT READS IS OF BULK AT MOST 1048576: true; the input reads as it did. -/
def fnExactTripleNewUptoRow : OpenClaim := { program := "ytllnnbmgdbinnaa", sum := "d87693c9ba29709ab24edc65bc9f1a8a57a00671c7b101f83152d84b0ad8f53d", func := "loop.example/g00979/laws.FnExactTripleNew", spec := "fnExactTripleNew", apart := false, narrowed := true }
def FnExactTripleNewUptoSaid : Prop := fnExactTripleNewUptoRow.holds Try.pinned (OpenSpec.upto fnExactTripleNewSpec)

/-- 'laws.FnMultiplied', WHERE WHAT IT READS IS OF BULK AT MOST 1048576: true; the input reads as it did. -/
def fnMultipliedUptoRow : OpenClaim := { program := "ytllnnbmgdbinnaa", sum := "d87693c9ba29709ab24edc65bc9f1a8a57a00671c7b101f83152d84b0ad8f53d", func := "loop.example/g00979/laws.FnMultiplied", spec := "fnMultiplied", apart := false, narrowed := true }
def FnMultipliedUptoSaid : Prop := fnMultipliedUptoRow.holds Try.pinned (OpenSpec.upto fnMultipliedSpec)

end Rows
end Go.Proofs.Ytllnnbmgdbinnaa
