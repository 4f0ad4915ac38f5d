/-
  No cell of these rows narrows 'for every input' (looked for: loops, veiled, ifaces, maps, wideKeys, modest, calm, conditions, laid).
  DERIVED. THE GIVEN ROWS OF THIS SEAT. 19 by the template 'for every input the law returns true; each argument reads behind the call as it read before'; 0 by the template 'total and deterministic' (their statements: YtjmclnjpfmnkkaaTotals.lean).
  GIVEN WITH THE SEED: the statements are not yours to turn. If you find one false, say at which input.
  Laid BY PROGRAM, IN A SANDBOX (cutbox-rows.mjs): the forced cells as the released guide's own fill.sh prints them over the translation 8aa0fce845ccc0b5… (all of the seat's roots in one cut). By AI agents, Wed Nov 11 2026. No macro, syntax, notation, axiom, sorry.
-/
import Derived.Test.YtjmclnjpfmnkkaaChecked
import GoSem.Claim
import GoSem.ClaimJoined
import GoSem.ClaimMapViews
import Derived.JoinedTies
import Derived.KernelRfl
namespace Go.Proofs.Ytjmclnjpfmnkkaa
/- THE CELL 'sum', in the pinned program and in every row, IS THE sha256 OF THE DUMP (.gsa) THAT YtjmclnjpfmnkkaaProg.lean LOADS. Nothing in Lean hashes anything: it is a label: what it is worth is what the hold of that sum in a sandbox is worth. -/
noncomputable def Try.pinned : Pinned := { name := "ytjmclnjpfmnkkaa", sum := "8aa0fce845ccc0b563eb9d11b5276841cdd46ceed74588716981c7216701e2ce", checked := Try.checked }
namespace Rows
def none {H : Type} : Left H := { results := [], args := [] }

/-- 'laws.FnExactMulMod': WHATEVER THE INPUT: true; the input reads as it did. -/
def fnExactMulModSpec : ChangeSpec := { name := "fnExactMulMod", fn := fun _ => fun
  | [d1, d2] => { results := [.lit (.bool true)], args := [d1, d2] }
  | _ => none }
def fnExactMulModRow : OpenClaim := { program := "ytjmclnjpfmnkkaa", sum := "8aa0fce845ccc0b563eb9d11b5276841cdd46ceed74588716981c7216701e2ce", func := "loop.example/g00511/laws.FnExactMulMod", spec := "fnExactMulMod", apart := false }
def FnExactMulModSaid : Prop := fnExactMulModRow.holds Try.pinned (OpenSpec.ofChange fnExactMulModSpec)

/-- ITS FALSE NEIGHBOUR: 'it returns false'. Refute it at one input. -/
def fnExactMulModWrong : ChangeSpec := { name := "fnExactMulMod", fn := fun _ => fun
  | [d1, d2] => { results := [.lit (.bool false)], args := [d1, d2] }
  | _ => none }
def FnExactMulModWrongFalsely : Prop := fnExactMulModRow.holds Try.pinned (OpenSpec.ofChange fnExactMulModWrong)

/-- 'laws.FnExactAddScalars': WHATEVER THE INPUT: true; the input reads as it did. -/
def fnExactAddScalarsSpec : ChangeSpec := { name := "fnExactAddScalars", fn := fun _ => fun
  | [d1, d2] => { results := [.lit (.bool true)], args := [d1, d2] }
  | _ => none }
def fnExactAddScalarsRow : OpenClaim := { program := "ytjmclnjpfmnkkaa", sum := "8aa0fce845ccc0b563eb9d11b5276841cdd46ceed74588716981c7216701e2ce", func := "loop.example/g00511/laws.FnExactAddScalars", spec := "fnExactAddScalars", apart := false }
def FnExactAddScalarsSaid : Prop := fnExactAddScalarsRow.holds Try.pinned (OpenSpec.ofChange fnExactAddScalarsSpec)

/-- ITS FALSE NEIGHBOUR: 'it returns false'. Refute it at one input. -/
def fnExactAddScalarsWrong : ChangeSpec := { name := "fnExactAddScalars", fn := fun _ => fun
  | [d1, d2] => { results := [.lit (.bool false)], args := [d1, d2] }
  | _ => none }
def FnExactAddScalarsWrongFalsely : Prop := fnExactAddScalarsRow.holds Try.pinned (OpenSpec.ofChange fnExactAddScalarsWrong)

/-- 'laws.FnExactMulScalars': WHATEVER THE INPUT: true; the input reads as it did. -/
def fnExactMulScalarsSpec : ChangeSpec := { name := "fnExactMulScalars", fn := fun _ => fun
  | [d1, d2] => { results := [.lit (.bool true)], args := [d1, d2] }
  | _ => none }
def fnExactMulScalarsRow : OpenClaim := { program := "ytjmclnjpfmnkkaa", sum := "8aa0fce845ccc0b563eb9d11b5276841cdd46ceed74588716981c7216701e2ce", func := "loop.example/g00511/laws.FnExactMulScalars", spec := "fnExactMulScalars", apart := false }
def FnExactMulScalarsSaid : Prop := fnExactMulScalarsRow.holds Try.pinned (OpenSpec.ofChange fnExactMulScalarsSpec)

/-- ITS FALSE NEIGHBOUR: 'it returns false'. Refute it at one input. -/
def fnExactMulScalarsWrong : ChangeSpec := { name := "fnExactMulScalars", fn := fun _ => fun
  | [d1, d2] => { results := [.lit (.bool false)], args := [d1, d2] }
  | _ => none }
def FnExactMulScalarsWrongFalsely : Prop := fnExactMulScalarsRow.holds Try.pinned (OpenSpec.ofChange fnExactMulScalarsWrong)

/-- 'laws.FnExactPowMod': WHATEVER THE INPUT: true; the input reads as it did. -/
def fnExactPowModSpec : ChangeSpec := { name := "fnExactPowMod", fn := fun _ => fun
  | [d1, d2] => { results := [.lit (.bool true)], args := [d1, d2] }
  | _ => none }
def fnExactPowModRow : OpenClaim := { program := "ytjmclnjpfmnkkaa", sum := "8aa0fce845ccc0b563eb9d11b5276841cdd46ceed74588716981c7216701e2ce", func := "loop.example/g00511/laws.FnExactPowMod", spec := "fnExactPowMod", apart := false }
def FnExactPowModSaid : Prop := fnExactPowModRow.holds Try.pinned (OpenSpec.ofChange fnExactPowModSpec)

/-- ITS FALSE NEIGHBOUR: 'it returns false'. Refute it at one input. -/
def fnExactPowModWrong : ChangeSpec := { name := "fnExactPowMod", fn := fun _ => fun
  | [d1, d2] => { results := [.lit (.bool false)], args := [d1, d2] }
  | _ => none }
def FnExactPowModWrongFalsely : Prop := fnExactPowModRow.holds Try.pinned (OpenSpec.ofChange fnExactPowModWrong)

/-- 'laws.FnExactIsGroupElement': WHATEVER THE INPUT: true; the input reads as it did. -/
def fnExactIsGroupElementSpec : ChangeSpec := { name := "fnExactIsGroupElement", fn := fun _ => fun
  | [d] => { results := [.lit (.bool true)], args := [d] }
  | _ => none }
def fnExactIsGroupElementRow : OpenClaim := { program := "ytjmclnjpfmnkkaa", sum := "8aa0fce845ccc0b563eb9d11b5276841cdd46ceed74588716981c7216701e2ce", func := "loop.example/g00511/laws.FnExactIsGroupElement", spec := "fnExactIsGroupElement", apart := false }
def FnExactIsGroupElementSaid : Prop := fnExactIsGroupElementRow.holds Try.pinned (OpenSpec.ofChange fnExactIsGroupElementSpec)

/-- ITS FALSE NEIGHBOUR: 'it returns false'. Refute it at one input. -/
def fnExactIsGroupElementWrong : ChangeSpec := { name := "fnExactIsGroupElement", fn := fun _ => fun
  | [d] => { results := [.lit (.bool false)], args := [d] }
  | _ => none }
def FnExactIsGroupElementWrongFalsely : Prop := fnExactIsGroupElementRow.holds Try.pinned (OpenSpec.ofChange fnExactIsGroupElementWrong)

/-- 'laws.FnExactInverseElement': WHATEVER THE INPUT: true; the input reads as it did. -/
def fnExactInverseElementSpec : ChangeSpec := { name := "fnExactInverseElement", fn := fun _ => fun
  | [d] => { results := [.lit (.bool true)], args := [d] }
  | _ => none }
def fnExactInverseElementRow : OpenClaim := { program := "ytjmclnjpfmnkkaa", sum := "8aa0fce845ccc0b563eb9d11b5276841cdd46ceed74588716981c7216701e2ce", func := "loop.example/g00511/laws.FnExactInverseElement", spec := "fnExactInverseElement", apart := false }
def FnExactInverseElementSaid : Prop := fnExactInverseElementRow.holds Try.pinned (OpenSpec.ofChange fnExactInverseElementSpec)

/-- ITS FALSE NEIGHBOUR: 'it returns false'. Refute it at one input. -/
def fnExactInverseElementWrong : ChangeSpec := { name := "fnExactInverseElement", fn := fun _ => fun
  | [d] => { results := [.lit (.bool false)], args := [d] }
  | _ => none }
def FnExactInverseElementWrongFalsely : Prop := fnExactInverseElementRow.holds Try.pinned (OpenSpec.ofChange fnExactInverseElementWrong)

/-- 'laws.FnExactDiscreteLog': WHATEVER THE INPUT: true; the input reads as it did. -/
def fnExactDiscreteLogSpec : ChangeSpec := { name := "fnExactDiscreteLog", fn := fun _ => fun
  | [d1, d2] => { results := [.lit (.bool true)], args := [d1, d2] }
  | _ => none }
def fnExactDiscreteLogRow : OpenClaim := { program := "ytjmclnjpfmnkkaa", sum := "8aa0fce845ccc0b563eb9d11b5276841cdd46ceed74588716981c7216701e2ce", func := "loop.example/g00511/laws.FnExactDiscreteLog", spec := "fnExactDiscreteLog", apart := false }
def FnExactDiscreteLogSaid : Prop := fnExactDiscreteLogRow.holds Try.pinned (OpenSpec.ofChange fnExactDiscreteLogSpec)

/-- ITS FALSE NEIGHBOUR: 'it returns false'. Refute it at one input. -/
def fnExactDiscreteLogWrong : ChangeSpec := { name := "fnExactDiscreteLog", fn := fun _ => fun
  | [d1, d2] => { results := [.lit (.bool false)], args := [d1, d2] }
  | _ => none }
def FnExactDiscreteLogWrongFalsely : Prop := fnExactDiscreteLogRow.holds Try.pinned (OpenSpec.ofChange fnExactDiscreteLogWrong)

/-- 'laws.FnExactPasswordElement': WHATEVER THE INPUT: true; the input reads as it did. -/
def fnExactPasswordElementSpec : ChangeSpec := { name := "fnExactPasswordElement", fn := fun _ => fun
  | [d1, d2, d3] => { results := [.lit (.bool true)], args := [d1, d2, d3] }
  | _ => none }
def fnExactPasswordElementRow : OpenClaim := { program := "ytjmclnjpfmnkkaa", sum := "8aa0fce845ccc0b563eb9d11b5276841cdd46ceed74588716981c7216701e2ce", func := "loop.example/g00511/laws.FnExactPasswordElement", spec := "fnExactPasswordElement", apart := false }
def FnExactPasswordElementSaid : Prop := fnExactPasswordElementRow.holds Try.pinned (OpenSpec.ofChange fnExactPasswordElementSpec)

/-- ITS FALSE NEIGHBOUR: 'it returns false'. Refute it at one input. -/
def fnExactPasswordElementWrong : ChangeSpec := { name := "fnExactPasswordElement", fn := fun _ => fun
  | [d1, d2, d3] => { results := [.lit (.bool false)], args := [d1, d2, d3] }
  | _ => none }
def FnExactPasswordElementWrongFalsely : Prop := fnExactPasswordElementRow.holds Try.pinned (OpenSpec.ofChange fnExactPasswordElementWrong)

/-- 'laws.FnGroup': WHATEVER THE INPUT: true; the input reads as it did. -/
def fnGroupSpec : ChangeSpec := { name := "fnGroup", fn := fun _ => fun
  | [d] => { results := [.lit (.bool true)], args := [d] }
  | _ => none }
def fnGroupRow : OpenClaim := { program := "ytjmclnjpfmnkkaa", sum := "8aa0fce845ccc0b563eb9d11b5276841cdd46ceed74588716981c7216701e2ce", func := "loop.example/g00511/laws.FnGroup", spec := "fnGroup", apart := false }
def FnGroupSaid : Prop := fnGroupRow.holds Try.pinned (OpenSpec.ofChange fnGroupSpec)

/-- ITS FALSE NEIGHBOUR: 'it returns false'. Refute it at one input. -/
def fnGroupWrong : ChangeSpec := { name := "fnGroup", fn := fun _ => fun
  | [d] => { results := [.lit (.bool false)], args := [d] }
  | _ => none }
def FnGroupWrongFalsely : Prop := fnGroupRow.holds Try.pinned (OpenSpec.ofChange fnGroupWrong)

/-- 'laws.FnPasswordElements': WHATEVER THE INPUT: true; the input reads as it did. -/
def fnPasswordElementsSpec : ChangeSpec := { name := "fnPasswordElements", fn := fun _ => fun
  | [d] => { results := [.lit (.bool true)], args := [d] }
  | _ => none }
def fnPasswordElementsRow : OpenClaim := { program := "ytjmclnjpfmnkkaa", sum := "8aa0fce845ccc0b563eb9d11b5276841cdd46ceed74588716981c7216701e2ce", func := "loop.example/g00511/laws.FnPasswordElements", spec := "fnPasswordElements", apart := false }
def FnPasswordElementsSaid : Prop := fnPasswordElementsRow.holds Try.pinned (OpenSpec.ofChange fnPasswordElementsSpec)

/-- ITS FALSE NEIGHBOUR: 'it returns false'. Refute it at one input. -/
def fnPasswordElementsWrong : ChangeSpec := { name := "fnPasswordElements", fn := fun _ => fun
  | [d] => { results := [.lit (.bool false)], args := [d] }
  | _ => none }
def FnPasswordElementsWrongFalsely : Prop := fnPasswordElementsRow.holds Try.pinned (OpenSpec.ofChange fnPasswordElementsWrong)

/-- 'laws.FnExactConfirmValue': WHATEVER THE INPUT: true; the input reads as it did. -/
def fnExactConfirmValueSpec : ChangeSpec := { name := "fnExactConfirmValue", fn := fun _ => fun
  | [d1, d2, d3] => { results := [.lit (.bool true)], args := [d1, d2, d3] }
  | _ => none }
def fnExactConfirmValueRow : OpenClaim := { program := "ytjmclnjpfmnkkaa", sum := "8aa0fce845ccc0b563eb9d11b5276841cdd46ceed74588716981c7216701e2ce", func := "loop.example/g00511/laws.FnExactConfirmValue", spec := "fnExactConfirmValue", apart := false }
def FnExactConfirmValueSaid : Prop := fnExactConfirmValueRow.holds Try.pinned (OpenSpec.ofChange fnExactConfirmValueSpec)

/-- ITS FALSE NEIGHBOUR: 'it returns false'. Refute it at one input. -/
def fnExactConfirmValueWrong : ChangeSpec := { name := "fnExactConfirmValue", fn := fun _ => fun
  | [d1, d2, d3] => { results := [.lit (.bool false)], args := [d1, d2, d3] }
  | _ => none }
def FnExactConfirmValueWrongFalsely : Prop := fnExactConfirmValueRow.holds Try.pinned (OpenSpec.ofChange fnExactConfirmValueWrong)

/-- 'laws.FnExactIsValidCommit': WHATEVER THE INPUT: true; the input reads as it did. -/
def fnExactIsValidCommitSpec : ChangeSpec := { name := "fnExactIsValidCommit", fn := fun _ => fun
  | [d] => { results := [.lit (.bool true)], args := [d] }
  | _ => none }
def fnExactIsValidCommitRow : OpenClaim := { program := "ytjmclnjpfmnkkaa", sum := "8aa0fce845ccc0b563eb9d11b5276841cdd46ceed74588716981c7216701e2ce", func := "loop.example/g00511/laws.FnExactIsValidCommit", spec := "fnExactIsValidCommit", apart := false }
def FnExactIsValidCommitSaid : Prop := fnExactIsValidCommitRow.holds Try.pinned (OpenSpec.ofChange fnExactIsValidCommitSpec)

/-- ITS FALSE NEIGHBOUR: 'it returns false'. Refute it at one input. -/
def fnExactIsValidCommitWrong : ChangeSpec := { name := "fnExactIsValidCommit", fn := fun _ => fun
  | [d] => { results := [.lit (.bool false)], args := [d] }
  | _ => none }
def FnExactIsValidCommitWrongFalsely : Prop := fnExactIsValidCommitRow.holds Try.pinned (OpenSpec.ofChange fnExactIsValidCommitWrong)

/-- 'laws.FnExactSharedElement': WHATEVER THE INPUT: true; the input reads as it did. -/
def fnExactSharedElementSpec : ChangeSpec := { name := "fnExactSharedElement", fn := fun _ => fun
  | [d1, d2, d3] => { results := [.lit (.bool true)], args := [d1, d2, d3] }
  | _ => none }
def fnExactSharedElementRow : OpenClaim := { program := "ytjmclnjpfmnkkaa", sum := "8aa0fce845ccc0b563eb9d11b5276841cdd46ceed74588716981c7216701e2ce", func := "loop.example/g00511/laws.FnExactSharedElement", spec := "fnExactSharedElement", apart := false }
def FnExactSharedElementSaid : Prop := fnExactSharedElementRow.holds Try.pinned (OpenSpec.ofChange fnExactSharedElementSpec)

/-- ITS FALSE NEIGHBOUR: 'it returns false'. Refute it at one input. -/
def fnExactSharedElementWrong : ChangeSpec := { name := "fnExactSharedElement", fn := fun _ => fun
  | [d1, d2, d3] => { results := [.lit (.bool false)], args := [d1, d2, d3] }
  | _ => none }
def FnExactSharedElementWrongFalsely : Prop := fnExactSharedElementRow.holds Try.pinned (OpenSpec.ofChange fnExactSharedElementWrong)

/-- 'laws.FnExactPairwiseMaster': WHATEVER THE INPUT: true; the input reads as it did. -/
def fnExactPairwiseMasterSpec : ChangeSpec := { name := "fnExactPairwiseMaster", fn := fun _ => fun
  | [d1, d2, d3] => { results := [.lit (.bool true)], args := [d1, d2, d3] }
  | _ => none }
def fnExactPairwiseMasterRow : OpenClaim := { program := "ytjmclnjpfmnkkaa", sum := "8aa0fce845ccc0b563eb9d11b5276841cdd46ceed74588716981c7216701e2ce", func := "loop.example/g00511/laws.FnExactPairwiseMaster", spec := "fnExactPairwiseMaster", apart := false }
def FnExactPairwiseMasterSaid : Prop := fnExactPairwiseMasterRow.holds Try.pinned (OpenSpec.ofChange fnExactPairwiseMasterSpec)

/-- ITS FALSE NEIGHBOUR: 'it returns false'. Refute it at one input. -/
def fnExactPairwiseMasterWrong : ChangeSpec := { name := "fnExactPairwiseMaster", fn := fun _ => fun
  | [d1, d2, d3] => { results := [.lit (.bool false)], args := [d1, d2, d3] }
  | _ => none }
def FnExactPairwiseMasterWrongFalsely : Prop := fnExactPairwiseMasterRow.holds Try.pinned (OpenSpec.ofChange fnExactPairwiseMasterWrong)

/-- 'laws.FnExactNewCommit': WHATEVER THE INPUT: true; the input reads as it did. -/
def fnExactNewCommitSpec : ChangeSpec := { name := "fnExactNewCommit", fn := fun _ => fun
  | [d1, d2, d3] => { results := [.lit (.bool true)], args := [d1, d2, d3] }
  | _ => none }
def fnExactNewCommitRow : OpenClaim := { program := "ytjmclnjpfmnkkaa", sum := "8aa0fce845ccc0b563eb9d11b5276841cdd46ceed74588716981c7216701e2ce", func := "loop.example/g00511/laws.FnExactNewCommit", spec := "fnExactNewCommit", apart := false }
def FnExactNewCommitSaid : Prop := fnExactNewCommitRow.holds Try.pinned (OpenSpec.ofChange fnExactNewCommitSpec)

/-- ITS FALSE NEIGHBOUR: 'it returns false'. Refute it at one input. -/
def fnExactNewCommitWrong : ChangeSpec := { name := "fnExactNewCommit", fn := fun _ => fun
  | [d1, d2, d3] => { results := [.lit (.bool false)], args := [d1, d2, d3] }
  | _ => none }
def FnExactNewCommitWrongFalsely : Prop := fnExactNewCommitRow.holds Try.pinned (OpenSpec.ofChange fnExactNewCommitWrong)

/-- 'laws.FnExactExplainCommit': WHATEVER THE INPUT: true; the input reads as it did. -/
def fnExactExplainCommitSpec : ChangeSpec := { name := "fnExactExplainCommit", fn := fun _ => fun
  | [d1, d2] => { results := [.lit (.bool true)], args := [d1, d2] }
  | _ => none }
def fnExactExplainCommitRow : OpenClaim := { program := "ytjmclnjpfmnkkaa", sum := "8aa0fce845ccc0b563eb9d11b5276841cdd46ceed74588716981c7216701e2ce", func := "loop.example/g00511/laws.FnExactExplainCommit", spec := "fnExactExplainCommit", apart := false }
def FnExactExplainCommitSaid : Prop := fnExactExplainCommitRow.holds Try.pinned (OpenSpec.ofChange fnExactExplainCommitSpec)

/-- ITS FALSE NEIGHBOUR: 'it returns false'. Refute it at one input. -/
def fnExactExplainCommitWrong : ChangeSpec := { name := "fnExactExplainCommit", fn := fun _ => fun
  | [d1, d2] => { results := [.lit (.bool false)], args := [d1, d2] }
  | _ => none }
def FnExactExplainCommitWrongFalsely : Prop := fnExactExplainCommitRow.holds Try.pinned (OpenSpec.ofChange fnExactExplainCommitWrong)

/-- 'laws.FnExactRunExchange': WHATEVER THE INPUT: true; the input reads as it did. -/
def fnExactRunExchangeSpec : ChangeSpec := { name := "fnExactRunExchange", fn := fun _ => fun
  | [d1, d2, d3] => { results := [.lit (.bool true)], args := [d1, d2, d3] }
  | _ => none }
def fnExactRunExchangeRow : OpenClaim := { program := "ytjmclnjpfmnkkaa", sum := "8aa0fce845ccc0b563eb9d11b5276841cdd46ceed74588716981c7216701e2ce", func := "loop.example/g00511/laws.FnExactRunExchange", spec := "fnExactRunExchange", apart := false }
def FnExactRunExchangeSaid : Prop := fnExactRunExchangeRow.holds Try.pinned (OpenSpec.ofChange fnExactRunExchangeSpec)

/-- ITS FALSE NEIGHBOUR: 'it returns false'. Refute it at one input. -/
def fnExactRunExchangeWrong : ChangeSpec := { name := "fnExactRunExchange", fn := fun _ => fun
  | [d1, d2, d3] => { results := [.lit (.bool false)], args := [d1, d2, d3] }
  | _ => none }
def FnExactRunExchangeWrongFalsely : Prop := fnExactRunExchangeRow.holds Try.pinned (OpenSpec.ofChange fnExactRunExchangeWrong)

/-- 'laws.FnOfflineGuesses': WHATEVER THE INPUT: true; the input reads as it did. -/
def fnOfflineGuessesSpec : ChangeSpec := { name := "fnOfflineGuesses", fn := fun _ => fun
  | [d] => { results := [.lit (.bool true)], args := [d] }
  | _ => none }
def fnOfflineGuessesRow : OpenClaim := { program := "ytjmclnjpfmnkkaa", sum := "8aa0fce845ccc0b563eb9d11b5276841cdd46ceed74588716981c7216701e2ce", func := "loop.example/g00511/laws.FnOfflineGuesses", spec := "fnOfflineGuesses", apart := false }
def FnOfflineGuessesSaid : Prop := fnOfflineGuessesRow.holds Try.pinned (OpenSpec.ofChange fnOfflineGuessesSpec)

/-- ITS FALSE NEIGHBOUR: 'it returns false'. Refute it at one input. -/
def fnOfflineGuessesWrong : ChangeSpec := { name := "fnOfflineGuesses", fn := fun _ => fun
  | [d] => { results := [.lit (.bool false)], args := [d] }
  | _ => none }
def FnOfflineGuessesWrongFalsely : Prop := fnOfflineGuessesRow.holds Try.pinned (OpenSpec.ofChange fnOfflineGuessesWrong)

/-- 'laws.FnPasswordExchange': WHATEVER THE INPUT: true; the input reads as it did. -/
def fnPasswordExchangeSpec : ChangeSpec := { name := "fnPasswordExchange", fn := fun _ => fun
  | [d] => { results := [.lit (.bool true)], args := [d] }
  | _ => none }
def fnPasswordExchangeRow : OpenClaim := { program := "ytjmclnjpfmnkkaa", sum := "8aa0fce845ccc0b563eb9d11b5276841cdd46ceed74588716981c7216701e2ce", func := "loop.example/g00511/laws.FnPasswordExchange", spec := "fnPasswordExchange", apart := false }
def FnPasswordExchangeSaid : Prop := fnPasswordExchangeRow.holds Try.pinned (OpenSpec.ofChange fnPasswordExchangeSpec)

/-- ITS FALSE NEIGHBOUR: 'it returns false'. Refute it at one input. -/
def fnPasswordExchangeWrong : ChangeSpec := { name := "fnPasswordExchange", fn := fun _ => fun
  | [d] => { results := [.lit (.bool false)], args := [d] }
  | _ => none }
def FnPasswordExchangeWrongFalsely : Prop := fnPasswordExchangeRow.holds Try.pinned (OpenSpec.ofChange fnPasswordExchangeWrong)

/- THE SECOND FORM. 'bulk': how many values and letters a reading holds, each counted each time it is reached (what is shared counts as often as it is met; a slice's spare places count too). A statement '..UptoSaid' is the law's where the arguments, and the package variables that the reading takes, are together of bulk at most 1048576: NARROWER than '..Said'. Prove '..Said' where nothing that the law and all that it calls make is longer than what came in: it says more and counts as full. Else prove '..UptoSaid'. A law counts once. -/
mutual
def uptoBulk {H : Type} : DataW H → Nat
  | .lit (.string bytes) => bytes.length + 1
  | .lit _ => 1
  | .nil => 1
  | .ptr d => uptoBulk d + 1
  | .slice elems spare => uptoBulkAll elems + uptoBulkAll spare + 1
  | .agg parts => uptoBulkAll parts + 1
  | .iface _ d => uptoBulk d + 1
  | .map entries => uptoBulkEntries entries + 1
  | .held _ => 1
def uptoBulkAll {H : Type} : List (DataW H) → Nat
  | [] => 0
  | d :: r => uptoBulk d + uptoBulkAll r
def uptoBulkEntries {H : Type} : List (Lit × DataW H) → Nat
  | [] => 0
  | x :: r => uptoBulkEntry x + uptoBulkEntries r
def uptoBulkEntry {H : Type} : Lit × DataW H → Nat
  | (.string bytes, d) => bytes.length + uptoBulk d + 1
  | (_, d) => uptoBulk d + 1
 end
def uptoSmall : (H : Type) → List (DataW H) → Bool := fun _ ds => decide (uptoBulkAll ds ≤ 1048576)
def OpenSpec.upto (s : _root_.Go.ChangeSpec) : _root_.Go.OpenSpec := { _root_.Go.OpenSpec.ofChange s with cond := some uptoSmall }

/-- 'laws.FnExactMulMod', WHERE WHAT IT READS IS OF BULK AT MOST 1048576: true; the input reads as it did. -/
def fnExactMulModUptoRow : OpenClaim := { program := "ytjmclnjpfmnkkaa", sum := "8aa0fce845ccc0b563eb9d11b5276841cdd46ceed74588716981c7216701e2ce", func := "loop.example/g00511/laws.FnExactMulMod", spec := "fnExactMulMod", apart := false, narrowed := true }
def FnExactMulModUptoSaid : Prop := fnExactMulModUptoRow.holds Try.pinned (OpenSpec.upto fnExactMulModSpec)

/-- 'laws.FnExactAddScalars', WHERE WHAT IT READS IS OF BULK AT MOST 1048576: true; the input reads as it did. -/
def fnExactAddScalarsUptoRow : OpenClaim := { program := "ytjmclnjpfmnkkaa", sum := "8aa0fce845ccc0b563eb9d11b5276841cdd46ceed74588716981c7216701e2ce", func := "loop.example/g00511/laws.FnExactAddScalars", spec := "fnExactAddScalars", apart := false, narrowed := true }
def FnExactAddScalarsUptoSaid : Prop := fnExactAddScalarsUptoRow.holds Try.pinned (OpenSpec.upto fnExactAddScalarsSpec)

/-- 'laws.FnExactMulScalars', WHERE WHAT IT READS IS OF BULK AT MOST 1048576: true; the input reads as it did. -/
def fnExactMulScalarsUptoRow : OpenClaim := { program := "ytjmclnjpfmnkkaa", sum := "8aa0fce845ccc0b563eb9d11b5276841cdd46ceed74588716981c7216701e2ce", func := "loop.example/g00511/laws.FnExactMulScalars", spec := "fnExactMulScalars", apart := false, narrowed := true }
def FnExactMulScalarsUptoSaid : Prop := fnExactMulScalarsUptoRow.holds Try.pinned (OpenSpec.upto fnExactMulScalarsSpec)

/-- 'laws.FnExactPowMod', WHERE WHAT IT READS IS OF BULK AT MOST 1048576: true; the input reads as it did. -/
def fnExactPowModUptoRow : OpenClaim := { program := "ytjmclnjpfmnkkaa", sum := "8aa0fce845ccc0b563eb9d11b5276841cdd46ceed74588716981c7216701e2ce", func := "loop.example/g00511/laws.FnExactPowMod", spec := "fnExactPowMod", apart := false, narrowed := true }
def FnExactPowModUptoSaid : Prop := fnExactPowModUptoRow.holds Try.pinned (OpenSpec.upto fnExactPowModSpec)

/-- 'laws.FnExactIsGroupElement', WHERE WHAT IT READS IS OF BULK AT MOST 1048576: true; the input reads as it did. -/
def fnExactIsGroupElementUptoRow : OpenClaim := { program := "ytjmclnjpfmnkkaa", sum := "8aa0fce845ccc0b563eb9d11b5276841cdd46ceed74588716981c7216701e2ce", func := "loop.example/g00511/laws.FnExactIsGroupElement", spec := "fnExactIsGroupElement", apart := false, narrowed := true }
def FnExactIsGroupElementUptoSaid : Prop := fnExactIsGroupElementUptoRow.holds Try.pinned (OpenSpec.upto fnExactIsGroupElementSpec)

/-- 'laws.FnExactInverseElement', WHERE WHAT IT READS IS OF BULK AT MOST 1048576: true; the input reads as it did. -/
def fnExactInverseElementUptoRow : OpenClaim := { program := "ytjmclnjpfmnkkaa", sum := "8aa0fce845ccc0b563eb9d11b5276841cdd46ceed74588716981c7216701e2ce", func := "loop.example/g00511/laws.FnExactInverseElement", spec := "fnExactInverseElement", apart := false, narrowed := true }
def FnExactInverseElementUptoSaid : Prop := fnExactInverseElementUptoRow.holds Try.pinned (OpenSpec.upto fnExactInverseElementSpec)

/-- 'laws.FnExactDiscreteLog', WHERE WHAT IT READS IS OF BULK AT MOST 1048576: true; the input reads as it did. -/
def fnExactDiscreteLogUptoRow : OpenClaim := { program := "ytjmclnjpfmnkkaa", sum := "8aa0fce845ccc0b563eb9d11b5276841cdd46ceed74588716981c7216701e2ce", func := "loop.example/g00511/laws.FnExactDiscreteLog", spec := "fnExactDiscreteLog", apart := false, narrowed := true }
def FnExactDiscreteLogUptoSaid : Prop := fnExactDiscreteLogUptoRow.holds Try.pinned (OpenSpec.upto fnExactDiscreteLogSpec)

/-- 'laws.FnExactPasswordElement', WHERE WHAT IT READS IS OF BULK AT MOST 1048576: true; the input reads as it did. -/
def fnExactPasswordElementUptoRow : OpenClaim := { program := "ytjmclnjpfmnkkaa", sum := "8aa0fce845ccc0b563eb9d11b5276841cdd46ceed74588716981c7216701e2ce", func := "loop.example/g00511/laws.FnExactPasswordElement", spec := "fnExactPasswordElement", apart := false, narrowed := true }
def FnExactPasswordElementUptoSaid : Prop := fnExactPasswordElementUptoRow.holds Try.pinned (OpenSpec.upto fnExactPasswordElementSpec)

/-- 'laws.FnGroup', WHERE WHAT IT READS IS OF BULK AT MOST 1048576: true; the input reads as it did. -/
def fnGroupUptoRow : OpenClaim := { program := "ytjmclnjpfmnkkaa", sum := "8aa0fce845ccc0b563eb9d11b5276841cdd46ceed74588716981c7216701e2ce", func := "loop.example/g00511/laws.FnGroup", spec := "fnGroup", apart := false, narrowed := true }
def FnGroupUptoSaid : Prop := fnGroupUptoRow.holds Try.pinned (OpenSpec.upto fnGroupSpec)

/-- 'laws.FnPasswordElements', WHERE WHAT IT READS IS OF BULK AT MOST 1048576: true; the input reads as it did. -/
def fnPasswordElementsUptoRow : OpenClaim := { program := "ytjmclnjpfmnkkaa", sum := "8aa0fce845ccc0b563eb9d11b5276841cdd46ceed74588716981c7216701e2ce", func := "loop.example/g00511/laws.FnPasswordElements", spec := "fnPasswordElements", apart := false, narrowed := true }
def FnPasswordElementsUptoSaid : Prop := fnPasswordElementsUptoRow.holds Try.pinned (OpenSpec.upto fnPasswordElementsSpec)

/-- 'laws.FnExactConfirmValue', WHERE WHAT IT READS IS OF BULK AT MOST 1048576: true; the input reads as it did. -/
def fnExactConfirmValueUptoRow : OpenClaim := { program := "ytjmclnjpfmnkkaa", sum := "8aa0fce845ccc0b563eb9d11b5276841cdd46ceed74588716981c7216701e2ce", func := "loop.example/g00511/laws.FnExactConfirmValue", spec := "fnExactConfirmValue", apart := false, narrowed := true }
def FnExactConfirmValueUptoSaid : Prop := fnExactConfirmValueUptoRow.holds Try.pinned (OpenSpec.upto fnExactConfirmValueSpec)

/-- 'laws.FnExactIsValidCommit', WHERE WHAT IT READS IS OF BULK AT MOST 1048576: true; the input reads as it did. -/
def fnExactIsValidCommitUptoRow : OpenClaim := { program := "ytjmclnjpfmnkkaa", sum := "8aa0fce845ccc0b563eb9d11b5276841cdd46ceed74588716981c7216701e2ce", func := "loop.example/g00511/laws.FnExactIsValidCommit", spec := "fnExactIsValidCommit", apart := false, narrowed := true }
def FnExactIsValidCommitUptoSaid : Prop := fnExactIsValidCommitUptoRow.holds Try.pinned (OpenSpec.upto fnExactIsValidCommitSpec)

/-- 'laws.FnExactSharedElement', WHERE WHAT IT READS IS OF BULK AT MOST 1048576: true; the input reads as it did. -/
def fnExactSharedElementUptoRow : OpenClaim := { program := "ytjmclnjpfmnkkaa", sum := "8aa0fce845ccc0b563eb9d11b5276841cdd46ceed74588716981c7216701e2ce", func := "loop.example/g00511/laws.FnExactSharedElement", spec := "fnExactSharedElement", apart := false, narrowed := true }
def FnExactSharedElementUptoSaid : Prop := fnExactSharedElementUptoRow.holds Try.pinned (OpenSpec.upto fnExactSharedElementSpec)

/-- 'laws.FnExactPairwiseMaster', WHERE WHAT IT READS IS OF BULK AT MOST 1048576: true; the input reads as it did. -/
def fnExactPairwiseMasterUptoRow : OpenClaim := { program := "ytjmclnjpfmnkkaa", sum := "8aa0fce845ccc0b563eb9d11b5276841cdd46ceed74588716981c7216701e2ce", func := "loop.example/g00511/laws.FnExactPairwiseMaster", spec := "fnExactPairwiseMaster", apart := false, narrowed := true }
def FnExactPairwiseMasterUptoSaid : Prop := fnExactPairwiseMasterUptoRow.holds Try.pinned (OpenSpec.upto fnExactPairwiseMasterSpec)

/-- 'laws.FnExactNewCommit', WHERE WHAT IT READS IS OF BULK AT MOST 1048576: true; the input reads as it did. -/
def fnExactNewCommitUptoRow : OpenClaim := { program := "ytjmclnjpfmnkkaa", sum := "8aa0fce845ccc0b563eb9d11b5276841cdd46ceed74588716981c7216701e2ce", func := "loop.example/g00511/laws.FnExactNewCommit", spec := "fnExactNewCommit", apart := false, narrowed := true }
def FnExactNewCommitUptoSaid : Prop := fnExactNewCommitUptoRow.holds Try.pinned (OpenSpec.upto fnExactNewCommitSpec)

/-- 'laws.FnExactExplainCommit', WHERE WHAT IT READS IS OF BULK AT MOST 1048576: true; the input reads as it did. -/
def fnExactExplainCommitUptoRow : OpenClaim := { program := "ytjmclnjpfmnkkaa", sum := "8aa0fce845ccc0b563eb9d11b5276841cdd46ceed74588716981c7216701e2ce", func := "loop.example/g00511/laws.FnExactExplainCommit", spec := "fnExactExplainCommit", apart := false, narrowed := true }
def FnExactExplainCommitUptoSaid : Prop := fnExactExplainCommitUptoRow.holds Try.pinned (OpenSpec.upto fnExactExplainCommitSpec)

/-- 'laws.FnExactRunExchange', WHERE WHAT IT READS IS OF BULK AT MOST 1048576: true; the input reads as it did. -/
def fnExactRunExchangeUptoRow : OpenClaim := { program := "ytjmclnjpfmnkkaa", sum := "8aa0fce845ccc0b563eb9d11b5276841cdd46ceed74588716981c7216701e2ce", func := "loop.example/g00511/laws.FnExactRunExchange", spec := "fnExactRunExchange", apart := false, narrowed := true }
def FnExactRunExchangeUptoSaid : Prop := fnExactRunExchangeUptoRow.holds Try.pinned (OpenSpec.upto fnExactRunExchangeSpec)

/-- 'laws.FnOfflineGuesses', WHERE WHAT IT READS IS OF BULK AT MOST 1048576: true; the input reads as it did. -/
def fnOfflineGuessesUptoRow : OpenClaim := { program := "ytjmclnjpfmnkkaa", sum := "8aa0fce845ccc0b563eb9d11b5276841cdd46ceed74588716981c7216701e2ce", func := "loop.example/g00511/laws.FnOfflineGuesses", spec := "fnOfflineGuesses", apart := false, narrowed := true }
def FnOfflineGuessesUptoSaid : Prop := fnOfflineGuessesUptoRow.holds Try.pinned (OpenSpec.upto fnOfflineGuessesSpec)

/-- 'laws.FnPasswordExchange', WHERE WHAT IT READS IS OF BULK AT MOST 1048576: true; the input reads as it did. -/
def fnPasswordExchangeUptoRow : OpenClaim := { program := "ytjmclnjpfmnkkaa", sum := "8aa0fce845ccc0b563eb9d11b5276841cdd46ceed74588716981c7216701e2ce", func := "loop.example/g00511/laws.FnPasswordExchange", spec := "fnPasswordExchange", apart := false, narrowed := true }
def FnPasswordExchangeUptoSaid : Prop := fnPasswordExchangeUptoRow.holds Try.pinned (OpenSpec.upto fnPasswordExchangeSpec)

end Rows
end Go.Proofs.Ytjmclnjpfmnkkaa
