/-
  No cell of these rows narrows 'for every input' (looked for: loops, veiled, ifaces, maps, wideKeys, modest, calm, conditions, laid).
  DERIVED. THE GIVEN ROWS OF THIS SEAT. 10 by the template 'for every input the law returns true; each argument reads behind the call as it read before'; 0 by the template 'total and deterministic' (their statements: YtmhcbiipbilakaaTotals.lean).
  GIVEN WITH THE SEED: the statements are not yours to turn. If you find one false, say at which input.
  Laid BY PROGRAM, IN A SANDBOX (cutbox-rows.mjs): the forced cells as the released guide's own fill.sh prints them over the translation 76741989f8cae8dc… (all of the seat's roots in one cut). By AI agents, Wed Nov 11 2026. No macro, syntax, notation, axiom, sorry.
-/
import Derived.Test.YtmhcbiipbilakaaChecked
import GoSem.Claim
import GoSem.ClaimJoined
import GoSem.ClaimMapViews
import Derived.JoinedTies
import Derived.KernelRfl
namespace Go.Proofs.Ytmhcbiipbilakaa
/- THE CELL 'sum', in the pinned program and in every row, IS THE sha256 OF THE DUMP (.gsa) THAT YtmhcbiipbilakaaProg.lean LOADS. Nothing in Lean hashes anything: it is a label: what it is worth is what the hold of that sum in a sandbox is worth. -/
noncomputable def Try.pinned : Pinned := { name := "ytmhcbiipbilakaa", sum := "76741989f8cae8dc582b1aed2885990bbe70e9ca29ffc799592b979fe7ed706b", checked := Try.checked }
namespace Rows
def none {H : Type} : Left H := { results := [], args := [] }

/-- 'laws.FnExactHomeKey': WHATEVER THE INPUT: true; the input reads as it did. -/
def fnExactHomeKeySpec : ChangeSpec := { name := "fnExactHomeKey", fn := fun _ => fun
  | [d1, d2] => { results := [.lit (.bool true)], args := [d1, d2] }
  | _ => none }
def fnExactHomeKeyRow : OpenClaim := { program := "ytmhcbiipbilakaa", sum := "76741989f8cae8dc582b1aed2885990bbe70e9ca29ffc799592b979fe7ed706b", func := "loop.example/g00511/laws.FnExactHomeKey", spec := "fnExactHomeKey", apart := false }
def FnExactHomeKeySaid : Prop := fnExactHomeKeyRow.holds Try.pinned (OpenSpec.ofChange fnExactHomeKeySpec)

/-- ITS FALSE NEIGHBOUR: 'it returns false'. Refute it at one input. -/
def fnExactHomeKeyWrong : ChangeSpec := { name := "fnExactHomeKey", fn := fun _ => fun
  | [d1, d2] => { results := [.lit (.bool false)], args := [d1, d2] }
  | _ => none }
def FnExactHomeKeyWrongFalsely : Prop := fnExactHomeKeyRow.holds Try.pinned (OpenSpec.ofChange fnExactHomeKeyWrong)

/-- 'laws.FnExactPairwiseKey': WHATEVER THE INPUT: true; the input reads as it did. -/
def fnExactPairwiseKeySpec : ChangeSpec := { name := "fnExactPairwiseKey", fn := fun _ => fun
  | [d1, d2, d3] => { results := [.lit (.bool true)], args := [d1, d2, d3] }
  | _ => none }
def fnExactPairwiseKeyRow : OpenClaim := { program := "ytmhcbiipbilakaa", sum := "76741989f8cae8dc582b1aed2885990bbe70e9ca29ffc799592b979fe7ed706b", func := "loop.example/g00511/laws.FnExactPairwiseKey", spec := "fnExactPairwiseKey", apart := false }
def FnExactPairwiseKeySaid : Prop := fnExactPairwiseKeyRow.holds Try.pinned (OpenSpec.ofChange fnExactPairwiseKeySpec)

/-- ITS FALSE NEIGHBOUR: 'it returns false'. Refute it at one input. -/
def fnExactPairwiseKeyWrong : ChangeSpec := { name := "fnExactPairwiseKey", fn := fun _ => fun
  | [d1, d2, d3] => { results := [.lit (.bool false)], args := [d1, d2, d3] }
  | _ => none }
def FnExactPairwiseKeyWrongFalsely : Prop := fnExactPairwiseKeyRow.holds Try.pinned (OpenSpec.ofChange fnExactPairwiseKeyWrong)

/-- 'laws.FnExactSessionKeyOf': WHATEVER THE INPUT: true; the input reads as it did. -/
def fnExactSessionKeyOfSpec : ChangeSpec := { name := "fnExactSessionKeyOf", fn := fun _ => fun
  | [d1, d2, d3] => { results := [.lit (.bool true)], args := [d1, d2, d3] }
  | _ => none }
def fnExactSessionKeyOfRow : OpenClaim := { program := "ytmhcbiipbilakaa", sum := "76741989f8cae8dc582b1aed2885990bbe70e9ca29ffc799592b979fe7ed706b", func := "loop.example/g00511/laws.FnExactSessionKeyOf", spec := "fnExactSessionKeyOf", apart := false }
def FnExactSessionKeyOfSaid : Prop := fnExactSessionKeyOfRow.holds Try.pinned (OpenSpec.ofChange fnExactSessionKeyOfSpec)

/-- ITS FALSE NEIGHBOUR: 'it returns false'. Refute it at one input. -/
def fnExactSessionKeyOfWrong : ChangeSpec := { name := "fnExactSessionKeyOf", fn := fun _ => fun
  | [d1, d2, d3] => { results := [.lit (.bool false)], args := [d1, d2, d3] }
  | _ => none }
def FnExactSessionKeyOfWrongFalsely : Prop := fnExactSessionKeyOfRow.holds Try.pinned (OpenSpec.ofChange fnExactSessionKeyOfWrong)

/-- 'laws.FnExactVerifyHandshake': WHATEVER THE INPUT: true; the input reads as it did. -/
def fnExactVerifyHandshakeSpec : ChangeSpec := { name := "fnExactVerifyHandshake", fn := fun _ => fun
  | [d1, d2] => { results := [.lit (.bool true)], args := [d1, d2] }
  | _ => none }
def fnExactVerifyHandshakeRow : OpenClaim := { program := "ytmhcbiipbilakaa", sum := "76741989f8cae8dc582b1aed2885990bbe70e9ca29ffc799592b979fe7ed706b", func := "loop.example/g00511/laws.FnExactVerifyHandshake", spec := "fnExactVerifyHandshake", apart := false }
def FnExactVerifyHandshakeSaid : Prop := fnExactVerifyHandshakeRow.holds Try.pinned (OpenSpec.ofChange fnExactVerifyHandshakeSpec)

/-- ITS FALSE NEIGHBOUR: 'it returns false'. Refute it at one input. -/
def fnExactVerifyHandshakeWrong : ChangeSpec := { name := "fnExactVerifyHandshake", fn := fun _ => fun
  | [d1, d2] => { results := [.lit (.bool false)], args := [d1, d2] }
  | _ => none }
def FnExactVerifyHandshakeWrongFalsely : Prop := fnExactVerifyHandshakeRow.holds Try.pinned (OpenSpec.ofChange fnExactVerifyHandshakeWrong)

/-- 'laws.FnExactSignHandshake': WHATEVER THE INPUT: true; the input reads as it did. -/
def fnExactSignHandshakeSpec : ChangeSpec := { name := "fnExactSignHandshake", fn := fun _ => fun
  | [d1, d2] => { results := [.lit (.bool true)], args := [d1, d2] }
  | _ => none }
def fnExactSignHandshakeRow : OpenClaim := { program := "ytmhcbiipbilakaa", sum := "76741989f8cae8dc582b1aed2885990bbe70e9ca29ffc799592b979fe7ed706b", func := "loop.example/g00511/laws.FnExactSignHandshake", spec := "fnExactSignHandshake", apart := false }
def FnExactSignHandshakeSaid : Prop := fnExactSignHandshakeRow.holds Try.pinned (OpenSpec.ofChange fnExactSignHandshakeSpec)

/-- ITS FALSE NEIGHBOUR: 'it returns false'. Refute it at one input. -/
def fnExactSignHandshakeWrong : ChangeSpec := { name := "fnExactSignHandshake", fn := fun _ => fun
  | [d1, d2] => { results := [.lit (.bool false)], args := [d1, d2] }
  | _ => none }
def FnExactSignHandshakeWrongFalsely : Prop := fnExactSignHandshakeRow.holds Try.pinned (OpenSpec.ofChange fnExactSignHandshakeWrong)

/-- 'laws.FnExactSendFirst': WHATEVER THE INPUT: true; the input reads as it did. -/
def fnExactSendFirstSpec : ChangeSpec := { name := "fnExactSendFirst", fn := fun _ => fun
  | [d] => { results := [.lit (.bool true)], args := [d] }
  | _ => none }
def fnExactSendFirstRow : OpenClaim := { program := "ytmhcbiipbilakaa", sum := "76741989f8cae8dc582b1aed2885990bbe70e9ca29ffc799592b979fe7ed706b", func := "loop.example/g00511/laws.FnExactSendFirst", spec := "fnExactSendFirst", apart := false }
def FnExactSendFirstSaid : Prop := fnExactSendFirstRow.holds Try.pinned (OpenSpec.ofChange fnExactSendFirstSpec)

/-- ITS FALSE NEIGHBOUR: 'it returns false'. Refute it at one input. -/
def fnExactSendFirstWrong : ChangeSpec := { name := "fnExactSendFirst", fn := fun _ => fun
  | [d] => { results := [.lit (.bool false)], args := [d] }
  | _ => none }
def FnExactSendFirstWrongFalsely : Prop := fnExactSendFirstRow.holds Try.pinned (OpenSpec.ofChange fnExactSendFirstWrong)

/-- 'laws.FnExactResendThird': WHATEVER THE INPUT: true; the input reads as it did. -/
def fnExactResendThirdSpec : ChangeSpec := { name := "fnExactResendThird", fn := fun _ => fun
  | [d] => { results := [.lit (.bool true)], args := [d] }
  | _ => none }
def fnExactResendThirdRow : OpenClaim := { program := "ytmhcbiipbilakaa", sum := "76741989f8cae8dc582b1aed2885990bbe70e9ca29ffc799592b979fe7ed706b", func := "loop.example/g00511/laws.FnExactResendThird", spec := "fnExactResendThird", apart := false }
def FnExactResendThirdSaid : Prop := fnExactResendThirdRow.holds Try.pinned (OpenSpec.ofChange fnExactResendThirdSpec)

/-- ITS FALSE NEIGHBOUR: 'it returns false'. Refute it at one input. -/
def fnExactResendThirdWrong : ChangeSpec := { name := "fnExactResendThird", fn := fun _ => fun
  | [d] => { results := [.lit (.bool false)], args := [d] }
  | _ => none }
def FnExactResendThirdWrongFalsely : Prop := fnExactResendThirdRow.holds Try.pinned (OpenSpec.ofChange fnExactResendThirdWrong)

/-- 'laws.FnHandshake': WHATEVER THE INPUT: true; the input reads as it did. -/
def fnHandshakeSpec : ChangeSpec := { name := "fnHandshake", fn := fun _ => fun
  | [d] => { results := [.lit (.bool true)], args := [d] }
  | _ => none }
def fnHandshakeRow : OpenClaim := { program := "ytmhcbiipbilakaa", sum := "76741989f8cae8dc582b1aed2885990bbe70e9ca29ffc799592b979fe7ed706b", func := "loop.example/g00511/laws.FnHandshake", spec := "fnHandshake", apart := false }
def FnHandshakeSaid : Prop := fnHandshakeRow.holds Try.pinned (OpenSpec.ofChange fnHandshakeSpec)

/-- ITS FALSE NEIGHBOUR: 'it returns false'. Refute it at one input. -/
def fnHandshakeWrong : ChangeSpec := { name := "fnHandshake", fn := fun _ => fun
  | [d] => { results := [.lit (.bool false)], args := [d] }
  | _ => none }
def FnHandshakeWrongFalsely : Prop := fnHandshakeRow.holds Try.pinned (OpenSpec.ofChange fnHandshakeWrong)

/-- 'laws.FnNoReinstallation': WHATEVER THE INPUT: true; the input reads as it did. -/
def fnNoReinstallationSpec : ChangeSpec := { name := "fnNoReinstallation", fn := fun _ => fun
  | [d] => { results := [.lit (.bool true)], args := [d] }
  | _ => none }
def fnNoReinstallationRow : OpenClaim := { program := "ytmhcbiipbilakaa", sum := "76741989f8cae8dc582b1aed2885990bbe70e9ca29ffc799592b979fe7ed706b", func := "loop.example/g00511/laws.FnNoReinstallation", spec := "fnNoReinstallation", apart := false }
def FnNoReinstallationSaid : Prop := fnNoReinstallationRow.holds Try.pinned (OpenSpec.ofChange fnNoReinstallationSpec)

/-- ITS FALSE NEIGHBOUR: 'it returns false'. Refute it at one input. -/
def fnNoReinstallationWrong : ChangeSpec := { name := "fnNoReinstallation", fn := fun _ => fun
  | [d] => { results := [.lit (.bool false)], args := [d] }
  | _ => none }
def FnNoReinstallationWrongFalsely : Prop := fnNoReinstallationRow.holds Try.pinned (OpenSpec.ofChange fnNoReinstallationWrong)

/-- 'laws.FnHandshakeForgeries': WHATEVER THE INPUT: true; the input reads as it did. -/
def fnHandshakeForgeriesSpec : ChangeSpec := { name := "fnHandshakeForgeries", fn := fun _ => fun
  | [d] => { results := [.lit (.bool true)], args := [d] }
  | _ => none }
def fnHandshakeForgeriesRow : OpenClaim := { program := "ytmhcbiipbilakaa", sum := "76741989f8cae8dc582b1aed2885990bbe70e9ca29ffc799592b979fe7ed706b", func := "loop.example/g00511/laws.FnHandshakeForgeries", spec := "fnHandshakeForgeries", apart := false }
def FnHandshakeForgeriesSaid : Prop := fnHandshakeForgeriesRow.holds Try.pinned (OpenSpec.ofChange fnHandshakeForgeriesSpec)

/-- ITS FALSE NEIGHBOUR: 'it returns false'. Refute it at one input. -/
def fnHandshakeForgeriesWrong : ChangeSpec := { name := "fnHandshakeForgeries", fn := fun _ => fun
  | [d] => { results := [.lit (.bool false)], args := [d] }
  | _ => none }
def FnHandshakeForgeriesWrongFalsely : Prop := fnHandshakeForgeriesRow.holds Try.pinned (OpenSpec.ofChange fnHandshakeForgeriesWrong)

/- THE SECOND FORM. 'bulk': how many values and letters a reading holds, each counted each time it is reached (what is shared counts as often as it is met; a slice's spare places count too). A statement '..UptoSaid' is the law's where the arguments, and the package variables that the reading takes, are together of bulk at most 1048576: NARROWER than '..Said'. Prove '..Said' where nothing that the law and all that it calls make is longer than what came in: it says more and counts as full. Else prove '..UptoSaid'. A law counts once. -/
mutual
def uptoBulk {H : Type} : DataW H → Nat
  | .lit (.string bytes) => bytes.length + 1
  | .lit _ => 1
  | .nil => 1
  | .ptr d => uptoBulk d + 1
  | .slice elems spare => uptoBulkAll elems + uptoBulkAll spare + 1
  | .agg parts => uptoBulkAll parts + 1
  | .iface _ d => uptoBulk d + 1
  | .map entries => uptoBulkEntries entries + 1
  | .held _ => 1
def uptoBulkAll {H : Type} : List (DataW H) → Nat
  | [] => 0
  | d :: r => uptoBulk d + uptoBulkAll r
def uptoBulkEntries {H : Type} : List (Lit × DataW H) → Nat
  | [] => 0
  | x :: r => uptoBulkEntry x + uptoBulkEntries r
def uptoBulkEntry {H : Type} : Lit × DataW H → Nat
  | (.string bytes, d) => bytes.length + uptoBulk d + 1
  | (_, d) => uptoBulk d + 1
 end
def uptoSmall : (H : Type) → List (DataW H) → Bool := fun _ ds => decide (uptoBulkAll ds ≤ 1048576)
def OpenSpec.upto (s : _root_.Go.ChangeSpec) : _root_.Go.OpenSpec := { _root_.Go.OpenSpec.ofChange s with cond := some uptoSmall }

/-- 'laws.FnExactHomeKey', WHERE WHAT IT READS IS OF BULK AT MOST 1048576: true; the input reads as it did. -/
def fnExactHomeKeyUptoRow : OpenClaim := { program := "ytmhcbiipbilakaa", sum := "76741989f8cae8dc582b1aed2885990bbe70e9ca29ffc799592b979fe7ed706b", func := "loop.example/g00511/laws.FnExactHomeKey", spec := "fnExactHomeKey", apart := false, narrowed := true }
def FnExactHomeKeyUptoSaid : Prop := fnExactHomeKeyUptoRow.holds Try.pinned (OpenSpec.upto fnExactHomeKeySpec)

/-- 'laws.FnExactPairwiseKey', WHERE WHAT IT READS IS OF BULK AT MOST 1048576: true; the input reads as it did. -/
def fnExactPairwiseKeyUptoRow : OpenClaim := { program := "ytmhcbiipbilakaa", sum := "76741989f8cae8dc582b1aed2885990bbe70e9ca29ffc799592b979fe7ed706b", func := "loop.example/g00511/laws.FnExactPairwiseKey", spec := "fnExactPairwiseKey", apart := false, narrowed := true }
def FnExactPairwiseKeyUptoSaid : Prop := fnExactPairwiseKeyUptoRow.holds Try.pinned (OpenSpec.upto fnExactPairwiseKeySpec)

/-- 'laws.FnExactSessionKeyOf', WHERE WHAT IT READS IS OF BULK AT MOST 1048576: true; the input reads as it did. -/
def fnExactSessionKeyOfUptoRow : OpenClaim := { program := "ytmhcbiipbilakaa", sum := "76741989f8cae8dc582b1aed2885990bbe70e9ca29ffc799592b979fe7ed706b", func := "loop.example/g00511/laws.FnExactSessionKeyOf", spec := "fnExactSessionKeyOf", apart := false, narrowed := true }
def FnExactSessionKeyOfUptoSaid : Prop := fnExactSessionKeyOfUptoRow.holds Try.pinned (OpenSpec.upto fnExactSessionKeyOfSpec)

/-- 'laws.FnExactVerifyHandshake', WHERE WHAT IT READS IS OF BULK AT MOST 1048576: true; the input reads as it did. -/
def fnExactVerifyHandshakeUptoRow : OpenClaim := { program := "ytmhcbiipbilakaa", sum := "76741989f8cae8dc582b1aed2885990bbe70e9ca29ffc799592b979fe7ed706b", func := "loop.example/g00511/laws.FnExactVerifyHandshake", spec := "fnExactVerifyHandshake", apart := false, narrowed := true }
def FnExactVerifyHandshakeUptoSaid : Prop := fnExactVerifyHandshakeUptoRow.holds Try.pinned (OpenSpec.upto fnExactVerifyHandshakeSpec)

/-- 'laws.FnExactSignHandshake', WHERE WHAT IT READS IS OF BULK AT MOST 1048576: true; the input reads as it did. -/
def fnExactSignHandshakeUptoRow : OpenClaim := { program := "ytmhcbiipbilakaa", sum := "76741989f8cae8dc582b1aed2885990bbe70e9ca29ffc799592b979fe7ed706b", func := "loop.example/g00511/laws.FnExactSignHandshake", spec := "fnExactSignHandshake", apart := false, narrowed := true }
def FnExactSignHandshakeUptoSaid : Prop := fnExactSignHandshakeUptoRow.holds Try.pinned (OpenSpec.upto fnExactSignHandshakeSpec)

/-- 'laws.FnExactSendFirst', WHERE WHAT IT READS IS OF BULK AT MOST 1048576: true; the input reads as it did. -/
def fnExactSendFirstUptoRow : OpenClaim := { program := "ytmhcbiipbilakaa", sum := "76741989f8cae8dc582b1aed2885990bbe70e9ca29ffc799592b979fe7ed706b", func := "loop.example/g00511/laws.FnExactSendFirst", spec := "fnExactSendFirst", apart := false, narrowed := true }
def FnExactSendFirstUptoSaid : Prop := fnExactSendFirstUptoRow.holds Try.pinned (OpenSpec.upto fnExactSendFirstSpec)

/-- 'laws.FnExactResendThird', WHERE WHAT IT READS IS OF BULK AT MOST 1048576: true; the input reads as it did. -/
def fnExactResendThirdUptoRow : OpenClaim := { program := "ytmhcbiipbilakaa", sum := "76741989f8cae8dc582b1aed2885990bbe70e9ca29ffc799592b979fe7ed706b", func := "loop.example/g00511/laws.FnExactResendThird", spec := "fnExactResendThird", apart := false, narrowed := true }
def FnExactResendThirdUptoSaid : Prop := fnExactResendThirdUptoRow.holds Try.pinned (OpenSpec.upto fnExactResendThirdSpec)

/-- 'laws.FnHandshake', WHERE WHAT IT READS IS OF BULK AT MOST 1048576: true; the input reads as it did. -/
def fnHandshakeUptoRow : OpenClaim := { program := "ytmhcbiipbilakaa", sum := "76741989f8cae8dc582b1aed2885990bbe70e9ca29ffc799592b979fe7ed706b", func := "loop.example/g00511/laws.FnHandshake", spec := "fnHandshake", apart := false, narrowed := true }
def FnHandshakeUptoSaid : Prop := fnHandshakeUptoRow.holds Try.pinned (OpenSpec.upto fnHandshakeSpec)

/-- 'laws.FnNoReinstallation', WHERE WHAT IT READS IS OF BULK AT MOST 1048576: true; the input reads as it did. -/
def fnNoReinstallationUptoRow : OpenClaim := { program := "ytmhcbiipbilakaa", sum := "76741989f8cae8dc582b1aed2885990bbe70e9ca29ffc799592b979fe7ed706b", func := "loop.example/g00511/laws.FnNoReinstallation", spec := "fnNoReinstallation", apart := false, narrowed := true }
def FnNoReinstallationUptoSaid : Prop := fnNoReinstallationUptoRow.holds Try.pinned (OpenSpec.upto fnNoReinstallationSpec)

/-- 'laws.FnHandshakeForgeries', WHERE WHAT IT READS IS OF BULK AT MOST 1048576: true; the input reads as it did. -/
def fnHandshakeForgeriesUptoRow : OpenClaim := { program := "ytmhcbiipbilakaa", sum := "76741989f8cae8dc582b1aed2885990bbe70e9ca29ffc799592b979fe7ed706b", func := "loop.example/g00511/laws.FnHandshakeForgeries", spec := "fnHandshakeForgeries", apart := false, narrowed := true }
def FnHandshakeForgeriesUptoSaid : Prop := fnHandshakeForgeriesUptoRow.holds Try.pinned (OpenSpec.upto fnHandshakeForgeriesSpec)

end Rows
end Go.Proofs.Ytmhcbiipbilakaa
