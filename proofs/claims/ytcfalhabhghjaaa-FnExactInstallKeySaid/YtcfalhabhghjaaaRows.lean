/-
  No cell of these rows narrows 'for every input' (looked for: loops, veiled, ifaces, maps, wideKeys, modest, calm, conditions, laid).
  DERIVED. THE GIVEN ROWS OF THIS SEAT. 4 by the template 'for every input the law returns true; each argument reads behind the call as it read before'; 0 by the template 'total and deterministic' (their statements: YtcfalhabhghjaaaTotals.lean).
  GIVEN WITH THE SEED: the statements are not yours to turn. If you find one false, say at which input.
  Laid BY PROGRAM, IN A SANDBOX (cutbox-rows.mjs): the forced cells as the released guide's own fill.sh prints them over the translation dbef1a98e6fcb68a… (all of the seat's roots in one cut). By AI agents, Wed Nov 11 2026. No macro, syntax, notation, axiom, sorry.
-/
import Derived.Test.YtcfalhabhghjaaaChecked
import GoSem.Claim
import GoSem.ClaimJoined
import GoSem.ClaimMapViews
import Derived.JoinedTies
import Derived.KernelRfl
namespace Go.Proofs.Ytcfalhabhghjaaa
/- THE CELL 'sum', in the pinned program and in every row, IS THE sha256 OF THE DUMP (.gsa) THAT YtcfalhabhghjaaaProg.lean LOADS. Nothing in Lean hashes anything: it is a label: what it is worth is what the hold of that sum in a sandbox is worth. -/
noncomputable def Try.pinned : Pinned := { name := "ytcfalhabhghjaaa", sum := "dbef1a98e6fcb68add7ccceec71d00ea02910d30a0b30110de3b55d090ac57e5", checked := Try.checked }
namespace Rows
def none {H : Type} : Left H := { results := [], args := [] }

/-- 'laws.FnExactEqualKeyStates': WHATEVER THE INPUT: true; the input reads as it did. -/
def fnExactEqualKeyStatesSpec : ChangeSpec := { name := "fnExactEqualKeyStates", fn := fun _ => fun
  | [d1, d2] => { results := [.lit (.bool true)], args := [d1, d2] }
  | _ => none }
def fnExactEqualKeyStatesRow : OpenClaim := { program := "ytcfalhabhghjaaa", sum := "dbef1a98e6fcb68add7ccceec71d00ea02910d30a0b30110de3b55d090ac57e5", func := "loop.example/g00511/laws.FnExactEqualKeyStates", spec := "fnExactEqualKeyStates", apart := false }
def FnExactEqualKeyStatesSaid : Prop := fnExactEqualKeyStatesRow.holds Try.pinned (OpenSpec.ofChange fnExactEqualKeyStatesSpec)

/-- ITS FALSE NEIGHBOUR: 'it returns false'. Refute it at one input. -/
def fnExactEqualKeyStatesWrong : ChangeSpec := { name := "fnExactEqualKeyStates", fn := fun _ => fun
  | [d1, d2] => { results := [.lit (.bool false)], args := [d1, d2] }
  | _ => none }
def FnExactEqualKeyStatesWrongFalsely : Prop := fnExactEqualKeyStatesRow.holds Try.pinned (OpenSpec.ofChange fnExactEqualKeyStatesWrong)

/-- 'laws.FnExactIsValidKeyState': WHATEVER THE INPUT: true; the input reads as it did. -/
def fnExactIsValidKeyStateSpec : ChangeSpec := { name := "fnExactIsValidKeyState", fn := fun _ => fun
  | [d] => { results := [.lit (.bool true)], args := [d] }
  | _ => none }
def fnExactIsValidKeyStateRow : OpenClaim := { program := "ytcfalhabhghjaaa", sum := "dbef1a98e6fcb68add7ccceec71d00ea02910d30a0b30110de3b55d090ac57e5", func := "loop.example/g00511/laws.FnExactIsValidKeyState", spec := "fnExactIsValidKeyState", apart := false }
def FnExactIsValidKeyStateSaid : Prop := fnExactIsValidKeyStateRow.holds Try.pinned (OpenSpec.ofChange fnExactIsValidKeyStateSpec)

/-- ITS FALSE NEIGHBOUR: 'it returns false'. Refute it at one input. -/
def fnExactIsValidKeyStateWrong : ChangeSpec := { name := "fnExactIsValidKeyState", fn := fun _ => fun
  | [d] => { results := [.lit (.bool false)], args := [d] }
  | _ => none }
def FnExactIsValidKeyStateWrongFalsely : Prop := fnExactIsValidKeyStateRow.holds Try.pinned (OpenSpec.ofChange fnExactIsValidKeyStateWrong)

/-- 'laws.FnExactRemainingFrames': WHATEVER THE INPUT: true; the input reads as it did. -/
def fnExactRemainingFramesSpec : ChangeSpec := { name := "fnExactRemainingFrames", fn := fun _ => fun
  | [d] => { results := [.lit (.bool true)], args := [d] }
  | _ => none }
def fnExactRemainingFramesRow : OpenClaim := { program := "ytcfalhabhghjaaa", sum := "dbef1a98e6fcb68add7ccceec71d00ea02910d30a0b30110de3b55d090ac57e5", func := "loop.example/g00511/laws.FnExactRemainingFrames", spec := "fnExactRemainingFrames", apart := false }
def FnExactRemainingFramesSaid : Prop := fnExactRemainingFramesRow.holds Try.pinned (OpenSpec.ofChange fnExactRemainingFramesSpec)

/-- ITS FALSE NEIGHBOUR: 'it returns false'. Refute it at one input. -/
def fnExactRemainingFramesWrong : ChangeSpec := { name := "fnExactRemainingFrames", fn := fun _ => fun
  | [d] => { results := [.lit (.bool false)], args := [d] }
  | _ => none }
def FnExactRemainingFramesWrongFalsely : Prop := fnExactRemainingFramesRow.holds Try.pinned (OpenSpec.ofChange fnExactRemainingFramesWrong)

/-- 'laws.FnExactInstallKey': WHATEVER THE INPUT: true; the input reads as it did. -/
def fnExactInstallKeySpec : ChangeSpec := { name := "fnExactInstallKey", fn := fun _ => fun
  | [d1, d2] => { results := [.lit (.bool true)], args := [d1, d2] }
  | _ => none }
def fnExactInstallKeyRow : OpenClaim := { program := "ytcfalhabhghjaaa", sum := "dbef1a98e6fcb68add7ccceec71d00ea02910d30a0b30110de3b55d090ac57e5", func := "loop.example/g00511/laws.FnExactInstallKey", spec := "fnExactInstallKey", apart := false }
def FnExactInstallKeySaid : Prop := fnExactInstallKeyRow.holds Try.pinned (OpenSpec.ofChange fnExactInstallKeySpec)

/-- ITS FALSE NEIGHBOUR: 'it returns false'. Refute it at one input. -/
def fnExactInstallKeyWrong : ChangeSpec := { name := "fnExactInstallKey", fn := fun _ => fun
  | [d1, d2] => { results := [.lit (.bool false)], args := [d1, d2] }
  | _ => none }
def FnExactInstallKeyWrongFalsely : Prop := fnExactInstallKeyRow.holds Try.pinned (OpenSpec.ofChange fnExactInstallKeyWrong)

/- THE SECOND FORM. 'bulk': how many values and letters a reading holds, each counted each time it is reached (what is shared counts as often as it is met; a slice's spare places count too). A statement '..UptoSaid' is the law's where the arguments, and the package variables that the reading takes, are together of bulk at most 1048576: NARROWER than '..Said'. Prove '..Said' where nothing that the law and all that it calls make is longer than what came in: it says more and counts as full. Else prove '..UptoSaid'. A law counts once. -/
mutual
def uptoBulk {H : Type} : DataW H → Nat
  | .lit (.string bytes) => bytes.length + 1
  | .lit _ => 1
  | .nil => 1
  | .ptr d => uptoBulk d + 1
  | .slice elems spare => uptoBulkAll elems + uptoBulkAll spare + 1
  | .agg parts => uptoBulkAll parts + 1
  | .iface _ d => uptoBulk d + 1
  | .map entries => uptoBulkEntries entries + 1
  | .held _ => 1
def uptoBulkAll {H : Type} : List (DataW H) → Nat
  | [] => 0
  | d :: r => uptoBulk d + uptoBulkAll r
def uptoBulkEntries {H : Type} : List (Lit × DataW H) → Nat
  | [] => 0
  | x :: r => uptoBulkEntry x + uptoBulkEntries r
def uptoBulkEntry {H : Type} : Lit × DataW H → Nat
  | (.string bytes, d) => bytes.length + uptoBulk d + 1
  | (_, d) => uptoBulk d + 1
 end
def uptoSmall : (H : Type) → List (DataW H) → Bool := fun _ ds => decide (uptoBulkAll ds ≤ 1048576)
def OpenSpec.upto (s : _root_.Go.ChangeSpec) : _root_.Go.OpenSpec := { _root_.Go.OpenSpec.ofChange s with cond := some uptoSmall }

/-- 'laws.FnExactEqualKeyStates', WHERE WHAT IT READS IS OF BULK AT MOST 1048576: true; the input reads as it did. -/
def fnExactEqualKeyStatesUptoRow : OpenClaim := { program := "ytcfalhabhghjaaa", sum := "dbef1a98e6fcb68add7ccceec71d00ea02910d30a0b30110de3b55d090ac57e5", func := "loop.example/g00511/laws.FnExactEqualKeyStates", spec := "fnExactEqualKeyStates", apart := false, narrowed := true }
def FnExactEqualKeyStatesUptoSaid : Prop := fnExactEqualKeyStatesUptoRow.holds Try.pinned (OpenSpec.upto fnExactEqualKeyStatesSpec)

/-- 'laws.FnExactIsValidKeyState', WHERE WHAT IT READS IS OF BULK AT MOST 1048576: true; the input reads as it did. -/
def fnExactIsValidKeyStateUptoRow : OpenClaim := { program := "ytcfalhabhghjaaa", sum := "dbef1a98e6fcb68add7ccceec71d00ea02910d30a0b30110de3b55d090ac57e5", func := "loop.example/g00511/laws.FnExactIsValidKeyState", spec := "fnExactIsValidKeyState", apart := false, narrowed := true }
def FnExactIsValidKeyStateUptoSaid : Prop := fnExactIsValidKeyStateUptoRow.holds Try.pinned (OpenSpec.upto fnExactIsValidKeyStateSpec)

/-- 'laws.FnExactRemainingFrames', WHERE WHAT IT READS IS OF BULK AT MOST 1048576: true; the input reads as it did. -/
def fnExactRemainingFramesUptoRow : OpenClaim := { program := "ytcfalhabhghjaaa", sum := "dbef1a98e6fcb68add7ccceec71d00ea02910d30a0b30110de3b55d090ac57e5", func := "loop.example/g00511/laws.FnExactRemainingFrames", spec := "fnExactRemainingFrames", apart := false, narrowed := true }
def FnExactRemainingFramesUptoSaid : Prop := fnExactRemainingFramesUptoRow.holds Try.pinned (OpenSpec.upto fnExactRemainingFramesSpec)

/-- 'laws.FnExactInstallKey', WHERE WHAT IT READS IS OF BULK AT MOST 1048576: true; the input reads as it did. -/
def fnExactInstallKeyUptoRow : OpenClaim := { program := "ytcfalhabhghjaaa", sum := "dbef1a98e6fcb68add7ccceec71d00ea02910d30a0b30110de3b55d090ac57e5", func := "loop.example/g00511/laws.FnExactInstallKey", spec := "fnExactInstallKey", apart := false, narrowed := true }
def FnExactInstallKeyUptoSaid : Prop := fnExactInstallKeyUptoRow.holds Try.pinned (OpenSpec.upto fnExactInstallKeySpec)

end Rows
end Go.Proofs.Ytcfalhabhghjaaa
