/-
  No cell of these rows narrows 'for every input' (looked for: loops, veiled, ifaces, maps, wideKeys, modest, calm, conditions, laid).
  DERIVED. THE GIVEN ROWS OF THIS SEAT. 6 by the template 'for every input the law returns true; each argument reads behind the call as it read before'; 0 by the template 'total and deterministic' (their statements: YthdieeaegplnmaaTotals.lean).
  GIVEN WITH THE SEED: the statements are not yours to turn. If you find one false, say at which input.
  Laid BY PROGRAM, IN A SANDBOX (cutbox-rows.mjs): the forced cells as the released guide's own fill.sh prints them over the translation 49fe265bda8d705f… (all of the seat's roots in one cut). By AI agents, Wed Nov 11 2026. No macro, syntax, notation, axiom, sorry.
-/
import Derived.Test.YthdieeaegplnmaaChecked
import GoSem.Claim
import GoSem.ClaimJoined
import GoSem.ClaimMapViews
import Derived.JoinedTies
import Derived.KernelRfl
namespace Go.Proofs.Ythdieeaegplnmaa
/- THE CELL 'sum', in the pinned program and in every row, IS THE sha256 OF THE DUMP (.gsa) THAT YthdieeaegplnmaaProg.lean LOADS. Nothing in Lean hashes anything: it is a label: what it is worth is what the hold of that sum in a sandbox is worth. -/
noncomputable def Try.pinned : Pinned := { name := "ythdieeaegplnmaa", sum := "49fe265bda8d705f98f3839aa602f9eed4c9aa4ddc991c8dd66447fdc8323f99", checked := Try.checked }
namespace Rows
def none {H : Type} : Left H := { results := [], args := [] }

/-- 'laws.FnExactKeepGroupFrame': WHATEVER THE INPUT: true; the input reads as it did. -/
def fnExactKeepGroupFrameSpec : ChangeSpec := { name := "fnExactKeepGroupFrame", fn := fun _ => fun
  | [d1, d2] => { results := [.lit (.bool true)], args := [d1, d2] }
  | _ => none }
def fnExactKeepGroupFrameRow : OpenClaim := { program := "ythdieeaegplnmaa", sum := "49fe265bda8d705f98f3839aa602f9eed4c9aa4ddc991c8dd66447fdc8323f99", func := "loop.example/g00511/laws.FnExactKeepGroupFrame", spec := "fnExactKeepGroupFrame", apart := false }
def FnExactKeepGroupFrameSaid : Prop := fnExactKeepGroupFrameRow.holds Try.pinned (OpenSpec.ofChange fnExactKeepGroupFrameSpec)

/-- ITS FALSE NEIGHBOUR: 'it returns false'. Refute it at one input. -/
def fnExactKeepGroupFrameWrong : ChangeSpec := { name := "fnExactKeepGroupFrame", fn := fun _ => fun
  | [d1, d2] => { results := [.lit (.bool false)], args := [d1, d2] }
  | _ => none }
def FnExactKeepGroupFrameWrongFalsely : Prop := fnExactKeepGroupFrameRow.holds Try.pinned (OpenSpec.ofChange fnExactKeepGroupFrameWrong)

/-- 'laws.FnGroupTraffic': WHATEVER THE INPUT: true; the input reads as it did. -/
def fnGroupTrafficSpec : ChangeSpec := { name := "fnGroupTraffic", fn := fun _ => fun
  | [d] => { results := [.lit (.bool true)], args := [d] }
  | _ => none }
def fnGroupTrafficRow : OpenClaim := { program := "ythdieeaegplnmaa", sum := "49fe265bda8d705f98f3839aa602f9eed4c9aa4ddc991c8dd66447fdc8323f99", func := "loop.example/g00511/laws.FnGroupTraffic", spec := "fnGroupTraffic", apart := false }
def FnGroupTrafficSaid : Prop := fnGroupTrafficRow.holds Try.pinned (OpenSpec.ofChange fnGroupTrafficSpec)

/-- ITS FALSE NEIGHBOUR: 'it returns false'. Refute it at one input. -/
def fnGroupTrafficWrong : ChangeSpec := { name := "fnGroupTraffic", fn := fun _ => fun
  | [d] => { results := [.lit (.bool false)], args := [d] }
  | _ => none }
def FnGroupTrafficWrongFalsely : Prop := fnGroupTrafficRow.holds Try.pinned (OpenSpec.ofChange fnGroupTrafficWrong)

/-- 'laws.FnExactMakeBeacon': WHATEVER THE INPUT: true; the input reads as it did. -/
def fnExactMakeBeaconSpec : ChangeSpec := { name := "fnExactMakeBeacon", fn := fun _ => fun
  | [d1, d2, d3, d4] => { results := [.lit (.bool true)], args := [d1, d2, d3, d4] }
  | _ => none }
def fnExactMakeBeaconRow : OpenClaim := { program := "ythdieeaegplnmaa", sum := "49fe265bda8d705f98f3839aa602f9eed4c9aa4ddc991c8dd66447fdc8323f99", func := "loop.example/g00511/laws.FnExactMakeBeacon", spec := "fnExactMakeBeacon", apart := false }
def FnExactMakeBeaconSaid : Prop := fnExactMakeBeaconRow.holds Try.pinned (OpenSpec.ofChange fnExactMakeBeaconSpec)

/-- ITS FALSE NEIGHBOUR: 'it returns false'. Refute it at one input. -/
def fnExactMakeBeaconWrong : ChangeSpec := { name := "fnExactMakeBeacon", fn := fun _ => fun
  | [d1, d2, d3, d4] => { results := [.lit (.bool false)], args := [d1, d2, d3, d4] }
  | _ => none }
def FnExactMakeBeaconWrongFalsely : Prop := fnExactMakeBeaconRow.holds Try.pinned (OpenSpec.ofChange fnExactMakeBeaconWrong)

/-- 'laws.FnExactAddStation': WHATEVER THE INPUT: true; the input reads as it did. -/
def fnExactAddStationSpec : ChangeSpec := { name := "fnExactAddStation", fn := fun _ => fun
  | [d1, d2] => { results := [.lit (.bool true)], args := [d1, d2] }
  | _ => none }
def fnExactAddStationRow : OpenClaim := { program := "ythdieeaegplnmaa", sum := "49fe265bda8d705f98f3839aa602f9eed4c9aa4ddc991c8dd66447fdc8323f99", func := "loop.example/g00511/laws.FnExactAddStation", spec := "fnExactAddStation", apart := false }
def FnExactAddStationSaid : Prop := fnExactAddStationRow.holds Try.pinned (OpenSpec.ofChange fnExactAddStationSpec)

/-- ITS FALSE NEIGHBOUR: 'it returns false'. Refute it at one input. -/
def fnExactAddStationWrong : ChangeSpec := { name := "fnExactAddStation", fn := fun _ => fun
  | [d1, d2] => { results := [.lit (.bool false)], args := [d1, d2] }
  | _ => none }
def FnExactAddStationWrongFalsely : Prop := fnExactAddStationRow.holds Try.pinned (OpenSpec.ofChange fnExactAddStationWrong)

/-- 'laws.FnKeptTraffic': WHATEVER THE INPUT: true; the input reads as it did. -/
def fnKeptTrafficSpec : ChangeSpec := { name := "fnKeptTraffic", fn := fun _ => fun
  | [d] => { results := [.lit (.bool true)], args := [d] }
  | _ => none }
def fnKeptTrafficRow : OpenClaim := { program := "ythdieeaegplnmaa", sum := "49fe265bda8d705f98f3839aa602f9eed4c9aa4ddc991c8dd66447fdc8323f99", func := "loop.example/g00511/laws.FnKeptTraffic", spec := "fnKeptTraffic", apart := false }
def FnKeptTrafficSaid : Prop := fnKeptTrafficRow.holds Try.pinned (OpenSpec.ofChange fnKeptTrafficSpec)

/-- ITS FALSE NEIGHBOUR: 'it returns false'. Refute it at one input. -/
def fnKeptTrafficWrong : ChangeSpec := { name := "fnKeptTraffic", fn := fun _ => fun
  | [d] => { results := [.lit (.bool false)], args := [d] }
  | _ => none }
def FnKeptTrafficWrongFalsely : Prop := fnKeptTrafficRow.holds Try.pinned (OpenSpec.ofChange fnKeptTrafficWrong)

/-- 'laws.FnNothingMissed': WHATEVER THE INPUT: true; the input reads as it did. -/
def fnNothingMissedSpec : ChangeSpec := { name := "fnNothingMissed", fn := fun _ => fun
  | [d] => { results := [.lit (.bool true)], args := [d] }
  | _ => none }
def fnNothingMissedRow : OpenClaim := { program := "ythdieeaegplnmaa", sum := "49fe265bda8d705f98f3839aa602f9eed4c9aa4ddc991c8dd66447fdc8323f99", func := "loop.example/g00511/laws.FnNothingMissed", spec := "fnNothingMissed", apart := false }
def FnNothingMissedSaid : Prop := fnNothingMissedRow.holds Try.pinned (OpenSpec.ofChange fnNothingMissedSpec)

/-- ITS FALSE NEIGHBOUR: 'it returns false'. Refute it at one input. -/
def fnNothingMissedWrong : ChangeSpec := { name := "fnNothingMissed", fn := fun _ => fun
  | [d] => { results := [.lit (.bool false)], args := [d] }
  | _ => none }
def FnNothingMissedWrongFalsely : Prop := fnNothingMissedRow.holds Try.pinned (OpenSpec.ofChange fnNothingMissedWrong)

/- THE SECOND FORM. 'bulk': how many values and letters a reading holds, each counted each time it is reached (what is shared counts as often as it is met; a slice's spare places count too). A statement '..UptoSaid' is the law's where the arguments, and the package variables that the reading takes, are together of bulk at most 1048576: NARROWER than '..Said'. Prove '..Said' where nothing that the law and all that it calls make is longer than what came in: it says more and counts as full. Else prove '..UptoSaid'. A law counts once. -/
mutual
def uptoBulk {H : Type} : DataW H → Nat
  | .lit (.string bytes) => bytes.length + 1
  | .lit _ => 1
  | .nil => 1
  | .ptr d => uptoBulk d + 1
  | .slice elems spare => uptoBulkAll elems + uptoBulkAll spare + 1
  | .agg parts => uptoBulkAll parts + 1
  | .iface _ d => uptoBulk d + 1
  | .map entries => uptoBulkEntries entries + 1
  | .held _ => 1
def uptoBulkAll {H : Type} : List (DataW H) → Nat
  | [] => 0
  | d :: r => uptoBulk d + uptoBulkAll r
def uptoBulkEntries {H : Type} : List (Lit × DataW H) → Nat
  | [] => 0
  | x :: r => uptoBulkEntry x + uptoBulkEntries r
def uptoBulkEntry {H : Type} : Lit × DataW H → Nat
  | (.string bytes, d) => bytes.length + uptoBulk d + 1
  | (_, d) => uptoBulk d + 1
 end
def uptoSmall : (H : Type) → List (DataW H) → Bool := fun _ ds => decide (uptoBulkAll ds ≤ 1048576)
def OpenSpec.upto (s : _root_.Go.ChangeSpec) : _root_.Go.OpenSpec := { _root_.Go.OpenSpec.ofChange s with cond := some uptoSmall }

/-- 'laws.FnExactKeepGroupFrame', WHERE WHAT IT READS IS OF BULK AT MOST 1048576: true; the input reads as it did. -/
def fnExactKeepGroupFrameUptoRow : OpenClaim := { program := "ythdieeaegplnmaa", sum := "49fe265bda8d705f98f3839aa602f9eed4c9aa4ddc991c8dd66447fdc8323f99", func := "loop.example/g00511/laws.FnExactKeepGroupFrame", spec := "fnExactKeepGroupFrame", apart := false, narrowed := true }
def FnExactKeepGroupFrameUptoSaid : Prop := fnExactKeepGroupFrameUptoRow.holds Try.pinned (OpenSpec.upto fnExactKeepGroupFrameSpec)

/-- 'laws.FnGroupTraffic', WHERE WHAT IT READS IS OF BULK AT MOST 1048576: true; the input reads as it did. -/
def fnGroupTrafficUptoRow : OpenClaim := { program := "ythdieeaegplnmaa", sum := "49fe265bda8d705f98f3839aa602f9eed4c9aa4ddc991c8dd66447fdc8323f99", func := "loop.example/g00511/laws.FnGroupTraffic", spec := "fnGroupTraffic", apart := false, narrowed := true }
def FnGroupTrafficUptoSaid : Prop := fnGroupTrafficUptoRow.holds Try.pinned (OpenSpec.upto fnGroupTrafficSpec)

/-- 'laws.FnExactMakeBeacon', WHERE WHAT IT READS IS OF BULK AT MOST 1048576: true; the input reads as it did. -/
def fnExactMakeBeaconUptoRow : OpenClaim := { program := "ythdieeaegplnmaa", sum := "49fe265bda8d705f98f3839aa602f9eed4c9aa4ddc991c8dd66447fdc8323f99", func := "loop.example/g00511/laws.FnExactMakeBeacon", spec := "fnExactMakeBeacon", apart := false, narrowed := true }
def FnExactMakeBeaconUptoSaid : Prop := fnExactMakeBeaconUptoRow.holds Try.pinned (OpenSpec.upto fnExactMakeBeaconSpec)

/-- 'laws.FnExactAddStation', WHERE WHAT IT READS IS OF BULK AT MOST 1048576: true; the input reads as it did. -/
def fnExactAddStationUptoRow : OpenClaim := { program := "ythdieeaegplnmaa", sum := "49fe265bda8d705f98f3839aa602f9eed4c9aa4ddc991c8dd66447fdc8323f99", func := "loop.example/g00511/laws.FnExactAddStation", spec := "fnExactAddStation", apart := false, narrowed := true }
def FnExactAddStationUptoSaid : Prop := fnExactAddStationUptoRow.holds Try.pinned (OpenSpec.upto fnExactAddStationSpec)

/-- 'laws.FnKeptTraffic', WHERE WHAT IT READS IS OF BULK AT MOST 1048576: true; the input reads as it did. -/
def fnKeptTrafficUptoRow : OpenClaim := { program := "ythdieeaegplnmaa", sum := "49fe265bda8d705f98f3839aa602f9eed4c9aa4ddc991c8dd66447fdc8323f99", func := "loop.example/g00511/laws.FnKeptTraffic", spec := "fnKeptTraffic", apart := false, narrowed := true }
def FnKeptTrafficUptoSaid : Prop := fnKeptTrafficUptoRow.holds Try.pinned (OpenSpec.upto fnKeptTrafficSpec)

/-- 'laws.FnNothingMissed', WHERE WHAT IT READS IS OF BULK AT MOST 1048576: true; the input reads as it did. -/
def fnNothingMissedUptoRow : OpenClaim := { program := "ythdieeaegplnmaa", sum := "49fe265bda8d705f98f3839aa602f9eed4c9aa4ddc991c8dd66447fdc8323f99", func := "loop.example/g00511/laws.FnNothingMissed", spec := "fnNothingMissed", apart := false, narrowed := true }
def FnNothingMissedUptoSaid : Prop := fnNothingMissedUptoRow.holds Try.pinned (OpenSpec.upto fnNothingMissedSpec)

end Rows
end Go.Proofs.Ythdieeaegplnmaa
