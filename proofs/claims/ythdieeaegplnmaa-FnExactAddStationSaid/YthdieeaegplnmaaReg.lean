/- Two words for regions that draw their order, walked operation by operation. -/
import Derived.Deep.RegionHeld3
import Derived.ProofKit
namespace Go.Proofs.Ythdieeaegplnmaa.Reg
open Go.RowKit
theorem get {ops : Array Oper} {i : Nat} {o : Oper} {l : List Oper} (h : ops.toList.drop i = o :: l) : ops[i]? = some o := by
  rw [← Array.getElem?_toList]
  have : ops.toList[i]? = (ops.toList.drop i)[0]? := by rw [List.getElem?_drop, Nat.add_zero]
  rw [this, h]
  rfl
end Go.Proofs.Ythdieeaegplnmaa.Reg
