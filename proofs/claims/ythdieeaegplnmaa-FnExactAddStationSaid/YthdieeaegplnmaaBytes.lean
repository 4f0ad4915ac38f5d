/- Contracts of BytesToInts: the length, then each byte as a number, in new memory. -/
import Derived.Test.YthdieeaegplnmaaKeyed
namespace Go.Proofs.Ythdieeaegplnmaa.Hsh
open Go.RowKit
open Go.Proofs.Ythdieeaegplnmaa.Num Go.Proofs.Ythdieeaegplnmaa.Mem

/-- each number is a byte -/
def AllBytes (bs : List Int) : Prop := ∀ z ∈ bs, 0 ≤ z ∧ z ≤ 255
theorem AllBytes.at_ {bs : List Int} (h : AllBytes bs) {k : Nat} (hk : k < bs.length) : 0 ≤ bs.getD k 0 ∧ bs.getD k 0 ≤ 255 := by
  refine h _ ?_
  rw [List.getD_eq_getElem?_getD, List.getElem?_eq_getElem hk]
  exact List.getElem_mem _
/-- the bytes as numbers, their count ahead -/
def bytesNums (bs : List Int) : List Int := (bs.length : Int) :: bs
theorem nums_snoc (n : Int) (bs : List Int) (k : Nat) (h : k < bs.length) (z : Int) (hz : bs.getD k 0 = z) : (n :: bs.take (k + 1)).map (Value.int .i64) = (n :: bs.take k).map (Value.int .i64) ++ [.int .i64 z] := by
  rw [take_snoc bs k h, hz]; simp

end Go.Proofs.Ythdieeaegplnmaa.Hsh
