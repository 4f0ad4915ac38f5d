/- Contracts of the laws' helpers on slices of numbers: a copy in new memory; the comparison of two slices that read the same. -/
import Derived.Test.YtikolopdkjocgaaBytes
import Derived.BigQuiet
import Derived.Deep.QuietTactic
namespace Go.Proofs.Ytikolopdkjocgaa.Sls
open Go.RowKit
open Go.Proofs.Ytikolopdkjocgaa.Num Go.Proofs.Ytikolopdkjocgaa.Mem Go.Proofs.Ytikolopdkjocgaa.Hsh

theorem row_at {k : Nat} {zs : List Int} {Z : List Value} {f : Int → Value} (h1 : k < zs.length) (h2 : k < Z.length) : ((zs.take k).map f ++ Z.drop k)[k]? = some (Z.getD k (.int .i64 0)) := by
  rw [List.getElem?_append_right (by simp; omega)]
  simp [List.getD, h2, Nat.min_eq_left (Nat.le_of_lt h1)]
theorem row_step {k : Nat} {zs : List Int} {Z : List Value} {f : Int → Value} (h1 : k < zs.length) (h2 : k < Z.length) : ((zs.take k).map f ++ Z.drop k).set k (f (zs.getD k 0)) = (zs.take (k + 1)).map f ++ Z.drop (k + 1) := by
  rw [List.set_append_right _ _ (by simp; omega), take_snoc zs k h1, List.map_append, List.append_assoc]
  congr 1
  rw [List.length_map, List.length_take, Nat.min_eq_left (Nat.le_of_lt h1), Nat.sub_self, List.drop_eq_getElem_cons h2]
  rfl
/-- the answer of a comparison; all that was there is as it was -/
def Says (b : Prop) [Decidable b] (w : World) (e : Ending) (w' : World) : Prop := e = .returned (.bool (decide b)) ∧ Below w.heap.size w w'
theorem says_yes {b : Prop} [Decidable b] {w w' : World} (h : b) (hb : Below w.heap.size w w') : Says b w (.returned (.bool true)) w' := ⟨by rw [decide_eq_true h], hb⟩
theorem says_no {b : Prop} [Decidable b] {w w' : World} (h : ¬ b) (hb : Below w.heap.size w w') : Says b w (.returned (.bool false)) w' := ⟨by rw [decide_eq_false h], hb⟩
theorem below_drewN {B : Nat} {a w : World} (h : Below B a w) (k : Nat) : Below B a (w.drewN k) := ⟨h.os, h.tape, h.output, h.size, h.block⟩
theorem eq_step {xs ys : List Int} {k : Nat} (h1 : k < xs.length) (h2 : k < ys.length) (h : xs.take k = ys.take k) (he : xs.getD k 0 = ys.getD k 0) : xs.take (k + 1) = ys.take (k + 1) := by
  rw [take_snoc xs k h1, take_snoc ys k h2, h, he]
theorem neq_at {xs ys : List Int} {k : Nat} (h : ¬ xs.getD k 0 = ys.getD k 0) : ¬ xs = ys := fun e => h (by rw [e])
end Go.Proofs.Ytikolopdkjocgaa.Sls
