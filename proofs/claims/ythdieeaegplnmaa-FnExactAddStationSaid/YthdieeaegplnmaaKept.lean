/- Rows that stay as they were. -/
import Derived.Test.YthdieeaegplnmaaBlk
namespace Go.Proofs.Ythdieeaegplnmaa.Bk
open Go.RowKit
/-- blocks from lo on that were there at w0 are as they were -/
def Kept (lo : Nat) (w0 w : World) : Prop := w0.heap.size ≤ w.heap.size ∧ ∀ g, lo ≤ g → g < w0.heap.size → w.heap[g]? = w0.heap[g]?
section
variable {lo : Nat} {w0 w W w' : World}
theorem Kept.refl (lo : Nat) (w : World) : Kept lo w w := ⟨Nat.le_refl _, fun _ _ _ => rfl⟩
theorem Kept.drew (h : Kept lo w0 w) : Kept lo w0 w.drew := h
theorem Kept.drewN (h : Kept lo w0 w) (n : Nat) : Kept lo w0 (w.drewN n) := h
theorem Kept.alloc (h : Kept lo w0 w) (o : Obj) : Kept lo w0 (w.alloc o) := ⟨Nat.le_trans h.1 (by simp), fun g h1 h2 => (Below.heap_alloc w o g (Nat.lt_of_lt_of_le h2 h.1)).trans (h.2 g h1 h2)⟩
theorem Kept.setCell {p : Addr} (hp : p.block < lo ∨ w0.heap.size ≤ p.block) (h : Kept lo w0 w) (u : Value) : Kept lo w0 (w.setCell p u) :=
  ⟨by rw [size_set]; exact h.1, fun g h1 h2 => (Below.heap_setCell w p u g (by omega)).trans (h.2 g h1 h2)⟩
theorem Kept.under (hb : Below W.heap.size W w') (h : Kept lo w0 W) : Kept lo w0 w' := ⟨Nat.le_trans h.1 hb.size, fun g h1 h2 => (hb.block g (Nat.lt_of_lt_of_le h2 h.1)).trans (h.2 g h1 h2)⟩
end
/-- the walk stands here -/
theorem stopHere {p : Prop} (h : Hid p) : p := h
end Go.Proofs.Ythdieeaegplnmaa.Bk
