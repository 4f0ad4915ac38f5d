/- A struct stored into its variable, at an operation of a drawn region. -/
import Derived.Test.YthdieeaegplnmaaBlk
namespace Go.Proofs.Ythdieeaegplnmaa.Sto
open Go.RowKit Go.Proofs.Ythdieeaegplnmaa.Bk
theorem wp_store {P : Program} {o : Oper} {a : Act} {w : World} {K : Act → World → Prop} {Q : Exit → Act → World → Prop} (ty : TypeId) (x y : Operand) (ho : o.op = .store ty x y)
    (g : Nat) (t : TypeId) (cs : Array Value) (vs : List Value) (hx : a.eval x = .pointer (some ⟨g, 0, none⟩)) (hy : a.eval y = .agg vs.toArray) (hb : Blk w g t cs) (hl : cs.size = vs.length)
    (hi : (P.info? ty).map (·.size) = some vs.length) (h1 : vs.all (·.oneCell') = true)
    (h : ∀ w', Blk w' g t vs.toArray → w.grownBy w' (some g) → w'.heap.size = w.heap.size → K (a.put o.dst undef) w') : o.wp P a w K Q := by
  refine wp_store_mid ty x y ho g 0 vs.toArray hx hy ?_ (by simpa using hi) (by simpa using h1) ?_
  · intro j hj
    rw [Nat.zero_add, hb.cell j, hb.fro j]
    simp at hj
    exact ⟨by simp [hl, hj], rfl⟩
  · obtain ⟨k1, k2⟩ := grown_sets g vs 0 w
    exact h _ (hb.full vs hl) k1 k2
end Go.Proofs.Ythdieeaegplnmaa.Sto
