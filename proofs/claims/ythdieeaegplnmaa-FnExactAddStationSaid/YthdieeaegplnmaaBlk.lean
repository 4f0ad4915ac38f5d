/- A block that is known whole (a struct's variable); what keeps it. -/
import Derived.WalkKit
import Derived.ProofKit
import Derived.Below
import Derived.Laws.OwnMore
import Derived.Laws.Rows
import Derived.Deep.Draws
import Derived.Lib.Hide
import Derived.Deep.MidRow
import Derived.Maps.AppendAt
namespace Go.Proofs.Ythdieeaegplnmaa.Bk
open Go.RowKit

/-- block g is just the cells cs of type t, none frozen -/
def Blk (w : World) (g : Nat) (t : TypeId) (cs : Array Value) : Prop := w.heap[g]? = some (.cells cs t (0, 0))
section
variable {w w' W : World} {g B : Nat} {t : TypeId} {cs cs' : Array Value}
theorem Blk.lt (h : Blk w g t cs) : g < w.heap.size := by
  rcases Nat.lt_or_ge g w.heap.size with hlt | hge
  · exact hlt
  · unfold Blk at h; rw [Array.getElem?_eq_none hge] at h; cases h
theorem Blk.cell (h : Blk w g t cs) (i : Nat) : w.cell? ⟨g, i, none⟩ = cs[i]? := cell_of_row w g i cs t (0, 0) h
theorem Blk.fro (h : Blk w g t cs) (i : Nat) : w.frozen? ⟨g, i, none⟩ = false := by
  unfold Blk at h
  simp [World.frozen?, h]
theorem Blk.to (h : Blk w g t cs) (e : cs = cs') : Blk w g t cs' := e ▸ h
theorem Blk.newAt (h : w.heap.size = g) (t : TypeId) (cs : Array Value) : Blk (w.alloc (.cells cs t)) g t cs := by subst h; exact heap_alloc_new w _
theorem Blk.drew (h : Blk w g t cs) : Blk w.drew g t cs := h
theorem Blk.drewN (h : Blk w g t cs) (n : Nat) : Blk (w.drewN n) g t cs := h
theorem Blk.alloc (h : Blk w g t cs) (o : Obj) : Blk (w.alloc o) g t cs := (Below.heap_alloc w o g h.lt).trans h
theorem Blk.set_ (h : Blk w g t cs) (i : Nat) (u : Value) : Blk (w.setCell ⟨g, i, none⟩ u) g t (cs.setIfInBounds i u) := by
  unfold Blk at h ⊢
  simp [World.setCell, Array.getElem?_modify, h]
theorem Blk.far {p : Addr} (hp : g ≠ p.block) (h : Blk w g t cs) (u : Value) : Blk (w.setCell p u) g t cs := (Below.heap_setCell w p u g hp).trans h
theorem Blk.under (hb : Below W.heap.size W w') (h : Blk W g t cs) : Blk w' g t cs := (hb.block g h.lt).trans h
theorem Blk.below (h : Blk w g t cs) (hb : Below B w w') (hg : g < B) : Blk w' g t cs := (hb.block g hg).trans h
theorem size_set (w : World) (p : Addr) (u : Value) : (w.setCell p u).heap.size = w.heap.size := by simp [World.setCell]
/-- the sizes behind a step -/
theorem size_le (hb : Below W.heap.size W w') {n : Nat} (h : W.heap.size = n) : n ≤ w'.heap.size := h ▸ hb.size
end

/-- a row of cells written into a block that is known whole -/
theorem Blk.sets {g : Nat} {t : TypeId} : ∀ (vs : List Value) (o : Nat) (w : World) (cs : Array Value), Blk w g t cs → ∃ cs' : Array Value, Blk (w.setCells g o vs) g t cs' ∧ cs'.size = cs.size ∧ (∀ j, j < cs.size → cs'[j]? = if o ≤ j ∧ j < o + vs.length then vs[j - o]? else cs[j]?)
  | [], o, w, cs, h => ⟨cs, h, rfl, fun j _ => by rw [if_neg (by simp)]⟩
  | v :: r, o, w, cs, h => by
    obtain ⟨cs', h1, h2, h3⟩ := Blk.sets r (o + 1) _ _ (h.set_ o v)
    rw [Array.size_setIfInBounds] at h2 h3
    refine ⟨cs', h1, h2, fun j hj => ?_⟩
    rw [h3 j hj, List.length_cons]
    by_cases e : o = j
    · subst e
      rw [if_neg (by omega), if_pos (by omega), Nat.sub_self, Array.getElem?_setIfInBounds_self_of_lt hj]
      rfl
    · by_cases hi : o + 1 ≤ j ∧ j < o + 1 + r.length
      · rw [if_pos hi, if_pos (by omega), show j - o = (j - (o + 1)) + 1 by omega]
        rfl
      · rw [if_neg hi, if_neg (by omega), Array.getElem?_setIfInBounds_ne e]
theorem Blk.full {w : World} {g : Nat} {t : TypeId} {cs : Array Value} (h : Blk w g t cs) (vs : List Value) (hl : cs.size = vs.length) : Blk (w.setCells g 0 vs) g t vs.toArray := by
  obtain ⟨cs', h1, h2, h3⟩ := Blk.sets vs 0 w cs h
  refine h1.to (Array.ext_getElem? fun j => ?_)
  by_cases hj : j < cs.size
  · rw [h3 j hj, if_pos (by omega)]
    simp
  · rw [Array.getElem?_eq_none (by omega), Array.getElem?_eq_none (by simp; omega)]
theorem grown_sets (g : Nat) : ∀ (vs : List Value) (o : Nat) (w : World), w.grownBy (w.setCells g o vs) (some g) ∧ (w.setCells g o vs).heap.size = w.heap.size
  | [], _, w => ⟨World.grownBy.refl w _, rfl⟩
  | v :: r, o, w => by
    obtain ⟨h1, h2⟩ := grown_sets g r (o + 1) (w.setCell ⟨g, o, none⟩ v)
    have h0 : w.grownBy (w.setCell ⟨g, o, none⟩ v) (some g) := ⟨rfl, rfl, rfl, by simp [World.setCell], fun k hk hne => Below.heap_setCell w ⟨g, o, none⟩ v k (fun e => hne (by rw [e]))⟩
    exact ⟨World.grownBy.trans h0 h1, by rw [World.setCells, h2]; exact size_set _ _ _⟩
/-- the walk stands at this operation -/
theorem atOp {P : Program} {ops : Array Oper} {rest : List Oper} {o : Oper} {a : Act} {w : World} {Q : Exit → Act → World → Prop} (h : wpList P ops Q (o :: rest) a w) : wpList P ops Q (o :: rest) a w := h
/-- a struct is stored into its variable, a block that is known whole -/
theorem wpl_store {P : Program} {ops : Array Oper} {rest : List Oper} {o : Oper} {a : Act} {w : World} {Q : Exit → Act → World → Prop} (hgd : o.guard = none) (ty : TypeId) (x y : Operand) (ho : o.op = .store ty x y)
    (g : Nat) (t : TypeId) (cs : Array Value) (vs : List Value) (hx : a.eval x = .pointer (some ⟨g, 0, none⟩)) (hy : a.eval y = .agg vs.toArray) (hb : Blk w g t cs) (hl : cs.size = vs.length)
    (hi : (P.info? ty).map (·.size) = some vs.length) (h1 : vs.all (·.oneCell') = true)
    (h : ∀ w', Blk w' g t vs.toArray → w.grownBy w' (some g) → w'.heap.size = w.heap.size → wpList P ops Q rest (a.put o.dst undef) w') : wpList P ops Q (o :: rest) a w := by
  refine wpList_store_mid hgd ty x y ho g 0 vs.toArray hx hy ?_ (by simpa using hi) (by simpa using h1) ?_
  · intro j hj
    rw [Nat.zero_add, hb.cell j, hb.fro j]
    simp at hj
    exact ⟨by simp [hl, hj], rfl⟩
  · obtain ⟨k1, k2⟩ := grown_sets g vs 0 w
    exact h _ (hb.full vs hl) k1 k2
theorem Blk.grown {w w' : World} {g : Nat} {t : TypeId} {cs : Array Value} {k : Nat} (hb : w.grownBy w' (some k)) (hg : g ≠ k) (h : Blk w g t cs) : Blk w' g t cs := (hb.block g h.lt (fun e => hg (by injection e))).trans h
theorem below_grown {B k : Nat} {a w w' : World} (h : Below B a w) (hg : w.grownBy w' (some k)) (hk : B ≤ k) (hs : B ≤ w.heap.size) : Below B a w' := h.grown hg hs (fun g e => by injection e with e; omega)
end Go.Proofs.Ythdieeaegplnmaa.Bk
