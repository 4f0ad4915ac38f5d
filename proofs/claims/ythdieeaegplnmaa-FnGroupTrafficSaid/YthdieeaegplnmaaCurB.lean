/- The cursor beside blocks that are known whole. -/
import Derived.Test.YthdieeaegplnmaaDraw
import Derived.Test.YthdieeaegplnmaaBaseB
namespace Go.Proofs.Ythdieeaegplnmaa.CurB
open Go.RowKit
open Go.Proofs.Ythdieeaegplnmaa.Num Go.Proofs.Ythdieeaegplnmaa.Mem Go.Proofs.Ythdieeaegplnmaa.Hsh Go.Proofs.Ythdieeaegplnmaa.Cur
/-- the code's own block is an old one -/
def Old (A : Option Addr) (n B : Nat) : Prop := 0 < n → ∀ k, blk A = some k → k < B
theorem old_of {w : World} {A : Option Addr} {n c : Nat} {bs : List Int} (hr : Rd w 1 A n c (bs.map (Value.int .u8))) : Old A n w.heap.size := by
  intro h0 k e
  obtain ⟨g', o, rfl, hg, _⟩ := hr.at_ (k := 0) (by rw [hr.1]; omega)
  simp [blk] at e
  omega
section
variable {w w' : World} {g B : Nat} {A : Option Addr} {n c : Nat} {bs : List Int}
theorem cur_drew (h : Cur w g A n c bs) : Cur w.drew g A n c bs := h
theorem cur_drewN (h : Cur w g A n c bs) (k : Nat) : Cur (w.drewN k) g A n c bs := h
theorem cur_set (hA : Old A n B) {p : Addr} (hB : B ≤ p.block) (hp : g ≠ p.block) (h : Cur w g A n c bs) (u : Value) : Cur (w.setCell p u) g A n c bs := by
  obtain ⟨⟨i, q, hg, h1, h2⟩, hr, hne, hb, hn⟩ := h
  exact ⟨⟨i, q, (Below.heap_setCell w p u g hp).trans hg, h1, h2⟩, hr.setCell (fun h0 e => by have := hA h0 _ e; omega) u, hne, hb, hn⟩
theorem cur_grown {k : Nat} (hg : w.grownBy w' (some k)) (hne : g ≠ k) (hA : 0 < n → blk A = some k → False) (h : Cur w g A n c bs) : Cur w' g A n c bs := by
  have hlt := h.lt
  obtain ⟨⟨i, q, hgg, h1, h2⟩, hr, hne', hb, hn⟩ := h
  exact ⟨⟨i, q, (hg.block g hlt (fun e => hne (by injection e))).trans hgg, h1, h2⟩, hr.grown hg (.inr (fun h0 e => hA h0 e)), hne', hb, hn⟩
theorem cur_newAt (hg : w.heap.size = g) (hr : Rd w 1 A n c (bs.map (Value.int .u8))) (hb : AllBytes bs) (hn : n ≤ 2097152) (h : Int) :
    Cur (w.alloc (.cells #[.slice A n c, .int .i64 0, .int .i64 h] 104)) g A n c bs := by subst hg; exact cur_new hr hb hn h
theorem gr_alloc {a w : World} {r : Option Nat} (h : a.grownBy w r) (o : Obj) : a.grownBy (w.alloc o) r := h.trans (World.grownBy_alloc _ _ _)
theorem gr_drew {a w : World} {r : Option Nat} (h : a.grownBy w r) : a.grownBy w.drew r := ⟨h.os, h.tape, h.output, h.size, h.block⟩
theorem gr_drewN {a w : World} {r : Option Nat} (h : a.grownBy w r) (k : Nat) : a.grownBy (w.drewN k) r := ⟨h.os, h.tape, h.output, h.size, h.block⟩
theorem gr_set {a w : World} {r : Option Nat} {p : Addr} (hp : a.heap.size ≤ p.block) (h : a.grownBy w r) (u : Value) : a.grownBy (w.setCell p u) r :=
  ⟨h.os, h.tape, h.output, by simpa [World.setCell] using h.size, fun k hk hne => (Below.heap_setCell w p u k (by omega)).trans (h.block k hk hne)⟩
theorem old_cur {w : World} {g : Nat} {A : Option Addr} {n c : Nat} {bs : List Int} (h : Cur w g A n c bs) : Old A n w.heap.size := old_of h.2.1
end
theorem gv {w w2 : World} {r : Option Nat} (h : w.grownBy w2 r := by (repeat (first | with_reducible assumption | with_reducible exact World.grownBy.refl _ _ | with_reducible apply CurB.gr_alloc | with_reducible apply CurB.gr_drewN | with_reducible apply CurB.gr_drew | (with_reducible apply CurB.gr_set; focus (first | omega | (dsimp only; done) | (dsimp only; omega)))))) : w.grownBy w2 r := h
end Go.Proofs.Ythdieeaegplnmaa.CurB
