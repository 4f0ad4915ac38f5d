/- Rows of one's own that lie apart: what an append onto one leaves of the other. -/
import Derived.Test.YtgbmbnofnhhblaaDoorNonC
import Derived.Test.YtgbmbnofnhhblaaDoorMarkB
namespace Go.Proofs.YtgbmbnofnhhblaaDoor.Seal
open Go.RowKit
open Go.Proofs.YtgbmbnofnhhblaaDoor.Num Go.Proofs.YtgbmbnofnhhblaaDoor.Mem Go.Proofs.YtgbmbnofnhhblaaDoor.Hsh Go.Proofs.YtgbmbnofnhhblaaDoor.Sls Go.Proofs.YtgbmbnofnhhblaaDoor.Own Go.Proofs.YtgbmbnofnhhblaaDoor.Ks
theorem own_lt {w : World} {base n sz : Nat} {e : TypeId} {A : Option Addr} {c : Nat} {xs : List Value} (h : w.ownsRow base e sz (.slice A n c) n xs) {g : Nat} (hg : blk A = some g) : base ≤ g ∧ g < w.heap.size := by
  rcases h.2 with ⟨hv, _⟩ | ⟨g', cap, cur, hv, h1, h2, _⟩
  · injection hv with hv _ _
    subst hv
    cases hg
  · injection hv with hv _ _
    subst hv
    injection hg with hg
    subst hg
    refine ⟨h1, ?_⟩
    rcases Nat.lt_or_ge g' w.heap.size with h3 | h3
    · exact h3
    · rw [Array.getElem?_eq_none h3] at h2
      cases h2
def Apart (A B : Option Addr) : Prop := ∀ g, blk A = some g → blk B ≠ some g
theorem Apart.symm {A B : Option Addr} (h : Apart A B) : Apart B A := fun g h1 h2 => h g h2 h1
theorem apart_fresh {w w' : World} {base base' n m sz sz' : Nat} {e e' : TypeId} {A B : Option Addr} {c d : Nat} {xs ys : List Value} (h : w.ownsRow base e sz (.slice A n c) n xs) (h' : w'.ownsRow base' e' sz' (.slice B m d) m ys) (hb : w.heap.size ≤ base') : Apart A B := by
  intro g h1 h2
  have h3 := own_lt h h1
  have h4 := own_lt h' h2
  omega
theorem apart_app {w : World} {base m sz : Nat} {e : TypeId} {A A' B : Option Addr} {d : Nat} {ys : List Value} (ha : Apart A B) (h : blk A' = blk A ∨ blk A' = some w.heap.size) (hB : w.ownsRow base e sz (.slice B m d) m ys) : Apart A' B := by
  intro g h1 h2
  rcases h with h | h
  · exact ha g (h ▸ h1) h2
  · have h3 := own_lt hB h2
    rw [h1] at h
    injection h with h
    omega
theorem own_gr {w w' : World} {base n sz : Nat} {e : TypeId} {A B : Option Addr} {c : Nat} {xs : List Value} (h : w.ownsRow base e sz (.slice A n c) n xs) (hg : w.grownBy w' (blk B)) (ha : Apart A B) : w'.ownsRow base e sz (.slice A n c) n xs := by
  refine h.kept hg ?_
  cases A with
  | none => simp [Value.ownBlock]
  | some a =>
    have := ha a.block rfl
    exact .inr fun e => this e.symm
theorem apart_none (B : Option Addr) : Apart none B := fun g h => by cases h
end Go.Proofs.YtgbmbnofnhhblaaDoor.Seal
