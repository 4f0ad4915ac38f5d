/- An argument that is a slice of byte slices, opened. -/
import Derived.Test.YthdieeaegplnmaaOpenRow
import Derived.Test.YthdieeaegplnmaaSS
import Derived.Test.YthdieeaegplnmaaEqB
import Derived.Test.YthdieeaegplnmaaAt
namespace Go.Proofs.Ythdieeaegplnmaa.OpenSS
open Go.ChangeShapes Go.WideShapes Go.RowKit Go.Deep
open Go.Proofs.Ythdieeaegplnmaa.Mem Go.Proofs.Ythdieeaegplnmaa.SS
variable {H : Type} {enc : TypeId × Value → H} {P : Program} {w : World} {base : Nat} {spare : Nat → Bool} {held : Bool}
theorem rows_of_cells (x : Addr) (N : Nat) (h : ∀ j, j < N → ∃ A' n' c' zs, w.cell? (x.add j) = some (.slice A' n' c') ∧ Rd w 1 A' n' c' (List.map (Value.int .u8) zs) ∧ Hsh.AllBytes zs) :
    ∃ xss : List (List Int), (xss.length = N ∧ AllB xss) ∧ ∀ j, j < N → ∃ A' n' c', w.cell? (x.add j) = some (.slice A' n' c') ∧ Rd w 1 A' n' c' ((xss.getD j []).map (Value.int .u8)) := by
  induction N with
  | zero => exact ⟨[], ⟨rfl, fun i z hz => by simp at hz⟩, fun j hj => absurd hj (by omega)⟩
  | succ N ih =>
    obtain ⟨xss, ⟨h1, hB⟩, h2⟩ := ih fun j hj => h j (by omega)
    obtain ⟨A', n', c', zs, hz, hr, hb⟩ := h N (by omega)
    refine ⟨xss ++ [zs], ⟨by simp [h1], fun i => ?_⟩, fun j hj => ?_⟩
    · rcases Nat.lt_trichotomy i N with hi | hi | hi
      · have e : (xss ++ [zs]).getD i [] = xss.getD i [] := by simp [List.getD, List.getElem?_append_left (show i < xss.length by omega)]
        rw [e]; exact hB i
      · subst hi
        have e : (xss ++ [zs]).getD i [] = zs := by simp [List.getD, ← h1]
        rw [e]; exact hb
      · have e : (xss ++ [zs]).getD i [] = [] := by simp [List.getD, List.getElem?_eq_none (show (xss ++ [zs]).length ≤ i by simp; omega)]
        rw [e]; exact fun z hz => by simp at hz
    rcases Nat.lt_or_ge j N with hlt | hge
    · obtain ⟨A2, n2, c2, k1, k2⟩ := h2 j hlt
      refine ⟨A2, n2, c2, k1, ?_⟩
      have e : (xss ++ [zs]).getD j [] = xss.getD j [] := by simp [List.getD, List.getElem?_append_left (show j < xss.length by omega)]
      rw [e]; exact k2
    · obtain rfl : j = N := by omega
      refine ⟨A', n', c', hz, ?_⟩
      have e : (xss ++ [zs]).getD j [] = zs := by simp [List.getD, ← h1]
      rw [e]; exact hr
theorem open_ss {t e q : TypeId} {fuel : Nat} {cs : List Value} {x : DataW H × List MemPlace} (ht : P.underlying t = some (.slice e)) (he : P.underlying e = some (.slice q)) (hq : P.underlying q = some (.int .u8)) (ce : P.cellsOf e = 1) (cq : P.cellsOf q = 1)
    (h : DataW.trod enc P w base spare held fuel t cs = some x) :
    ∃ (A : Option Addr) (n c : Nat) (xss : List (List Int)), cs = [.slice A n c] ∧ RdSS w A n c xss ∧ AllB xss := by
  rcases open_slice ht h with ⟨hcs, _⟩ | ⟨a, len, cap, m, n, D, Pl, hcs, _, hl, hm, hmm, _, hi⟩
  · exact ⟨none, 0, 0, [], hcs, ⟨rfl, Nat.le_refl _, by omega, fun h => absurd h (by omega)⟩, fun i z hz => by simp at hz⟩
  · have hcell : ∀ j, j < len → ∃ A' n' c' zs, w.cell? (a.add j) = some (.slice A' n' c') ∧ Rd w 1 A' n' c' (List.map (Value.int .u8) zs) ∧ Hsh.AllBytes zs := by
      intro j hj
      obtain ⟨cs', hc, ht'⟩ := hi j (by rw [hmm]; split <;> omega)
      rw [ce] at hc
      obtain ⟨A', n', c', zs, e1, hr, hw⟩ := OpenRow.open_row he hq cq ht'
      obtain ⟨_, _, hat⟩ := World.cells?_some hc
      have h0 := hat 0 (by omega)
      rw [e1, Go.Deep.add_add, Nat.mul_one, Nat.add_zero] at h0
      exact ⟨A', n', c', zs, h0, hr, fun z hz => by have := bounds_u8 (hw z hz); omega⟩
    obtain ⟨xss, ⟨h1, hB⟩, h2⟩ := rows_of_cells a len hcell
    refine ⟨some a, len, cap, xss, hcs, ⟨h1, hl, hm, fun hp => ?_⟩, hB⟩
    obtain ⟨A0, n0, c0, k0, _⟩ := h2 0 hp
    obtain ⟨g, o, s⟩ := a
    have hs : s = none := by simpa [Addr.add] using World.cell?_spot k0
    subst hs
    refine ⟨g, o, rfl, fun j hj => ?_⟩
    obtain ⟨A', n', c', k1, k2⟩ := h2 j hj
    have ha : (⟨g, o, none⟩ : Addr).add j = ⟨g, o + j, none⟩ := by
      unfold Addr.add
      split
      · subst_vars; rfl
      · rfl
    rw [ha] at k1
    exact ⟨A', n', c', k1, k2⟩
end Go.Proofs.Ythdieeaegplnmaa.OpenSS
