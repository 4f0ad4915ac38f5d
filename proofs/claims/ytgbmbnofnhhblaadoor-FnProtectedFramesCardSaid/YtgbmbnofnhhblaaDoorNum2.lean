/- Contracts of the group's functions: membership, the inverse, the first logarithm. -/
import Derived.Test.YtgbmbnofnhhblaaDoorNum
namespace Go.Proofs.YtgbmbnofnhhblaaDoor.Num
open Go.RowKit
open Go.Proofs.YtgbmbnofnhhblaaDoor.Grp

theorem powM_bd (b e : Int) : 0 ≤ powM b e ∧ powM b e ≤ 2038 := by
  unfold powM
  split
  · have := pm_lt b.toNat e.toNat; omega
  · omega

/-- is x an element of the group? -/
def elB (x : Int) : Bool := decide (1 ≤ x) && decide (x ≤ 2038) && (powM x 1019 == 1)
/-- the inverse, 0 outside the group -/
def invM (x : Int) : Int := if elB x = true then powM x 1018 else 0
/-- the first logarithm, -1 where there is none -/
def dlogM (b x : Int) : Int := if elB b = true ∧ elB x = true ∧ ¬ b = 1 then dlog b.toNat x.toNat 1019 0 1 else -1

theorem elB_bd {x : Int} (h : elB x = true) : 1 ≤ x ∧ x ≤ 2038 := by
  unfold elB at h; simp only [Bool.and_eq_true, decide_eq_true_eq] at h; exact h.1
theorem elB_out {x : Int} (h : x < 1 ∨ 2038 < x) : elB x = false := by
  cases hx : elB x
  · rfl
  · have := elB_bd hx; omega
theorem elB_pow {x : Int} (h1 : 1 ≤ x) (h2 : x ≤ 2038) : elB x = (powM x 1019 == 1) := by
  unfold elB; simp [h1, h2]
theorem ret_bool {a b : Bool} (h : a = b) : Ending.returned (.bool a) = .returned (.bool b) := by rw [h]


/-- what the logarithm's loop keeps: with k rounds done, the power at p, the answer is still to come -/
def DlogRel (b x D p : Int) (k : Nat) : Prop := 0 ≤ p ∧ p ≤ 2038 ∧ k ≤ 1019 ∧ dlog b.toNat x.toNat (1019 - k) k p.toNat = D
theorem DlogRel.start (b x : Int) : DlogRel b x (dlog b.toNat x.toNat 1019 0 1) 1 0 := ⟨by omega, by omega, by omega, rfl⟩
theorem DlogRel.hit {b x D p : Int} {k : Nat} (h : DlogRel b x D p k) (hx : 0 ≤ x) (hk : k < 1019) (he : p = x) : D = (k : Int) := by
  obtain ⟨h1, h2, h3, h4⟩ := h
  rw [show 1019 - k = (1018 - k) + 1 by omega, dlog, if_pos (by omega)] at h4
  exact h4.symm
theorem DlogRel.next {b x D p : Int} {k : Nat} (h : DlogRel b x D p k) (hb : 0 ≤ b) (hb' : b ≤ 2038) (hx : 0 ≤ x) (hk : k < 1019) (he : ¬ p = x) : DlogRel b x D (mulM p b) (k + 1) := by
  obtain ⟨h1, h2, h3, h4⟩ := h
  refine ⟨(mulM_bd _ _).1, (mulM_bd _ _).2, by omega, ?_⟩
  rw [show 1019 - k = (1018 - k) + 1 by omega, dlog, if_neg (by omega)] at h4
  rw [mulM_nat h1 h2 hb hb', show 1019 - (k + 1) = 1018 - k by omega]
  exact h4
theorem DlogRel.done {b x D p : Int} {k : Nat} (h : DlogRel b x D p k) (hk : ¬ k < 1019) : D = -1 := by
  obtain ⟨h1, h2, h3, h4⟩ := h
  rw [show 1019 - k = 0 by omega, dlog] at h4
  exact h4.symm

theorem dlogM_off {b x : Int} (h : elB b = false ∨ elB x = false ∨ b = 1) : dlogM b x = -1 := by
  unfold dlogM
  rw [if_neg]
  rintro ⟨h1, h2, h3⟩
  rcases h with h | h | h
  · rw [h] at h1; cases h1
  · rw [h] at h2; cases h2
  · exact h3 h
theorem dlogM_on {b x : Int} (hb : elB b = true) (hx : elB x = true) (h1 : ¬ b = 1) : dlogM b x = dlog b.toNat x.toNat 1019 0 1 := by
  unfold dlogM
  rw [if_pos ⟨hb, hx, h1⟩]

end Go.Proofs.YtgbmbnofnhhblaaDoor.Num
