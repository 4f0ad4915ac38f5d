/- The plain facts on the group, said in the words of the contracts. -/
import Derived.Test.YtgbmbnofnhhblaaDoorNum2
namespace Go.Proofs.YtgbmbnofnhhblaaDoor.Num
open Go.RowKit
open Go.Proofs.YtgbmbnofnhhblaaDoor.Grp

theorem powM_in {b e : Int} (h1 : 0 ≤ b) (h2 : b ≤ 2038) (h3 : 0 ≤ e) (h4 : e ≤ 1000000000000) : powM b e = (pm b.toNat e.toNat : Int) := by
  unfold powM; rw [if_pos ⟨h1, h2, h3, h4⟩]
theorem isEl_of {x : Int} (h : elB x = true) : isEl x.toNat := by
  obtain ⟨h1, h2⟩ := elB_bd h
  rw [elB_pow h1 h2, beq_iff_eq, powM_in (by omega) h2 (by omega) (by omega)] at h
  refine ⟨by omega, by omega, ?_⟩
  have h3 : (1019 : Int).toNat = 1019 := rfl
  rw [h3] at h
  exact_mod_cast h
theorem elB_of {a : Nat} (h : isEl a) : elB (a : Int) = true := by
  have h1 := h.1
  have h2 := h.2.1
  rw [elB_pow (by omega) (by omega), beq_iff_eq, powM_in (by omega) (by omega) (by omega) (by omega), Int.toNat_natCast]
  have h3 : (1019 : Int).toNat = 1019 := rfl
  rw [h3]
  exact_mod_cast h.2.2
theorem mulM_cast {a b : Nat} (ha : a < 2039) (hb : b < 2039) : mulM (a : Int) (b : Int) = ((a * b % 2039 : Nat) : Int) := by
  rw [mulM_in (by omega) (by omega) (by omega) (by omega), ← Int.natCast_mul]
  omega
theorem addS_cast {x y : Nat} (hx : x < 1019) (hy : y < 1019) : addS (x : Int) (y : Int) = (((x + y) % 1019 : Nat) : Int) := by
  unfold addS
  rw [if_pos (by omega)]
  omega
theorem mulS_cast {x y : Nat} (hx : x < 1019) (hy : y < 1019) : mulS (x : Int) (y : Int) = ((x * y % 1019 : Nat) : Int) := by
  unfold mulS
  rw [if_pos (by omega), ← Int.natCast_mul]
  omega
theorem powM_cast {b e : Nat} (hb : b < 2039) (he : e ≤ 1000000000000) : powM (b : Int) (e : Int) = (pm b e : Int) := by
  rw [powM_in (by omega) (by omega) (by omega) (by omega), Int.toNat_natCast, Int.toNat_natCast]
theorem pow_four : powM 4 1019 = 1 := by
  have := powM_cast (b := 4) (e := 1019) (by omega) (by omega)
  rw [four_order] at this
  exact this
theorem invM_cast {a : Nat} (h : isEl a) : invM (a : Int) = (pm a 1018 : Int) := by
  unfold invM
  rw [if_pos (elB_of h)]
  have := powM_cast (b := a) (e := 1018) h.2.1 (by omega)
  exact this

theorem log_law {a b : Int} (ha : elB a = true) (hb : elB b = true) (h1 : ¬ a = 1) : 0 ≤ dlogM a b ∧ dlogM a b < 1019 ∧ powM a (dlogM a b) = b := by
  obtain ⟨a1, a2⟩ := elB_bd ha
  obtain ⟨b1, b2⟩ := elB_bd hb
  obtain ⟨e, he, hd, hp⟩ := dlog_el (isEl_of ha) (isEl_of hb) (by omega)
  rw [dlogM_on ha hb h1, hd]
  refine ⟨by omega, by omega, ?_⟩
  rw [powM_in (by omega) (by omega) (by omega) (by omega), Int.toNat_natCast, hp]
  omega
theorem inv_law {a : Int} (ha : elB a = true) : mulM a (invM a) = 1 := by
  obtain ⟨a1, a2⟩ := elB_bd ha
  have h := isEl_of ha
  obtain ⟨n, rfl⟩ := Int.eq_ofNat_of_zero_le (show 0 ≤ a by omega)
  rw [Int.toNat_natCast] at h
  rw [invM_cast h, mulM_cast h.2.1 (pm_lt _ _), el_inv h]
  rfl
theorem mul_law {a b : Int} (ha : elB a = true) (hb : elB b = true) : elB (mulM a b) = true := by
  obtain ⟨a1, a2⟩ := elB_bd ha
  obtain ⟨b1, b2⟩ := elB_bd hb
  have h := isEl_of ha
  have k := isEl_of hb
  obtain ⟨n, rfl⟩ := Int.eq_ofNat_of_zero_le (show 0 ≤ a by omega)
  obtain ⟨m, rfl⟩ := Int.eq_ofNat_of_zero_le (show 0 ≤ b by omega)
  rw [Int.toNat_natCast] at h k
  rw [mulM_cast h.2.1 k.2.1]
  exact elB_of (el_mul h k)
theorem add_law {a x y : Int} (ha : elB a = true) (x0 : 0 ≤ x) (x1 : x ≤ 1018) (y0 : 0 ≤ y) (y1 : y ≤ 1018) : powM a (addS x y) = mulM (powM a x) (powM a y) := by
  have a2 := (elB_bd ha).1
  have h := isEl_of ha
  obtain ⟨n, rfl⟩ := Int.eq_ofNat_of_zero_le (show 0 ≤ a by omega)
  obtain ⟨x, rfl⟩ := Int.eq_ofNat_of_zero_le x0
  obtain ⟨y, rfl⟩ := Int.eq_ofNat_of_zero_le y0
  rw [Int.toNat_natCast] at h
  rw [addS_cast (by omega) (by omega), powM_cast h.2.1 (by omega), powM_cast h.2.1 (by omega), powM_cast h.2.1 (by omega), mulM_cast (pm_lt _ _) (pm_lt _ _), h.pm_red, pm_add]
theorem mulS_law {a x y : Int} (ha : elB a = true) (x0 : 0 ≤ x) (x1 : x ≤ 1018) (y0 : 0 ≤ y) (y1 : y ≤ 1018) : powM a (mulS x y) = powM (powM a x) y := by
  have a2 := (elB_bd ha).1
  have h := isEl_of ha
  obtain ⟨n, rfl⟩ := Int.eq_ofNat_of_zero_le (show 0 ≤ a by omega)
  obtain ⟨x, rfl⟩ := Int.eq_ofNat_of_zero_le x0
  obtain ⟨y, rfl⟩ := Int.eq_ofNat_of_zero_le y0
  rw [Int.toNat_natCast] at h
  rw [mulS_cast (by omega) (by omega), powM_cast h.2.1 (by omega), powM_cast h.2.1 (by omega), powM_cast (pm_lt _ _) (by omega), h.pm_red, pm_mul]

end Go.Proofs.YtgbmbnofnhhblaaDoor.Num
