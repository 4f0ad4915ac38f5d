/- Scans whose entries are in the ranges of the draws: an entry put over another, an entry put between. -/
import Derived.Test.YtikolopdkjocgaaEnt
import Derived.Test.YtikolopdkjocgaaScore
namespace Go.Proofs.Ytikolopdkjocgaa.Scn
open Go.RowKit
open Go.Proofs.Ytikolopdkjocgaa.Num Go.Proofs.Ytikolopdkjocgaa.Mem Go.Proofs.Ytikolopdkjocgaa.Cur
def EntsIn (zs : List Int) (m : Nat) : Prop := zs.length = m * 4 ∧ ∀ k, k < m → EntIn (fld zs k 0) (fld zs k 1) (fld zs k 2) (fld zs k 3)
def set4 (zs : List Int) (k : Nat) (x0 x1 x2 x3 : Int) : List Int := (((zs.set (k * 4) x0).set (k * 4 + 1) x1).set (k * 4 + 2) x2).set (k * 4 + 3) x3
def ins4 (zs : List Int) (k : Nat) (x0 x1 x2 x3 : Int) : List Int := zs.take (k * 4) ++ [x0, x1, x2, x3] ++ zs.drop (k * 4)
theorem ents_nil : EntsIn [] 0 := ⟨rfl, fun k h => absurd h (by omega)⟩
theorem set4_len (zs : List Int) (k : Nat) (x0 x1 x2 x3 : Int) : (set4 zs k x0 x1 x2 x3).length = zs.length := by simp [set4]
theorem getD_set (zs : List Int) (i j : Nat) (x : Int) (hi : i < zs.length) : (zs.set i x).getD j 0 = if i = j then x else zs.getD j 0 := by
  rw [List.getD_eq_getElem?_getD, List.getElem?_set, List.getD_eq_getElem?_getD]
  by_cases h : i = j
  · subst h; simp [hi]
  · simp [h]
theorem set4_at (zs : List Int) (k j : Nat) (x0 x1 x2 x3 : Int) (h : k * 4 + 3 < zs.length) :
    (set4 zs k x0 x1 x2 x3).getD j 0 = if k * 4 + 3 = j then x3 else if k * 4 + 2 = j then x2 else if k * 4 + 1 = j then x1 else if k * 4 = j then x0 else zs.getD j 0 := by
  unfold set4
  rw [getD_set _ _ _ _ (by simp; omega), getD_set _ _ _ _ (by simp; omega), getD_set _ _ _ _ (by simp; omega), getD_set _ _ _ _ (by omega)]
theorem ents_set {zs : List Int} {n k : Nat} {x0 x1 x2 x3 : Int} (h : EntsIn zs n) (hk : k < n) (he : EntIn x0 x1 x2 x3) : EntsIn (set4 zs k x0 x1 x2 x3) n := by
  refine ⟨by rw [set4_len]; exact h.1, fun i hi => ?_⟩
  have hl : k * 4 + 3 < zs.length := by rw [h.1]; omega
  by_cases e : i = k
  · subst e
    have e0 : fld (set4 zs i x0 x1 x2 x3) i 0 = x0 := by unfold fld; rw [set4_at _ _ _ _ _ _ _ hl, if_neg (by omega), if_neg (by omega), if_neg (by omega), if_pos (by omega)]
    have e1 : fld (set4 zs i x0 x1 x2 x3) i 1 = x1 := by unfold fld; rw [set4_at _ _ _ _ _ _ _ hl, if_neg (by omega), if_neg (by omega), if_pos (by omega)]
    have e2 : fld (set4 zs i x0 x1 x2 x3) i 2 = x2 := by unfold fld; rw [set4_at _ _ _ _ _ _ _ hl, if_neg (by omega), if_pos (by omega)]
    have e3 : fld (set4 zs i x0 x1 x2 x3) i 3 = x3 := by unfold fld; rw [set4_at _ _ _ _ _ _ _ hl, if_pos (by omega)]
    rw [e0, e1, e2, e3]; exact he
  · have H : ∀ j, j < 4 → fld (set4 zs k x0 x1 x2 x3) i j = fld zs i j := fun j hj => by
      unfold fld
      rw [set4_at _ _ _ _ _ _ _ hl, if_neg (by omega), if_neg (by omega), if_neg (by omega), if_neg (by omega)]
    rw [H 0 (by omega), H 1 (by omega), H 2 (by omega), H 3 (by omega)]
    exact h.2 i hi
theorem ents_ins {zs : List Int} {n k : Nat} {x0 x1 x2 x3 : Int} (h : EntsIn zs n) (hk : k ≤ n) (he : EntIn x0 x1 x2 x3) : EntsIn (ins4 zs k x0 x1 x2 x3) (n + 1) := by
  have hl := h.1
  have ht : (zs.take (k * 4)).length = k * 4 := by rw [List.length_take]; omega
  refine ⟨by simp [ins4]; omega, fun i hi => ?_⟩
  have H1 : ∀ j, j < k * 4 → (ins4 zs k x0 x1 x2 x3).getD j 0 = zs.getD j 0 := fun j hj => by
    unfold ins4
    rw [List.getD_eq_getElem?_getD, List.append_assoc, List.getElem?_append_left (by omega), List.getElem?_take, if_pos hj, List.getD_eq_getElem?_getD]
  have H2 : ∀ j, j < 4 → (ins4 zs k x0 x1 x2 x3).getD (k * 4 + j) 0 = [x0, x1, x2, x3].getD j 0 := fun j hj => by
    unfold ins4
    rw [List.getD_eq_getElem?_getD, List.append_assoc, List.getElem?_append_right (by omega), List.getElem?_append_left (by rw [ht]; simp; omega), ht, show k * 4 + j - k * 4 = j by omega, List.getD_eq_getElem?_getD]
  have H3 : ∀ j, k * 4 + 4 ≤ j → (ins4 zs k x0 x1 x2 x3).getD j 0 = zs.getD (j - 4) 0 := fun j hj => by
    unfold ins4
    rw [List.getD_eq_getElem?_getD, List.getElem?_append_right (by rw [List.length_append, ht]; simp; omega), List.getElem?_drop, List.length_append, ht, List.getD_eq_getElem?_getD]
    congr 2
    simp
    omega
  by_cases h1 : i < k
  · have H : ∀ j, j < 4 → fld (ins4 zs k x0 x1 x2 x3) i j = fld zs i j := fun j hj => H1 _ (by omega)
    rw [H 0 (by omega), H 1 (by omega), H 2 (by omega), H 3 (by omega)]
    exact h.2 i (by omega)
  · by_cases h2 : i = k
    · subst h2
      have H : ∀ j, j < 4 → fld (ins4 zs i x0 x1 x2 x3) i j = [x0, x1, x2, x3].getD j 0 := fun j hj => H2 j hj
      rw [H 0 (by omega), H 1 (by omega), H 2 (by omega), H 3 (by omega)]
      exact he
    · have H : ∀ j, j < 4 → fld (ins4 zs k x0 x1 x2 x3) i j = fld zs (i - 1) j := fun j hj => by
        unfold fld
        rw [H3 _ (by omega)]
        congr 1
        omega
      rw [H 0 (by omega), H 1 (by omega), H 2 (by omega), H 3 (by omega)]
      exact h.2 (i - 1) (by omega)
end Go.Proofs.Ytikolopdkjocgaa.Scn
