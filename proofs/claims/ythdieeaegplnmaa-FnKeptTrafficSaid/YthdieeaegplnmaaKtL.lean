/- Power buffers: one station's entry, while frames are kept for it (plain). -/
import Derived.Test.YthdieeaegplnmaaPbDr
import Derived.Test.YthdieeaegplnmaaTimB
namespace Go.Proofs.Ythdieeaegplnmaa.Pb
open Go.RowKit
open Go.Proofs.Ythdieeaegplnmaa.Num Go.Proofs.Ythdieeaegplnmaa.Mem Go.Proofs.Ythdieeaegplnmaa.Hsh Go.Proofs.Ythdieeaegplnmaa.Sls Go.Proofs.Ythdieeaegplnmaa.Own Go.Proofs.Ythdieeaegplnmaa.SS Go.Proofs.Ythdieeaegplnmaa.Gb
/-- a valid buffer in which entry j is the station's, awake and without frames -/
def Ready (ks : List Kt) (n j : Nat) (s : Nat) : Prop := GoodP ks n 14 ∧ j < n ∧ n ≤ 15 ∧ nthK ks j = ⟨s, false, [], 0⟩ ∧ (∀ i, i < n → i ≠ j → (nthK ks i).st ≠ (s : Int)) ∧ s ≤ 15
/-- the same with another entry j -/
def stK (ks : List Kt) (j s : Nat) (ap : Bool) (fs : List (List Int)) (lo : Int) : List Kt := ks.set j ⟨s, ap, fs, lo⟩
section
variable {ks : List Kt} {n j s : Nat} {ap : Bool} {fs : List (List Int)} {lo : Int}
theorem stK_nth (h : Ready ks n j s) : nthK (stK ks j s ap fs lo) j = ⟨s, ap, fs, lo⟩ := by
  unfold stK
  rw [nthK_set (by rw [h.1.2.1]; exact h.2.1), if_pos rfl]
theorem stK_other (h : Ready ks n j s) {i : Nat} (hi : i ≠ j) : nthK (stK ks j s ap fs lo) i = nthK ks i := by
  unfold stK
  rw [nthK_set (by rw [h.1.2.1]; exact h.2.1), if_neg hi]
theorem stK_set (e : Kt) (he : e.st = s) : (stK ks j s ap fs lo).set j e = stK ks j s e.ap e.fs e.lo := by
  unfold stK
  rw [List.set_set]
  cases e
  simp only at he
  subst he
  rfl
theorem stK_self (h : Ready ks n j s) : stK ks j s false [] 0 = ks := by
  unfold stK
  rw [← h.2.2.2.1]
  have hj : j < ks.length := by rw [h.1.2.1]; exact h.2.1
  have e : nthK ks j = ks[j] := by unfold nthK; rw [List.getD_eq_getElem?_getD, List.getElem?_eq_getElem hj]; rfl
  rw [e]
  exact List.set_getElem_self hj
theorem stK_find (h : Ready ks n j s) : FindR (stK ks j s ap fs lo) s n (j : Int) :=
  .inr ⟨j, h.2.1, rfl, by rw [stK_nth h], fun l hl => by rw [stK_other h (by omega)]; exact h.2.2.2.2.1 l (by have := h.2.1; omega) (by omega)⟩
theorem stK_good (h : Ready ks n j s) (h6 : fs.length ≤ 6) (ha : ap = true ∨ fs.length = 0) (h0 : 0 ≤ lo) (h14 : lo ≤ 14) (hf : ∀ i, (fs.getD i []).length ≤ 100) : GoodP (stK ks j s ap fs lo) n 14 := by
  have h1 := h.1.1 j h.2.1
  have e := h.2.2.2.1
  have e1 : (nthK ks j).st = s := by rw [e]
  rw [e] at h1
  exact good_set h.1 h.2.1 e1.symm ⟨⟨h1.1.1, h1.1.2.1, h0, h6, ha⟩, fun i _ => hf i⟩ h14
theorem stK_on (h : Ready ks n j s) (hf : 0 < fs.length) : bits .and .i64 (timK (stK ks j s ap fs lo) n / 2 ^ s) 1 = 1 :=
  bit_on h.2.1 (by rw [stK_nth h]) h.2.2.2.2.2 (by rw [stK_nth h]; exact hf)
theorem stK_off (h : Ready ks n j s) : bits .and .i64 (timK (stK ks j s ap [] lo) n / 2 ^ s) 1 = 0 :=
  bit_off fun i hi hst => by
    by_cases hij : i = j
    · subst hij; rw [stK_nth h]; rfl
    · rw [stK_other h hij] at hst
      exact absurd hst (h.2.2.2.2.1 i hi hij)
end
/-- the frames of one byte -/
def frs (k : Nat) : List (List Int) := (List.range k).map fun (i : Nat) => [(i : Int)]
theorem frs_len (k : Nat) : (frs k).length = k := by simp [frs]
theorem frs_succ (k : Nat) : frs (k + 1) = frs k ++ [[(k : Int)]] := by simp [frs, List.range_succ]
theorem frs_at {k i : Nat} (h : i < k) : (frs k).getD i [] = [(i : Int)] := by
  unfold frs
  rw [List.getD_eq_getElem?_getD, List.getElem?_map, List.getElem?_range h]
  rfl
theorem frs_short (k i : Nat) : ((frs k).getD i []).length ≤ 100 := by
  rcases Nat.lt_or_ge i k with h | h
  · rw [frs_at h]; simp
  · rw [List.getD_eq_getElem?_getD, List.getElem?_eq_none (by rw [frs_len]; exact h)]; simp
theorem tail_at (l : List (List Int)) (i : Nat) : l.tail.getD i [] = l.getD (i + 1) [] := by cases l <;> simp [List.getD]
theorem frt_len (k : Nat) : (frs k).tail.length = k - 1 := by simp [frs_len]
theorem frt_at {k i : Nat} (h : i + 1 < k) : (frs k).tail.getD i [] = [((i + 1 : Nat) : Int)] := by rw [tail_at, frs_at h]
theorem frt_short (k i : Nat) : ((frs k).tail.getD i []).length ≤ 100 := by rw [tail_at]; exact frs_short k _
/-- the buffer behind i frames -/
def qK (ks : List Kt) (j s i : Nat) : List Kt := stK ks j s true (frs (min i 6)) ((i - min i 6 : Nat) : Int)
section
variable {ks : List Kt} {n j s i : Nat}
theorem qK_zero : qK ks j s 0 = stK ks j s true [] 0 := rfl
theorem qK_nth (h : Ready ks n j s) : nthK (qK ks j s i) j = ⟨s, true, frs (min i 6), ((i - min i 6 : Nat) : Int)⟩ := stK_nth h
theorem qK_good (h : Ready ks n j s) (hi : i ≤ 9) : GoodP (qK ks j s i) n 14 := stK_good h (by rw [frs_len]; omega) (.inl rfl) (by omega) (by omega) fun k => frs_short _ k
theorem qK_keep (h : Ready ks n j s) (hi : i < 6) : (qK ks j s i).set j { nthK (qK ks j s i) j with fs := (nthK (qK ks j s i) j).fs ++ [[(i : Int)]] } = qK ks j s (i + 1) := by
  rw [qK_nth h]
  show (stK ks j s true (frs (min i 6)) _).set j _ = _
  rw [stK_set _ rfl]
  show stK ks j s true (frs (min i 6) ++ [[(i : Int)]]) _ = stK ks j s true (frs (min (i + 1) 6)) _
  rw [show min i 6 = i by omega, show min (i + 1) 6 = i + 1 by omega, frs_succ, show i - i = 0 by omega, show i + 1 - (i + 1) = 0 by omega]
theorem qK_full (h : Ready ks n j s) (hi : 6 ≤ i) (h9 : i ≤ 9) : (qK ks j s i).set j { nthK (qK ks j s i) j with lo := wrap64 ((nthK (qK ks j s i) j).lo + 1) } = qK ks j s (i + 1) := by
  rw [qK_nth h]
  show (stK ks j s true (frs (min i 6)) _).set j _ = _
  rw [stK_set _ rfl]
  show stK ks j s true (frs (min i 6)) (wrap64 (((i - min i 6 : Nat) : Int) + 1)) = stK ks j s true (frs (min (i + 1) 6)) _
  rw [show min i 6 = 6 by omega, show min (i + 1) 6 = 6 by omega, IntWalk.wrap64_in _ ⟨by omega, by omega⟩, show (((i - 6 : Nat) : Int) + 1) = ((i + 1 - 6 : Nat) : Int) by omega]
end
/-- an added station makes a buffer ready -/
theorem ready_ins {ks : List Kt} {n a s : Nat} (h : GoodP ks n 14) (hn : n ≤ 14) (h15 : s ≤ 15) (hno : ∀ i, i < n → (nthK ks i).st ≠ (s : Int)) (ha : AtK ks s n a) : Ready (insK ks a ⟨s, false, [], 0⟩) (n + 1) a s := by
  have hl := h.2.1
  refine ⟨good_ins h (by omega) (by omega) (.inl ⟨rfl, hno⟩) ha, by have := ha.1; omega, by omega, ?_, fun i hi hne => ?_, h15⟩
  · rw [nthK_ins (by have := ha.1; omega), if_neg (Nat.lt_irrefl _), if_pos rfl]
  · rw [nthK_ins (by have := ha.1; omega)]
    by_cases h1 : i < a
    · rw [if_pos h1]; exact hno i (by have := ha.1; omega)
    · rw [if_neg h1, if_neg hne]; exact hno (i - 1) (by omega)
end Go.Proofs.Ythdieeaegplnmaa.Pb
