/- Power buffers: what keeps a valid one valid (plain). -/
import Derived.Test.YthdieeaegplnmaaPbV
import Derived.Test.YthdieeaegplnmaaPbP
import Derived.Test.YthdieeaegplnmaaPbA
import Derived.Test.YthdieeaegplnmaaPbR
namespace Go.Proofs.Ythdieeaegplnmaa.Pb
open Go.RowKit
open Go.Proofs.Ythdieeaegplnmaa.Num Go.Proofs.Ythdieeaegplnmaa.Mem Go.Proofs.Ythdieeaegplnmaa.Hsh Go.Proofs.Ythdieeaegplnmaa.Sls Go.Proofs.Ythdieeaegplnmaa.Own Go.Proofs.Ythdieeaegplnmaa.SS Go.Proofs.Ythdieeaegplnmaa.Gb
set_option linter.unusedSimpArgs false
set_option linter.unusedVariables false
theorem bef_set {ks : List Kt} {j : Nat} {e : Kt} (hj : j < ks.length) (hst : e.st = (nthK ks j).st) (i : Nat) : bef (ks.set j e) i = bef ks i := by
  cases i with
  | zero => rfl
  | succ i =>
    show (nthK (ks.set j e) i).st = (nthK ks i).st
    rw [nthK_set hj]
    by_cases h : i = j
    · subst h; rw [if_pos rfl]; exact hst
    · rw [if_neg h]
theorem validP_set {ks : List Kt} {n j : Nat} {e : Kt} (h : validP ks n) (hl : ks.length = n) (hj : j < n) (hst : e.st = (nthK ks j).st) (hok : okE (bef ks j) e) : validP (ks.set j e) n := fun i hi => by
  rw [bef_set (by omega) hst, nthK_set (by omega)]
  by_cases hij : i = j
  · subst hij; rw [if_pos rfl]; exact hok
  · rw [if_neg hij]; exact h i hi
/-- a valid buffer of n entries, whose lost frames are at most b each -/
def GoodP (ks : List Kt) (n b : Nat) : Prop := validP ks n ∧ ks.length = n ∧ ∀ i, i < n → (nthK ks i).lo ≤ (b : Int)
theorem GoodP.mono {ks : List Kt} {n b b2 : Nat} (h : GoodP ks n b) (hb : b ≤ b2) : GoodP ks n b2 := ⟨h.1, h.2.1, fun i hi => by have := h.2.2 i hi; omega⟩
theorem good_set {ks : List Kt} {n b j : Nat} {e : Kt} (h : GoodP ks n b) (hj : j < n) (hst : e.st = (nthK ks j).st) (hok : okE (bef ks j) e) (hlo : e.lo ≤ (b : Int)) : GoodP (ks.set j e) n b :=
  ⟨validP_set h.1 h.2.1 hj hst hok, by simp [h.2.1], fun i hi => by
    rw [nthK_set (by rw [h.2.1]; exact hj)]
    by_cases hij : i = j
    · subst hij; rw [if_pos rfl]; exact hlo
    · rw [if_neg hij]; exact h.2.2 i hi⟩
theorem good_true {ks : List Kt} {n b j : Nat} (h : GoodP ks n b) (hj : j < n) : GoodP (ks.set j { nthK ks j with ap := true }) n b := by
  have h1 := h.1 j hj
  exact good_set h hj rfl ⟨⟨h1.1.1, h1.1.2.1, h1.1.2.2.1, h1.1.2.2.2.1, .inl rfl⟩, h1.2⟩ (h.2.2 j hj)
theorem good_false {ks : List Kt} {n b j : Nat} (h : GoodP ks n b) (hj : j < n) : GoodP ((ks.set j { nthK ks j with ap := false }).set j { nthK (ks.set j { nthK ks j with ap := false }) j with fs := [] }) n b := by
  have h1 := h.1 j hj
  have e1 : nthK (ks.set j { nthK ks j with ap := false }) j = { nthK ks j with ap := false } := by rw [nthK_set (by rw [h.2.1]; exact hj), if_pos rfl]
  rw [e1, List.set_set]
  exact good_set h hj rfl ⟨⟨h1.1.1, h1.1.2.1, h1.1.2.2.1, by simp, .inr rfl⟩, fun i hi => by simp at hi⟩ (h.2.2 j hj)
theorem good_lo {ks : List Kt} {n b j : Nat} (h : GoodP ks n b) (hj : j < n) (hb : b ≤ 1000000) : GoodP (ks.set j { nthK ks j with lo := wrap64 ((nthK ks j).lo + 1) }) n (b + 1) := by
  have h1 := h.1 j hj
  have h2 := h.2.2 j hj
  have hw : wrap64 ((nthK ks j).lo + 1) = (nthK ks j).lo + 1 := IntWalk.wrap64_in _ ⟨by have := h1.1.2.2.1; omega, by omega⟩
  rw [hw]
  exact good_set (h.mono (Nat.le_succ _)) hj rfl ⟨⟨h1.1.1, h1.1.2.1, by show (0 : Int) ≤ (nthK ks j).lo + 1; have := h1.1.2.2.1; omega, h1.1.2.2.2.1, h1.1.2.2.2.2⟩, h1.2⟩ (by show (nthK ks j).lo + 1 ≤ ((b + 1 : Nat) : Int); omega)
theorem good_keep {ks : List Kt} {n b j : Nat} {bs : List Int} (h : GoodP ks n b) (hj : j < n) (ha : (nthK ks j).ap = true) (h6 : (nthK ks j).fs.length < 6) (hbs : bs.length ≤ 100) : GoodP (ks.set j { nthK ks j with fs := (nthK ks j).fs ++ [bs] }) n b := by
  have h1 := h.1 j hj
  refine good_set h hj rfl ⟨⟨h1.1.1, h1.1.2.1, h1.1.2.2.1, by show ((nthK ks j).fs ++ [bs]).length ≤ 6; simp; omega, .inl ha⟩, fun i hi => ?_⟩ (h.2.2 j hj)
  show (((nthK ks j).fs ++ [bs]).getD i []).length ≤ 100
  rw [List.getD_eq_getElem?_getD]
  rcases Nat.lt_or_ge i (nthK ks j).fs.length with h3 | h3
  · rw [List.getElem?_append_left h3, ← List.getD_eq_getElem?_getD]; exact h1.2 i h3
  · rw [List.getElem?_append_right h3]
    cases hx : ([bs] : List (List Int))[i - (nthK ks j).fs.length]? with
    | none => simp
    | some x =>
      have := List.mem_of_getElem? hx
      simp at this
      simp [this]; exact hbs
theorem good_tail {ks : List Kt} {n b j : Nat} (h : GoodP ks n b) (hj : j < n) : GoodP (ks.set j { nthK ks j with fs := (nthK ks j).fs.tail }) n b := by
  have h1 := h.1 j hj
  refine good_set h hj rfl ⟨⟨h1.1.1, h1.1.2.1, h1.1.2.2.1, by show (nthK ks j).fs.tail.length ≤ 6; have := h1.1.2.2.2.1; simp; omega, ?_⟩, fun i hi => ?_⟩ (h.2.2 j hj)
  · rcases h1.1.2.2.2.2 with h2 | h2
    · exact .inl h2
    · exact .inr (by show (nthK ks j).fs.tail.length = 0; simp [h2])
  · show ((nthK ks j).fs.tail.getD i []).length ≤ 100
    have hi2 : i < (nthK ks j).fs.tail.length := hi
    rw [show (nthK ks j).fs.tail.getD i [] = (nthK ks j).fs.getD (i + 1) [] by cases (nthK ks j).fs <;> simp [List.getD]]
    refine h1.2 (i + 1) ?_
    simp at hi2; omega
theorem good_few {ks : List Kt} {n b : Nat} (h : GoodP ks n b) : AllFew ks := fun i => by
  rcases Nat.lt_or_ge i n with hi | hi
  · have h1 := h.1 i hi
    refine ⟨by have := h1.1.2.2.2.1; omega, fun k => ?_⟩
    rcases Nat.lt_or_ge k (nthK ks i).fs.length with hk | hk
    · have := h1.2 k hk; omega
    · rw [List.getD_eq_getElem?_getD, List.getElem?_eq_none hk]; simp
  · have e : nthK ks i = ⟨0, false, [], 0⟩ := by unfold nthK; simp [List.getD, List.getElem?_eq_none (show ks.length ≤ i by rw [h.2.1]; exact hi)]
    rw [e]
    exact ⟨by simp, fun j => by simp⟩
theorem good_ins {ks : List Kt} {n b a : Nat} {st : Int} (h : GoodP ks n b) (h0 : 0 ≤ st) (h15 : st ≤ 15) (hF : FindR ks st n (-1)) (ha : AtK ks st n a) : GoodP (insK ks a ⟨st, false, [], 0⟩) (n + 1) b := by
  obtain ⟨ha1, ha2, ha3⟩ := ha
  have hl := h.2.1
  have hno : ∀ j, j < n → (nthK ks j).st ≠ st := by
    rcases hF with ⟨_, h1⟩ | ⟨j, _, hj, _⟩
    · exact h1
    · omega
  have N : ∀ i, nthK (insK ks a ⟨st, false, [], 0⟩) i = if i < a then nthK ks i else if i = a then ⟨st, false, [], 0⟩ else nthK ks (i - 1) := fun i => nthK_ins (by omega) i
  refine ⟨fun i hi => ?_, insK_len hl ha1, fun i hi => ?_⟩
  · have hb : bef (insK ks a ⟨st, false, [], 0⟩) i = if i ≤ a then bef ks i else if i = a + 1 then st else bef ks (i - 1) := by
      cases i with
      | zero => rw [if_pos (Nat.zero_le _)]; rfl
      | succ i =>
        show (nthK (insK ks a ⟨st, false, [], 0⟩) i).st = _
        rw [N i]
        by_cases h1 : i < a
        · rw [if_pos h1, if_pos (show i + 1 ≤ a by omega)]; rfl
        · rw [if_neg h1, if_neg (show ¬ i + 1 ≤ a by omega)]
          by_cases h2 : i = a
          · rw [if_pos h2, if_pos (show i + 1 = a + 1 by omega)]
          · rw [if_neg h2, if_neg (show ¬ i + 1 = a + 1 by omega)]
            obtain ⟨k, rfl⟩ : ∃ k, i = k + 1 := ⟨i - 1, by omega⟩
            rfl
    rw [hb, N i]
    by_cases h1 : i < a
    · rw [if_pos (by omega), if_pos h1]; exact h.1 i (by omega)
    · by_cases h2 : i = a
      · subst h2
        rw [if_pos (Nat.le_refl _), if_neg h1, if_pos rfl]
        refine ⟨⟨⟨h0, h15⟩, ?_, Int.le_refl _, by show ([] : List (List Int)).length ≤ 6; simp, .inr rfl⟩, fun k hk => by simp at hk⟩
        show bef ks i < st
        cases i with
        | zero => show (-1 : Int) < st; omega
        | succ i => exact ha2 i (by omega)
      · rw [if_neg (by omega), if_neg h1, if_neg h2]
        have hk := h.1 (i - 1) (by omega)
        by_cases h3 : i = a + 1
        · rw [if_pos h3]
          have e : i - 1 = a := by omega
          rw [e] at hk ⊢
          have h4 := ha3 (by omega)
          have h5 := hno a (by omega)
          exact ⟨⟨hk.1.1, by show st < (nthK ks a).st; omega, hk.1.2.2⟩, hk.2⟩
        · rw [if_neg h3]; exact hk
  · rw [N i]
    by_cases h1 : i < a
    · rw [if_pos h1]; exact h.2.2 i (by omega)
    · rw [if_neg h1]
      by_cases h2 : i = a
      · rw [if_pos h2]; show (0 : Int) ≤ (b : Int); omega
      · rw [if_neg h2]; exact h.2.2 (i - 1) (by omega)
end Go.Proofs.Ythdieeaegplnmaa.Pb
