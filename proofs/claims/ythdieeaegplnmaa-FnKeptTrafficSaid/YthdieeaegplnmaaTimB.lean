/- Power buffers: the bits of the map of stations (plain). -/
import Derived.Test.YthdieeaegplnmaaPbM
namespace Go.Proofs.Ythdieeaegplnmaa.Pb
open Go.RowKit
open Go.Proofs.Ythdieeaegplnmaa.Num Go.Proofs.Ythdieeaegplnmaa.Mem Go.Proofs.Ythdieeaegplnmaa.Hsh Go.Proofs.Ythdieeaegplnmaa.Sls Go.Proofs.Ythdieeaegplnmaa.Own Go.Proofs.Ythdieeaegplnmaa.SS Go.Proofs.Ythdieeaegplnmaa.Gb
theorem ofInt_nat (a : Nat) (ha : a < 18446744073709551616) : (BitVec.ofInt 64 (a : Int)).toNat = a := by
  rw [BitVec.ofInt_natCast, BitVec.toNat_ofNat]; exact Nat.mod_eq_of_lt (by omega)
theorem or_i64_nat (a b : Nat) (ha : a < 65536) (hb : b < 65536) : bits .or .i64 (a : Int) (b : Int) = ((a ||| b : Nat) : Int) := by
  have hx : a ||| b < 2 ^ 16 := Nat.or_lt_two_pow (by omega) (by omega)
  show IntKind.i64.wrap ((BitVec.ofInt 64 (a : Int) ||| BitVec.ofInt 64 (b : Int)).toNat : Int) = _
  rw [BitVec.toNat_or, ofInt_nat a (by omega), ofInt_nat b (by omega), IntWalk.i64_left]
  exact IntWalk.wrap64_in _ ⟨by omega, by omega⟩
theorem and_i64_nat (a b : Nat) (ha : a < 65536) (hb : b < 65536) : bits .and .i64 (a : Int) (b : Int) = ((a &&& b : Nat) : Int) := by
  have hx : a &&& b < 2 ^ 16 := Nat.and_lt_two_pow _ (by omega)
  show IntKind.i64.wrap ((BitVec.ofInt 64 (a : Int) &&& BitVec.ofInt 64 (b : Int)).toNat : Int) = _
  rw [BitVec.toNat_and, ofInt_nat a (by omega), ofInt_nat b (by omega), IntWalk.i64_left]
  exact IntWalk.wrap64_in _ ⟨by omega, by omega⟩
theorem pow_small {m : Nat} (hm : m ≤ 15) : 2 ^ m < 65536 := by
  have h : 2 ^ m ≤ 2 ^ 15 := Nat.pow_le_pow_right (by omega) hm
  omega
theorem orS_nat (t m : Nat) (ht : t < 65536) (hm : m ≤ 15) : orS (t : Int) (m : Int) = ((t ||| 2 ^ m : Nat) : Int) ∧ t ||| 2 ^ m < 65536 := by
  have h := pow_small hm
  have hx : t ||| 2 ^ m < 2 ^ 16 := Nat.or_lt_two_pow (by omega) (by omega)
  refine ⟨?_, by omega⟩
  unfold orS
  rw [Int.toNat_natCast, show (2 : Int) ^ m = ((2 ^ m : Nat) : Int) by simp]
  generalize 2 ^ m = p at *
  rw [IntWalk.wrap64_in _ ⟨by omega, by omega⟩]
  exact or_i64_nat _ _ ht h
/-- the map as a natural number, and what its bits say -/
theorem timK_nat (ks : List Kt) (n : Nat) : ∃ T : Nat, T < 65536 ∧ timK ks n = (T : Int) ∧ ∀ s : Nat, T.testBit s = true ↔ ∃ i, i < n ∧ (nthK ks i).st = (s : Int) ∧ s ≤ 15 ∧ 0 < (nthK ks i).fs.length := by
  induction n with
  | zero => exact ⟨0, by omega, rfl, fun s => ⟨fun h => by simp at h, fun ⟨i, h, _⟩ => absurd h (Nat.not_lt_zero _)⟩⟩
  | succ n ih =>
    obtain ⟨T, h1, h2, h3⟩ := ih
    by_cases hc : (0 ≤ (nthK ks n).st ∧ (nthK ks n).st ≤ 15) ∧ 0 < ((nthK ks n).fs.length : Int)
    · obtain ⟨m, hm⟩ := Int.eq_ofNat_of_zero_le hc.1.1
      have hm15 : m ≤ 15 := by have := hc.1.2; omega
      have ho := orS_nat T m h1 hm15
      refine ⟨T ||| 2 ^ m, ho.2, ?_, fun s => ?_⟩
      · show (if _ then _ else _) = _
        rw [if_pos hc, h2, hm]; exact ho.1
      · rw [Nat.testBit_or, Bool.or_eq_true, h3 s, Nat.testBit_two_pow]
        constructor
        · rintro (⟨i, hi, h⟩ | h)
          · exact ⟨i, by omega, h⟩
          · have e : m = s := by simpa using h
            subst e
            exact ⟨n, by omega, hm, hm15, by have := hc.2; omega⟩
        · rintro ⟨i, hi, h⟩
          rcases Nat.lt_or_ge i n with hl | hl
          · exact .inl ⟨i, hl, h⟩
          · obtain rfl : i = n := by omega
            refine .inr ?_
            have e : m = s := by have := h.1; omega
            simp [e]
    · refine ⟨T, h1, ?_, fun s => ?_⟩
      · show (if _ then _ else _) = _
        rw [if_neg hc, h2]
      · rw [h3 s]
        constructor
        · rintro ⟨i, hi, h⟩; exact ⟨i, by omega, h⟩
        · rintro ⟨i, hi, h⟩
          rcases Nat.lt_or_ge i n with hl | hl
          · exact ⟨i, hl, h⟩
          · obtain rfl : i = n := by omega
            exact absurd ⟨⟨by rw [h.1]; omega, by rw [h.1]; have := h.2.1; omega⟩, by have := h.2.2; omega⟩ hc
/-- one bit of it, as the laws read it -/
theorem bit_nat (T s : Nat) (h : T < 65536) : bits .and .i64 ((T : Int) / 2 ^ s) 1 = if T.testBit s then 1 else 0 := by
  have e : (T : Int) / 2 ^ s = ((T / 2 ^ s : Nat) : Int) := by simp
  have hl : T / 2 ^ s ≤ T := Nat.div_le_self _ _
  rw [e, show (1 : Int) = ((1 : Nat) : Int) from rfl, and_i64_nat _ _ (by omega) (by omega), Nat.and_one_is_mod, Nat.testBit_eq_decide_div_mod_eq]
  by_cases h2 : T / 2 ^ s % 2 = 1
  · simp [h2]
  · have h3 : T / 2 ^ s % 2 = 0 := by omega
    simp [h3]
theorem bit_on {ks : List Kt} {n j s : Nat} (hj : j < n) (hst : (nthK ks j).st = (s : Int)) (hs : s ≤ 15) (hf : 0 < (nthK ks j).fs.length) : bits .and .i64 (timK ks n / 2 ^ s) 1 = 1 := by
  obtain ⟨T, h1, h2, h3⟩ := timK_nat ks n
  rw [h2, bit_nat T s h1, (h3 s).2 ⟨j, hj, hst, hs, hf⟩]; rfl
theorem bit_off {ks : List Kt} {n s : Nat} (hno : ∀ i, i < n → (nthK ks i).st = (s : Int) → (nthK ks i).fs.length = 0) : bits .and .i64 (timK ks n / 2 ^ s) 1 = 0 := by
  obtain ⟨T, h1, h2, h3⟩ := timK_nat ks n
  have : T.testBit s = false := by
    cases hb : T.testBit s with
    | false => rfl
    | true =>
      obtain ⟨i, hi, hst, _, hf⟩ := (h3 s).1 hb
      have := hno i hi hst
      omega
  rw [h2, bit_nat T s h1, this]; rfl
end Go.Proofs.Ythdieeaegplnmaa.Pb
