/- Plain facts on the group of the remainders modulo 2039 of order 1019, with no program in sight: every element is a power of 4; every element but 1 generates; inverses; the first logarithm. -/
import Derived.KernelRfl
namespace Go.Proofs.Ythdieeaegplnmaa.Grp
/-- a truth of every number below n, reckoned -/
def allB : Nat → (Nat → Bool) → Bool
  | 0, _ => true
  | n + 1, p => p n && allB n p

theorem allB_of {p : Nat → Bool} : ∀ {n : Nat}, allB n p = true → ∀ k, k < n → p k = true
  | 0, _, k, hk => absurd hk (by omega)
  | n + 1, h, k, hk => by
    simp only [allB, Bool.and_eq_true] at h
    rcases Nat.lt_or_ge k n with h1 | h1
    · exact allB_of h.2 k h1
    · have : k = n := by omega
      subst this; exact h.1

/-- the bits of the powers of 4 below exponent n -/
def powMask : Nat → Nat
  | 0 => 0
  | n + 1 => powMask n ||| (1 <<< (4 ^ n % 2039))

theorem powMask_of : ∀ (n a : Nat), (powMask n).testBit a = true → ∃ k, k < n ∧ 4 ^ k % 2039 = a
  | 0, a, h => by simp [powMask] at h
  | n + 1, a, h => by
    rw [powMask, Nat.testBit_or, Bool.or_eq_true] at h
    rcases h with h | h
    · obtain ⟨k, hk, e⟩ := powMask_of n a h
      exact ⟨k, by omega, e⟩
    · rw [Nat.shiftLeft_eq, Nat.one_mul, Nat.testBit_two_pow] at h
      exact ⟨n, by omega, by simpa using h⟩

theorem inv_all : allB 1019 (fun j => j == 0 || (j * (j ^ 1017 % 1019)) % 1019 == 1) = true := by decide +kernel

/-- the power in the ring of remainders -/
def pm (b e : Nat) : Nat := b ^ e % 2039

theorem mask_all : allB 2039 (fun a => !(pm a 1019 == 1) || (powMask 1019).testBit a) = true := by decide +kernel

theorem pm_lt (b e : Nat) : pm b e < 2039 := Nat.mod_lt _ (by omega)
theorem pm_zero (b : Nat) : pm b 0 = 1 := by simp [pm]
theorem pm_add (b x y : Nat) : pm b (x + y) = pm b x * pm b y % 2039 := by
  unfold pm; rw [Nat.pow_add, Nat.mul_mod]
theorem pm_mod (b e : Nat) : pm (b % 2039) e = pm b e := by
  unfold pm; rw [Nat.pow_mod, Nat.mod_mod, ← Nat.pow_mod]
theorem pm_mul (b x y : Nat) : pm b (x * y) = pm (pm b x) y := by
  unfold pm; rw [Nat.pow_mul, Nat.pow_mod]
theorem pm_prod (a b e : Nat) : pm (a * b) e = pm a e * pm b e % 2039 := by
  unfold pm; rw [Nat.mul_pow, Nat.mul_mod]
theorem pm_one (b : Nat) (h : b < 2039) : pm b 1 = b := by
  unfold pm; rw [Nat.pow_one, Nat.mod_eq_of_lt h]
theorem zero_pm (e : Nat) (h : 0 < e) : pm 0 e = 0 := by unfold pm; rw [Nat.zero_pow h]
theorem one_pm (e : Nat) : pm 1 e = 1 := by unfold pm; rw [Nat.one_pow]

/-- an element of the group -/
def isEl (a : Nat) : Prop := 1 ≤ a ∧ a < 2039 ∧ pm a 1019 = 1

theorem isEl.pm_red {a : Nat} (h : isEl a) (e : Nat) : pm a (e % 1019) = pm a e := by
  conv => rhs; rw [← Nat.div_add_mod e 1019, pm_add, pm_mul, h.2.2, one_pm, Nat.one_mul]
  unfold pm; rw [Nat.mod_mod]

theorem el_pow {a : Nat} (h : isEl a) (e : Nat) : isEl (pm a e) := by
  have h1 : pm (pm a e) 1019 = 1 := by rw [← pm_mul, Nat.mul_comm, pm_mul, h.2.2, one_pm]
  refine ⟨?_, pm_lt _ _, h1⟩
  rcases Nat.eq_zero_or_pos (pm a e) with h0 | h0
  · rw [h0, zero_pm 1019 (by decide)] at h1; cases h1
  · exact h0

theorem el_four {a : Nat} (h : isEl a) : ∃ k, k < 1019 ∧ pm 4 k = a := by
  have := allB_of mask_all a h.2.1
  rw [Bool.or_eq_true] at this
  rcases this with h1 | h1
  · rw [show (pm a 1019 == 1) = true from beq_iff_eq.2 h.2.2] at h1
    cases h1
  · exact powMask_of 1019 a h1

theorem four_order : pm 4 1019 = 1 := by decide +kernel
theorem el4 : isEl 4 := ⟨by omega, by omega, four_order⟩

theorem el_mul {a b : Nat} (ha : isEl a) (hb : isEl b) : isEl (a * b % 2039) := by
  obtain ⟨j, _, rfl⟩ := el_four ha
  obtain ⟨k, _, rfl⟩ := el_four hb
  rw [← pm_add]; exact el_pow el4 _

theorem el_inv {a : Nat} (ha : isEl a) : a * pm a 1018 % 2039 = 1 := by
  have h := pm_add a 1 1018
  rw [pm_one a ha.2.1] at h
  rw [← h]; exact ha.2.2

theorem el_inv_inv {a : Nat} (ha : isEl a) : pm (pm a 1018) 1018 = a := by
  rw [← pm_mul, ← ha.pm_red, show (1018 * 1018) % 1019 = 1 from rfl, pm_one a ha.2.1]

theorem el_inv_one {a : Nat} (ha : isEl a) (h : pm a 1018 = 1) : a = 1 := by
  have := el_inv_inv ha
  rw [h, one_pm] at this; exact this.symm

theorem inv_exp {j : Nat} (h0 : 0 < j) (h1 : j < 1019) : j * (j ^ 1017 % 1019) % 1019 = 1 := by
  have := allB_of inv_all j h1
  rw [Bool.or_eq_true] at this
  rcases this with h | h
  · simp at h; omega
  · simpa using h

/-- every element but 1 generates the group -/
theorem el_log {a b : Nat} (ha : isEl a) (hb : isEl b) (h1 : a ≠ 1) : ∃ e, e < 1019 ∧ pm a e = b := by
  obtain ⟨j, hj, rfl⟩ := el_four ha
  obtain ⟨k, _, rfl⟩ := el_four hb
  have hj0 : 0 < j := by
    rcases Nat.eq_zero_or_pos j with h | h
    · subst h; exact absurd (pm_zero 4) h1
    · exact h
  refine ⟨k * (j ^ 1017 % 1019) % 1019, Nat.mod_lt _ (by omega), ?_⟩
  rw [ha.pm_red, ← pm_mul, ← el4.pm_red, ← el4.pm_red k]
  congr 1
  rw [show j * (k * (j ^ 1017 % 1019)) = k * (j * (j ^ 1017 % 1019)) by rw [Nat.mul_left_comm], Nat.mul_mod, inv_exp hj0 hj, Nat.mul_one, Nat.mod_mod]

/-- the first exponent, of those from e on below e + n, at which the power p of the base is x; -1 if there is none -/
def dlog (b x : Nat) : Nat → Nat → Nat → Int
  | 0, _, _ => -1
  | n + 1, e, p => if p = x then (e : Int) else dlog b x n (e + 1) (p * b % 2039)

theorem dlog_none (b x : Nat) : ∀ (n e p : Nat), dlog b x n e p = -1 ∨ ∃ k, k < n ∧ dlog b x n e p = ((e + k : Nat) : Int) ∧ p * b ^ k % 2039 = x % 2039
  | 0, _, _ => .inl rfl
  | n + 1, e, p => by
    rw [dlog]
    by_cases h : p = x
    · rw [if_pos h]; exact .inr ⟨0, by omega, by simp, by simp [h]⟩
    · rw [if_neg h]
      rcases dlog_none b x n (e + 1) (p * b % 2039) with h1 | ⟨k, hk, e1, e2⟩
      · exact .inl h1
      · refine .inr ⟨k + 1, by omega, by rw [e1]; congr 1; omega, ?_⟩
        rw [← e2, Nat.mod_mul_mod, Nat.pow_succ, Nat.mul_comm (b ^ k) b, Nat.mul_assoc]

theorem dlog_some (b x : Nat) (hx : x < 2039) : ∀ (n e p : Nat), p < 2039 → (∃ k, k < n ∧ p * b ^ k % 2039 = x) → dlog b x n e p ≠ -1
  | 0, _, _, _, ⟨k, hk, _⟩ => absurd hk (by omega)
  | n + 1, e, p, hp, ⟨k, hk, h⟩ => by
    rw [dlog]
    by_cases hx' : p = x
    · rw [if_pos hx']; omega
    · rw [if_neg hx']
      match k, hk, h with
      | 0, _, h => exact absurd (by simpa [Nat.mod_eq_of_lt hp] using h) hx'
      | k + 1, hk, h =>
        refine dlog_some b x hx n (e + 1) (p * b % 2039) (Nat.mod_lt _ (by omega)) ⟨k, by omega, ?_⟩
        rw [Nat.mod_mul_mod, Nat.mul_assoc, Nat.mul_comm b, ← Nat.pow_succ]; exact h

theorem dlog_el {a b : Nat} (ha : isEl a) (hb : isEl b) (h1 : a ≠ 1) : ∃ e : Nat, e < 1019 ∧ dlog a b 1019 0 1 = (e : Int) ∧ pm a e = b := by
  obtain ⟨e, he, hp⟩ := el_log ha hb h1
  have hs := dlog_some a b hb.2.1 1019 0 1 (by omega) ⟨e, he, by rw [Nat.one_mul]; exact hp⟩
  rcases dlog_none a b 1019 0 1 with h | ⟨k, hk, e1, e2⟩
  · exact absurd h hs
  · exact ⟨k, hk, by rw [e1, Nat.zero_add], by rw [Nat.one_mul, Nat.mod_eq_of_lt hb.2.1] at e2; exact e2⟩
end Go.Proofs.Ythdieeaegplnmaa.Grp
