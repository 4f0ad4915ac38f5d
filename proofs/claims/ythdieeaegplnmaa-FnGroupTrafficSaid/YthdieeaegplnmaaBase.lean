import Derived.KernelRfl
import Derived.Test.YthdieeaegplnmaaRows
import Derived.WalkKit
import Derived.ProofKit
import Derived.Handy
import Derived.Lib.Hide
import Derived.Laws.BitsAllLaws
import Derived.Below
import Derived.Laws.OwnMore
import Derived.Maps.AppendAt
import Derived.Deep.Draws
/- Plain facts on the group of the remainders modulo 2039 of order 1019, with no program in sight: every element is a power of 4; every element but 1 generates; inverses; the first logarithm. -/
namespace Go.Proofs.Ythdieeaegplnmaa.Grp
/-- a truth of every number below n, reckoned -/
def allB : Nat → (Nat → Bool) → Bool
  | 0, _ => true
  | n + 1, p => p n && allB n p

theorem allB_of {p : Nat → Bool} : ∀ {n : Nat}, allB n p = true → ∀ k, k < n → p k = true
  | 0, _, k, hk => absurd hk (by omega)
  | n + 1, h, k, hk => by
    simp only [allB, Bool.and_eq_true] at h
    rcases Nat.lt_or_ge k n with h1 | h1
    · exact allB_of h.2 k h1
    · have : k = n := by omega
      subst this; exact h.1

/-- the bits of the powers of 4 below exponent n -/
def powMask : Nat → Nat
  | 0 => 0
  | n + 1 => powMask n ||| (1 <<< (4 ^ n % 2039))

theorem powMask_of : ∀ (n a : Nat), (powMask n).testBit a = true → ∃ k, k < n ∧ 4 ^ k % 2039 = a
  | 0, a, h => by simp [powMask] at h
  | n + 1, a, h => by
    rw [powMask, Nat.testBit_or, Bool.or_eq_true] at h
    rcases h with h | h
    · obtain ⟨k, hk, e⟩ := powMask_of n a h
      exact ⟨k, by omega, e⟩
    · rw [Nat.shiftLeft_eq, Nat.one_mul, Nat.testBit_two_pow] at h
      exact ⟨n, by omega, by simpa using h⟩

theorem inv_all : allB 1019 (fun j => j == 0 || (j * (j ^ 1017 % 1019)) % 1019 == 1) = true := by decide +kernel

/-- the power in the ring of remainders -/
def pm (b e : Nat) : Nat := b ^ e % 2039

theorem mask_all : allB 2039 (fun a => !(pm a 1019 == 1) || (powMask 1019).testBit a) = true := by decide +kernel

theorem pm_lt (b e : Nat) : pm b e < 2039 := Nat.mod_lt _ (by omega)
theorem pm_zero (b : Nat) : pm b 0 = 1 := by simp [pm]
theorem pm_add (b x y : Nat) : pm b (x + y) = pm b x * pm b y % 2039 := by
  unfold pm; rw [Nat.pow_add, Nat.mul_mod]
theorem pm_mod (b e : Nat) : pm (b % 2039) e = pm b e := by
  unfold pm; rw [Nat.pow_mod, Nat.mod_mod, ← Nat.pow_mod]
theorem pm_mul (b x y : Nat) : pm b (x * y) = pm (pm b x) y := by
  unfold pm; rw [Nat.pow_mul, Nat.pow_mod]
theorem pm_prod (a b e : Nat) : pm (a * b) e = pm a e * pm b e % 2039 := by
  unfold pm; rw [Nat.mul_pow, Nat.mul_mod]
theorem pm_one (b : Nat) (h : b < 2039) : pm b 1 = b := by
  unfold pm; rw [Nat.pow_one, Nat.mod_eq_of_lt h]
theorem zero_pm (e : Nat) (h : 0 < e) : pm 0 e = 0 := by unfold pm; rw [Nat.zero_pow h]
theorem one_pm (e : Nat) : pm 1 e = 1 := by unfold pm; rw [Nat.one_pow]

/-- an element of the group -/
def isEl (a : Nat) : Prop := 1 ≤ a ∧ a < 2039 ∧ pm a 1019 = 1

theorem isEl.pm_red {a : Nat} (h : isEl a) (e : Nat) : pm a (e % 1019) = pm a e := by
  conv => rhs; rw [← Nat.div_add_mod e 1019, pm_add, pm_mul, h.2.2, one_pm, Nat.one_mul]
  unfold pm; rw [Nat.mod_mod]

theorem el_pow {a : Nat} (h : isEl a) (e : Nat) : isEl (pm a e) := by
  have h1 : pm (pm a e) 1019 = 1 := by rw [← pm_mul, Nat.mul_comm, pm_mul, h.2.2, one_pm]
  refine ⟨?_, pm_lt _ _, h1⟩
  rcases Nat.eq_zero_or_pos (pm a e) with h0 | h0
  · rw [h0, zero_pm 1019 (by decide)] at h1; cases h1
  · exact h0

theorem el_four {a : Nat} (h : isEl a) : ∃ k, k < 1019 ∧ pm 4 k = a := by
  have := allB_of mask_all a h.2.1
  rw [Bool.or_eq_true] at this
  rcases this with h1 | h1
  · rw [show (pm a 1019 == 1) = true from beq_iff_eq.2 h.2.2] at h1
    cases h1
  · exact powMask_of 1019 a h1

theorem four_order : pm 4 1019 = 1 := by decide +kernel
theorem el4 : isEl 4 := ⟨by omega, by omega, four_order⟩

theorem el_mul {a b : Nat} (ha : isEl a) (hb : isEl b) : isEl (a * b % 2039) := by
  obtain ⟨j, _, rfl⟩ := el_four ha
  obtain ⟨k, _, rfl⟩ := el_four hb
  rw [← pm_add]; exact el_pow el4 _

theorem el_inv {a : Nat} (ha : isEl a) : a * pm a 1018 % 2039 = 1 := by
  have h := pm_add a 1 1018
  rw [pm_one a ha.2.1] at h
  rw [← h]; exact ha.2.2

theorem el_inv_inv {a : Nat} (ha : isEl a) : pm (pm a 1018) 1018 = a := by
  rw [← pm_mul, ← ha.pm_red, show (1018 * 1018) % 1019 = 1 from rfl, pm_one a ha.2.1]

theorem el_inv_one {a : Nat} (ha : isEl a) (h : pm a 1018 = 1) : a = 1 := by
  have := el_inv_inv ha
  rw [h, one_pm] at this; exact this.symm

theorem inv_exp {j : Nat} (h0 : 0 < j) (h1 : j < 1019) : j * (j ^ 1017 % 1019) % 1019 = 1 := by
  have := allB_of inv_all j h1
  rw [Bool.or_eq_true] at this
  rcases this with h | h
  · simp at h; omega
  · simpa using h

/-- every element but 1 generates the group -/
theorem el_log {a b : Nat} (ha : isEl a) (hb : isEl b) (h1 : a ≠ 1) : ∃ e, e < 1019 ∧ pm a e = b := by
  obtain ⟨j, hj, rfl⟩ := el_four ha
  obtain ⟨k, _, rfl⟩ := el_four hb
  have hj0 : 0 < j := by
    rcases Nat.eq_zero_or_pos j with h | h
    · subst h; exact absurd (pm_zero 4) h1
    · exact h
  refine ⟨k * (j ^ 1017 % 1019) % 1019, Nat.mod_lt _ (by omega), ?_⟩
  rw [ha.pm_red, ← pm_mul, ← el4.pm_red, ← el4.pm_red k]
  congr 1
  rw [show j * (k * (j ^ 1017 % 1019)) = k * (j * (j ^ 1017 % 1019)) by rw [Nat.mul_left_comm], Nat.mul_mod, inv_exp hj0 hj, Nat.mul_one, Nat.mod_mod]

/-- the first exponent, of those from e on below e + n, at which the power p of the base is x; -1 if there is none -/
def dlog (b x : Nat) : Nat → Nat → Nat → Int
  | 0, _, _ => -1
  | n + 1, e, p => if p = x then (e : Int) else dlog b x n (e + 1) (p * b % 2039)

theorem dlog_none (b x : Nat) : ∀ (n e p : Nat), dlog b x n e p = -1 ∨ ∃ k, k < n ∧ dlog b x n e p = ((e + k : Nat) : Int) ∧ p * b ^ k % 2039 = x % 2039
  | 0, _, _ => .inl rfl
  | n + 1, e, p => by
    rw [dlog]
    by_cases h : p = x
    · rw [if_pos h]; exact .inr ⟨0, by omega, by simp, by simp [h]⟩
    · rw [if_neg h]
      rcases dlog_none b x n (e + 1) (p * b % 2039) with h1 | ⟨k, hk, e1, e2⟩
      · exact .inl h1
      · refine .inr ⟨k + 1, by omega, by rw [e1]; congr 1; omega, ?_⟩
        rw [← e2, Nat.mod_mul_mod, Nat.pow_succ, Nat.mul_comm (b ^ k) b, Nat.mul_assoc]

theorem dlog_some (b x : Nat) (hx : x < 2039) : ∀ (n e p : Nat), p < 2039 → (∃ k, k < n ∧ p * b ^ k % 2039 = x) → dlog b x n e p ≠ -1
  | 0, _, _, _, ⟨k, hk, _⟩ => absurd hk (by omega)
  | n + 1, e, p, hp, ⟨k, hk, h⟩ => by
    rw [dlog]
    by_cases hx' : p = x
    · rw [if_pos hx']; omega
    · rw [if_neg hx']
      match k, hk, h with
      | 0, _, h => exact absurd (by simpa [Nat.mod_eq_of_lt hp] using h) hx'
      | k + 1, hk, h =>
        refine dlog_some b x hx n (e + 1) (p * b % 2039) (Nat.mod_lt _ (by omega)) ⟨k, by omega, ?_⟩
        rw [Nat.mod_mul_mod, Nat.mul_assoc, Nat.mul_comm b, ← Nat.pow_succ]; exact h

theorem dlog_el {a b : Nat} (ha : isEl a) (hb : isEl b) (h1 : a ≠ 1) : ∃ e : Nat, e < 1019 ∧ dlog a b 1019 0 1 = (e : Int) ∧ pm a e = b := by
  obtain ⟨e, he, hp⟩ := el_log ha hb h1
  have hs := dlog_some a b hb.2.1 1019 0 1 (by omega) ⟨e, he, by rw [Nat.one_mul]; exact hp⟩
  rcases dlog_none a b 1019 0 1 with h | ⟨k, hk, e1, e2⟩
  · exact absurd h hs
  · exact ⟨k, hk, by rw [e1, Nat.zero_add], by rw [Nat.one_mul, Nat.mod_eq_of_lt hb.2.1] at e2; exact e2⟩
end Go.Proofs.Ythdieeaegplnmaa.Grp

/- Plain facts on the hash of a list of numbers, with no program in sight: its range; each step is one to one; two confirm values of exchanged commits differ. -/
namespace Go.Proofs.Ythdieeaegplnmaa.Hsh
theorem sub_of_emod {p x y : Int} (h : x % p = y % p) : ∃ k, x - y = p * k := by
  refine ⟨x / p - y / p, ?_⟩
  have hx := Int.mul_ediv_add_emod x p
  have hy := Int.mul_ediv_add_emod y p
  rw [Int.mul_sub]
  omega

theorem cancel_unit {p A I q d k : Int} (hI : A * I = 1 + p * q) (h : d * A = p * k) : ∃ t, d = p * t := by
  refine ⟨k * I - d * q, ?_⟩
  have h1 : d * (A * I) = d * (1 + p * q) := by rw [hI]
  rw [← Int.mul_assoc, h, Int.mul_add, Int.mul_one, Int.mul_assoc, ← Int.mul_assoc d, Int.mul_comm d p, Int.mul_assoc p d] at h1
  rw [Int.mul_sub]
  omega

theorem zero_of_small {p d t : Int} (h : d = p * t) (h1 : -p < d) (h2 : d < p) : d = 0 := by
  have hp : 0 < p := by omega
  rcases Int.lt_trichotomy t 0 with ht | ht | ht
  · have : p * t ≤ p * (-1) := Int.mul_le_mul_of_nonneg_left (by omega) (by omega)
    omega
  · rw [h, ht, Int.mul_zero]
  · have : p * 1 ≤ p * t := Int.mul_le_mul_of_nonneg_left (by omega) (by omega)
    omega

/-- one step of the hash -/
def hashStep (d v : Int) : Int := (d * 1000003 + v % 2147483647 + 13) % 2147483647
/-- the hash of a list -/
def hashL (l : List Int) : Int := l.foldl hashStep 11

theorem hashStep_bd (d v : Int) : 0 ≤ hashStep d v ∧ hashStep d v < 2147483647 := by unfold hashStep; omega
theorem foldl_bd (l : List Int) : ∀ d : Int, 0 ≤ d → d < 2147483647 → 0 ≤ l.foldl hashStep d ∧ l.foldl hashStep d < 2147483647 := by
  induction l with
  | nil => intro d h0 h1; exact ⟨h0, h1⟩
  | cons x l ih => intro d _ _; exact ih _ (hashStep_bd d x).1 (hashStep_bd d x).2
theorem hashL_bd (l : List Int) : 0 ≤ hashL l ∧ hashL l < 2147483647 := foldl_bd l 11 (by omega) (by omega)
theorem unitA : (1000003 : Int) * 1523789695 = 1 + 2147483647 * 709572 := by decide
theorem unitK : (1000006000008 : Int) * 305106101 = 1 + 2147483647 * 142076952281 := by decide
theorem step_as (d v : Int) : ∃ k, hashStep d v = d * 1000003 + v % 2147483647 + 13 - 2147483647 * k :=
  ⟨(d * 1000003 + v % 2147483647 + 13) / 2147483647, by
    have := Int.mul_ediv_add_emod (d * 1000003 + v % 2147483647 + 13) 2147483647
    unfold hashStep
    omega⟩
theorem zero_small {d t : Int} (h : d = 2147483647 * t) (h1 : -2147483647 < d) (h2 : d < 2147483647) : d = 0 := zero_of_small h h1 h2
theorem hashStep_inj {d e v : Int} (hd0 : 0 ≤ d) (hd : d < 2147483647) (he0 : 0 ≤ e) (he : e < 2147483647) (h : hashStep d v = hashStep e v) : d = e := by
  obtain ⟨k, hk⟩ := step_as d v
  obtain ⟨l, hl⟩ := step_as e v
  generalize v % 2147483647 = t at hk hl
  generalize hashStep d v = x at hk h
  generalize hashStep e v = y at hl h
  have h1 : (d - e) * 1000003 = 2147483647 * (k - l) := by
    rw [Int.sub_mul, Int.mul_sub]
    generalize d * 1000003 = X at *
    generalize e * 1000003 = Y at *
    generalize 2147483647 * k = U at *
    generalize 2147483647 * l = V at *
    omega
  clear hk hl h
  obtain ⟨t, ht⟩ := cancel_unit unitA h1
  clear h1
  have h2 := zero_small ht (by omega) (by omega)
  omega
theorem foldl_inj (l : List Int) : ∀ d e : Int, 0 ≤ d → d < 2147483647 → 0 ≤ e → e < 2147483647 → l.foldl hashStep d = l.foldl hashStep e → d = e := by
  induction l with
  | nil => intro d e _ _ _ _ h; exact h
  | cons x l ih =>
    intro d e h0 h1 h2 h3 h
    exact hashStep_inj h0 h1 h2 h3 (ih _ _ (hashStep_bd d x).1 (hashStep_bd d x).2 (hashStep_bd e x).1 (hashStep_bd e x).2 h)

theorem small_emod {v : Int} (h0 : 0 ≤ v) (h1 : v < 2147483647) : v % 2147483647 = v := Int.emod_eq_of_lt h0 h1

theorem confirm_lin {s a b x y x1 x2 x3 x4 y1 y2 y3 y4 K1 K2 K3 K4 L1 L2 L3 L4 : Int} (g1 : x1 = s * 1000003 + a + 13 - K1) (g2 : x2 = x1 * 1000003 + b + 13 - K2) (g3 : x3 = x2 * 1000003 + x + 13 - K3) (g4 : x4 = x3 * 1000003 + y + 13 - K4)
    (f1 : y1 = s * 1000003 + x + 13 - L1) (f2 : y2 = y1 * 1000003 + y + 13 - L2) (f3 : y3 = y2 * 1000003 + a + 13 - L3) (f4 : y4 = y3 * 1000003 + b + 13 - L4) (h : x4 = y4) :
    ((a - x) * 1000003 + (b - y)) * 1000006000008 = 1000009000027000027 * (K1 - L1) + 1000006000009 * (K2 - L2) + 1000003 * (K3 - L3) + (K4 - L4) := by
  subst g1 f1
  subst g2 f2
  subst g3 f3
  subst g4 f4
  omega
theorem out_p (p u1 u2 u3 k1 k2 k3 k4 l1 l2 l3 l4 : Int) : u1 * (p * k1 - p * l1) + u2 * (p * k2 - p * l2) + u3 * (p * k3 - p * l3) + (p * k4 - p * l4) = p * (u1 * (k1 - l1) + u2 * (k2 - l2) + u3 * (k3 - l3) + (k4 - l4)) := by
  rw [← Int.mul_sub, ← Int.mul_sub, ← Int.mul_sub, ← Int.mul_sub, Int.mul_add, Int.mul_add, Int.mul_add, Int.mul_left_comm u1, Int.mul_left_comm u2, Int.mul_left_comm u3]

theorem confirm_ne (m a b x y : Int) (ha0 : 0 ≤ a) (ha : a < 1019) (hb0 : 0 ≤ b) (hb : b < 2039) (hx0 : 0 ≤ x) (hx : x < 1019) (hy0 : 0 ≤ y) (hy : y < 2039)
    (h : hashL [m, 31, a, b, x, y, m] = hashL [m, 31, x, y, a, b, m]) : a = x ∧ b = y := by
  have hs := foldl_bd [m, 31] 11 (by omega) (by omega)
  have ha1 : a < 2147483647 := by omega
  have hb1 : b < 2147483647 := by omega
  have hx1 : x < 2147483647 := by omega
  have hy1 : y < 2147483647 := by omega
  have e1 : ∀ l, hashL (m :: 31 :: l) = l.foldl hashStep ([m, 31].foldl hashStep 11) := fun l => rfl
  rw [e1, e1] at h
  generalize [m, 31].foldl hashStep 11 = s at hs h
  have h1 := foldl_inj [m] ([a, b, x, y].foldl hashStep s) ([x, y, a, b].foldl hashStep s) (foldl_bd _ s hs.1 hs.2).1 (foldl_bd _ s hs.1 hs.2).2 (foldl_bd _ s hs.1 hs.2).1 (foldl_bd _ s hs.1 hs.2).2 h
  clear h e1
  simp only [List.foldl] at h1
  obtain ⟨k1, g1⟩ := step_as s a
  obtain ⟨k2, g2⟩ := step_as (hashStep s a) b
  obtain ⟨k3, g3⟩ := step_as (hashStep (hashStep s a) b) x
  obtain ⟨k4, g4⟩ := step_as (hashStep (hashStep (hashStep s a) b) x) y
  obtain ⟨l1, f1⟩ := step_as s x
  obtain ⟨l2, f2⟩ := step_as (hashStep s x) y
  obtain ⟨l3, f3⟩ := step_as (hashStep (hashStep s x) y) a
  obtain ⟨l4, f4⟩ := step_as (hashStep (hashStep (hashStep s x) y) a) b
  rw [small_emod ha0 ha1] at g1 f3
  rw [small_emod hb0 hb1] at g2 f4
  rw [small_emod hx0 hx1] at g3 f1
  rw [small_emod hy0 hy1] at g4 f2
  generalize hashStep (hashStep (hashStep (hashStep s a) b) x) y = x4 at *
  generalize hashStep (hashStep (hashStep (hashStep s x) y) a) b = y4 at *
  generalize hashStep (hashStep (hashStep s a) b) x = x3 at *
  generalize hashStep (hashStep (hashStep s x) y) a = y3 at *
  generalize hashStep (hashStep s a) b = x2 at *
  generalize hashStep (hashStep s x) y = y2 at *
  generalize hashStep s a = x1 at *
  generalize hashStep s x = y1 at *
  have hD := (confirm_lin g1 g2 g3 g4 f1 f2 f3 f4 h1).trans (out_p 2147483647 _ _ _ _ _ _ _ _ _ _ _)
  clear g1 g2 g3 g4 f1 f2 f3 f4 h1 hs
  obtain ⟨t, ht⟩ := cancel_unit unitK hD
  clear hD
  have h2 := zero_small ht (by omega) (by omega)
  clear ht
  omega
end Go.Proofs.Ythdieeaegplnmaa.Hsh

/- Contracts of the small functions on numbers: each returns what a plain Lean function says, and turns nothing. -/
namespace Go.Proofs.Ythdieeaegplnmaa.Num
open Go.RowKit
open Go.Proofs.Ythdieeaegplnmaa.Grp

/-- the product modulo 2039, 0 outside the remainders -/
def mulM (a b : Int) : Int := if 0 ≤ a ∧ a ≤ 2038 ∧ 0 ≤ b ∧ b ≤ 2038 then a * b % 2039 else 0
/-- the sum of two exponents modulo 1019 -/
def addS (a b : Int) : Int := if 0 ≤ a ∧ a ≤ 1018 ∧ 0 ≤ b ∧ b ≤ 1018 then (a + b) % 1019 else 0
/-- the product of two exponents modulo 1019 -/
def mulS (a b : Int) : Int := if 0 ≤ a ∧ a ≤ 1018 ∧ 0 ≤ b ∧ b ≤ 1018 then a * b % 1019 else 0

theorem in_spec_yes (n lo hi : Int) (w : World) (h1 : lo ≤ n) (h2 : n ≤ hi) : Calls Try.prog 72 #[.int .i64 n, .int .i64 lo, .int .i64 hi] w fun e w' => e = .returned (.bool true) ∧ w = w' := by
  go_enter Try.func72, Try.ntmps72
  go_wp2
  go_ret
  exact ⟨rfl, rfl⟩
theorem in_spec_no (n lo hi : Int) (w : World) (h : n < lo ∨ hi < n) : Calls Try.prog 72 #[.int .i64 n, .int .i64 lo, .int .i64 hi] w fun e w' => e = .returned (.bool false) ∧ w = w' := by
  by_cases h1 : lo ≤ n <;> by_cases h2 : n ≤ hi
  · omega
  all_goals
    clear h
    go_enter Try.func72, Try.ntmps72
    go_wp2
    go_ret
    exact ⟨rfl, rfl⟩
theorem in_impl_yes (n lo hi : Int) (w : World) (h1 : lo ≤ n) (h2 : n ≤ hi) : Calls Try.prog 74 #[.int .i64 n, .int .i64 lo, .int .i64 hi] w fun e w' => e = .returned (.bool true) ∧ w = w' := by
  go_enter Try.func74, Try.ntmps74
  go_wp2
  go_ret
  exact ⟨rfl, rfl⟩
theorem in_impl_no (n lo hi : Int) (w : World) (h : n < lo ∨ hi < n) : Calls Try.prog 74 #[.int .i64 n, .int .i64 lo, .int .i64 hi] w fun e w' => e = .returned (.bool false) ∧ w = w' := by
  by_cases h1 : lo ≤ n <;> by_cases h2 : n ≤ hi
  · omega
  all_goals
    clear h
    go_enter Try.func74, Try.ntmps74
    go_wp2
    go_ret
    exact ⟨rfl, rfl⟩

theorem mul_bd {k a b : Int} (h : 0 ≤ a ∧ a ≤ k ∧ 0 ≤ b ∧ b ≤ k) : 0 ≤ a * b ∧ a * b ≤ k * k :=
  ⟨Int.mul_nonneg h.1 h.2.2.1, Int.mul_le_mul h.2.1 h.2.2.2 h.2.2.1 (by omega)⟩


/-- the power modulo 2039, 0 outside the remainders and the exponents -/
def powM (b e : Int) : Int := if 0 ≤ b ∧ b ≤ 2038 ∧ 0 ≤ e ∧ e ≤ 1000000000000 then (pm b.toNat e.toNat : Int) else 0

theorem mulM_in {a b : Int} (ha : 0 ≤ a) (ha' : a ≤ 2038) (hb : 0 ≤ b) (hb' : b ≤ 2038) : mulM a b = a * b % 2039 := by
  unfold mulM; rw [if_pos ⟨ha, ha', hb, hb'⟩]
theorem mulM_bd (a b : Int) : 0 ≤ mulM a b ∧ mulM a b ≤ 2038 := by unfold mulM; split <;> omega
theorem mulM_nat {a b : Int} (ha : 0 ≤ a) (ha' : a ≤ 2038) (hb : 0 ≤ b) (hb' : b ≤ 2038) : (mulM a b).toNat = a.toNat * b.toNat % 2039 := by
  rw [mulM_in ha ha' hb hb']
  obtain ⟨x, rfl⟩ := Int.eq_ofNat_of_zero_le ha
  obtain ⟨y, rfl⟩ := Int.eq_ofNat_of_zero_le hb
  simp only [Int.toNat_natCast]
  exact Int.toNat_natCast (x * y % 2039)
/-- a round of the power's loop, the exponent odd -/
theorem pow_odd (r b e : Nat) (h : e % 2 = 1) : (r * b % 2039) * (b * b % 2039) ^ (e / 2) % 2039 = r * b ^ e % 2039 := by
  conv => rhs; rw [show e = 1 + 2 * (e / 2) by omega, Nat.pow_add, Nat.pow_one, Nat.pow_mul, Nat.pow_two, ← Nat.mul_assoc]
  rw [Nat.mod_mul_mod, Nat.mul_mod (r * b), Nat.pow_mod, Nat.mod_mod, ← Nat.pow_mod, ← Nat.mul_mod]
theorem pow_even (r b e : Nat) (h : ¬ e % 2 = 1) : r * (b * b % 2039) ^ (e / 2) % 2039 = r * b ^ e % 2039 := by
  conv => rhs; rw [show e = 2 * (e / 2) by omega, Nat.pow_mul, Nat.pow_two]
  rw [Nat.mul_mod r, Nat.pow_mod, Nat.mod_mod, ← Nat.pow_mod, ← Nat.mul_mod]
/-- what the power's loop keeps -/
def PowRel (b0 e0 r b e : Int) : Prop := 0 ≤ r ∧ r ≤ 2038 ∧ 0 ≤ b ∧ b ≤ 2038 ∧ 0 ≤ e ∧ e ≤ 1000000000000 ∧ r.toNat * b.toNat ^ e.toNat % 2039 = pm b0.toNat e0.toNat
theorem PowRel.start {b e : Int} (ha : 0 ≤ b) (ha' : b ≤ 2038) (hb : 0 ≤ e) (hb' : e ≤ 1000000000000) : PowRel b e 1 b e :=
  ⟨by omega, by omega, ha, ha', hb, hb', by show 1 * _ % 2039 = _; rw [Nat.one_mul]; rfl⟩
theorem PowRel.odd {b0 e0 r b e : Int} (h : PowRel b0 e0 r b e) (ho : e % 2 = 1) : PowRel b0 e0 (mulM r b) (mulM b b) (e / 2) := by
  obtain ⟨h1, h2, h3, h4, h5, h6, h7⟩ := h
  refine ⟨(mulM_bd _ _).1, (mulM_bd _ _).2, (mulM_bd _ _).1, (mulM_bd _ _).2, by omega, by omega, ?_⟩
  rw [mulM_nat h1 h2 h3 h4, mulM_nat h3 h4 h3 h4, show (e / 2).toNat = e.toNat / 2 by omega, pow_odd _ _ _ (by omega)]
  exact h7
theorem PowRel.even {b0 e0 r b e : Int} (h : PowRel b0 e0 r b e) (ho : ¬ e % 2 = 1) : PowRel b0 e0 r (mulM b b) (e / 2) := by
  obtain ⟨h1, h2, h3, h4, h5, h6, h7⟩ := h
  refine ⟨h1, h2, (mulM_bd _ _).1, (mulM_bd _ _).2, by omega, by omega, ?_⟩
  rw [mulM_nat h3 h4 h3 h4, show (e / 2).toNat = e.toNat / 2 by omega, pow_even _ _ _ (by omega)]
  exact h7
theorem PowRel.done {b0 e0 r b e : Int} (h : PowRel b0 e0 r b e) (h0 : ¬ 0 < e) : r = (pm b0.toNat e0.toNat : Int) := by
  obtain ⟨h1, h2, h3, h4, h5, h6, h7⟩ := h
  rw [show e.toNat = 0 by omega, Nat.pow_zero, Nat.mul_one] at h7
  omega
theorem ret_int {k : IntKind} {a b : Int} (h : a = b) : Ending.returned (.int k a) = .returned (.int k b) := by rw [h]

theorem i64_and_nat (a b : Nat) (ha : a < 2 ^ 62) (hb : b < 2 ^ 62) : bits .and .i64 (a : Int) (b : Int) = ((a &&& b : Nat) : Int) :=
  (bits_nat .i64 62 (by decide) (fun n h0 h1 => IntWalk.i64_in n ⟨by omega, by omega⟩) a b ha hb).1
theorem i64_and_one {e : Int} (h0 : 0 ≤ e) (h1 : e ≤ 1000000000000) : bits .and .i64 e 1 = e % 2 := by
  obtain ⟨n, rfl⟩ := Int.eq_ofNat_of_zero_le h0
  have := i64_and_nat n 1 (by omega) (by decide)
  rw [Nat.and_one_is_mod] at this
  exact this

end Go.Proofs.Ythdieeaegplnmaa.Num

/- Words for memory: a slice that reads as a list of cells; what keeps it; slices of numbers among the arguments; append of whatever source onto a slice of the call's own. -/
namespace Go.Proofs.Ythdieeaegplnmaa.Mem
open Go.RowKit

/-- the block of an address -/
def blk (A : Option Addr) : Option Nat := A.map (·.block)

/-- the slice value '.slice A n c', of elements of sz cells each, reads as the cells xs -/
def Rd (w : World) (sz : Nat) (A : Option Addr) (n c : Nat) (xs : List Value) : Prop :=
  xs.length = n * sz ∧ n ≤ c ∧ c ≤ maxLen ∧ (A = none → c = 0) ∧
  (0 < xs.length → ∃ g o, A = some ⟨g, o, none⟩ ∧ ∀ j, j < xs.length → w.cell? ⟨g, o + j, none⟩ = xs[j]?)

section
variable {w w' : World} {sz n c : Nat} {A : Option Addr} {xs : List Value}

theorem Rd.nil_ (w : World) (sz : Nat) : Rd w sz none 0 0 [] := ⟨by simp, by omega, by omega, fun _ => rfl, fun h => absurd h (by simp)⟩

theorem Rd.pos (h : Rd w sz A n c xs) (hp : 0 < xs.length) : 0 < n := by
  rw [h.1] at hp; exact Nat.pos_of_mul_pos_right hp
theorem Rd.keep (h : Rd w sz A n c xs) (hk : 0 < n → ∀ g, blk A = some g → g < w.heap.size → w'.heap[g]? = w.heap[g]?) : Rd w' sz A n c xs := by
  have h0 := h.pos
  obtain ⟨h1, h2, h3, h4, h5⟩ := h
  refine ⟨h1, h2, h3, h4, fun hp => ?_⟩
  obtain ⟨g, o, rfl, hc⟩ := h5 hp
  have h1 := hc 0 hp
  rw [List.getElem?_eq_getElem hp] at h1
  have hlt : g < w.heap.size := World.block_lt_of_cell? _ _ h1
  exact ⟨g, o, rfl, fun j hj => (World.cell?_of_block (a := ⟨g, o + j, none⟩) (hk (h0 hp) g rfl hlt)).trans (hc j hj)⟩

theorem Rd.below (h : Rd w sz A n c xs) (hb : Below w.heap.size w w') : Rd w' sz A n c xs := h.keep fun _ g _ hlt => hb.block g hlt
theorem Rd.drew (h : Rd w sz A n c xs) : Rd w.drew sz A n c xs := h
theorem Rd.drewN (h : Rd w sz A n c xs) (k : Nat) : Rd (w.drewN k) sz A n c xs := h
theorem Rd.alloc (h : Rd w sz A n c xs) (o : Obj) : Rd (w.alloc o) sz A n c xs := h.keep fun _ g _ hlt => Below.heap_alloc w o g hlt
theorem Rd.setCell (h : Rd w sz A n c xs) {p : Addr} (hp : 0 < n → blk A ≠ some p.block) (u : Value) : Rd (w.setCell p u) sz A n c xs :=
  h.keep fun h0 g hg _ => Below.heap_setCell w p u g (fun e => hp h0 (by rw [hg, e]))
theorem Rd.grown (h : Rd w sz A n c xs) {row : Option Nat} (hg : w.grownBy w' row) (hr : row = none ∨ (0 < n → blk A ≠ row)) : Rd w' sz A n c xs :=
  h.keep fun h0 g hA hlt => hg.block g hlt (fun e => by
    rcases hr with hr | hr
    · rw [hr] at e; cases e
    · exact hr h0 (by rw [hA, e]))

/-- the cell at place k, with the address laid open -/
theorem Rd.at_ {k : Nat} (h : Rd w sz A n c xs) (hk : k < xs.length) : ∃ g o, A = some ⟨g, o, none⟩ ∧ g < w.heap.size ∧ ∀ j, j < xs.length → w.cell? ⟨g, o + j, none⟩ = xs[j]? := by
  obtain ⟨g, o, rfl, hc⟩ := h.2.2.2.2 (by omega)
  have h0 := hc k hk
  rw [List.getElem?_eq_getElem hk] at h0
  exact ⟨g, o, rfl, World.block_lt_of_cell? _ _ h0, hc⟩

theorem Rd.of_own {base : Nat} {e : TypeId} (h : w.ownsRow base e sz (.slice A n c) n xs) : Rd w sz A n c xs := by
  obtain ⟨h1, h2⟩ := h
  rcases h2 with ⟨hv, hn⟩ | ⟨g, cap, cur, hv, _, hg, hnc, hcm, hcs, htake⟩
  · simp only [Value.slice.injEq] at hv
    obtain ⟨rfl, rfl, rfl⟩ := hv
    exact ⟨h1, by omega, by omega, fun _ => rfl, fun hp => by rw [h1] at hp; simp at hp⟩
  · simp only [Value.slice.injEq, true_and] at hv
    obtain ⟨rfl, rfl⟩ := hv
    refine ⟨h1, hnc, hcm, (fun e => by cases e), fun hp => ⟨g, 0, rfl, fun j hj => ?_⟩⟩
    rw [Nat.zero_add, cell_of_row w g j cur e (0, 0) hg, ← htake, List.getElem?_take, if_pos (by omega)]
    simp

theorem blk_of_own {base : Nat} {e : TypeId} (h : w.ownsRow base e sz (.slice A n c) n xs) : ∀ g, blk A = some g → base ≤ g ∧ g < w.heap.size := by
  intro g hg
  refine h.lt g ?_
  cases A with
  | none => cases hg
  | some a => exact hg
end

/-- a slice of numbers among the arguments: its elements, each within its kind -/
def RowIn (k : IntKind) (w : World) (A : Option Addr) (n c : Nat) (zs : List Int) : Prop :=
  Rd w 1 A n c (zs.map (Value.int k)) ∧ ∀ z ∈ zs, (Lit.int k z).wf = true

theorem rowIn_nil (k : IntKind) (w : World) : RowIn k w none 0 0 [] := ⟨Rd.nil_ w 1, by simp⟩
theorem rowIn_of_open {k : IntKind} {w : World} {x : Addr} {l c : Nat} {zs : List Int} (hl : l ≤ c) (hm : c ≤ maxLen) (hz : zs.length = c) (hcell : ∀ i, i < zs.length → w.cell? (x.add i) = some (.int k (zs.getD i 0)))
    (hw : ∀ n ∈ zs, (Lit.int k n).wf = true) : RowIn k w (some x) l c (zs.take l) := by
  refine ⟨⟨by simp; omega, hl, hm, (fun e => by cases e), fun hp => ?_⟩, fun z hz' => hw z (List.mem_of_mem_take hz')⟩
  simp only [List.length_map, List.length_take] at hp
  have h0 := hcell 0 (by omega)
  obtain ⟨g, o, s⟩ := x
  have hs : s = none := by simpa [Addr.add] using World.cell?_spot h0
  subst hs
  refine ⟨g, o, rfl, fun j hj => ?_⟩
  simp only [List.length_map, List.length_take] at hj
  have hjz : j < zs.length := by omega
  have h1 := hcell j hjz
  have ha : (⟨g, o, none⟩ : Addr).add j = ⟨g, o + j, none⟩ := by
    unfold Addr.add
    split
    · subst_vars; rfl
    · rfl
  rw [ha] at h1
  rw [h1, List.getElem?_map, List.getElem?_take, if_pos (by omega), List.getElem?_eq_getElem hjz]
  simp [List.getD, hjz]

theorem RowIn.len {k : IntKind} {w : World} {A : Option Addr} {n c : Nat} {zs : List Int} (h : RowIn k w A n c zs) : zs.length = n := by
  have := h.1.1
  simpa using this

/-- the number at place k, its cell, and the address laid open -/
theorem Rd.int_at {k : IntKind} {w : World} {A : Option Addr} {n c j : Nat} {zs : List Int} (h : Rd w 1 A n c (zs.map (Value.int k))) (hj : j < n) :
    ∃ g o, A = some ⟨g, o, none⟩ ∧ g < w.heap.size ∧ w.cell? ⟨g, o + j, none⟩ = some (.int k (zs.getD j 0)) := by
  have hl : zs.length = n := by have := h.1; simpa using this
  obtain ⟨g, o, rfl, hg, hc⟩ := h.at_ (k := j) (by simp; omega)
  refine ⟨g, o, rfl, hg, ?_⟩
  rw [hc j (by simp; omega), List.getElem?_map, List.getElem?_eq_getElem (by omega)]
  simp [List.getD, show j < zs.length by omega]
theorem len_ints {k : IntKind} {w : World} {A : Option Addr} {n c : Nat} {zs : List Int} (h : Rd w 1 A n c (zs.map (Value.int k))) : zs.length = n := by
  have := h.1; simpa using this
theorem one_ints (k : IntKind) (zs : List Int) : ∀ u ∈ zs.map (Value.int k), u.oneCell' = true := by
  intro u hu
  obtain ⟨z, _, rfl⟩ := List.mem_map.1 hu
  rfl

/-- a new block of one cell, read as a slice -/
theorem Rd.one (w : World) (u : Value) (t : TypeId) : Rd (w.alloc (.cells #[u] t)) 1 (some ⟨w.heap.size, 0, none⟩) 1 1 [u] :=
  ⟨rfl, Nat.le_refl _, (by unfold maxLen; omega), (fun e => by cases e), fun _ => ⟨_, _, rfl, fun j hj => by
    have : j = 0 := by simp at hj; omega
    subst this
    simp [World.cell?_alloc_at]⟩⟩
/-- a new block written out, read as a slice -/
theorem Rd.lit (w : World) (cs : List Value) (t : TypeId) (n : Nat) (hn : cs.length = n) (hm : n ≤ maxLen) : Rd (w.alloc (.cells cs.toArray t)) 1 (some ⟨w.heap.size, 0, none⟩) n n cs :=
  ⟨by omega, Nat.le_refl _, hm, (fun e => by cases e), fun _ => ⟨_, _, rfl, fun j hj => by simp [World.cell?_alloc_at]⟩⟩

theorem Rd.litAt (w : World) (cs : List Value) (t : TypeId) (n H : Nat) (hH : w.heap.size = H) (hn : cs.length = n) (hm : n ≤ maxLen) : Rd (w.alloc (.cells cs.toArray t)) 1 (some ⟨H, 0, none⟩) n n cs := by
  subst hH; exact Rd.lit w cs t n hn hm

/-- append of a source that is nil, empty or not, onto a slice of the call's own: the new value written out, and where it lies -/
theorem wpl_app {P : Program} (w : World) {ops : Array Oper} {rest : List Oper} {o : Oper} {a : Act} {Q : Exit → Act → World → Prop} (hgd : o.guard = none) (s x : Operand) (t : TypeId)
    (ho : o.op = .call { callee := .builtin .append, args := #[s, x], argTypes := #[t, t] })
    (base : Nat) (e : TypeId) (i : TypeInfo) (z : Value) (size bytes : Nat) (ht : P.underlying t = some (.slice e)) (hi : P.info? e = some i) (hz : i.zero = some z)
    (hsize : i.size = size) (hby : i.bytes = bytes) (hzs : z.cells.size = size) (hsz : 0 < size)
    (A : Option Addr) (n c : Nat) (xs : List Value) (hs : a.eval s = .slice A n c) (hown : w.ownsRow base e size (.slice A n c) n xs)
    (B : Option Addr) (m d : Nat) (news : List Value) (hx : a.eval x = .slice B m d) (hr : Rd w size B m d news) (h1 : ∀ u ∈ news, u.oneCell' = true)
    (h63 : n + m ≤ maxLen) (hbytes : (n + m) * bytes ≤ 140737488355328) (hbase : base ≤ w.heap.size)
    (hK : ∀ A' c' w', w'.ownsRow base e size (.slice A' (n + m) c') (n + m) (xs ++ news) → w.grownBy w' (blk A) → (blk A' = blk A ∨ blk A' = some w.heap.size) → wpList P ops Q rest (a.put o.dst (.slice A' (n + m) c')) w') :
    wpList P ops Q (o :: rest) a w := by
  refine wpList_plain hgd fun K hK' => ?_
  have hob : (Value.slice A n c).ownBlock = blk A := by cases A <;> rfl
  have main : ∃ A' c' w', (Builtin.append_ #[t, t] o.type #[.slice A n c, .slice B m d]).run P w = .ok (.slice A' (n + m) c') w' ∧ w'.ownsRow base e size (.slice A' (n + m) c') (n + m) (xs ++ news) ∧ w.grownBy w' (blk A) ∧ (blk A' = blk A ∨ blk A' = some w.heap.size) := by
    obtain ⟨r1, r2, r3, r4, r5⟩ := hr
    cases B with
    | none =>
      have hd : d = 0 := r4 rfl
      have hm : m = 0 := by omega
      subst hd hm
      have hn : news = [] := List.eq_nil_of_length_eq_zero (by simpa using r1)
      subst hn
      exact ⟨A, c, w, run_append_owned_none w base t o.type e i size ht hi _ n xs hown, by simpa using hown, World.grownBy.refl w _, .inl rfl⟩
    | some ad =>
      have hnews : ∀ j u, news[j]? = some u → w.cell? (ad.add j) = some u := by
        intro j u hu
        have hj : j < news.length := (List.getElem?_eq_some_iff.1 hu).1
        obtain ⟨g, o', he, hc⟩ := r5 (by omega)
        injection he with he
        subst he
        have ha : (⟨g, o', none⟩ : Addr).add j = ⟨g, o' + j, none⟩ := by
          unfold Addr.add
          split
          · subst_vars; rfl
          · rfl
        rw [ha, hc j hj, hu]
      obtain ⟨v', w', hrun, h2, h3, _, h5⟩ := run_append_own_at (P := P) w base t o.type e i z size bytes ht hi hz hsize hby hzs hsz _ n xs hown ad m d news r1 hnews h1 h63 hbytes hbase
      have hv : ∃ A' c', v' = .slice A' (n + m) c' := by
        rcases h2.2 with ⟨hv, hn⟩ | ⟨g, cap, cur, hv, _⟩
        · exact ⟨none, 0, by rw [hv, hn]⟩
        · exact ⟨_, cap, hv⟩
      obtain ⟨A', c', rfl⟩ := hv
      have hob' : (Value.slice A' (n + m) c').ownBlock = blk A' := by cases A' <;> rfl
      rw [hob] at h3 h5
      rw [hob'] at h5
      exact ⟨A', c', w', hrun, h2, h3, h5⟩
  obtain ⟨A', c', w', hrun, h2, h3, h4⟩ := main
  unfold Oper.wp
  simp only [execOp, ho, resolve, invoke, builtin, Sem.run_bind, Sem.run_pure, Result.andThen_ok, List.map_toArray, List.map_cons, List.map_nil, hs, hx, hrun]
  exact hK' _ _ (hK A' c' w' h2 h3 h4)

/-- behind a call that left all that was there: each old cell, each old mark, as rules for the walk -/
theorem bcells {W w1 : World} (hb : Below W.heap.size W w1) : (∀ b o, b < W.heap.size → w1.cell? ⟨b, o, none⟩ = W.cell? ⟨b, o, none⟩) ∧ (∀ b o, b < W.heap.size → w1.frozen? ⟨b, o, none⟩ = W.frozen? ⟨b, o, none⟩) :=
  ⟨fun b o h => hb.cell (p := ⟨b, o, none⟩) h, fun b o h => hb.frozen (p := ⟨b, o, none⟩) h⟩

/-- a cell that was there reads as it did -/
theorem lift {W w1 : World} (hb : Below W.heap.size W w1) {b o : Nat} {v : Value} (h : W.cell? ⟨b, o, none⟩ = some v) : w1.cell? ⟨b, o, none⟩ = some v :=
  (hb.cell (p := ⟨b, o, none⟩) (World.block_lt_of_cell? W _ h)).trans h
/-- a step that made blocks, then a call that left all that was there -/
theorem stepB {B : Nat} {a W w1 : World} (h : Below B a W) (hb : Below W.heap.size W w1) (hB : B ≤ W.heap.size) : Below B a w1 := h.trans (hb.mono hB)

theorem stepW {w W w1 : World} (h : Below w.heap.size w W) (hb : Below W.heap.size W w1) : Below w.heap.size w w1 := h.trans (hb.mono h.size)

/-- the call hands back a slice of n elements in new memory, which reads as xs; what was there is as it was -/
def RetOwn (w : World) (t : TypeId) (sz n : Nat) (xs : List Value) (x : Ending) (w' : World) : Prop :=
  ∃ A c, x = .returned (.slice A n c) ∧ w'.ownsRow w.heap.size t sz (.slice A n c) n xs ∧ Below w.heap.size w w'

/-- behind an append, what was there when the call began is as it was -/
theorem below_app {B : Nat} {w0 w w' : World} {A : Option Addr} (h : Below B w0 w) (hg : w.grownBy w' (blk A)) (hB : B ≤ w.heap.size) (hA : ∀ g, blk A = some g → B ≤ g) : Below B w0 w' :=
  h.grown hg hB hA
end Go.Proofs.Ythdieeaegplnmaa.Mem

/- Contracts of Mod, Min, Max, the hash, the keyed hash, and of bytes as numbers. -/
namespace Go.Proofs.Ythdieeaegplnmaa.Hsh
open Go.RowKit
open Go.Proofs.Ythdieeaegplnmaa.Num Go.Proofs.Ythdieeaegplnmaa.Mem

/-- the remainder from 0 on, 0 outside the moduli -/
def modI (p q : Int) : Int := if 1 ≤ q ∧ q ≤ 1000000000000 then p % q else 0

theorem tmod_up {p q : Int} (hq : 1 ≤ q) (h : p.tmod q < 0) : p.tmod q + q = p % q := by
  have h1 := Int.tmod_eq_emod (a := p) (b := q)
  have h2 := Int.emod_nonneg p (show q ≠ 0 by omega)
  split at h1 <;> omega
theorem tmod_at {p q : Int} (hq : 1 ≤ q) (h : ¬ p.tmod q < 0) : p.tmod q = p % q := by
  have h1 := Int.tmod_eq_emod (a := p) (b := q)
  have h2 := Int.emod_lt_of_pos p (show 0 < q by omega)
  split at h1 <;> omega
theorem tmod_bd {p q : Int} (hq : 1 ≤ q) : -q < p.tmod q ∧ p.tmod q < q :=
  ⟨Int.lt_tmod_of_pos p (by omega), Int.tmod_lt_of_pos p (by omega)⟩
theorem tmod_two {p q : Int} (hq : 1 ≤ q) : (p.tmod q + q) % q = p % q := by
  by_cases h : p.tmod q < 0
  · rw [tmod_up hq h, Int.emod_emod]
  · rw [tmod_at hq h, Int.add_emod_right, Int.emod_emod]

set_option maxHeartbeats 400000 in
theorem mod_spec (p q : Int) (w : World) (hp0 : -9223372036854775808 ≤ p) (hp1 : p ≤ 9223372036854775807) : Calls Try.prog 75 #[.int .i64 p, .int .i64 q] w fun e w' => e = .returned (.int .i64 (modI p q)) ∧ w = w' := by
  unfold modI
  by_cases hq : 1 ≤ q ∧ q ≤ 1000000000000
  · rw [if_pos hq]
    obtain ⟨q1, q2⟩ := hq
    have b1 := (tmod_bd (p := p) q1).1
    have b2 := (tmod_bd (p := p) q1).2
    have e1 := Int.emod_nonneg p (show q ≠ 0 by omega)
    have e2 := Int.emod_lt_of_pos p (show 0 < q by omega)
    by_cases hp : 0 ≤ p
    · have H := Lib.hid (show (p % q + q) % q = p % q by rw [Int.add_emod_right, Int.emod_emod])
      go_enter Try.func75, Try.ntmps75
      go_wp2_with (first | (go_at_call 72; refine (in_spec_yes _ _ _ _ (by omega) (by omega)).mono ?_; rintro e w' ⟨rfl, rfl⟩))
      go_ret
      first | exact ⟨rfl, rfl⟩ | exact ⟨ret_int H.out, rfl⟩
    · have H := Lib.hid (tmod_two (p := p) q1)
      by_cases hr : p.tmod q < 0
      · have H2 := Lib.hid (tmod_up q1 hr)
        go_enter Try.func75, Try.ntmps75
        go_wp2_with (first | (go_at_call 72; refine (in_spec_yes _ _ _ _ (by omega) (by omega)).mono ?_; rintro e w' ⟨rfl, rfl⟩))
        go_ret
        first | exact ⟨ret_int H2.out, rfl⟩ | exact ⟨ret_int H.out, rfl⟩
      · have H2 := Lib.hid (tmod_at q1 hr)
        go_enter Try.func75, Try.ntmps75
        go_wp2_with (first | (go_at_call 72; refine (in_spec_yes _ _ _ _ (by omega) (by omega)).mono ?_; rintro e w' ⟨rfl, rfl⟩))
        go_ret
        first | exact ⟨ret_int H2.out, rfl⟩ | exact ⟨ret_int H.out, rfl⟩
  · rw [if_neg hq]
    go_enter Try.func75, Try.ntmps75
    go_wp2_with (first | (go_at_call 72; refine (in_spec_no _ _ _ _ (by omega)).mono ?_; rintro e w' ⟨rfl, rfl⟩))
    go_ret
    exact ⟨rfl, rfl⟩
set_option maxHeartbeats 400000 in
theorem mod_impl (p q : Int) (w : World) (hp0 : -9223372036854775808 ≤ p) (hp1 : p ≤ 9223372036854775807) : Calls Try.prog 96 #[.int .i64 p, .int .i64 q] w fun e w' => e = .returned (.int .i64 (modI p q)) ∧ w = w' := by
  unfold modI
  by_cases hq : 1 ≤ q ∧ q ≤ 1000000000000
  · rw [if_pos hq]
    obtain ⟨q1, q2⟩ := hq
    have b1 := (tmod_bd (p := p) q1).1
    have b2 := (tmod_bd (p := p) q1).2
    have e1 := Int.emod_nonneg p (show q ≠ 0 by omega)
    have e2 := Int.emod_lt_of_pos p (show 0 < q by omega)
    by_cases hp : 0 ≤ p
    · have H := Lib.hid (show (p % q + q) % q = p % q by rw [Int.add_emod_right, Int.emod_emod])
      go_enter Try.func96, Try.ntmps96
      go_wp2_with (first | (go_at_call 74; refine (in_impl_yes _ _ _ _ (by omega) (by omega)).mono ?_; rintro e w' ⟨rfl, rfl⟩))
      go_ret
      first | exact ⟨rfl, rfl⟩ | exact ⟨ret_int H.out, rfl⟩
    · have H := Lib.hid (tmod_two (p := p) q1)
      by_cases hr : p.tmod q < 0
      · have H2 := Lib.hid (tmod_up q1 hr)
        go_enter Try.func96, Try.ntmps96
        go_wp2_with (first | (go_at_call 74; refine (in_impl_yes _ _ _ _ (by omega) (by omega)).mono ?_; rintro e w' ⟨rfl, rfl⟩))
        go_ret
        first | exact ⟨ret_int H2.out, rfl⟩ | exact ⟨ret_int H.out, rfl⟩
      · have H2 := Lib.hid (tmod_at q1 hr)
        go_enter Try.func96, Try.ntmps96
        go_wp2_with (first | (go_at_call 74; refine (in_impl_yes _ _ _ _ (by omega) (by omega)).mono ?_; rintro e w' ⟨rfl, rfl⟩))
        go_ret
        first | exact ⟨ret_int H2.out, rfl⟩ | exact ⟨ret_int H.out, rfl⟩
  · rw [if_neg hq]
    go_enter Try.func96, Try.ntmps96
    go_wp2_with (first | (go_at_call 74; refine (in_impl_no _ _ _ _ (by omega)).mono ?_; rintro e w' ⟨rfl, rfl⟩))
    go_ret
    exact ⟨rfl, rfl⟩

def minI (a b : Int) : Int := if b < a then b else a
def maxI (a b : Int) : Int := if a < b then b else a
theorem min_spec (a b : Int) (w : World) : Calls Try.prog 47 #[.int .i64 a, .int .i64 b] w fun e w' => e = .returned (.int .i64 (minI a b)) ∧ w = w' := by
  unfold minI
  by_cases h : b < a
  · rw [if_pos h]
    go_enter Try.func47, Try.ntmps47
    go_wp2
    go_ret
    exact ⟨rfl, rfl⟩
  · rw [if_neg h]
    go_enter Try.func47, Try.ntmps47
    go_wp2
    go_ret
    exact ⟨rfl, rfl⟩

theorem hash_snoc (l : List Int) (v : Int) : hashL (l ++ [v]) = hashStep (hashL l) v := by unfold hashL; rw [List.foldl_append]; rfl
theorem take_snoc (l : List Int) (k : Nat) (h : k < l.length) : l.take (k + 1) = l.take k ++ [l.getD k 0] := by
  rw [List.take_succ_eq_append_getElem h]; simp [List.getD, h]
theorem modI_big (v : Int) : modI v 2147483647 = v % 2147483647 := by unfold modI; rw [if_pos (by omega)]

theorem hashL_step (zs : List Int) (k : Nat) (h : k < zs.length) (z : Int) (hz : zs.getD k 0 = z) : hashL (zs.take (k + 1)) = (hashL (zs.take k) * 1000003 + modI z 2147483647 + 13) % 2147483647 := by
  rw [take_snoc zs k h, hash_snoc, hz, modI_big]; rfl
theorem hashL_all (zs : List Int) (k : Nat) (h : zs.length ≤ k) : hashL (zs.take k) = hashL zs := by rw [List.take_of_length_le h]
theorem modI_bd (z : Int) : 0 ≤ modI z 2147483647 ∧ modI z 2147483647 < 2147483647 := by rw [modI_big]; omega

end Go.Proofs.Ythdieeaegplnmaa.Hsh

/- Contracts of the keyed hash, and of bytes as numbers. -/
namespace Go.Proofs.Ythdieeaegplnmaa.Hsh
open Go.RowKit
open Go.Proofs.Ythdieeaegplnmaa.Num Go.Proofs.Ythdieeaegplnmaa.Mem

theorem intInfo : (Try.prog.info? 3).map (fun i => (i.zero, i.size, i.bytes)) = some (some (.int .i64 0), 1, 8) := by kernel_rfl

/-- the numbers that a key's hash takes in -/
def keyed (key : Int) (zs : List Int) : List Int := key :: (zs ++ [key])
theorem keyed_map (key : Int) (zs : List Int) : (keyed key zs).map (Value.int .i64) = .int .i64 key :: (zs.map (Value.int .i64) ++ [.int .i64 key]) := by simp [keyed]
theorem keyed_wf {key : Int} {zs : List Int} (hk : -9223372036854775808 ≤ key ∧ key ≤ 9223372036854775807) (hw : ∀ z ∈ zs, -9223372036854775808 ≤ z ∧ z ≤ 9223372036854775807) :
    ∀ z ∈ keyed key zs, -9223372036854775808 ≤ z ∧ z ≤ 9223372036854775807 := by
  intro z hz
  simp only [keyed, List.mem_cons, List.mem_append, List.not_mem_nil, or_false] at hz
  rcases hz with rfl | h | rfl
  · exact hk
  · exact hw z h
  · exact hk

end Go.Proofs.Ythdieeaegplnmaa.Hsh

/- Contracts of BytesToInts: the length, then each byte as a number, in new memory. -/
namespace Go.Proofs.Ythdieeaegplnmaa.Hsh
open Go.RowKit
open Go.Proofs.Ythdieeaegplnmaa.Num Go.Proofs.Ythdieeaegplnmaa.Mem

/-- each number is a byte -/
def AllBytes (bs : List Int) : Prop := ∀ z ∈ bs, 0 ≤ z ∧ z ≤ 255
theorem AllBytes.at_ {bs : List Int} (h : AllBytes bs) {k : Nat} (hk : k < bs.length) : 0 ≤ bs.getD k 0 ∧ bs.getD k 0 ≤ 255 := by
  refine h _ ?_
  rw [List.getD_eq_getElem?_getD, List.getElem?_eq_getElem hk]
  exact List.getElem_mem _
/-- the bytes as numbers, their count ahead -/
def bytesNums (bs : List Int) : List Int := (bs.length : Int) :: bs
theorem nums_snoc (n : Int) (bs : List Int) (k : Nat) (h : k < bs.length) (z : Int) (hz : bs.getD k 0 = z) : (n :: bs.take (k + 1)).map (Value.int .i64) = (n :: bs.take k).map (Value.int .i64) ++ [.int .i64 z] := by
  rw [take_snoc bs k h, hz]; simp

end Go.Proofs.Ythdieeaegplnmaa.Hsh
