/- Contracts of the small functions on numbers: each returns what a plain Lean function says, and turns nothing. -/
import Derived.Test.YthdieeaegplnmaaRows
import Derived.Test.YthdieeaegplnmaaGroupPlain
import Derived.Test.YthdieeaegplnmaaHashPlain
import Derived.WalkKit
import Derived.ProofKit
import Derived.Handy
import Derived.Lib.Hide
import Derived.Laws.BitsAllLaws
namespace Go.Proofs.Ythdieeaegplnmaa.Num
open Go.RowKit
open Go.Proofs.Ythdieeaegplnmaa.Grp

/-- the product modulo 2039, 0 outside the remainders -/
def mulM (a b : Int) : Int := if 0 ≤ a ∧ a ≤ 2038 ∧ 0 ≤ b ∧ b ≤ 2038 then a * b % 2039 else 0
/-- the sum of two exponents modulo 1019 -/
def addS (a b : Int) : Int := if 0 ≤ a ∧ a ≤ 1018 ∧ 0 ≤ b ∧ b ≤ 1018 then (a + b) % 1019 else 0
/-- the product of two exponents modulo 1019 -/
def mulS (a b : Int) : Int := if 0 ≤ a ∧ a ≤ 1018 ∧ 0 ≤ b ∧ b ≤ 1018 then a * b % 1019 else 0

theorem in_spec_yes (n lo hi : Int) (w : World) (h1 : lo ≤ n) (h2 : n ≤ hi) : Calls Try.prog 72 #[.int .i64 n, .int .i64 lo, .int .i64 hi] w fun e w' => e = .returned (.bool true) ∧ w = w' := by
  go_enter Try.func72, Try.ntmps72
  go_wp2
  go_ret
  exact ⟨rfl, rfl⟩
theorem in_spec_no (n lo hi : Int) (w : World) (h : n < lo ∨ hi < n) : Calls Try.prog 72 #[.int .i64 n, .int .i64 lo, .int .i64 hi] w fun e w' => e = .returned (.bool false) ∧ w = w' := by
  by_cases h1 : lo ≤ n <;> by_cases h2 : n ≤ hi
  · omega
  all_goals
    clear h
    go_enter Try.func72, Try.ntmps72
    go_wp2
    go_ret
    exact ⟨rfl, rfl⟩
theorem in_impl_yes (n lo hi : Int) (w : World) (h1 : lo ≤ n) (h2 : n ≤ hi) : Calls Try.prog 74 #[.int .i64 n, .int .i64 lo, .int .i64 hi] w fun e w' => e = .returned (.bool true) ∧ w = w' := by
  go_enter Try.func74, Try.ntmps74
  go_wp2
  go_ret
  exact ⟨rfl, rfl⟩
theorem in_impl_no (n lo hi : Int) (w : World) (h : n < lo ∨ hi < n) : Calls Try.prog 74 #[.int .i64 n, .int .i64 lo, .int .i64 hi] w fun e w' => e = .returned (.bool false) ∧ w = w' := by
  by_cases h1 : lo ≤ n <;> by_cases h2 : n ≤ hi
  · omega
  all_goals
    clear h
    go_enter Try.func74, Try.ntmps74
    go_wp2
    go_ret
    exact ⟨rfl, rfl⟩

theorem mul_bd {k a b : Int} (h : 0 ≤ a ∧ a ≤ k ∧ 0 ≤ b ∧ b ≤ k) : 0 ≤ a * b ∧ a * b ≤ k * k :=
  ⟨Int.mul_nonneg h.1 h.2.2.1, Int.mul_le_mul h.2.1 h.2.2.2 h.2.2.1 (by omega)⟩


/-- the power modulo 2039, 0 outside the remainders and the exponents -/
def powM (b e : Int) : Int := if 0 ≤ b ∧ b ≤ 2038 ∧ 0 ≤ e ∧ e ≤ 1000000000000 then (pm b.toNat e.toNat : Int) else 0

theorem mulM_in {a b : Int} (ha : 0 ≤ a) (ha' : a ≤ 2038) (hb : 0 ≤ b) (hb' : b ≤ 2038) : mulM a b = a * b % 2039 := by
  unfold mulM; rw [if_pos ⟨ha, ha', hb, hb'⟩]
theorem mulM_bd (a b : Int) : 0 ≤ mulM a b ∧ mulM a b ≤ 2038 := by unfold mulM; split <;> omega
theorem mulM_nat {a b : Int} (ha : 0 ≤ a) (ha' : a ≤ 2038) (hb : 0 ≤ b) (hb' : b ≤ 2038) : (mulM a b).toNat = a.toNat * b.toNat % 2039 := by
  rw [mulM_in ha ha' hb hb']
  obtain ⟨x, rfl⟩ := Int.eq_ofNat_of_zero_le ha
  obtain ⟨y, rfl⟩ := Int.eq_ofNat_of_zero_le hb
  simp only [Int.toNat_natCast]
  exact Int.toNat_natCast (x * y % 2039)
/-- a round of the power's loop, the exponent odd -/
theorem pow_odd (r b e : Nat) (h : e % 2 = 1) : (r * b % 2039) * (b * b % 2039) ^ (e / 2) % 2039 = r * b ^ e % 2039 := by
  conv => rhs; rw [show e = 1 + 2 * (e / 2) by omega, Nat.pow_add, Nat.pow_one, Nat.pow_mul, Nat.pow_two, ← Nat.mul_assoc]
  rw [Nat.mod_mul_mod, Nat.mul_mod (r * b), Nat.pow_mod, Nat.mod_mod, ← Nat.pow_mod, ← Nat.mul_mod]
theorem pow_even (r b e : Nat) (h : ¬ e % 2 = 1) : r * (b * b % 2039) ^ (e / 2) % 2039 = r * b ^ e % 2039 := by
  conv => rhs; rw [show e = 2 * (e / 2) by omega, Nat.pow_mul, Nat.pow_two]
  rw [Nat.mul_mod r, Nat.pow_mod, Nat.mod_mod, ← Nat.pow_mod, ← Nat.mul_mod]
/-- what the power's loop keeps -/
def PowRel (b0 e0 r b e : Int) : Prop := 0 ≤ r ∧ r ≤ 2038 ∧ 0 ≤ b ∧ b ≤ 2038 ∧ 0 ≤ e ∧ e ≤ 1000000000000 ∧ r.toNat * b.toNat ^ e.toNat % 2039 = pm b0.toNat e0.toNat
theorem PowRel.start {b e : Int} (ha : 0 ≤ b) (ha' : b ≤ 2038) (hb : 0 ≤ e) (hb' : e ≤ 1000000000000) : PowRel b e 1 b e :=
  ⟨by omega, by omega, ha, ha', hb, hb', by show 1 * _ % 2039 = _; rw [Nat.one_mul]; rfl⟩
theorem PowRel.odd {b0 e0 r b e : Int} (h : PowRel b0 e0 r b e) (ho : e % 2 = 1) : PowRel b0 e0 (mulM r b) (mulM b b) (e / 2) := by
  obtain ⟨h1, h2, h3, h4, h5, h6, h7⟩ := h
  refine ⟨(mulM_bd _ _).1, (mulM_bd _ _).2, (mulM_bd _ _).1, (mulM_bd _ _).2, by omega, by omega, ?_⟩
  rw [mulM_nat h1 h2 h3 h4, mulM_nat h3 h4 h3 h4, show (e / 2).toNat = e.toNat / 2 by omega, pow_odd _ _ _ (by omega)]
  exact h7
theorem PowRel.even {b0 e0 r b e : Int} (h : PowRel b0 e0 r b e) (ho : ¬ e % 2 = 1) : PowRel b0 e0 r (mulM b b) (e / 2) := by
  obtain ⟨h1, h2, h3, h4, h5, h6, h7⟩ := h
  refine ⟨h1, h2, (mulM_bd _ _).1, (mulM_bd _ _).2, by omega, by omega, ?_⟩
  rw [mulM_nat h3 h4 h3 h4, show (e / 2).toNat = e.toNat / 2 by omega, pow_even _ _ _ (by omega)]
  exact h7
theorem PowRel.done {b0 e0 r b e : Int} (h : PowRel b0 e0 r b e) (h0 : ¬ 0 < e) : r = (pm b0.toNat e0.toNat : Int) := by
  obtain ⟨h1, h2, h3, h4, h5, h6, h7⟩ := h
  rw [show e.toNat = 0 by omega, Nat.pow_zero, Nat.mul_one] at h7
  omega
theorem ret_int {k : IntKind} {a b : Int} (h : a = b) : Ending.returned (.int k a) = .returned (.int k b) := by rw [h]

theorem i64_and_nat (a b : Nat) (ha : a < 2 ^ 62) (hb : b < 2 ^ 62) : bits .and .i64 (a : Int) (b : Int) = ((a &&& b : Nat) : Int) :=
  (bits_nat .i64 62 (by decide) (fun n h0 h1 => IntWalk.i64_in n ⟨by omega, by omega⟩) a b ha hb).1
theorem i64_and_one {e : Int} (h0 : 0 ≤ e) (h1 : e ≤ 1000000000000) : bits .and .i64 e 1 = e % 2 := by
  obtain ⟨n, rfl⟩ := Int.eq_ofNat_of_zero_le h0
  have := i64_and_nat n 1 (by omega) (by decide)
  rw [Nat.and_one_is_mod] at this
  exact this

end Go.Proofs.Ythdieeaegplnmaa.Num
