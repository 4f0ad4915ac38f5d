/- Plain facts on the hash of a list of numbers, with no program in sight: its range; each step is one to one; two confirm values of exchanged commits differ. -/
import Derived.KernelRfl
namespace Go.Proofs.Ythdieeaegplnmaa.Hsh
theorem sub_of_emod {p x y : Int} (h : x % p = y % p) : ∃ k, x - y = p * k := by
  refine ⟨x / p - y / p, ?_⟩
  have hx := Int.mul_ediv_add_emod x p
  have hy := Int.mul_ediv_add_emod y p
  rw [Int.mul_sub]
  omega

theorem cancel_unit {p A I q d k : Int} (hI : A * I = 1 + p * q) (h : d * A = p * k) : ∃ t, d = p * t := by
  refine ⟨k * I - d * q, ?_⟩
  have h1 : d * (A * I) = d * (1 + p * q) := by rw [hI]
  rw [← Int.mul_assoc, h, Int.mul_add, Int.mul_one, Int.mul_assoc, ← Int.mul_assoc d, Int.mul_comm d p, Int.mul_assoc p d] at h1
  rw [Int.mul_sub]
  omega

theorem zero_of_small {p d t : Int} (h : d = p * t) (h1 : -p < d) (h2 : d < p) : d = 0 := by
  have hp : 0 < p := by omega
  rcases Int.lt_trichotomy t 0 with ht | ht | ht
  · have : p * t ≤ p * (-1) := Int.mul_le_mul_of_nonneg_left (by omega) (by omega)
    omega
  · rw [h, ht, Int.mul_zero]
  · have : p * 1 ≤ p * t := Int.mul_le_mul_of_nonneg_left (by omega) (by omega)
    omega

/-- one step of the hash -/
def hashStep (d v : Int) : Int := (d * 1000003 + v % 2147483647 + 13) % 2147483647
/-- the hash of a list -/
def hashL (l : List Int) : Int := l.foldl hashStep 11

theorem hashStep_bd (d v : Int) : 0 ≤ hashStep d v ∧ hashStep d v < 2147483647 := by unfold hashStep; omega
theorem foldl_bd (l : List Int) : ∀ d : Int, 0 ≤ d → d < 2147483647 → 0 ≤ l.foldl hashStep d ∧ l.foldl hashStep d < 2147483647 := by
  induction l with
  | nil => intro d h0 h1; exact ⟨h0, h1⟩
  | cons x l ih => intro d _ _; exact ih _ (hashStep_bd d x).1 (hashStep_bd d x).2
theorem hashL_bd (l : List Int) : 0 ≤ hashL l ∧ hashL l < 2147483647 := foldl_bd l 11 (by omega) (by omega)
theorem unitA : (1000003 : Int) * 1523789695 = 1 + 2147483647 * 709572 := by decide
theorem unitK : (1000006000008 : Int) * 305106101 = 1 + 2147483647 * 142076952281 := by decide
theorem step_as (d v : Int) : ∃ k, hashStep d v = d * 1000003 + v % 2147483647 + 13 - 2147483647 * k :=
  ⟨(d * 1000003 + v % 2147483647 + 13) / 2147483647, by
    have := Int.mul_ediv_add_emod (d * 1000003 + v % 2147483647 + 13) 2147483647
    unfold hashStep
    omega⟩
theorem zero_small {d t : Int} (h : d = 2147483647 * t) (h1 : -2147483647 < d) (h2 : d < 2147483647) : d = 0 := zero_of_small h h1 h2
theorem hashStep_inj {d e v : Int} (hd0 : 0 ≤ d) (hd : d < 2147483647) (he0 : 0 ≤ e) (he : e < 2147483647) (h : hashStep d v = hashStep e v) : d = e := by
  obtain ⟨k, hk⟩ := step_as d v
  obtain ⟨l, hl⟩ := step_as e v
  generalize v % 2147483647 = t at hk hl
  generalize hashStep d v = x at hk h
  generalize hashStep e v = y at hl h
  have h1 : (d - e) * 1000003 = 2147483647 * (k - l) := by
    rw [Int.sub_mul, Int.mul_sub]
    generalize d * 1000003 = X at *
    generalize e * 1000003 = Y at *
    generalize 2147483647 * k = U at *
    generalize 2147483647 * l = V at *
    omega
  clear hk hl h
  obtain ⟨t, ht⟩ := cancel_unit unitA h1
  clear h1
  have h2 := zero_small ht (by omega) (by omega)
  omega
theorem foldl_inj (l : List Int) : ∀ d e : Int, 0 ≤ d → d < 2147483647 → 0 ≤ e → e < 2147483647 → l.foldl hashStep d = l.foldl hashStep e → d = e := by
  induction l with
  | nil => intro d e _ _ _ _ h; exact h
  | cons x l ih =>
    intro d e h0 h1 h2 h3 h
    exact hashStep_inj h0 h1 h2 h3 (ih _ _ (hashStep_bd d x).1 (hashStep_bd d x).2 (hashStep_bd e x).1 (hashStep_bd e x).2 h)

theorem small_emod {v : Int} (h0 : 0 ≤ v) (h1 : v < 2147483647) : v % 2147483647 = v := Int.emod_eq_of_lt h0 h1

theorem confirm_lin {s a b x y x1 x2 x3 x4 y1 y2 y3 y4 K1 K2 K3 K4 L1 L2 L3 L4 : Int} (g1 : x1 = s * 1000003 + a + 13 - K1) (g2 : x2 = x1 * 1000003 + b + 13 - K2) (g3 : x3 = x2 * 1000003 + x + 13 - K3) (g4 : x4 = x3 * 1000003 + y + 13 - K4)
    (f1 : y1 = s * 1000003 + x + 13 - L1) (f2 : y2 = y1 * 1000003 + y + 13 - L2) (f3 : y3 = y2 * 1000003 + a + 13 - L3) (f4 : y4 = y3 * 1000003 + b + 13 - L4) (h : x4 = y4) :
    ((a - x) * 1000003 + (b - y)) * 1000006000008 = 1000009000027000027 * (K1 - L1) + 1000006000009 * (K2 - L2) + 1000003 * (K3 - L3) + (K4 - L4) := by
  subst g1 f1
  subst g2 f2
  subst g3 f3
  subst g4 f4
  omega
theorem out_p (p u1 u2 u3 k1 k2 k3 k4 l1 l2 l3 l4 : Int) : u1 * (p * k1 - p * l1) + u2 * (p * k2 - p * l2) + u3 * (p * k3 - p * l3) + (p * k4 - p * l4) = p * (u1 * (k1 - l1) + u2 * (k2 - l2) + u3 * (k3 - l3) + (k4 - l4)) := by
  rw [← Int.mul_sub, ← Int.mul_sub, ← Int.mul_sub, ← Int.mul_sub, Int.mul_add, Int.mul_add, Int.mul_add, Int.mul_left_comm u1, Int.mul_left_comm u2, Int.mul_left_comm u3]

theorem confirm_ne (m a b x y : Int) (ha0 : 0 ≤ a) (ha : a < 1019) (hb0 : 0 ≤ b) (hb : b < 2039) (hx0 : 0 ≤ x) (hx : x < 1019) (hy0 : 0 ≤ y) (hy : y < 2039)
    (h : hashL [m, 31, a, b, x, y, m] = hashL [m, 31, x, y, a, b, m]) : a = x ∧ b = y := by
  have hs := foldl_bd [m, 31] 11 (by omega) (by omega)
  have ha1 : a < 2147483647 := by omega
  have hb1 : b < 2147483647 := by omega
  have hx1 : x < 2147483647 := by omega
  have hy1 : y < 2147483647 := by omega
  have e1 : ∀ l, hashL (m :: 31 :: l) = l.foldl hashStep ([m, 31].foldl hashStep 11) := fun l => rfl
  rw [e1, e1] at h
  generalize [m, 31].foldl hashStep 11 = s at hs h
  have h1 := foldl_inj [m] ([a, b, x, y].foldl hashStep s) ([x, y, a, b].foldl hashStep s) (foldl_bd _ s hs.1 hs.2).1 (foldl_bd _ s hs.1 hs.2).2 (foldl_bd _ s hs.1 hs.2).1 (foldl_bd _ s hs.1 hs.2).2 h
  clear h e1
  simp only [List.foldl] at h1
  obtain ⟨k1, g1⟩ := step_as s a
  obtain ⟨k2, g2⟩ := step_as (hashStep s a) b
  obtain ⟨k3, g3⟩ := step_as (hashStep (hashStep s a) b) x
  obtain ⟨k4, g4⟩ := step_as (hashStep (hashStep (hashStep s a) b) x) y
  obtain ⟨l1, f1⟩ := step_as s x
  obtain ⟨l2, f2⟩ := step_as (hashStep s x) y
  obtain ⟨l3, f3⟩ := step_as (hashStep (hashStep s x) y) a
  obtain ⟨l4, f4⟩ := step_as (hashStep (hashStep (hashStep s x) y) a) b
  rw [small_emod ha0 ha1] at g1 f3
  rw [small_emod hb0 hb1] at g2 f4
  rw [small_emod hx0 hx1] at g3 f1
  rw [small_emod hy0 hy1] at g4 f2
  generalize hashStep (hashStep (hashStep (hashStep s a) b) x) y = x4 at *
  generalize hashStep (hashStep (hashStep (hashStep s x) y) a) b = y4 at *
  generalize hashStep (hashStep (hashStep s a) b) x = x3 at *
  generalize hashStep (hashStep (hashStep s x) y) a = y3 at *
  generalize hashStep (hashStep s a) b = x2 at *
  generalize hashStep (hashStep s x) y = y2 at *
  generalize hashStep s a = x1 at *
  generalize hashStep s x = y1 at *
  have hD := (confirm_lin g1 g2 g3 g4 f1 f2 f3 f4 h1).trans (out_p 2147483647 _ _ _ _ _ _ _ _ _ _ _)
  clear g1 g2 g3 g4 f1 f2 f3 f4 h1 hs
  obtain ⟨t, ht⟩ := cancel_unit unitK hD
  clear hD
  have h2 := zero_small ht (by omega) (by omega)
  clear ht
  omega
end Go.Proofs.Ythdieeaegplnmaa.Hsh
