/- Plain facts on the hash: two keyed hashes of one list of five numbers under small keys agree only if the keys agree. -/
import Derived.Test.YtbiipcgiionhpaaHashPlain
namespace Go.Proofs.Ytbiipcgiionhpaa.Hsh
theorem fold_lin (l : List Int) : ∀ d e : Int, ∃ k, l.foldl hashStep d - l.foldl hashStep e = (d - e) * 1000003 ^ l.length + 2147483647 * k := by
  induction l with
  | nil => intro d e; exact ⟨0, by simp⟩
  | cons x l ih =>
    intro d e
    obtain ⟨k, hk⟩ := ih (hashStep d x) (hashStep e x)
    obtain ⟨a, ha⟩ := step_as d x
    obtain ⟨b, hb⟩ := step_as e x
    refine ⟨k + (b - a) * 1000003 ^ l.length, ?_⟩
    rw [List.foldl_cons, List.foldl_cons, hk, ha, hb, List.length_cons, Int.pow_succ]
    generalize (1000003 : Int) ^ l.length = P
    have h1 : d * 1000003 + x % 2147483647 + 13 - 2147483647 * a - (e * 1000003 + x % 2147483647 + 13 - 2147483647 * b) = (d - e) * 1000003 + 2147483647 * (b - a) := by omega
    rw [h1, Int.add_mul, Int.mul_add, Int.mul_comm P 1000003, ← Int.mul_assoc (d - e), Int.mul_assoc 2147483647 (b - a) P]
    omega
theorem unitS : (1000018000135000540001215001458000730 : Int) * 1512135426 = 1 + 2147483647 * 704155604050477362757290084615617357 := by decide +kernel
theorem lin5 {Z D Q R k : Int} (hk : Z = (D + 2147483647 * Q) * 1000003 ^ 5 + 2147483647 * k) (h2 : Z * 1000003 + D = 2147483647 * R) : D * 1000018000135000540001215001458000730 = 2147483647 * (R - k * 1000003 - Q * 1000018000135000540001215001458000729) := by
  have e5 : (1000003 : Int) ^ 5 * 1000003 = 1000018000135000540001215001458000729 := by decide +kernel
  rw [hk, Int.add_mul, Int.mul_assoc, e5, Int.add_mul, Int.mul_assoc, Int.mul_assoc] at h2
  clear hk e5
  rw [Int.mul_sub, Int.mul_sub, ← h2, show (1000018000135000540001215001458000730 : Int) = 1000018000135000540001215001458000729 + 1 from by decide +kernel, Int.mul_add, Int.mul_one]
  generalize D * 1000018000135000540001215001458000729 = a
  generalize 2147483647 * (Q * 1000018000135000540001215001458000729) = b
  generalize 2147483647 * (k * 1000003) = c
  omega
theorem cancel_gen {d k : Int} (A I q : Int) (hI : A * I = 1 + 2147483647 * q) (h : d * A = 2147483647 * k) : ∃ t, d = 2147483647 * t := cancel_unit hI h
theorem cancelS {d k : Int} (h : d * 1000018000135000540001215001458000730 = 2147483647 * k) : ∃ t, d = 2147483647 * t :=
  cancel_gen (1000018000135000540001215001458000730) (1512135426) (704155604050477362757290084615617357) unitS h
theorem key_inj (m n a b c d e : Int) (hm0 : 0 ≤ m) (hm : m < 2147483647) (hn0 : 0 ≤ n) (hn : n < 2147483647) (h : hashL [m, a, b, c, d, e, m] = hashL [n, a, b, c, d, e, n]) : m = n := by
  have e1 : ∀ z, hashL [z, a, b, c, d, e, z] = hashStep ([a, b, c, d, e].foldl hashStep (hashStep 11 z)) z := fun z => rfl
  rw [e1, e1] at h
  obtain ⟨k, hk⟩ := fold_lin [a, b, c, d, e] (hashStep 11 m) (hashStep 11 n)
  obtain ⟨p, hp⟩ := step_as 11 m
  obtain ⟨q, hq⟩ := step_as 11 n
  obtain ⟨r, hr⟩ := step_as ([a, b, c, d, e].foldl hashStep (hashStep 11 m)) m
  obtain ⟨s, hs⟩ := step_as ([a, b, c, d, e].foldl hashStep (hashStep 11 n)) n
  rw [small_emod hm0 hm] at hp hr
  rw [small_emod hn0 hn] at hq hs
  rw [hr, hs] at h
  generalize [a, b, c, d, e].foldl hashStep (hashStep 11 m) = X at *
  generalize [a, b, c, d, e].foldl hashStep (hashStep 11 n) = Y at *
  rw [hp, hq] at hk
  clear hp hq hr hs e1
  have h0 : 11 * 1000003 + m + 13 - 2147483647 * p - (11 * 1000003 + n + 13 - 2147483647 * q) = (m - n) + 2147483647 * (q - p) := by clear hk; omega
  have h2 : (X - Y) * 1000003 + (m - n) = 2147483647 * (r - s) := by clear hk h0; omega
  have h1 := lin5 (hk.trans (by rw [h0]; rfl)) h2
  clear h2 hk h0 h
  obtain ⟨t, ht⟩ := cancelS h1
  clear h1
  have := zero_small ht (by omega) (by omega)
  omega
end Go.Proofs.Ytbiipcgiionhpaa.Hsh
