/- Contracts of Mod, Min, Max, the hash, the keyed hash, and of bytes as numbers. -/
import Derived.Test.YtikolopdkjocgaaNum
import Derived.Test.YtikolopdkjocgaaMem
namespace Go.Proofs.Ytikolopdkjocgaa.Hsh
open Go.RowKit
open Go.Proofs.Ytikolopdkjocgaa.Num Go.Proofs.Ytikolopdkjocgaa.Mem

/-- the remainder from 0 on, 0 outside the moduli -/
def modI (p q : Int) : Int := if 1 ≤ q ∧ q ≤ 1000000000000 then p % q else 0

theorem tmod_up {p q : Int} (hq : 1 ≤ q) (h : p.tmod q < 0) : p.tmod q + q = p % q := by
  have h1 := Int.tmod_eq_emod (a := p) (b := q)
  have h2 := Int.emod_nonneg p (show q ≠ 0 by omega)
  split at h1 <;> omega
theorem tmod_at {p q : Int} (hq : 1 ≤ q) (h : ¬ p.tmod q < 0) : p.tmod q = p % q := by
  have h1 := Int.tmod_eq_emod (a := p) (b := q)
  have h2 := Int.emod_lt_of_pos p (show 0 < q by omega)
  split at h1 <;> omega
theorem tmod_bd {p q : Int} (hq : 1 ≤ q) : -q < p.tmod q ∧ p.tmod q < q :=
  ⟨Int.lt_tmod_of_pos p (by omega), Int.tmod_lt_of_pos p (by omega)⟩
theorem tmod_two {p q : Int} (hq : 1 ≤ q) : (p.tmod q + q) % q = p % q := by
  by_cases h : p.tmod q < 0
  · rw [tmod_up hq h, Int.emod_emod]
  · rw [tmod_at hq h, Int.add_emod_right, Int.emod_emod]


def minI (a b : Int) : Int := if b < a then b else a
def maxI (a b : Int) : Int := if a < b then b else a
theorem max_spec (a b : Int) (w : World) : Calls Try.prog 9 #[.int .i64 a, .int .i64 b] w fun e w' => e = .returned (.int .i64 (maxI a b)) ∧ w = w' := by
  unfold maxI
  by_cases h : a < b
  · rw [if_pos h]
    go_enter Try.func9, Try.ntmps9
    go_wp2
    go_ret
    exact ⟨rfl, rfl⟩
  · rw [if_neg h]
    go_enter Try.func9, Try.ntmps9
    go_wp2
    go_ret
    exact ⟨rfl, rfl⟩

theorem hash_snoc (l : List Int) (v : Int) : hashL (l ++ [v]) = hashStep (hashL l) v := by unfold hashL; rw [List.foldl_append]; rfl
theorem take_snoc (l : List Int) (k : Nat) (h : k < l.length) : l.take (k + 1) = l.take k ++ [l.getD k 0] := by
  rw [List.take_succ_eq_append_getElem h]; simp [List.getD, h]
theorem modI_big (v : Int) : modI v 2147483647 = v % 2147483647 := by unfold modI; rw [if_pos (by omega)]

theorem hashL_step (zs : List Int) (k : Nat) (h : k < zs.length) (z : Int) (hz : zs.getD k 0 = z) : hashL (zs.take (k + 1)) = (hashL (zs.take k) * 1000003 + modI z 2147483647 + 13) % 2147483647 := by
  rw [take_snoc zs k h, hash_snoc, hz, modI_big]; rfl
theorem hashL_all (zs : List Int) (k : Nat) (h : zs.length ≤ k) : hashL (zs.take k) = hashL zs := by rw [List.take_of_length_le h]
theorem modI_bd (z : Int) : 0 ≤ modI z 2147483647 ∧ modI z 2147483647 < 2147483647 := by rw [modI_big]; omega

end Go.Proofs.Ytikolopdkjocgaa.Hsh
