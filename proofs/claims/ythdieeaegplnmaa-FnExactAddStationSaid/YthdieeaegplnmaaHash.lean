/- Contracts of Mod, Min, Max, the hash, the keyed hash, and of bytes as numbers. -/
import Derived.Test.YthdieeaegplnmaaNum
import Derived.Test.YthdieeaegplnmaaMem
namespace Go.Proofs.Ythdieeaegplnmaa.Hsh
open Go.RowKit
open Go.Proofs.Ythdieeaegplnmaa.Num Go.Proofs.Ythdieeaegplnmaa.Mem

/-- the remainder from 0 on, 0 outside the moduli -/
def modI (p q : Int) : Int := if 1 ≤ q ∧ q ≤ 1000000000000 then p % q else 0

theorem tmod_up {p q : Int} (hq : 1 ≤ q) (h : p.tmod q < 0) : p.tmod q + q = p % q := by
  have h1 := Int.tmod_eq_emod (a := p) (b := q)
  have h2 := Int.emod_nonneg p (show q ≠ 0 by omega)
  split at h1 <;> omega
theorem tmod_at {p q : Int} (hq : 1 ≤ q) (h : ¬ p.tmod q < 0) : p.tmod q = p % q := by
  have h1 := Int.tmod_eq_emod (a := p) (b := q)
  have h2 := Int.emod_lt_of_pos p (show 0 < q by omega)
  split at h1 <;> omega
theorem tmod_bd {p q : Int} (hq : 1 ≤ q) : -q < p.tmod q ∧ p.tmod q < q :=
  ⟨Int.lt_tmod_of_pos p (by omega), Int.tmod_lt_of_pos p (by omega)⟩
theorem tmod_two {p q : Int} (hq : 1 ≤ q) : (p.tmod q + q) % q = p % q := by
  by_cases h : p.tmod q < 0
  · rw [tmod_up hq h, Int.emod_emod]
  · rw [tmod_at hq h, Int.add_emod_right, Int.emod_emod]

set_option maxHeartbeats 400000 in
theorem mod_spec (p q : Int) (w : World) (hp0 : -9223372036854775808 ≤ p) (hp1 : p ≤ 9223372036854775807) : Calls Try.prog 75 #[.int .i64 p, .int .i64 q] w fun e w' => e = .returned (.int .i64 (modI p q)) ∧ w = w' := by
  unfold modI
  by_cases hq : 1 ≤ q ∧ q ≤ 1000000000000
  · rw [if_pos hq]
    obtain ⟨q1, q2⟩ := hq
    have b1 := (tmod_bd (p := p) q1).1
    have b2 := (tmod_bd (p := p) q1).2
    have e1 := Int.emod_nonneg p (show q ≠ 0 by omega)
    have e2 := Int.emod_lt_of_pos p (show 0 < q by omega)
    by_cases hp : 0 ≤ p
    · have H := Lib.hid (show (p % q + q) % q = p % q by rw [Int.add_emod_right, Int.emod_emod])
      go_enter Try.func75, Try.ntmps75
      go_wp2_with (first | (go_at_call 72; refine (in_spec_yes _ _ _ _ (by omega) (by omega)).mono ?_; rintro e w' ⟨rfl, rfl⟩))
      go_ret
      first | exact ⟨rfl, rfl⟩ | exact ⟨ret_int H.out, rfl⟩
    · have H := Lib.hid (tmod_two (p := p) q1)
      by_cases hr : p.tmod q < 0
      · have H2 := Lib.hid (tmod_up q1 hr)
        go_enter Try.func75, Try.ntmps75
        go_wp2_with (first | (go_at_call 72; refine (in_spec_yes _ _ _ _ (by omega) (by omega)).mono ?_; rintro e w' ⟨rfl, rfl⟩))
        go_ret
        first | exact ⟨ret_int H2.out, rfl⟩ | exact ⟨ret_int H.out, rfl⟩
      · have H2 := Lib.hid (tmod_at q1 hr)
        go_enter Try.func75, Try.ntmps75
        go_wp2_with (first | (go_at_call 72; refine (in_spec_yes _ _ _ _ (by omega) (by omega)).mono ?_; rintro e w' ⟨rfl, rfl⟩))
        go_ret
        first | exact ⟨ret_int H2.out, rfl⟩ | exact ⟨ret_int H.out, rfl⟩
  · rw [if_neg hq]
    go_enter Try.func75, Try.ntmps75
    go_wp2_with (first | (go_at_call 72; refine (in_spec_no _ _ _ _ (by omega)).mono ?_; rintro e w' ⟨rfl, rfl⟩))
    go_ret
    exact ⟨rfl, rfl⟩
set_option maxHeartbeats 400000 in
theorem mod_impl (p q : Int) (w : World) (hp0 : -9223372036854775808 ≤ p) (hp1 : p ≤ 9223372036854775807) : Calls Try.prog 96 #[.int .i64 p, .int .i64 q] w fun e w' => e = .returned (.int .i64 (modI p q)) ∧ w = w' := by
  unfold modI
  by_cases hq : 1 ≤ q ∧ q ≤ 1000000000000
  · rw [if_pos hq]
    obtain ⟨q1, q2⟩ := hq
    have b1 := (tmod_bd (p := p) q1).1
    have b2 := (tmod_bd (p := p) q1).2
    have e1 := Int.emod_nonneg p (show q ≠ 0 by omega)
    have e2 := Int.emod_lt_of_pos p (show 0 < q by omega)
    by_cases hp : 0 ≤ p
    · have H := Lib.hid (show (p % q + q) % q = p % q by rw [Int.add_emod_right, Int.emod_emod])
      go_enter Try.func96, Try.ntmps96
      go_wp2_with (first | (go_at_call 74; refine (in_impl_yes _ _ _ _ (by omega) (by omega)).mono ?_; rintro e w' ⟨rfl, rfl⟩))
      go_ret
      first | exact ⟨rfl, rfl⟩ | exact ⟨ret_int H.out, rfl⟩
    · have H := Lib.hid (tmod_two (p := p) q1)
      by_cases hr : p.tmod q < 0
      · have H2 := Lib.hid (tmod_up q1 hr)
        go_enter Try.func96, Try.ntmps96
        go_wp2_with (first | (go_at_call 74; refine (in_impl_yes _ _ _ _ (by omega) (by omega)).mono ?_; rintro e w' ⟨rfl, rfl⟩))
        go_ret
        first | exact ⟨ret_int H2.out, rfl⟩ | exact ⟨ret_int H.out, rfl⟩
      · have H2 := Lib.hid (tmod_at q1 hr)
        go_enter Try.func96, Try.ntmps96
        go_wp2_with (first | (go_at_call 74; refine (in_impl_yes _ _ _ _ (by omega) (by omega)).mono ?_; rintro e w' ⟨rfl, rfl⟩))
        go_ret
        first | exact ⟨ret_int H2.out, rfl⟩ | exact ⟨ret_int H.out, rfl⟩
  · rw [if_neg hq]
    go_enter Try.func96, Try.ntmps96
    go_wp2_with (first | (go_at_call 74; refine (in_impl_no _ _ _ _ (by omega)).mono ?_; rintro e w' ⟨rfl, rfl⟩))
    go_ret
    exact ⟨rfl, rfl⟩

def minI (a b : Int) : Int := if b < a then b else a
def maxI (a b : Int) : Int := if a < b then b else a
theorem min_spec (a b : Int) (w : World) : Calls Try.prog 47 #[.int .i64 a, .int .i64 b] w fun e w' => e = .returned (.int .i64 (minI a b)) ∧ w = w' := by
  unfold minI
  by_cases h : b < a
  · rw [if_pos h]
    go_enter Try.func47, Try.ntmps47
    go_wp2
    go_ret
    exact ⟨rfl, rfl⟩
  · rw [if_neg h]
    go_enter Try.func47, Try.ntmps47
    go_wp2
    go_ret
    exact ⟨rfl, rfl⟩

theorem hash_snoc (l : List Int) (v : Int) : hashL (l ++ [v]) = hashStep (hashL l) v := by unfold hashL; rw [List.foldl_append]; rfl
theorem take_snoc (l : List Int) (k : Nat) (h : k < l.length) : l.take (k + 1) = l.take k ++ [l.getD k 0] := by
  rw [List.take_succ_eq_append_getElem h]; simp [List.getD, h]
theorem modI_big (v : Int) : modI v 2147483647 = v % 2147483647 := by unfold modI; rw [if_pos (by omega)]

theorem hashL_step (zs : List Int) (k : Nat) (h : k < zs.length) (z : Int) (hz : zs.getD k 0 = z) : hashL (zs.take (k + 1)) = (hashL (zs.take k) * 1000003 + modI z 2147483647 + 13) % 2147483647 := by
  rw [take_snoc zs k h, hash_snoc, hz, modI_big]; rfl
theorem hashL_all (zs : List Int) (k : Nat) (h : zs.length ≤ k) : hashL (zs.take k) = hashL zs := by rw [List.take_of_length_le h]
theorem modI_bd (z : Int) : 0 ≤ modI z 2147483647 ∧ modI z 2147483647 < 2147483647 := by rw [modI_big]; omega

end Go.Proofs.Ythdieeaegplnmaa.Hsh
