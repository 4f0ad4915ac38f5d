/- Contracts of Mod, Min, Max, the hash, the keyed hash, and of bytes as numbers. -/
import Derived.Test.YtgbmbnofnhhblaaDoorNum
import Derived.Test.YtgbmbnofnhhblaaDoorMem
namespace Go.Proofs.YtgbmbnofnhhblaaDoor.Hsh
open Go.RowKit
open Go.Proofs.YtgbmbnofnhhblaaDoor.Num Go.Proofs.YtgbmbnofnhhblaaDoor.Mem

/-- the remainder from 0 on, 0 outside the moduli -/
def modI (p q : Int) : Int := if 1 ≤ q ∧ q ≤ 1000000000000 then p % q else 0

theorem tmod_up {p q : Int} (hq : 1 ≤ q) (h : p.tmod q < 0) : p.tmod q + q = p % q := by
  have h1 := Int.tmod_eq_emod (a := p) (b := q)
  have h2 := Int.emod_nonneg p (show q ≠ 0 by omega)
  split at h1 <;> omega
theorem tmod_at {p q : Int} (hq : 1 ≤ q) (h : ¬ p.tmod q < 0) : p.tmod q = p % q := by
  have h1 := Int.tmod_eq_emod (a := p) (b := q)
  have h2 := Int.emod_lt_of_pos p (show 0 < q by omega)
  split at h1 <;> omega
theorem tmod_bd {p q : Int} (hq : 1 ≤ q) : -q < p.tmod q ∧ p.tmod q < q :=
  ⟨Int.lt_tmod_of_pos p (by omega), Int.tmod_lt_of_pos p (by omega)⟩
theorem tmod_two {p q : Int} (hq : 1 ≤ q) : (p.tmod q + q) % q = p % q := by
  by_cases h : p.tmod q < 0
  · rw [tmod_up hq h, Int.emod_emod]
  · rw [tmod_at hq h, Int.add_emod_right, Int.emod_emod]

set_option maxHeartbeats 400000 in
theorem mod_spec (p q : Int) (w : World) (hp0 : -9223372036854775808 ≤ p) (hp1 : p ≤ 9223372036854775807) : Calls Tryd.prog 78 #[.int .i64 p, .int .i64 q] w fun e w' => e = .returned (.int .i64 (modI p q)) ∧ w = w' := by
  unfold modI
  by_cases hq : 1 ≤ q ∧ q ≤ 1000000000000
  · rw [if_pos hq]
    obtain ⟨q1, q2⟩ := hq
    have b1 := (tmod_bd (p := p) q1).1
    have b2 := (tmod_bd (p := p) q1).2
    have e1 := Int.emod_nonneg p (show q ≠ 0 by omega)
    have e2 := Int.emod_lt_of_pos p (show 0 < q by omega)
    by_cases hp : 0 ≤ p
    · have H := Lib.hid (show (p % q + q) % q = p % q by rw [Int.add_emod_right, Int.emod_emod])
      go_enter Tryd.func78, Tryd.ntmps78
      go_wp2_with (first | (go_at_call 51; refine (in_spec_yes _ _ _ _ (by omega) (by omega)).mono ?_; rintro e w' ⟨rfl, rfl⟩))
      go_ret
      first | exact ⟨rfl, rfl⟩ | exact ⟨ret_int H.out, rfl⟩
    · have H := Lib.hid (tmod_two (p := p) q1)
      by_cases hr : p.tmod q < 0
      · have H2 := Lib.hid (tmod_up q1 hr)
        go_enter Tryd.func78, Tryd.ntmps78
        go_wp2_with (first | (go_at_call 51; refine (in_spec_yes _ _ _ _ (by omega) (by omega)).mono ?_; rintro e w' ⟨rfl, rfl⟩))
        go_ret
        first | exact ⟨ret_int H2.out, rfl⟩ | exact ⟨ret_int H.out, rfl⟩
      · have H2 := Lib.hid (tmod_at q1 hr)
        go_enter Tryd.func78, Tryd.ntmps78
        go_wp2_with (first | (go_at_call 51; refine (in_spec_yes _ _ _ _ (by omega) (by omega)).mono ?_; rintro e w' ⟨rfl, rfl⟩))
        go_ret
        first | exact ⟨ret_int H2.out, rfl⟩ | exact ⟨ret_int H.out, rfl⟩
  · rw [if_neg hq]
    go_enter Tryd.func78, Tryd.ntmps78
    go_wp2_with (first | (go_at_call 51; refine (in_spec_no _ _ _ _ (by omega)).mono ?_; rintro e w' ⟨rfl, rfl⟩))
    go_ret
    exact ⟨rfl, rfl⟩
set_option maxHeartbeats 400000 in
theorem mod_impl (p q : Int) (w : World) (hp0 : -9223372036854775808 ≤ p) (hp1 : p ≤ 9223372036854775807) : Calls Tryd.prog 69 #[.int .i64 p, .int .i64 q] w fun e w' => e = .returned (.int .i64 (modI p q)) ∧ w = w' := by
  unfold modI
  by_cases hq : 1 ≤ q ∧ q ≤ 1000000000000
  · rw [if_pos hq]
    obtain ⟨q1, q2⟩ := hq
    have b1 := (tmod_bd (p := p) q1).1
    have b2 := (tmod_bd (p := p) q1).2
    have e1 := Int.emod_nonneg p (show q ≠ 0 by omega)
    have e2 := Int.emod_lt_of_pos p (show 0 < q by omega)
    by_cases hp : 0 ≤ p
    · have H := Lib.hid (show (p % q + q) % q = p % q by rw [Int.add_emod_right, Int.emod_emod])
      go_enter Tryd.func69, Tryd.ntmps69
      go_wp2_with (first | (go_at_call 54; refine (in_impl_yes _ _ _ _ (by omega) (by omega)).mono ?_; rintro e w' ⟨rfl, rfl⟩))
      go_ret
      first | exact ⟨rfl, rfl⟩ | exact ⟨ret_int H.out, rfl⟩
    · have H := Lib.hid (tmod_two (p := p) q1)
      by_cases hr : p.tmod q < 0
      · have H2 := Lib.hid (tmod_up q1 hr)
        go_enter Tryd.func69, Tryd.ntmps69
        go_wp2_with (first | (go_at_call 54; refine (in_impl_yes _ _ _ _ (by omega) (by omega)).mono ?_; rintro e w' ⟨rfl, rfl⟩))
        go_ret
        first | exact ⟨ret_int H2.out, rfl⟩ | exact ⟨ret_int H.out, rfl⟩
      · have H2 := Lib.hid (tmod_at q1 hr)
        go_enter Tryd.func69, Tryd.ntmps69
        go_wp2_with (first | (go_at_call 54; refine (in_impl_yes _ _ _ _ (by omega) (by omega)).mono ?_; rintro e w' ⟨rfl, rfl⟩))
        go_ret
        first | exact ⟨ret_int H2.out, rfl⟩ | exact ⟨ret_int H.out, rfl⟩
  · rw [if_neg hq]
    go_enter Tryd.func69, Tryd.ntmps69
    go_wp2_with (first | (go_at_call 54; refine (in_impl_no _ _ _ _ (by omega)).mono ?_; rintro e w' ⟨rfl, rfl⟩))
    go_ret
    exact ⟨rfl, rfl⟩

def minI (a b : Int) : Int := if b < a then b else a
def maxI (a b : Int) : Int := if a < b then b else a
theorem max_spec (a b : Int) (w : World) : Calls Tryd.prog 71 #[.int .i64 a, .int .i64 b] w fun e w' => e = .returned (.int .i64 (maxI a b)) ∧ w = w' := by
  unfold maxI
  by_cases h : a < b
  · rw [if_pos h]
    go_enter Tryd.func71, Tryd.ntmps71
    go_wp2
    go_ret
    exact ⟨rfl, rfl⟩
  · rw [if_neg h]
    go_enter Tryd.func71, Tryd.ntmps71
    go_wp2
    go_ret
    exact ⟨rfl, rfl⟩

theorem hash_snoc (l : List Int) (v : Int) : hashL (l ++ [v]) = hashStep (hashL l) v := by unfold hashL; rw [List.foldl_append]; rfl
theorem take_snoc (l : List Int) (k : Nat) (h : k < l.length) : l.take (k + 1) = l.take k ++ [l.getD k 0] := by
  rw [List.take_succ_eq_append_getElem h]; simp [List.getD, h]
theorem modI_big (v : Int) : modI v 2147483647 = v % 2147483647 := by unfold modI; rw [if_pos (by omega)]

theorem hashL_step (zs : List Int) (k : Nat) (h : k < zs.length) (z : Int) (hz : zs.getD k 0 = z) : hashL (zs.take (k + 1)) = (hashL (zs.take k) * 1000003 + modI z 2147483647 + 13) % 2147483647 := by
  rw [take_snoc zs k h, hash_snoc, hz, modI_big]; rfl
theorem hashL_all (zs : List Int) (k : Nat) (h : zs.length ≤ k) : hashL (zs.take k) = hashL zs := by rw [List.take_of_length_le h]
theorem modI_bd (z : Int) : 0 ≤ modI z 2147483647 ∧ modI z 2147483647 < 2147483647 := by rw [modI_big]; omega

set_option maxHeartbeats 400000 in
theorem hash_spec (A : Option Addr) (n c : Nat) (zs : List Int) (w : World) (hr : Rd w 1 A n c (zs.map (Value.int .i64))) (hw : ∀ z ∈ zs, -9223372036854775808 ≤ z ∧ z ≤ 9223372036854775807) :
    Calls Tryd.prog 70 #[.slice A n c] w fun e w' => e = .returned (.int .i64 (hashL zs)) ∧ w = w' := by
  have hl := Lib.hid (len_ints hr)
  have hn : n ≤ 9223372036854775807 := by have h1 := hr.2.1; have h2 := hr.2.2.1; unfold maxLen at h2; omega
  have HR := Lib.hid hr
  have HW := Lib.hid hw
  clear hr hw
  go_enter Tryd.func70, Tryd.ntmps70
  go_wp2
  go_loop [3, 4] (fun v3 v4 => ∃ k : Nat, k ≤ n ∧ v4 = .int .i64 (k : Int) ∧ v3 = .int .i64 (hashL (zs.take k))) (fun _ v4 => n - (intOf v4).toNat)
  case atStart => exact ⟨0, Nat.zero_le _, rfl, rfl⟩
  case round =>
    obtain ⟨k, hk, rfl, rfl⟩ := hrel
    by_cases hlt : k < n
    · obtain ⟨g, o, rfl, hg, hc⟩ := HR.out.int_at hlt
      have hz := HW.out (zs.getD k 0) (by rw [List.getD_eq_getElem?_getD, List.getElem?_eq_getElem (by rw [hl.out]; exact hlt)]; exact List.getElem_mem _)
      have HS := Lib.hid (hashL_step zs k (by rw [hl.out]; exact hlt) _ rfl)
      generalize zs.getD k 0 = z at hc hz HS
      obtain ⟨z1, z2⟩ := hz
      obtain ⟨m1, m2⟩ := modI_bd z
      obtain ⟨h1, h2⟩ := hashL_bd (zs.take k)
      generalize hashL (zs.take k) = d at h1 h2 HS
      go_wp2_with (first | (go_at_call 78; refine (mod_spec _ _ _ (by omega) (by omega)).mono ?_; rintro e w' ⟨rfl, rfl⟩))
      go_round
      case rel => exact ⟨k + 1, by omega, by go_num, by rw [HS.out]⟩
      case measure => simp [intOf]; omega
    · have HA := Lib.hid (hashL_all zs k (by rw [hl.out]; omega))
      go_wp2
      go_ret
      exact ⟨ret_int HA.out, rfl⟩
set_option maxHeartbeats 400000 in
theorem hash_impl (A : Option Addr) (n c : Nat) (zs : List Int) (w : World) (hr : Rd w 1 A n c (zs.map (Value.int .i64))) (hw : ∀ z ∈ zs, -9223372036854775808 ≤ z ∧ z ≤ 9223372036854775807) :
    Calls Tryd.prog 72 #[.slice A n c] w fun e w' => e = .returned (.int .i64 (hashL zs)) ∧ w = w' := by
  have hl := Lib.hid (len_ints hr)
  have hn : n ≤ 9223372036854775807 := by have h1 := hr.2.1; have h2 := hr.2.2.1; unfold maxLen at h2; omega
  have HR := Lib.hid hr
  have HW := Lib.hid hw
  clear hr hw
  go_enter Tryd.func72, Tryd.ntmps72
  go_wp2
  go_loop [3, 8] (fun v3 v4 => ∃ k : Nat, k ≤ n ∧ v4 = .int .i64 (k : Int) ∧ v3 = .int .i64 (hashL (zs.take k))) (fun _ v4 => n - (intOf v4).toNat)
  case atStart => exact ⟨0, Nat.zero_le _, rfl, rfl⟩
  case round =>
    obtain ⟨k, hk, rfl, rfl⟩ := hrel
    by_cases hlt : k < n
    · obtain ⟨g, o, rfl, hg, hc⟩ := HR.out.int_at hlt
      have hz := HW.out (zs.getD k 0) (by rw [List.getD_eq_getElem?_getD, List.getElem?_eq_getElem (by rw [hl.out]; exact hlt)]; exact List.getElem_mem _)
      have HS := Lib.hid (hashL_step zs k (by rw [hl.out]; exact hlt) _ rfl)
      generalize zs.getD k 0 = z at hc hz HS
      obtain ⟨z1, z2⟩ := hz
      obtain ⟨m1, m2⟩ := modI_bd z
      obtain ⟨h1, h2⟩ := hashL_bd (zs.take k)
      generalize hashL (zs.take k) = d at h1 h2 HS
      go_wp2_with (first | (go_at_call 69; refine (mod_impl _ _ _ (by omega) (by omega)).mono ?_; rintro e w' ⟨rfl, rfl⟩))
      go_round
      case rel => exact ⟨k + 1, by omega, by go_num, by rw [HS.out]⟩
      case measure => simp [intOf]; omega
    · have HA := Lib.hid (hashL_all zs k (by rw [hl.out]; omega))
      go_wp2
      go_ret
      exact ⟨ret_int HA.out, rfl⟩
end Go.Proofs.YtgbmbnofnhhblaaDoor.Hsh
