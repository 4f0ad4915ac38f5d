/- Contracts of the beacons' numbers: the next slot, the count to the next delivery, the delay of group frames. -/
import Derived.Test.YthdieeaegplnmaaAt
namespace Go.Proofs.Ythdieeaegplnmaa.Bcn
open Go.RowKit
open Go.Proofs.Ythdieeaegplnmaa.Num Go.Proofs.Ythdieeaegplnmaa.Mem Go.Proofs.Ythdieeaegplnmaa.Hsh
set_option linter.unusedSimpArgs false

def nextS (now : Int) : Int := (now / 10 + 1) * 10
def dcount (s p : Int) : Int := if (0 ≤ s ∧ s ≤ 1000000000000 ∧ s % 10 = 0) ∧ 1 ≤ p ∧ p ≤ 8 then modI (-(s / 10)) p else -1
theorem modI_in {x p : Int} (h1 : 1 ≤ p) (h2 : p ≤ 1000000000000) : modI x p = x % p := by unfold modI; rw [if_pos ⟨h1, h2⟩]
theorem dcount_in {s p : Int} (h : 0 ≤ s ∧ s ≤ 1000000000000 ∧ s % 10 = 0) (h1 : 1 ≤ p) (h2 : p ≤ 8) : dcount s p = (-(s / 10)) % p := by unfold dcount; rw [if_pos ⟨h, h1, h2⟩, modI_in h1 (by omega)]
theorem slot_yes (s : Int) (w : World) (h0 : 0 ≤ s) (h1 : s ≤ 1000000000000) (h2 : (s % 10 == 0) = true) : Calls Try.prog 77 #[.int .i64 s] w fun x w' => x = .returned (.bool true) ∧ w = w' := by
  go_enter Try.func77, Try.ntmps77
  go_wp2_with (first | (go_at_call 74; refine (in_impl_yes _ _ _ _ (by omega) (by omega)).mono ?_; rintro e w' ⟨rfl, rfl⟩))
  go_ret
  exact ⟨rfl, rfl⟩
theorem slot_out (s : Int) (w : World) (h : s < 0 ∨ 1000000000000 < s) : Calls Try.prog 77 #[.int .i64 s] w fun x w' => x = .returned (.bool false) ∧ w = w' := by
  go_enter Try.func77, Try.ntmps77
  go_wp2_with (first | (go_at_call 74; refine (in_impl_no _ _ _ _ (by omega)).mono ?_; rintro e w' ⟨rfl, rfl⟩))
  go_ret
  exact ⟨rfl, rfl⟩
theorem slot_off (s : Int) (w : World) (h0 : 0 ≤ s) (h1 : s ≤ 1000000000000) (h2 : (s % 10 == 0) = false) : Calls Try.prog 77 #[.int .i64 s] w fun x w' => x = .returned (.bool false) ∧ w = w' := by
  go_enter Try.func77, Try.ntmps77
  go_wp2_with (first | (go_at_call 74; refine (in_impl_yes _ _ _ _ (by omega) (by omega)).mono ?_; rintro e w' ⟨rfl, rfl⟩))
  go_ret
  exact ⟨rfl, rfl⟩
theorem dtim_any (s p : Int) (w : World) (hs : -9223372036854775808 ≤ s ∧ s ≤ 9223372036854775807) : Calls Try.prog 69 #[.int .i64 s, .int .i64 p] w fun x w' => x = .returned (.int .i64 (dcount s p)) ∧ w = w' := by
  unfold dcount
  by_cases h : 0 ≤ s ∧ s ≤ 1000000000000
  · by_cases h2 : s % 10 = 0
    · have d : (s % 10 == 0) = true := by simpa using h2
      by_cases h3 : 1 ≤ p ∧ p ≤ 8
      · rw [if_pos ⟨⟨h.1, h.2, h2⟩, h3⟩]
        obtain ⟨h0, h1⟩ := h
        obtain ⟨h4, h5⟩ := h3
        have hq0 : 0 ≤ s / 10 := by omega
        have hq1 : s / 10 ≤ 1000000000000 := by omega
        have HM := Lib.hid (mod_impl (-(s / 10)) p)
        clear h2
        go_enter Try.func69, Try.ntmps69
        go_wp2_with (first
          | (go_at_call 77; refine (slot_yes _ _ h0 h1 d).mono ?_; rintro e w' ⟨rfl, rfl⟩)
          | (go_at_call 74; refine (in_impl_yes _ _ _ _ (by omega) (by omega)).mono ?_; rintro e w' ⟨rfl, rfl⟩)
          | (go_at_call 96; refine (HM.out _ (by omega) (by omega)).mono ?_; rintro e w' ⟨rfl, rfl⟩))
        go_ret
        exact ⟨rfl, rfl⟩
      · rw [if_neg (fun hh => h3 hh.2)]
        obtain ⟨h0, h1⟩ := h
        have h6 : p < 1 ∨ 8 < p := by omega
        clear h2 h3
        go_enter Try.func69, Try.ntmps69
        go_wp2_with (first
          | (go_at_call 77; refine (slot_yes _ _ h0 h1 d).mono ?_; rintro e w' ⟨rfl, rfl⟩)
          | (go_at_call 74; refine (in_impl_no _ _ _ _ (by omega)).mono ?_; rintro e w' ⟨rfl, rfl⟩))
        go_ret
        exact ⟨rfl, rfl⟩
    · rw [if_neg (fun hh => h2 hh.1.2.2)]
      have d : (s % 10 == 0) = false := by simpa using h2
      obtain ⟨h0, h1⟩ := h
      clear h2
      go_enter Try.func69, Try.ntmps69
      go_wp2_with (first | (go_at_call 77; refine (slot_off _ _ h0 h1 d).mono ?_; rintro e w' ⟨rfl, rfl⟩))
      go_ret
      exact ⟨rfl, rfl⟩
  · rw [if_neg (fun hh => h ⟨hh.1.1, hh.1.2.1⟩)]
    have h6 : s < 0 ∨ 1000000000000 < s := by omega
    clear h
    go_enter Try.func69, Try.ntmps69
    go_wp2_with (first | (go_at_call 77; refine (slot_out _ _ h6).mono ?_; rintro e w' ⟨rfl, rfl⟩))
    go_ret
    exact ⟨rfl, rfl⟩
theorem station_yes (n : Int) (w : World) (h1 : 0 ≤ n) (h2 : n ≤ 15) : Calls Try.prog 76 #[.int .i64 n] w fun e w' => e = .returned (.bool true) ∧ w = w' := by
  go_enter Try.func76, Try.ntmps76
  go_wp2_with (first | (go_at_call 74; refine (in_impl_yes _ _ _ _ (by omega) (by omega)).mono ?_; rintro e w' ⟨rfl, rfl⟩))
  go_ret
  exact ⟨rfl, rfl⟩
theorem station_no (n : Int) (w : World) (h : n < 0 ∨ 15 < n) : Calls Try.prog 76 #[.int .i64 n] w fun e w' => e = .returned (.bool false) ∧ w = w' := by
  go_enter Try.func76, Try.ntmps76
  go_wp2_with (first | (go_at_call 74; refine (in_impl_no _ _ _ _ (by omega)).mono ?_; rintro e w' ⟨rfl, rfl⟩))
  go_ret
  exact ⟨rfl, rfl⟩
end Go.Proofs.Ythdieeaegplnmaa.Bcn
