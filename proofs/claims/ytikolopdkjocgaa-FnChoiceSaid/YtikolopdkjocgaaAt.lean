/- Contracts of the laws' own small helpers: is the code too long; a byte of the code or its substitute. -/
import Derived.Test.YtikolopdkjocgaaBytes
import Derived.OpenShut
namespace Go.Proofs.Ytikolopdkjocgaa.Hsh
open Go.RowKit
open Go.Proofs.Ytikolopdkjocgaa.Num Go.Proofs.Ytikolopdkjocgaa.Mem

theorem bytes_of_row {w : World} {A : Option Addr} {n c : Nat} {zs : List Int} (h : RowIn .u8 w A n c zs) : AllBytes zs := by
  intro z hz
  have := h.2 z hz
  have hb := bounds_u8 this
  omega
theorem i64_of_row {w : World} {A : Option Addr} {n c : Nat} {zs : List Int} (h : RowIn .i64 w A n c zs) : ∀ z ∈ zs, -9223372036854775808 ≤ z ∧ z ≤ 9223372036854775807 := by
  intro z hz
  have := h.2 z hz
  have hb := bounds_i64 this
  omega

theorem big_any (A : Option Addr) (n c : Nat) (w : World) : Calls Try.prog 5 #[.slice A n c] w fun e w' => e = .returned (.bool (decide (1048576 < (n : Int)))) ∧ w = w' := by
  by_cases h : 1048576 < (n : Int)
  · go_enter Try.func5, Try.ntmps5
    go_wp2
    go_ret
    exact ⟨by simp [h], rfl⟩
  · go_enter Try.func5, Try.ntmps5
    go_wp2
    go_ret
    exact ⟨by simp [h], rfl⟩
end Go.Proofs.Ytikolopdkjocgaa.Hsh
