/- Contracts of the laws' own small helpers: is the code too long; a byte of the code or its substitute. -/
import Derived.Test.YthdieeaegplnmaaBase
import Derived.OpenShut
namespace Go.Proofs.Ythdieeaegplnmaa.Hsh
open Go.RowKit
open Go.Proofs.Ythdieeaegplnmaa.Num Go.Proofs.Ythdieeaegplnmaa.Mem

theorem bytes_of_row {w : World} {A : Option Addr} {n c : Nat} {zs : List Int} (h : RowIn .u8 w A n c zs) : AllBytes zs := by
  intro z hz
  have := h.2 z hz
  have hb := bounds_u8 this
  omega
theorem i64_of_row {w : World} {A : Option Addr} {n c : Nat} {zs : List Int} (h : RowIn .i64 w A n c zs) : ∀ z ∈ zs, -9223372036854775808 ≤ z ∧ z ≤ 9223372036854775807 := by
  intro z hz
  have := h.2 z hz
  have hb := bounds_i64 this
  omega

theorem big_any (A : Option Addr) (n c : Nat) (w : World) : Calls Try.prog 19 #[.slice A n c] w fun e w' => e = .returned (.bool (decide (1048576 < (n : Int)))) ∧ w = w' := by
  by_cases h : 1048576 < (n : Int)
  · go_enter Try.func19, Try.ntmps19
    go_wp2
    go_ret
    exact ⟨by simp [h], rfl⟩
  · go_enter Try.func19, Try.ntmps19
    go_wp2
    go_ret
    exact ⟨by simp [h], rfl⟩
/-- a number that is a byte; nothing has turned -/
def AByte (w : World) (e : Ending) (w' : World) : Prop := ∃ x : Int, (0 ≤ x ∧ x ≤ 255) ∧ e = .returned (.int .i64 x) ∧ w = w'
set_option maxHeartbeats 1000000 in
theorem at_any (A : Option Addr) (n c : Nat) (bs : List Int) (i : Int) (w : World) (hr : Rd w 1 A n c (bs.map (Value.int .u8))) (hb : AllBytes bs) (hn : n ≤ 2097152) (i0 : 0 ≤ i) (i1 : i ≤ 1000000) :
    Calls Try.prog 32 #[.slice A n c, .int .i64 i] w (AByte w) := by
  have hl := Lib.hid (len_ints hr)
  have HB := Lib.hid hb
  have HR := Lib.hid hr
  clear hr hb
  by_cases h : i < n
  · obtain ⟨k, rfl⟩ := Int.eq_ofNat_of_zero_le i0
    obtain ⟨g, o, rfl, hg, hc⟩ := HR.out.int_at (j := k) (by omega)
    have hz := HB.out.at_ (k := k) (by rw [hl.out]; omega)
    generalize bs.getD k 0 = z at hc hz
    have HZ := Lib.hid hz
    obtain ⟨z0, z1⟩ := hz
    go_enter Try.func32, Try.ntmps32
    go_wp2
    go_ret
    exact ⟨z, HZ.out, rfl, rfl⟩
  · have h1 := Int.emod_nonneg (i * 31 + (n : Int) * 7) (show (256 : Int) ≠ 0 by omega)
    have h2 := Int.emod_lt_of_pos (i * 31 + (n : Int) * 7) (show (0 : Int) < 256 by omega)
    go_enter Try.func32, Try.ntmps32
    go_wp2
    go_ret
    exact ⟨_, by omega, rfl, rfl⟩
end Go.Proofs.Ythdieeaegplnmaa.Hsh
