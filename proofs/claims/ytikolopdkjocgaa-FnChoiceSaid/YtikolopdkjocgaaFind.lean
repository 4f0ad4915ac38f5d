/- Where an access point stands in a scan (the reference). -/
import Derived.Test.YtikolopdkjocgaaScore
namespace Go.Proofs.Ytikolopdkjocgaa.Scn
open Go.RowKit
open Go.Proofs.Ytikolopdkjocgaa.Num Go.Proofs.Ytikolopdkjocgaa.Mem
set_option linter.unusedSimpArgs false
/-- an index below n, or -1; nothing has turned -/
def FoundI (n : Nat) (w : World) (x : Ending) (w' : World) : Prop := ∃ k : Int, (-1 ≤ k ∧ k < (n : Int)) ∧ x = .returned (.int .i64 k) ∧ w = w'
set_option maxHeartbeats 1000000 in
theorem find_any (A : Option Addr) (n c : Nat) (zs : List Int) (ap : Int) (w : World) (hr : Rd w 4 A n c (zs.map (Value.int .i64))) :
    Calls Try.prog 41 #[.slice A n c, .int .i64 ap] w (FoundI n w) := by
  have HR := Lib.hid hr
  have hn : n ≤ 9223372036854775807 := by have h1 := hr.2.1; have h2 := hr.2.2.1; unfold maxLen at h2; omega
  clear hr
  go_enter Try.func41, Try.ntmps41
  go_wp2
  go_loop [5] (fun v5 => ∃ k : Nat, k ≤ n ∧ v5 = .int .i64 (k : Int)) (fun v5 => n - (intOf v5).toNat)
  case atStart => exact ⟨0, Nat.zero_le _, rfl⟩
  case round =>
    obtain ⟨k, hk, rfl⟩ := hrel
    by_cases hlt : k < n
    · obtain ⟨g, o, rfl, hg, c0, c1, c2, c3⟩ := ent_at HR.out hlt
      generalize fld zs k 0 = f0 at *
      by_cases h1 : f0 = ap
      · have e1 : (f0 == ap) = true := by simpa using h1
        clear h1
        go_wp2
        go_ret
        exact ⟨(k : Int), by omega, rfl, rfl⟩
      · have e1 : (f0 == ap) = false := by simpa using h1
        clear h1
        go_wp2
        go_round
        case rel => exact ⟨k + 1, by omega, by go_num⟩
        case measure => simp [intOf]; omega
    · go_wp2
      go_ret
      exact ⟨-1, by omega, rfl, rfl⟩
end Go.Proofs.Ytikolopdkjocgaa.Scn
