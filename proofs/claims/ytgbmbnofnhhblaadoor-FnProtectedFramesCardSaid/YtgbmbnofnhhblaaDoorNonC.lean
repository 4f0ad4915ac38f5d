/- The law's own search in a list of integers. -/
import Derived.Test.YtgbmbnofnhhblaaDoorNon
import Derived.Test.YtgbmbnofnhhblaaDoorKsV
import Derived.Test.YtgbmbnofnhhblaaDoorAt
namespace Go.Proofs.YtgbmbnofnhhblaaDoor.Seal
open Go.RowKit
open Go.Proofs.YtgbmbnofnhhblaaDoor.Num Go.Proofs.YtgbmbnofnhhblaaDoor.Mem Go.Proofs.YtgbmbnofnhhblaaDoor.Hsh Go.Proofs.YtgbmbnofnhhblaaDoor.Sls Go.Proofs.YtgbmbnofnhhblaaDoor.Own Go.Proofs.YtgbmbnofnhhblaaDoor.Ks
set_option linter.unusedSimpArgs false
set_option maxHeartbeats 1000000 in
theorem contains_any (A : Option Addr) (n c : Nat) (zs : List Int) (x : Int) (w : World) (hr : Rd w 1 A n c (zs.map (Value.int .i64))) :
    Calls Tryd.prog 30 #[.slice A n c, .int .i64 x] w (SaysM (x ∈ zs) w) := by
  have hl := Lib.hid (len_ints hr)
  have hn : n ≤ 9223372036854775807 := by have h1 := hr.2.1; have h2 := hr.2.2.1; unfold maxLen at h2; omega
  have HR := Lib.hid hr
  clear hr
  go_enter Tryd.func30, Tryd.ntmps30
  go_wp2
  go_loop [5] (fun v => ∃ k : Nat, k ≤ n ∧ v = .int .i64 (k : Int) ∧ x ∉ zs.take k) (fun v => n - (intOf v).toNat)
  case atStart => exact ⟨0, Nat.zero_le _, rfl, by simp⟩
  case round =>
    obtain ⟨k, hk, rfl, hnot⟩ := hrel
    have HN := Lib.hid hnot
    clear hnot
    by_cases hlt : k < n
    · obtain ⟨g, o, rfl, hg, hc⟩ := HR.out.int_at hlt
      have HM := Lib.hid (mem_getD' zs k (by rw [hl.out]; exact hlt))
      have HS := Lib.hid (fun h => mem_take_succ (x := x) (by rw [hl.out]; exact hlt) HN.out h)
      generalize zs.getD k 0 = z at *
      by_cases hz : z = x
      · subst hz
        clear HS
        go_wp2
        go_ret
        exact ⟨⟨true, ⟨fun _ => HM.out, fun _ => rfl⟩, rfl⟩, rfl⟩
      · have HT := Lib.hid (HS.out hz)
        have e1 : (z == x) = false := by simpa using hz
        have e2 : (x == z) = false := by simpa using fun h => hz h.symm
        clear HS hz HM
        go_wp2
        go_round
        case rel => exact ⟨k + 1, by omega, by go_num, HT.out⟩
        case measure => simp [intOf]; omega
    · obtain rfl : k = n := by omega
      have HY := Lib.hid (show (false = true ↔ x ∈ zs) from ⟨(fun h => by cases h), fun h => absurd h (by have := HN.out; rwa [List.take_of_length_le (by rw [hl.out]; exact Nat.le_refl _)] at this)⟩)
      go_wp2
      go_ret
      exact ⟨⟨false, HY.out, rfl⟩, rfl⟩
theorem containsN (A : Option Addr) (n c : Nat) (zs : List Int) (x : Int) (w : World) (hr : Rd w 1 A n c (zs.map (Value.int .i64))) (hm : x ∉ zs) : Calls Tryd.prog 30 #[.slice A n c, .int .i64 x] w fun e w' => e = .returned (.bool false) ∧ w = w' :=
  (contains_any A n c zs x w hr).mono fun e w' ⟨⟨b, hb, he⟩, hw⟩ => ⟨by rw [he]; cases b with | false => rfl | true => exact absurd (hb.1 rfl) hm, hw⟩
end Go.Proofs.YtgbmbnofnhhblaaDoor.Seal
