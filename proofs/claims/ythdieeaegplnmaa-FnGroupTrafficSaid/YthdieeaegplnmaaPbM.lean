/- Power buffers: the map of stations for which something is kept, both sides. -/
import Derived.Test.YthdieeaegplnmaaPbE
namespace Go.Proofs.Ythdieeaegplnmaa.Pb
open Go.RowKit
open Go.Proofs.Ythdieeaegplnmaa.Num Go.Proofs.Ythdieeaegplnmaa.Mem Go.Proofs.Ythdieeaegplnmaa.Hsh Go.Proofs.Ythdieeaegplnmaa.Sls Go.Proofs.Ythdieeaegplnmaa.Own Go.Proofs.Ythdieeaegplnmaa.SS Go.Proofs.Ythdieeaegplnmaa.Gb
set_option linter.unusedSimpArgs false
set_option linter.unusedVariables false
/-- the map with one station more -/
def orS (t st : Int) : Int := bits .or .i64 t (wrap64 (2 ^ st.toNat))
def timK (ks : List Kt) : Nat → Int
  | 0 => 0
  | k + 1 => if (0 ≤ (nthK ks k).st ∧ (nthK ks k).st ≤ 15) ∧ 0 < ((nthK ks k).fs.length : Int) then orS (timK ks k) (nthK ks k).st else timK ks k
set_option maxHeartbeats 4000000 in
theorem tim_impl (A : Option Addr) (n c : Nat) (ks : List Kt) (w : World) (hr : RdPB w A n c ks) :
    Calls Try.prog 48 #[.agg #[.slice A n c]] w fun x w' => x = .returned (.int .i64 (timK ks n)) ∧ Below w.heap.size w w' := by
  have hn := hr.n64
  have HR := Lib.hid hr
  clear hr
  go_enter Try.func48, Try.ntmps48
  go_wp2_with fail
  go_loopw [3, 9] (fun v3 v9 wr => ∃ k : Nat, k ≤ n ∧ v3 = .int .i64 (timK ks k) ∧ v9 = .int .i64 (k : Int) ∧ Below w.heap.size w wr) (fun _ v9 _ => n - (intOf v9).toNat)
  case atStart => exact ⟨0, Nat.zero_le _, rfl, rfl, by go_grown⟩
  case round =>
    obtain ⟨k, hk, rfl, rfl, hbr⟩ := hrel
    have HB := Lib.hid hbr
    by_cases hlt : k < n
    · obtain ⟨g, o, A', n', c', rfl, hg, c0, c1, c2, c3, hrd⟩ := (HR.out.below hbr).at_ hlt
      have HN := Lib.hid hrd.1
      have hm' := ss64 hrd
      have HT := Lib.hid (show timK ks (k + 1) = if (0 ≤ (nthK ks k).st ∧ (nthK ks k).st ≤ 15) ∧ 0 < ((nthK ks k).fs.length : Int) then orS (timK ks k) (nthK ks k).st else timK ks k from rfl)
      generalize timK ks k = t at *
      generalize (nthK ks k).st = st at *
      generalize (nthK ks k).ap = ap at *
      generalize (nthK ks k).lo = lo at *
      generalize (nthK ks k).fs = fs at *
      clear hrd hbr
      by_cases h1 : 0 ≤ st ∧ st ≤ 15
      · by_cases h2 : 0 < (n' : Int)
        · have HE := Lib.hid (show timK ks (k + 1) = orS t st by rw [HT.out, if_pos ⟨h1, by have := HN.out; omega⟩])
          obtain ⟨s0, s1⟩ := h1
          obtain ⟨m, rfl⟩ := Int.eq_ofNat_of_zero_le s0
          go_wp2_with (first | (go_at_call 76; refine (Bcn.station_yes (m : Int) _ (by omega) (by omega)).mono ?_; rintro e w' ⟨rfl, rfl⟩))
          go_roundw
          case rel => exact ⟨k + 1, by omega, by rw [HE.out]; rfl, by go_num, HB.out.alloc HB.out.size _⟩
          case measure => simp [intOf]; omega
        · have HE := Lib.hid (show timK ks (k + 1) = t by rw [HT.out, if_neg (fun h => by have := HN.out; omega)])
          go_wp2_with (first | (go_at_call 76; refine (Bcn.station_yes st _ h1.1 h1.2).mono ?_; rintro e w' ⟨rfl, rfl⟩))
          go_roundw
          case rel => exact ⟨k + 1, by omega, by rw [HE.out], by go_num, HB.out.alloc HB.out.size _⟩
          case measure => simp [intOf]; omega
      · have HE := Lib.hid (show timK ks (k + 1) = t by rw [HT.out, if_neg (fun h => h1 h.1)])
        go_wp2_with (first | (go_at_call 76; refine (Bcn.station_no st _ (by omega)).mono ?_; rintro e w' ⟨rfl, rfl⟩))
        go_roundw
        case rel => exact ⟨k + 1, by omega, by rw [HE.out], by go_num, HB.out.alloc HB.out.size _⟩
        case measure => simp [intOf]; omega
    · obtain rfl : k = n := by omega
      clear hbr
      go_wp2
      go_ret
      exact ⟨rfl, HB.out⟩
set_option maxHeartbeats 4000000 in
theorem tim_spec (A : Option Addr) (n c : Nat) (ks : List Kt) (w : World) (hr : RdPB w A n c ks) :
    Calls Try.prog 29 #[.agg #[.slice A n c]] w fun x w' => x = .returned (.int .i64 (timK ks n)) ∧ Below w.heap.size w w' := by
  have hn := hr.n64
  have HR := Lib.hid hr
  clear hr
  go_enter Try.func29, Try.ntmps29
  go_wp2_with fail
  go_loop [3, 4] (fun v3 v4 => ∃ k : Nat, k ≤ n ∧ v3 = .int .i64 (timK ks k) ∧ v4 = .int .i64 (k : Int)) (fun _ v4 => n - (intOf v4).toNat)
  case atStart => exact ⟨0, Nat.zero_le _, rfl, rfl⟩
  case round =>
    obtain ⟨k, hk, rfl, rfl⟩ := hrel
    by_cases hlt : k < n
    · obtain ⟨g, o, A', n', c', rfl, hg, c0, c1, c2, c3, hrd⟩ := (HR.out.alloc (.cells #[.slice A n c] 39)).at_ hlt
      have HN := Lib.hid hrd.1
      have hm' := ss64 hrd
      have HT := Lib.hid (show timK ks (k + 1) = if (0 ≤ (nthK ks k).st ∧ (nthK ks k).st ≤ 15) ∧ 0 < ((nthK ks k).fs.length : Int) then orS (timK ks k) (nthK ks k).st else timK ks k from rfl)
      generalize timK ks k = t at *
      generalize (nthK ks k).st = st at *
      generalize (nthK ks k).ap = ap at *
      generalize (nthK ks k).lo = lo at *
      generalize (nthK ks k).fs = fs at *
      clear hrd
      by_cases h1 : 0 ≤ st ∧ st ≤ 15
      · by_cases h2 : 0 < (n' : Int)
        · have HE := Lib.hid (show timK ks (k + 1) = orS t st by rw [HT.out, if_pos ⟨h1, by have := HN.out; omega⟩])
          obtain ⟨s0, s1⟩ := h1
          obtain ⟨m, rfl⟩ := Int.eq_ofNat_of_zero_le s0
          go_wp2_with (first | (go_at_call 72; refine (in_spec_yes (m : Int) _ _ _ (by omega) (by omega)).mono ?_; rintro e w' ⟨rfl, rfl⟩))
          go_round
          case rel => exact ⟨k + 1, by omega, by rw [HE.out]; rfl, by go_num⟩
          case measure => simp [intOf]; omega
        · have HE := Lib.hid (show timK ks (k + 1) = t by rw [HT.out, if_neg (fun h => by have := HN.out; omega)])
          go_wp2_with (first | (go_at_call 72; refine (in_spec_yes st _ _ _ h1.1 h1.2).mono ?_; rintro e w' ⟨rfl, rfl⟩))
          go_round
          case rel => exact ⟨k + 1, by omega, by rw [HE.out], by go_num⟩
          case measure => simp [intOf]; omega
      · have HE := Lib.hid (show timK ks (k + 1) = t by rw [HT.out, if_neg (fun h => h1 h.1)])
        go_wp2_with (first | (go_at_call 72; refine (in_spec_no st _ _ _ (by omega)).mono ?_; rintro e w' ⟨rfl, rfl⟩))
        go_round
        case rel => exact ⟨k + 1, by omega, by rw [HE.out], by go_num⟩
        case measure => simp [intOf]; omega
    · obtain rfl : k = n := by omega
      go_wp2
      go_ret
      exact ⟨rfl, by go_grown⟩
end Go.Proofs.Ythdieeaegplnmaa.Pb
