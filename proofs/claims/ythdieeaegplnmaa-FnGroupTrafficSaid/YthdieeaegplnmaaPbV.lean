/- Power buffers: what a valid one is; the check of the program. -/
import Derived.Test.YthdieeaegplnmaaPbE
namespace Go.Proofs.Ythdieeaegplnmaa.Pb
open Go.RowKit
open Go.Proofs.Ythdieeaegplnmaa.Num Go.Proofs.Ythdieeaegplnmaa.Mem Go.Proofs.Ythdieeaegplnmaa.Hsh Go.Proofs.Ythdieeaegplnmaa.Sls Go.Proofs.Ythdieeaegplnmaa.Own Go.Proofs.Ythdieeaegplnmaa.SS Go.Proofs.Ythdieeaegplnmaa.Gb
set_option linter.unusedSimpArgs false
set_option linter.unusedVariables false
/-- the station ahead of entry k -/
def bef (ks : List Kt) : Nat → Int
  | 0 => -1
  | k + 1 => (nthK ks k).st
/-- an entry is as it should be -/
def okE (b : Int) (e : Kt) : Prop := ((0 ≤ e.st ∧ e.st ≤ 15) ∧ b < e.st ∧ 0 ≤ e.lo ∧ e.fs.length ≤ 6 ∧ (e.ap = true ∨ e.fs.length = 0)) ∧ okF e.fs e.fs.length
def validP (ks : List Kt) (n : Nat) : Prop := ∀ i, i < n → okE (bef ks i) (nthK ks i)
theorem validP_zero (ks : List Kt) : validP ks 0 := fun i h => absurd h (by omega)
theorem validP_succ {ks : List Kt} {k : Nat} (h : validP ks k) (h1 : okE (bef ks k) (nthK ks k)) : validP ks (k + 1) := fun i hi => by
  rcases Nat.lt_or_ge i k with h3 | h3
  · exact h i h3
  · obtain rfl : i = k := by omega
    exact h1
/-- the ways in which the head of an entry can be wrong -/
theorem head_cases (b st lo : Int) (m : Nat) (ap : Bool) :
    (st < 0 ∨ 15 < st) ∨ ((0 ≤ st ∧ st ≤ 15) ∧ st ≤ b) ∨ ((0 ≤ st ∧ st ≤ 15) ∧ b < st ∧ lo < 0) ∨ ((0 ≤ st ∧ st ≤ 15) ∧ b < st ∧ 0 ≤ lo ∧ 6 < (m : Int)) ∨ ((0 ≤ st ∧ st ≤ 15) ∧ b < st ∧ 0 ≤ lo ∧ (m : Int) ≤ 6 ∧ ap = false ∧ 0 < (m : Int)) ∨ ((0 ≤ st ∧ st ≤ 15) ∧ b < st ∧ 0 ≤ lo ∧ (m : Int) ≤ 6 ∧ (ap = true ∨ (ap = false ∧ (m : Int) ≤ 0))) := by
  cases ap <;> simp <;> omega
set_option maxHeartbeats 4000000 in
theorem validPb_impl (A : Option Addr) (n c : Nat) (ks : List Kt) (w : World) (hr : RdPB w A n c ks) :
    Calls Try.prog 42 #[.agg #[.slice A n c]] w (SaysG (validP ks n) w) := by
  have hn := hr.n64
  have HR := Lib.hid hr
  clear hr
  go_enter Try.func42, Try.ntmps42
  go_wp2_with fail
  go_loopw [3, 11] (fun v3 v11 wr => ∃ k : Nat, k ≤ n ∧ v3 = .int .i64 (bef ks k) ∧ v11 = .int .i64 (k : Int) ∧ validP ks k ∧ Below w.heap.size w wr) (fun _ v11 _ => n - (intOf v11).toNat)
  case atStart => exact ⟨0, Nat.zero_le _, rfl, rfl, validP_zero _, by go_grown⟩
  case round =>
    obtain ⟨k, hk, rfl, rfl, hok, hbr⟩ := hrel
    have HO := Lib.hid hok
    have HB := Lib.hid hbr
    clear hok
    by_cases hlt : k < n
    · obtain ⟨g, o, A', n', c', rfl, hg, c0, c1, c2, c3, hrd⟩ := (HR.out.below hbr).at_ hlt
      have HN := Lib.hid hrd.1
      have hm' := ss64 hrd
      have HRD := Lib.hid hrd
      have HBD := Lib.hid (show okE (bef ks k) (nthK ks k) → validP ks (k + 1) from fun h => validP_succ HO.out h)
      have HNV := Lib.hid (show validP ks n → okE (bef ks k) (nthK ks k) from fun h => h k hlt)
      have HBE := Lib.hid (show bef ks (k + 1) = (nthK ks k).st from rfl)
      have HOE := Lib.hid (show okE (bef ks k) (nthK ks k) ↔ (((0 ≤ (nthK ks k).st ∧ (nthK ks k).st ≤ 15) ∧ bef ks k < (nthK ks k).st ∧ 0 ≤ (nthK ks k).lo ∧ (nthK ks k).fs.length ≤ 6 ∧ ((nthK ks k).ap = true ∨ (nthK ks k).fs.length = 0)) ∧ okF (nthK ks k).fs (nthK ks k).fs.length) from Iff.rfl)
      generalize okE (bef ks k) (nthK ks k) = OE at HBD HNV HOE
      have hcs := head_cases (bef ks k) (nthK ks k).st (nthK ks k).lo n' (nthK ks k).ap
      generalize bef ks k = bf at *
      generalize (nthK ks k).st = st at *
      generalize (nthK ks k).ap = ap at *
      generalize (nthK ks k).lo = lo at *
      generalize (nthK ks k).fs = fs at *
      clear hrd hbr
      rcases hcs with h1 | ⟨h1, h2⟩ | ⟨h1, h2, h3⟩ | ⟨h1, h2, h3, h4⟩ | ⟨h1, h2, h3, h4, rfl, h5⟩ | ⟨h1, h2, h3, h4, h5⟩
      · have HX := Lib.hid (show ¬ validP ks n from fun hv => by have := HOE.out.1 (HNV.out hv); omega)
        go_wp2_with (first | (go_at_call 76; refine (Bcn.station_no st _ h1).mono ?_; rintro e w' ⟨rfl, rfl⟩))
        go_ret
        exact saysG_no HX.out (HB.out.alloc HB.out.size _)
      · have HX := Lib.hid (show ¬ validP ks n from fun hv => by have := HOE.out.1 (HNV.out hv); omega)
        go_wp2_with (first | (go_at_call 76; refine (Bcn.station_yes st _ h1.1 h1.2).mono ?_; rintro e w' ⟨rfl, rfl⟩))
        go_ret
        exact saysG_no HX.out (HB.out.alloc HB.out.size _)
      · have HX := Lib.hid (show ¬ validP ks n from fun hv => by have := HOE.out.1 (HNV.out hv); omega)
        go_wp2_with (first | (go_at_call 76; refine (Bcn.station_yes st _ h1.1 h1.2).mono ?_; rintro e w' ⟨rfl, rfl⟩))
        go_ret
        exact saysG_no HX.out (HB.out.alloc HB.out.size _)
      · have HX := Lib.hid (show ¬ validP ks n from fun hv => by have h7 := HOE.out.1 (HNV.out hv); have h8 := HN.out; omega)
        go_wp2_with (first | (go_at_call 76; refine (Bcn.station_yes st _ h1.1 h1.2).mono ?_; rintro e w' ⟨rfl, rfl⟩))
        go_ret
        exact saysG_no HX.out (HB.out.alloc HB.out.size _)
      · have HX := Lib.hid (show ¬ validP ks n from fun hv => by have h7 := (HOE.out.1 (HNV.out hv)).1.2.2.2.2; have h8 := HN.out; simp at h7; subst h7; simp at h8; omega)
        go_wp2_with (first | (go_at_call 76; refine (Bcn.station_yes st _ h1.1 h1.2).mono ?_; rintro e w' ⟨rfl, rfl⟩))
        go_ret
        exact saysG_no HX.out (HB.out.alloc HB.out.size _)
      · have HY := Lib.hid (show okF fs fs.length → OE from fun hf => HOE.out.2 ⟨⟨h1, h2, h3, by have := HN.out; omega, by have := HN.out; rcases h5 with h5 | ⟨_, h5⟩; exact .inl h5; exact .inr (by omega)⟩, hf⟩)
        have HNF := Lib.hid (show OE → okF fs fs.length from fun h => (HOE.out.1 h).2)
        rcases h5 with rfl | ⟨rfl, h5⟩
        · skip
          go_wp2_with (first | (go_at_call 76; refine (Bcn.station_yes st _ h1.1 h1.2).mono ?_; rintro e w' ⟨rfl, rfl⟩))
          go_loop [50] (fun v => ∃ j : Nat, j ≤ n' ∧ v = .int .i64 (j : Int) ∧ okF fs j) (fun v => n' - (intOf v).toNat)
          case atStart => exact ⟨0, Nat.zero_le _, rfl, okF_zero _⟩
          case round =>
            obtain ⟨j, hj, rfl, hof⟩ := hrel
            have HF := Lib.hid hof
            clear hof
            by_cases hjl : j < n'
            · obtain ⟨g5, o5, A5, n5, c5, rfl, hg5, d0, hrd5⟩ := HRD.out.at_ hjl
              have HN5 := Lib.hid (len_ints hrd5)
              have hm5 : n5 ≤ 9223372036854775807 := by have h1 := hrd5.2.1; have h2 := hrd5.2.2.1; unfold maxLen at h2; omega
              clear hrd5
              by_cases h100 : n5 ≤ 100
              · have HX := Lib.hid (okF_succ HF.out (by rw [HN5.out]; exact h100))
                go_wp2
                go_round
                case rel => exact ⟨j + 1, by omega, by go_num, HX.out⟩
                case measure => simp [intOf]; omega
              · have HX := Lib.hid (show ¬ validP ks n from fun hv => by have h1 := HNF.out (HNV.out hv) j (by have := HN.out; omega); have h2 := HN5.out; omega)
                go_wp2
                go_ret
                exact saysG_no HX.out (HB.out.alloc HB.out.size _)
            · obtain rfl : j = n' := by omega
              have HV := Lib.hid (HBD.out (HY.out (by rw [HN.out]; exact HF.out)))
              go_wp2
              go_roundw
              case rel => exact ⟨k + 1, by omega, by rw [HBE.out], by go_num, HV.out, HB.out.alloc HB.out.size _⟩
              case measure => simp [intOf]; omega
        · skip
          go_wp2_with (first | (go_at_call 76; refine (Bcn.station_yes st _ h1.1 h1.2).mono ?_; rintro e w' ⟨rfl, rfl⟩))
          go_loop [50] (fun v => ∃ j : Nat, j ≤ n' ∧ v = .int .i64 (j : Int) ∧ okF fs j) (fun v => n' - (intOf v).toNat)
          case atStart => exact ⟨0, Nat.zero_le _, rfl, okF_zero _⟩
          case round =>
            obtain ⟨j, hj, rfl, hof⟩ := hrel
            have HF := Lib.hid hof
            clear hof
            obtain rfl : j = n' := by omega
            have HV := Lib.hid (HBD.out (HY.out (by rw [HN.out]; exact HF.out)))
            go_wp2
            go_roundw
            case rel => exact ⟨k + 1, by omega, by rw [HBE.out], by go_num, HV.out, HB.out.alloc HB.out.size _⟩
            case measure => simp [intOf]; omega
    · obtain rfl : k = n := by omega
      clear hbr
      go_wp2
      go_ret
      exact saysG_yes HO.out HB.out
end Go.Proofs.Ythdieeaegplnmaa.Pb
