/- Contracts of the password exchange's functions: new commits, explained commits. -/
import Derived.Test.YtbiipcgiionhpaaExch2
import Derived.Test.YtbiipcgiionhpaaHash
namespace Go.Proofs.Ytbiipcgiionhpaa.Exch
open Go.RowKit
open Go.Proofs.Ytbiipcgiionhpaa.Num Go.Proofs.Ytbiipcgiionhpaa.Mem Go.Proofs.Ytbiipcgiionhpaa.Hsh Go.Proofs.Ytbiipcgiionhpaa.Grp

/-- are there a commit for these secrets? its two numbers -/
def ncB (pe r m : Int) : Bool := baseB pe && secB r && secB m && validB (addS r m) (invM (powM pe m))
def ncS (pe r m : Int) : Int := if ncB pe r m = true then addS r m else 0
def ncE (pe r m : Int) : Int := if ncB pe r m = true then invM (powM pe m) else 0

set_option maxHeartbeats 1000000 in
theorem newCommit_impl (pe r m : Int) (w : World) : Calls Try.prog 13 #[.int .i64 pe, .int .i64 r, .int .i64 m] w fun x w' => x = .returned (.tuple #[.agg #[.int .i64 (ncS pe r m), .int .i64 (ncE pe r m)], .bool (ncB pe r m)]) ∧ Below w.heap.size w w' := by
  cases h1 : baseB pe
  · have hb : ncB pe r m = false := by unfold ncB; rw [h1]; rfl
    rw [show ncS pe r m = 0 by unfold ncS; rw [hb]; rfl, show ncE pe r m = 0 by unfold ncE; rw [hb]; rfl, hb]
    clear hb
    go_enter Try.func13, Try.ntmps13
    go_wp2_with (first | (go_at_call 33; refine (base_impl _ _).mono ?_; rintro x w' ⟨rfl, rfl⟩))
    go_returns
    exact ⟨rfl, by go_grown⟩
  cases h2 : secB r
  · have hb : ncB pe r m = false := by unfold ncB; rw [h1, h2]; rfl
    rw [show ncS pe r m = 0 by unfold ncS; rw [hb]; rfl, show ncE pe r m = 0 by unfold ncE; rw [hb]; rfl, hb]
    clear hb
    go_enter Try.func13, Try.ntmps13
    go_wp2_with (first | (go_at_call 33; refine (base_impl _ _).mono ?_; rintro x w' ⟨rfl, rfl⟩) | (go_at_call 34; refine (secret_impl _ _).mono ?_; rintro x w' ⟨rfl, rfl⟩))
    go_returns
    exact ⟨rfl, by go_grown⟩
  cases h3 : secB m
  · have hb : ncB pe r m = false := by unfold ncB; rw [h1, h2, h3]; rfl
    rw [show ncS pe r m = 0 by unfold ncS; rw [hb]; rfl, show ncE pe r m = 0 by unfold ncE; rw [hb]; rfl, hb]
    clear hb
    go_enter Try.func13, Try.ntmps13
    go_wp2_with (first | (go_at_call 33; refine (base_impl _ _).mono ?_; rintro x w' ⟨rfl, rfl⟩) | (go_at_call 34; refine (secret_impl _ _).mono ?_; rintro x w' ⟨rfl, rfl⟩))
    go_returns
    exact ⟨rfl, by go_grown⟩
  cases h4 : validB (addS r m) (invM (powM pe m))
  · have hb : ncB pe r m = false := by unfold ncB; rw [h1, h2, h3, h4]; rfl
    rw [show ncS pe r m = 0 by unfold ncS; rw [hb]; rfl, show ncE pe r m = 0 by unfold ncE; rw [hb]; rfl, hb]
    clear hb
    go_enter Try.func13, Try.ntmps13
    go_wp2_with (first | (go_at_call 33; refine (base_impl _ _).mono ?_; rintro x w' ⟨rfl, rfl⟩) | (go_at_call 34; refine (secret_impl _ _).mono ?_; rintro x w' ⟨rfl, rfl⟩) | (go_at_call 10; refine (addScalars_impl _ _ _).mono ?_; rintro x w' ⟨rfl, rfl⟩) | (go_at_call 35; refine (powMod_impl _ _ _).mono ?_; rintro x w' ⟨rfl, rfl⟩) | (go_at_call 27; refine (inverse_impl _ _).mono ?_; rintro x w' ⟨rfl, rfl⟩) | (go_at_call 20; refine (isValidX_impl _ _ _).mono ?_; rintro x w' ⟨rfl, rfl⟩))
    go_returns
    exact ⟨rfl, by go_grown⟩
  · have hb : ncB pe r m = true := by unfold ncB; rw [h1, h2, h3, h4]; rfl
    rw [show ncS pe r m = addS r m by unfold ncS; rw [hb]; rfl, show ncE pe r m = invM (powM pe m) by unfold ncE; rw [hb]; rfl, hb]
    clear hb
    go_enter Try.func13, Try.ntmps13
    go_wp2_with (first | (go_at_call 33; refine (base_impl _ _).mono ?_; rintro x w' ⟨rfl, rfl⟩) | (go_at_call 34; refine (secret_impl _ _).mono ?_; rintro x w' ⟨rfl, rfl⟩) | (go_at_call 10; refine (addScalars_impl _ _ _).mono ?_; rintro x w' ⟨rfl, rfl⟩) | (go_at_call 35; refine (powMod_impl _ _ _).mono ?_; rintro x w' ⟨rfl, rfl⟩) | (go_at_call 27; refine (inverse_impl _ _).mono ?_; rintro x w' ⟨rfl, rfl⟩) | (go_at_call 20; refine (isValidX_impl _ _ _).mono ?_; rintro x w' ⟨rfl, rfl⟩))
    go_returns
    exact ⟨rfl, by go_grown⟩
set_option maxHeartbeats 1000000 in
theorem newCommit_spec (pe r m : Int) (w : World) : Calls Try.prog 43 #[.int .i64 pe, .int .i64 r, .int .i64 m] w fun x w' => x = .returned (.tuple #[.agg #[.int .i64 (ncS pe r m), .int .i64 (ncE pe r m)], .bool (ncB pe r m)]) ∧ Below w.heap.size w w' := by
  cases h1 : baseB pe
  · have hb : ncB pe r m = false := by unfold ncB; rw [h1]; rfl
    rw [show ncS pe r m = 0 by unfold ncS; rw [hb]; rfl, show ncE pe r m = 0 by unfold ncE; rw [hb]; rfl, hb]
    clear hb
    go_enter Try.func43, Try.ntmps43
    go_wp2_with (first | (go_at_call 55; refine (base_spec _ _).mono ?_; rintro x w' ⟨rfl, rfl⟩))
    go_returns
    exact ⟨rfl, by go_grown⟩
  cases h2 : secB r
  · have hb : ncB pe r m = false := by unfold ncB; rw [h1, h2]; rfl
    rw [show ncS pe r m = 0 by unfold ncS; rw [hb]; rfl, show ncE pe r m = 0 by unfold ncE; rw [hb]; rfl, hb]
    clear hb
    go_enter Try.func43, Try.ntmps43
    go_wp2_with (first | (go_at_call 55; refine (base_spec _ _).mono ?_; rintro x w' ⟨rfl, rfl⟩) | (go_at_call 56; refine (secret_spec _ _).mono ?_; rintro x w' ⟨rfl, rfl⟩))
    go_returns
    exact ⟨rfl, by go_grown⟩
  cases h3 : secB m
  · have hb : ncB pe r m = false := by unfold ncB; rw [h1, h2, h3]; rfl
    rw [show ncS pe r m = 0 by unfold ncS; rw [hb]; rfl, show ncE pe r m = 0 by unfold ncE; rw [hb]; rfl, hb]
    clear hb
    go_enter Try.func43, Try.ntmps43
    go_wp2_with (first | (go_at_call 55; refine (base_spec _ _).mono ?_; rintro x w' ⟨rfl, rfl⟩) | (go_at_call 56; refine (secret_spec _ _).mono ?_; rintro x w' ⟨rfl, rfl⟩))
    go_returns
    exact ⟨rfl, by go_grown⟩
  cases h4 : validB (addS r m) (invM (powM pe m))
  · have hb : ncB pe r m = false := by unfold ncB; rw [h1, h2, h3, h4]; rfl
    rw [show ncS pe r m = 0 by unfold ncS; rw [hb]; rfl, show ncE pe r m = 0 by unfold ncE; rw [hb]; rfl, hb]
    clear hb
    go_enter Try.func43, Try.ntmps43
    go_wp2_with (first | (go_at_call 55; refine (base_spec _ _).mono ?_; rintro x w' ⟨rfl, rfl⟩) | (go_at_call 56; refine (secret_spec _ _).mono ?_; rintro x w' ⟨rfl, rfl⟩) | (go_at_call 57; refine (addScalars_spec _ _ _).mono ?_; rintro x w' ⟨rfl, rfl⟩) | (go_at_call 30; refine (powMod_spec _ _ _).mono ?_; rintro x w' ⟨rfl, rfl⟩) | (go_at_call 12; refine (inverse_spec _ _).mono ?_; rintro x w' ⟨rfl, rfl⟩) | (go_at_call 9; refine (isValidX_spec _ _ _).mono ?_; rintro x w' ⟨rfl, rfl⟩))
    go_returns
    exact ⟨rfl, by go_grown⟩
  · have hb : ncB pe r m = true := by unfold ncB; rw [h1, h2, h3, h4]; rfl
    rw [show ncS pe r m = addS r m by unfold ncS; rw [hb]; rfl, show ncE pe r m = invM (powM pe m) by unfold ncE; rw [hb]; rfl, hb]
    clear hb
    go_enter Try.func43, Try.ntmps43
    go_wp2_with (first | (go_at_call 55; refine (base_spec _ _).mono ?_; rintro x w' ⟨rfl, rfl⟩) | (go_at_call 56; refine (secret_spec _ _).mono ?_; rintro x w' ⟨rfl, rfl⟩) | (go_at_call 57; refine (addScalars_spec _ _ _).mono ?_; rintro x w' ⟨rfl, rfl⟩) | (go_at_call 30; refine (powMod_spec _ _ _).mono ?_; rintro x w' ⟨rfl, rfl⟩) | (go_at_call 12; refine (inverse_spec _ _).mono ?_; rintro x w' ⟨rfl, rfl⟩) | (go_at_call 9; refine (isValidX_spec _ _ _).mono ?_; rintro x w' ⟨rfl, rfl⟩))
    go_returns
    exact ⟨rfl, by go_grown⟩
end Go.Proofs.Ytbiipcgiionhpaa.Exch
