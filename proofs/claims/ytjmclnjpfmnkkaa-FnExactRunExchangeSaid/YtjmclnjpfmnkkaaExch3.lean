/- Contracts of the password exchange's functions: new commits, explained commits. -/
import Derived.Test.YtjmclnjpfmnkkaaExch2
import Derived.Test.YtjmclnjpfmnkkaaHash
namespace Go.Proofs.Ytjmclnjpfmnkkaa.Exch
open Go.RowKit
open Go.Proofs.Ytjmclnjpfmnkkaa.Num Go.Proofs.Ytjmclnjpfmnkkaa.Mem Go.Proofs.Ytjmclnjpfmnkkaa.Hsh Go.Proofs.Ytjmclnjpfmnkkaa.Grp

/-- are there a commit for these secrets? its two numbers -/
def ncB (pe r m : Int) : Bool := baseB pe && secB r && secB m && validB (addS r m) (invM (powM pe m))
def ncS (pe r m : Int) : Int := if ncB pe r m = true then addS r m else 0
def ncE (pe r m : Int) : Int := if ncB pe r m = true then invM (powM pe m) else 0

set_option maxHeartbeats 1000000 in
theorem newCommit_impl (pe r m : Int) (w : World) : Calls Try.prog 52 #[.int .i64 pe, .int .i64 r, .int .i64 m] w fun x w' => x = .returned (.tuple #[.agg #[.int .i64 (ncS pe r m), .int .i64 (ncE pe r m)], .bool (ncB pe r m)]) ∧ Below w.heap.size w w' := by
  cases h1 : baseB pe
  · have hb : ncB pe r m = false := by unfold ncB; rw [h1]; rfl
    rw [show ncS pe r m = 0 by unfold ncS; rw [hb]; rfl, show ncE pe r m = 0 by unfold ncE; rw [hb]; rfl, hb]
    clear hb
    go_enter Try.func52, Try.ntmps52
    go_wp2_with (first | (go_at_call 79; refine (base_impl _ _).mono ?_; rintro x w' ⟨rfl, rfl⟩))
    go_returns
    exact ⟨rfl, by go_grown⟩
  cases h2 : secB r
  · have hb : ncB pe r m = false := by unfold ncB; rw [h1, h2]; rfl
    rw [show ncS pe r m = 0 by unfold ncS; rw [hb]; rfl, show ncE pe r m = 0 by unfold ncE; rw [hb]; rfl, hb]
    clear hb
    go_enter Try.func52, Try.ntmps52
    go_wp2_with (first | (go_at_call 79; refine (base_impl _ _).mono ?_; rintro x w' ⟨rfl, rfl⟩) | (go_at_call 82; refine (secret_impl _ _).mono ?_; rintro x w' ⟨rfl, rfl⟩))
    go_returns
    exact ⟨rfl, by go_grown⟩
  cases h3 : secB m
  · have hb : ncB pe r m = false := by unfold ncB; rw [h1, h2, h3]; rfl
    rw [show ncS pe r m = 0 by unfold ncS; rw [hb]; rfl, show ncE pe r m = 0 by unfold ncE; rw [hb]; rfl, hb]
    clear hb
    go_enter Try.func52, Try.ntmps52
    go_wp2_with (first | (go_at_call 79; refine (base_impl _ _).mono ?_; rintro x w' ⟨rfl, rfl⟩) | (go_at_call 82; refine (secret_impl _ _).mono ?_; rintro x w' ⟨rfl, rfl⟩))
    go_returns
    exact ⟨rfl, by go_grown⟩
  cases h4 : validB (addS r m) (invM (powM pe m))
  · have hb : ncB pe r m = false := by unfold ncB; rw [h1, h2, h3, h4]; rfl
    rw [show ncS pe r m = 0 by unfold ncS; rw [hb]; rfl, show ncE pe r m = 0 by unfold ncE; rw [hb]; rfl, hb]
    clear hb
    go_enter Try.func52, Try.ntmps52
    go_wp2_with (first | (go_at_call 79; refine (base_impl _ _).mono ?_; rintro x w' ⟨rfl, rfl⟩) | (go_at_call 82; refine (secret_impl _ _).mono ?_; rintro x w' ⟨rfl, rfl⟩) | (go_at_call 25; refine (addScalars_impl _ _ _).mono ?_; rintro x w' ⟨rfl, rfl⟩) | (go_at_call 29; refine (powMod_impl _ _ _).mono ?_; rintro x w' ⟨rfl, rfl⟩) | (go_at_call 33; refine (inverse_impl _ _).mono ?_; rintro x w' ⟨rfl, rfl⟩) | (go_at_call 46; refine (isValidX_impl _ _ _).mono ?_; rintro x w' ⟨rfl, rfl⟩))
    go_returns
    exact ⟨rfl, by go_grown⟩
  · have hb : ncB pe r m = true := by unfold ncB; rw [h1, h2, h3, h4]; rfl
    rw [show ncS pe r m = addS r m by unfold ncS; rw [hb]; rfl, show ncE pe r m = invM (powM pe m) by unfold ncE; rw [hb]; rfl, hb]
    clear hb
    go_enter Try.func52, Try.ntmps52
    go_wp2_with (first | (go_at_call 79; refine (base_impl _ _).mono ?_; rintro x w' ⟨rfl, rfl⟩) | (go_at_call 82; refine (secret_impl _ _).mono ?_; rintro x w' ⟨rfl, rfl⟩) | (go_at_call 25; refine (addScalars_impl _ _ _).mono ?_; rintro x w' ⟨rfl, rfl⟩) | (go_at_call 29; refine (powMod_impl _ _ _).mono ?_; rintro x w' ⟨rfl, rfl⟩) | (go_at_call 33; refine (inverse_impl _ _).mono ?_; rintro x w' ⟨rfl, rfl⟩) | (go_at_call 46; refine (isValidX_impl _ _ _).mono ?_; rintro x w' ⟨rfl, rfl⟩))
    go_returns
    exact ⟨rfl, by go_grown⟩
set_option maxHeartbeats 1000000 in
theorem newCommit_spec (pe r m : Int) (w : World) : Calls Try.prog 51 #[.int .i64 pe, .int .i64 r, .int .i64 m] w fun x w' => x = .returned (.tuple #[.agg #[.int .i64 (ncS pe r m), .int .i64 (ncE pe r m)], .bool (ncB pe r m)]) ∧ Below w.heap.size w w' := by
  cases h1 : baseB pe
  · have hb : ncB pe r m = false := by unfold ncB; rw [h1]; rfl
    rw [show ncS pe r m = 0 by unfold ncS; rw [hb]; rfl, show ncE pe r m = 0 by unfold ncE; rw [hb]; rfl, hb]
    clear hb
    go_enter Try.func51, Try.ntmps51
    go_wp2_with (first | (go_at_call 80; refine (base_spec _ _).mono ?_; rintro x w' ⟨rfl, rfl⟩))
    go_returns
    exact ⟨rfl, by go_grown⟩
  cases h2 : secB r
  · have hb : ncB pe r m = false := by unfold ncB; rw [h1, h2]; rfl
    rw [show ncS pe r m = 0 by unfold ncS; rw [hb]; rfl, show ncE pe r m = 0 by unfold ncE; rw [hb]; rfl, hb]
    clear hb
    go_enter Try.func51, Try.ntmps51
    go_wp2_with (first | (go_at_call 80; refine (base_spec _ _).mono ?_; rintro x w' ⟨rfl, rfl⟩) | (go_at_call 81; refine (secret_spec _ _).mono ?_; rintro x w' ⟨rfl, rfl⟩))
    go_returns
    exact ⟨rfl, by go_grown⟩
  cases h3 : secB m
  · have hb : ncB pe r m = false := by unfold ncB; rw [h1, h2, h3]; rfl
    rw [show ncS pe r m = 0 by unfold ncS; rw [hb]; rfl, show ncE pe r m = 0 by unfold ncE; rw [hb]; rfl, hb]
    clear hb
    go_enter Try.func51, Try.ntmps51
    go_wp2_with (first | (go_at_call 80; refine (base_spec _ _).mono ?_; rintro x w' ⟨rfl, rfl⟩) | (go_at_call 81; refine (secret_spec _ _).mono ?_; rintro x w' ⟨rfl, rfl⟩))
    go_returns
    exact ⟨rfl, by go_grown⟩
  cases h4 : validB (addS r m) (invM (powM pe m))
  · have hb : ncB pe r m = false := by unfold ncB; rw [h1, h2, h3, h4]; rfl
    rw [show ncS pe r m = 0 by unfold ncS; rw [hb]; rfl, show ncE pe r m = 0 by unfold ncE; rw [hb]; rfl, hb]
    clear hb
    go_enter Try.func51, Try.ntmps51
    go_wp2_with (first | (go_at_call 80; refine (base_spec _ _).mono ?_; rintro x w' ⟨rfl, rfl⟩) | (go_at_call 81; refine (secret_spec _ _).mono ?_; rintro x w' ⟨rfl, rfl⟩) | (go_at_call 24; refine (addScalars_spec _ _ _).mono ?_; rintro x w' ⟨rfl, rfl⟩) | (go_at_call 28; refine (powMod_spec _ _ _).mono ?_; rintro x w' ⟨rfl, rfl⟩) | (go_at_call 32; refine (inverse_spec _ _).mono ?_; rintro x w' ⟨rfl, rfl⟩) | (go_at_call 45; refine (isValidX_spec _ _ _).mono ?_; rintro x w' ⟨rfl, rfl⟩))
    go_returns
    exact ⟨rfl, by go_grown⟩
  · have hb : ncB pe r m = true := by unfold ncB; rw [h1, h2, h3, h4]; rfl
    rw [show ncS pe r m = addS r m by unfold ncS; rw [hb]; rfl, show ncE pe r m = invM (powM pe m) by unfold ncE; rw [hb]; rfl, hb]
    clear hb
    go_enter Try.func51, Try.ntmps51
    go_wp2_with (first | (go_at_call 80; refine (base_spec _ _).mono ?_; rintro x w' ⟨rfl, rfl⟩) | (go_at_call 81; refine (secret_spec _ _).mono ?_; rintro x w' ⟨rfl, rfl⟩) | (go_at_call 24; refine (addScalars_spec _ _ _).mono ?_; rintro x w' ⟨rfl, rfl⟩) | (go_at_call 28; refine (powMod_spec _ _ _).mono ?_; rintro x w' ⟨rfl, rfl⟩) | (go_at_call 32; refine (inverse_spec _ _).mono ?_; rintro x w' ⟨rfl, rfl⟩) | (go_at_call 45; refine (isValidX_spec _ _ _).mono ?_; rintro x w' ⟨rfl, rfl⟩))
    go_returns
    exact ⟨rfl, by go_grown⟩
end Go.Proofs.Ytjmclnjpfmnkkaa.Exch
