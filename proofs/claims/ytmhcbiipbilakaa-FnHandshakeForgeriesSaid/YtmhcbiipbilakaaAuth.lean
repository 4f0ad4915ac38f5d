/- Contracts of the access point's side: the first message, the third again, convert, compare. -/
import Derived.Test.YtmhcbiipbilakaaHand
import Derived.BigRegion
namespace Go.Proofs.Ytmhcbiipbilakaa.Auth
open Go.RowKit
open Go.Proofs.Ytmhcbiipbilakaa.Num Go.Proofs.Ytmhcbiipbilakaa.Mem Go.Proofs.Ytmhcbiipbilakaa.Hsh Go.Proofs.Ytmhcbiipbilakaa.Keys Go.Proofs.Ytmhcbiipbilakaa.Hand

theorem wrap1 {r : Int} (h1 : 0 ≤ r) (h2 : r ≤ 999999999999) : wrap64 (r + 1) = r + 1 := IntWalk.wrap64_in _ ⟨by omega, by omega⟩
set_option maxHeartbeats 1000000 in
theorem toAu_any (ms no pe re gr wa : Int) (dn : Bool) (w : World) : Calls Try.prog 26 #[.agg #[.int .i64 ms, .int .i64 no, .int .i64 pe, .int .i64 re, .int .i64 gr, .int .i64 wa, .bool dn]] w fun x w' => x = .returned (.agg #[.int .i64 ms, .int .i64 no, .int .i64 pe, .int .i64 re, .int .i64 gr, .int .i64 wa, .bool dn]) ∧ Below w.heap.size w w' := by
  go_enter Try.func26, Try.ntmps26
  go_wp2
  go_returns
  exact ⟨rfl, by go_grown⟩
set_option maxHeartbeats 1000000 in
theorem eqAu_same (ms no pe re gr wa : Int) (dn : Bool) (w : World) : Calls Try.prog 28 #[.agg #[.int .i64 ms, .int .i64 no, .int .i64 pe, .int .i64 re, .int .i64 gr, .int .i64 wa, .bool dn], .agg #[.int .i64 ms, .int .i64 no, .int .i64 pe, .int .i64 re, .int .i64 gr, .int .i64 wa, .bool dn]] w fun x w' => x = .returned (.bool true) ∧ Below w.heap.size w w' := by
  cases dn
  all_goals
    go_enter Try.func28, Try.ntmps28
    go_wp2
    go_ret
    exact ⟨rfl, by go_grown⟩
set_option maxHeartbeats 1000000 in
theorem first_no_impl (ms no pe re gr wa : Int) (dn : Bool) (w : World) (h : re < 0 ∨ 999999999999 < re) : Calls Try.prog 27 #[.agg #[.int .i64 ms, .int .i64 no, .int .i64 pe, .int .i64 re, .int .i64 gr, .int .i64 wa, .bool dn]] w fun x w' => x = .returned (.tuple #[.agg #[.int .i64 ms, .int .i64 no, .int .i64 pe, .int .i64 re, .int .i64 gr, .int .i64 wa, .bool dn], .agg #[.int .i64 0, .int .i64 0, .int .i64 0, .int .i64 0, .int .i64 0]]) ∧ Below w.heap.size w w' := by
  have H := Lib.hid h
  clear h
  go_enter Try.func27, Try.ntmps27
  go_wp2_with (first | (go_at_call 45; refine (in_impl_no _ _ _ _ H.out).mono ?_; rintro x w' ⟨rfl, rfl⟩))
  go_returns
  exact ⟨rfl, by go_grown⟩
set_option maxHeartbeats 1000000 in
theorem first_yes_impl (ms no pe re gr wa : Int) (dn : Bool) (w : World) (h1 : 0 ≤ re) (h2 : re ≤ 999999999999) : Calls Try.prog 27 #[.agg #[.int .i64 ms, .int .i64 no, .int .i64 pe, .int .i64 re, .int .i64 gr, .int .i64 wa, .bool dn]] w fun x w' => x = .returned (.tuple #[.agg #[.int .i64 ms, .int .i64 no, .int .i64 pe, .int .i64 (re + 1), .int .i64 gr, .int .i64 2, .bool false], .agg #[.int .i64 1, .int .i64 (re + 1), .int .i64 no, .int .i64 0, .int .i64 0]]) ∧ Below w.heap.size w w' := by
  have HR := wrap1 h1 h2
  have H1 := Lib.hid h1
  have H2 := Lib.hid h2
  clear h1 h2
  go_enter Try.func27, Try.ntmps27
  go_wp2_with (first | (go_at_call 45; refine (in_impl_yes _ _ _ _ H1.out H2.out).mono ?_; rintro x w' ⟨rfl, rfl⟩))
  go_region
  go_wp2
  go_returns
  exact ⟨rfl, by go_grown⟩
set_option maxHeartbeats 1000000 in
theorem first_no_spec (ms no pe re gr wa : Int) (dn : Bool) (w : World) (h : re < 0 ∨ 999999999999 < re) : Calls Try.prog 25 #[.agg #[.int .i64 ms, .int .i64 no, .int .i64 pe, .int .i64 re, .int .i64 gr, .int .i64 wa, .bool dn]] w fun x w' => x = .returned (.tuple #[.agg #[.int .i64 ms, .int .i64 no, .int .i64 pe, .int .i64 re, .int .i64 gr, .int .i64 wa, .bool dn], .agg #[.int .i64 0, .int .i64 0, .int .i64 0, .int .i64 0, .int .i64 0]]) ∧ Below w.heap.size w w' := by
  have H := Lib.hid h
  clear h
  go_enter Try.func25, Try.ntmps25
  go_wp2_with (first | (go_at_call 44; refine (in_spec_no _ _ _ _ H.out).mono ?_; rintro x w' ⟨rfl, rfl⟩))
  go_returns
  exact ⟨rfl, by go_grown⟩
set_option maxHeartbeats 1000000 in
theorem first_yes_spec (ms no pe re gr wa : Int) (dn : Bool) (w : World) (h1 : 0 ≤ re) (h2 : re ≤ 999999999999) : Calls Try.prog 25 #[.agg #[.int .i64 ms, .int .i64 no, .int .i64 pe, .int .i64 re, .int .i64 gr, .int .i64 wa, .bool dn]] w fun x w' => x = .returned (.tuple #[.agg #[.int .i64 ms, .int .i64 no, .int .i64 pe, .int .i64 (re + 1), .int .i64 gr, .int .i64 2, .bool false], .agg #[.int .i64 1, .int .i64 (re + 1), .int .i64 no, .int .i64 0, .int .i64 0]]) ∧ Below w.heap.size w w' := by
  have HR := wrap1 h1 h2
  have H1 := Lib.hid h1
  have H2 := Lib.hid h2
  clear h1 h2
  go_enter Try.func25, Try.ntmps25
  go_wp2_with (first | (go_at_call 44; refine (in_spec_yes _ _ _ _ H1.out H2.out).mono ?_; rintro x w' ⟨rfl, rfl⟩))
  go_region
  go_wp2
  go_returns
  exact ⟨rfl, by go_grown⟩
end Go.Proofs.Ytmhcbiipbilakaa.Auth
