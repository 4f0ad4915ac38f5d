/- Contracts of EqualGroupBuffers. -/
import Derived.Test.YthdieeaegplnmaaGb
import Derived.Test.YthdieeaegplnmaaEqB
namespace Go.Proofs.Ythdieeaegplnmaa.Gb
open Go.RowKit
open Go.Proofs.Ythdieeaegplnmaa.Num Go.Proofs.Ythdieeaegplnmaa.Mem Go.Proofs.Ythdieeaegplnmaa.Hsh Go.Proofs.Ythdieeaegplnmaa.Sls Go.Proofs.Ythdieeaegplnmaa.Own Go.Proofs.Ythdieeaegplnmaa.SS Go.Proofs.Ythdieeaegplnmaa.Bcn
set_option linter.unusedSimpArgs false
set_option linter.unusedVariables false
set_option maxHeartbeats 1000000 in
theorem eqgb_impl (pe lo : Int) (A : Option Addr) (n c : Nat) (xs : List (List Int)) (pe' lo' : Int) (B : Option Addr) (m d : Nat) (ys : List (List Int)) (w : World) (hx : RdSS w A n c xs) (hy : RdSS w B m d ys) (bx : AllB xs) (by_ : AllB ys) :
    Calls Try.prog 25 #[.agg #[.int .i64 pe, .slice A n c, .int .i64 lo], .agg #[.int .i64 pe', .slice B m d, .int .i64 lo']] w (Says (pe = pe' ∧ lo = lo' ∧ xs = ys) w) := by
  have HX := Lib.hid hx
  have HY := Lib.hid hy
  have HC := Lib.hid (fun w h1 h2 => eqSS_impl A n c xs B m d ys w h1 h2)
  clear hx hy bx by_
  by_cases h0 : pe = pe'
  · by_cases h1 : lo = lo'
    · subst h0 h1
      by_cases h3 : xs = ys
      · have HD := Lib.hid (decide_eq_true h3)
        have HE := Lib.hid h3
        clear h3
        go_enter Try.func25, Try.ntmps25
        go_wp2_with fail
        refine (HC.out _ ((HX.out.alloc _).alloc _) ((HY.out.alloc _).alloc _)).mono ?_
        rintro x w1 ⟨rfl, hb⟩
        rw [HD.out]
        have HB := Lib.hid (show Below w.heap.size w w1 from Below.trans (by go_grown) (hb.mono (by simp <;> omega)))
        clear hb
        go_wp2
        go_ret
        exact says_yes ⟨rfl, rfl, HE.out⟩ HB.out
      · have HD := Lib.hid (decide_eq_false h3)
        have HE := Lib.hid h3
        clear h3
        go_enter Try.func25, Try.ntmps25
        go_wp2_with fail
        refine (HC.out _ ((HX.out.alloc _).alloc _) ((HY.out.alloc _).alloc _)).mono ?_
        rintro x w1 ⟨rfl, hb⟩
        rw [HD.out]
        have HB := Lib.hid (show Below w.heap.size w w1 from Below.trans (by go_grown) (hb.mono (by simp <;> omega)))
        clear hb
        go_wp2
        go_ret
        exact says_no (fun h => HE.out h.2.2) HB.out
    · have HN := Lib.hid (show ¬ (pe = pe' ∧ lo = lo' ∧ xs = ys) from fun h => h1 h.2.1)
      have e1 : (lo == lo') = false := by simpa using h1
      clear h1
      subst h0
      go_enter Try.func25, Try.ntmps25
      go_wp2
      go_ret
      exact says_no (by simpa using HN.out) (by go_grown)
  · have HN := Lib.hid (show ¬ (pe = pe' ∧ lo = lo' ∧ xs = ys) from fun h => h0 h.1)
    have e0 : (pe == pe') = false := by simpa using h0
    clear h0
    go_enter Try.func25, Try.ntmps25
    go_wp2
    go_ret
    exact says_no (by simpa using HN.out) (by go_grown)
end Go.Proofs.Ythdieeaegplnmaa.Gb
