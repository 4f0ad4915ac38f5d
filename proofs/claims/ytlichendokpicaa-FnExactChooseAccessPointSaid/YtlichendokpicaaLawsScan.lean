/- The walks of the laws on ScoreOf, IsValidScan, ChooseAccessPoint. -/
import Derived.Test.YtlichendokpicaaScanL
import Derived.Test.YtlichendokpicaaBestS
import Derived.Test.YtlichendokpicaaBestI
import Derived.Test.YtlichendokpicaaValidS
import Derived.Test.YtlichendokpicaaValidI
namespace Go.Proofs.Ytlichendokpicaa.Scn
open Go.RowKit
open Go.Proofs.Ytlichendokpicaa.Num Go.Proofs.Ytlichendokpicaa.Mem Go.Proofs.Ytlichendokpicaa.Sls

theorem score_law (a q l s : Int) (w : World) (_h0 : (Lit.int .i64 a).wf = true) (_h1 : (Lit.int .i64 q).wf = true) (_h2 : (Lit.int .i64 l).wf = true) (_h3 : (Lit.int .i64 s).wf = true) :
    Calls Try.prog 3 #[.agg #[.int .i64 a, .int .i64 q, .int .i64 l, .int .i64 s]] w fun x w' => x = .returned (.bool true) ∧ Below w.heap.size w w' := by
  have H1 := Lib.hid (score_spec a q l s)
  have H2 := Lib.hid (score_impl a q l s)
  have e1 : (scoreM q l != scoreM q l) = false := by simp
  generalize scoreM q l = sc at *
  clear _h0 _h1 _h2 _h3
  obtain ⟨w0, hW⟩ : ∃ W, W = w.alloc (.cells #[.int .i64 a, .int .i64 q, .int .i64 l, .int .i64 s] 23) := ⟨_, rfl⟩
  have q0 : w0.cell? ⟨w.heap.size, 0, none⟩ = some (.int .i64 a) := by rw [hW]; simp [World.cell?_alloc_at]
  have q1 : w0.cell? ⟨w.heap.size, 1, none⟩ = some (.int .i64 q) := by rw [hW]; simp [World.cell?_alloc_at]
  have q2 : w0.cell? ⟨w.heap.size, 2, none⟩ = some (.int .i64 l) := by rw [hW]; simp [World.cell?_alloc_at]
  have q3 : w0.cell? ⟨w.heap.size, 3, none⟩ = some (.int .i64 s) := by rw [hW]; simp [World.cell?_alloc_at]
  have B : Below w.heap.size w w0 := by rw [hW]; exact (Below.refl _ _).alloc (Nat.le_refl _) _
  have HW := Lib.hid hW
  clear hW
  go_enter Try.func3, Try.ntmps3
  go_wp2_with fail
  rw [← HW.out]
  clear HW
  refine (toEnt_any a q l s _).mono ?_
  rintro x w1 ⟨rfl, hb0⟩
  have hb : Below w0.heap.size w0 w1 := Below.trans (by go_grown) (hb0.mono (by first | exact Nat.le_refl _ | (simp; done) | (simp; omega)))
  replace q0 := Mem.lift hb q0; replace q1 := Mem.lift hb q1; replace q2 := Mem.lift hb q2; replace q3 := Mem.lift hb q3
  replace B := stepB B hb B.size
  clear hb hb0
  go_wp2_with fail
  refine (H1.out _).mono ?_
  rintro x w2 ⟨rfl, hb0⟩
  have hb : Below w1.heap.size w1 w2 := Below.trans (by go_grown) (hb0.mono (by first | exact Nat.le_refl _ | (simp; done) | (simp; omega)))
  replace q0 := Mem.lift hb q0; replace q1 := Mem.lift hb q1; replace q2 := Mem.lift hb q2; replace q3 := Mem.lift hb q3
  replace B := stepB B hb B.size
  clear hb hb0
  go_wp2_with fail
  refine (toEnt_any a q l s _).mono ?_
  rintro x w3 ⟨rfl, hb0⟩
  have hb : Below w2.heap.size w2 w3 := Below.trans (by go_grown) (hb0.mono (by first | exact Nat.le_refl _ | (simp; done) | (simp; omega)))
  replace q0 := Mem.lift hb q0; replace q1 := Mem.lift hb q1; replace q2 := Mem.lift hb q2; replace q3 := Mem.lift hb q3
  replace B := stepB B hb B.size
  clear hb hb0
  go_wp2_with fail
  refine (H2.out _).mono ?_
  rintro x w4 ⟨rfl, hb0⟩
  have hb : Below w3.heap.size w3 w4 := Below.trans (by go_grown) (hb0.mono (by first | exact Nat.le_refl _ | (simp; done) | (simp; omega)))
  replace q0 := Mem.lift hb q0; replace q1 := Mem.lift hb q1; replace q2 := Mem.lift hb q2; replace q3 := Mem.lift hb q3
  replace B := stepB B hb B.size
  clear hb hb0
  go_wp2
  go_ret
  exact ⟨rfl, B⟩
set_option maxHeartbeats 1000000 in
theorem valid_law (A : Option Addr) (n c : Nat) (zs : List Int) (w : World) (hr : Rd w 4 A n c (zs.map (Value.int .i64))) :
    Calls Try.prog 4 #[.slice A n c] w fun x w' => x = .returned (.bool true) ∧ Below w.heap.size w w' := by
  have hm : n ≤ 9223372036854775807 := by have h1 := hr.2.1; have h2 := hr.2.2.1; unfold maxLen at h2; omega
  have HR := Lib.hid hr
  clear hr
  by_cases hbig : (1048576 : Int) < n
  · go_enter Try.func4, Try.ntmps4
    go_wp2_with fail
    refine (szScan_any A n c 1048576 _ (by omega) (by omega) hm).mono ?_
    rintro x w0 ⟨rfl, rfl⟩
    rw [if_pos hbig]
    go_wp2
    go_ret
    exact ⟨rfl, Below.refl _ _⟩
  · have hn : n ≤ 2097152 := by omega
    go_enter Try.func4, Try.ntmps4
    go_wp2_with fail
    refine (szScan_any A n c 1048576 _ (by omega) (by omega) hm).mono ?_
    rintro x w0 ⟨rfl, rfl⟩
    rw [if_neg (by omega)]
    go_wp2_with fail
    refine (toScan_any A n c zs _ HR.out hn).mono ?_
    rintro x w1 ⟨A1, c1, rfl, hown, B⟩
    have H1 := Lib.hid (Rd.of_own hown)
    clear hown
    go_wp2_with fail
    refine (valid_spec _ _ _ zs _ H1.out).mono ?_
    rintro x w2 ⟨b, hb0, rfl, hb⟩
    have HV := Lib.hid hb0
    replace B := stepW B hb
    clear hb hb0 H1
    go_wp2_with fail
    refine (toScan_any A n c zs _ (HR.out.below B) hn).mono ?_
    rintro x w3 ⟨A2, c2, rfl, hown, hb⟩
    have H2 := Lib.hid (Rd.of_own hown)
    replace B := stepW B hb
    clear hown hb
    go_wp2_with fail
    refine (valid_impl _ _ _ zs _ H2.out).mono ?_
    rintro x w4 ⟨b2, hb0, rfl, hb⟩
    obtain rfl : b2 = b := by rw [Bool.eq_iff_iff, hb0, HV.out]
    have H3 := Lib.hid (H2.out.below hb)
    replace B := stepW B hb
    clear hb hb0 HV H2
    have e1 : (b2 != b2) = false := by simp
    go_wp2_with fail
    refine (toScan_any A n c zs _ (HR.out.below B) hn).mono ?_
    rintro x w5 ⟨A3, c3, rfl, hown, hb⟩
    have H4 := Lib.hid (Rd.of_own hown)
    have H5 := Lib.hid (H3.out.below hb)
    replace B := stepW B hb
    clear hown hb H3
    go_wp2_with fail
    refine (eqScan_any _ _ _ zs _ _ _ zs _ H5.out H4.out).mono ?_
    rintro x w6 ⟨rfl, hb⟩
    rw [decide_eq_true rfl]
    replace B := stepW B hb
    clear hb H4 H5
    go_wp2
    go_ret
    exact ⟨rfl, B⟩
set_option maxHeartbeats 1000000 in
theorem choose_law (A : Option Addr) (n c : Nat) (zs : List Int) (now win : Int) (w : World) (hr : Rd w 4 A n c (zs.map (Value.int .i64))) (_h1 : (Lit.int .i64 now).wf = true) (_h2 : (Lit.int .i64 win).wf = true) :
    Calls Try.prog 5 #[.slice A n c, .int .i64 now, .int .i64 win] w fun x w' => x = .returned (.bool true) ∧ Below w.heap.size w w' := by
  have hm : n ≤ 9223372036854775807 := by have h1 := hr.2.1; have h2 := hr.2.2.1; unfold maxLen at h2; omega
  have HR := Lib.hid hr
  clear hr _h1 _h2
  by_cases hbig : (1048576 : Int) < n
  · go_enter Try.func5, Try.ntmps5
    go_wp2_with fail
    refine (szScan_any A n c 1048576 _ (by omega) (by omega) hm).mono ?_
    rintro x w0 ⟨rfl, rfl⟩
    rw [if_pos hbig]
    go_wp2
    go_ret
    exact ⟨rfl, Below.refl _ _⟩
  · have hn : n ≤ 2097152 := by omega
    go_enter Try.func5, Try.ntmps5
    go_wp2_with fail
    refine (szScan_any A n c 1048576 _ (by omega) (by omega) hm).mono ?_
    rintro x w0 ⟨rfl, rfl⟩
    rw [if_neg (by omega)]
    go_wp2_with fail
    refine (toScan_any A n c zs _ HR.out hn).mono ?_
    rintro x w1 ⟨A1, c1, rfl, hown, B⟩
    have H1 := Lib.hid (Rd.of_own hown)
    clear hown
    go_wp2_with fail
    refine (choose_spec best_spec _ _ _ zs _ _ _ H1.out).mono ?_
    rintro x w2 ⟨rfl, hb⟩
    replace B := stepW B hb
    clear hb H1
    go_wp2_with fail
    refine (toScan_any A n c zs _ (HR.out.below B) hn).mono ?_
    rintro x w3 ⟨A2, c2, rfl, hown, hb⟩
    have H2 := Lib.hid (Rd.of_own hown)
    replace B := stepW B hb
    clear hown hb
    go_wp2_with fail
    refine (choose_impl best_impl _ _ _ zs _ _ _ H2.out).mono ?_
    rintro x w4 ⟨rfl, hb⟩
    have H3 := Lib.hid (H2.out.below hb)
    replace B := stepW B hb
    clear hb H2
    generalize chooseM zs (wrap64 (now - win)) n = m
    have e1 : (m != m) = false := by simp
    go_wp2_with fail
    refine (toScan_any A n c zs _ (HR.out.below B) hn).mono ?_
    rintro x w5 ⟨A3, c3, rfl, hown, hb⟩
    have H4 := Lib.hid (Rd.of_own hown)
    have H5 := Lib.hid (H3.out.below hb)
    replace B := stepW B hb
    clear hown hb H3
    go_wp2_with fail
    refine (eqScan_any _ _ _ zs _ _ _ zs _ H5.out H4.out).mono ?_
    rintro x w6 ⟨rfl, hb⟩
    rw [decide_eq_true rfl]
    replace B := stepW B hb
    clear hb H4 H5
    go_wp2
    go_ret
    exact ⟨rfl, B⟩
end Go.Proofs.Ytlichendokpicaa.Scn
