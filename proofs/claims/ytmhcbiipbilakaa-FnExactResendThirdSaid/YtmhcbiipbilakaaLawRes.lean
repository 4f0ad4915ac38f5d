/- The walk of the law on the third message sent again. -/
import Derived.Test.YtmhcbiipbilakaaHsR
namespace Go.Proofs.Ytmhcbiipbilakaa.Hs
open Go.RowKit
open Go.Proofs.Ytmhcbiipbilakaa.Num Go.Proofs.Ytmhcbiipbilakaa.Mem Go.Proofs.Ytmhcbiipbilakaa.Hsh Go.Proofs.Ytmhcbiipbilakaa.Keys Go.Proofs.Ytmhcbiipbilakaa.Hand Go.Proofs.Ytmhcbiipbilakaa.Auth
set_option linter.unusedSimpArgs false
set_option linter.unusedVariables false
set_option maxHeartbeats 4000000 in
theorem again_core (ms no pe re gr wa : Int) (dn : Bool) (ms' no' pe' re' gr' wa' : Int) (dn' : Bool) (n r c g m : Int) (ok : Bool) (w : World)
    (hspec : ∀ w, Calls Try.prog 29 #[.agg #[.int .i64 ms, .int .i64 no, .int .i64 pe, .int .i64 re, .int .i64 gr, .int .i64 wa, .bool dn]] w fun x w' => x = .returned (.tuple #[.agg #[.int .i64 ms', .int .i64 no', .int .i64 pe', .int .i64 re', .int .i64 gr', .int .i64 wa', .bool dn'], .agg #[.int .i64 n, .int .i64 r, .int .i64 c, .int .i64 g, .int .i64 m], .bool ok]) ∧ Below w.heap.size w w')
    (himpl : ∀ w, Calls Try.prog 30 #[.agg #[.int .i64 ms, .int .i64 no, .int .i64 pe, .int .i64 re, .int .i64 gr, .int .i64 wa, .bool dn]] w fun x w' => x = .returned (.tuple #[.agg #[.int .i64 ms', .int .i64 no', .int .i64 pe', .int .i64 re', .int .i64 gr', .int .i64 wa', .bool dn'], .agg #[.int .i64 n, .int .i64 r, .int .i64 c, .int .i64 g, .int .i64 m], .bool ok]) ∧ Below w.heap.size w w')
    : Calls Try.prog 9 #[.agg #[.int .i64 ms, .int .i64 no, .int .i64 pe, .int .i64 re, .int .i64 gr, .int .i64 wa, .bool dn]] w fun x w' => x = .returned (.bool true) ∧ Below w.heap.size w w' := by
  have HS := Lib.hid hspec
  have HI := Lib.hid himpl
  have B : Below w.heap.size w w := Below.refl _ _
  clear hspec himpl
  go_enter Try.func9, Try.ntmps9
  go_wp2_with fail
  generalize hW : World.alloc _ _ = w0
  have q : Bk.Blk w0 (w.heap.size) 35 #[.int .i64 ms, .int .i64 no, .int .i64 pe, .int .i64 re, .int .i64 gr, .int .i64 wa, .bool dn] := (by rw [← hW]; apply Bk.Blk.to; (focus ((repeat (first | with_reducible assumption | (with_reducible apply Bk.Blk.newAt; focus (first | (simp [Bk.size_set]; done) | (simp [Bk.size_set]; omega))) | with_reducible apply Bk.Blk.drewN | with_reducible apply Bk.Blk.drew | with_reducible apply Bk.Blk.set_ | (with_reducible apply Bk.Blk.far; focus (dsimp only; first | omega | (simp; omega) | (simp; done))) | with_reducible apply Bk.Blk.alloc)))); rfl)
  replace B : Below w.heap.size w w0 := (by rw [← hW]; go_grown)
  have z0 : w0.heap.size = _ := congrArg (fun W : World => W.heap.size) hW.symm
  (try simp only [World.size_alloc, Bk.size_set, World.size_drew, World.drewN] at z0)
  clear hW
  refine (toAu_any ms no pe re gr wa dn _).mono ?_
  rintro x w1 ⟨rfl, hb0⟩
  replace q : Bk.Blk w1 (w.heap.size) 35 #[.int .i64 ms, .int .i64 no, .int .i64 pe, .int .i64 re, .int .i64 gr, .int .i64 wa, .bool dn] := Bk.Blk.under hb0 (by (repeat (first | with_reducible assumption | (with_reducible apply Bk.Blk.newAt; focus (first | (simp [Bk.size_set]; done) | (simp [Bk.size_set]; omega))) | with_reducible apply Bk.Blk.drewN | with_reducible apply Bk.Blk.drew | with_reducible apply Bk.Blk.set_ | (with_reducible apply Bk.Blk.far; focus (dsimp only; first | omega | (simp; omega) | (simp; done))) | with_reducible apply Bk.Blk.alloc)))
  replace B : Below w.heap.size w w1 := Below.trans (by go_grown) (hb0.mono (by first | omega | (simp [Bk.size_set]; done) | (simp [Bk.size_set]; omega)))
  have z1 := hb0.size
  (try simp only [World.size_alloc, Bk.size_set, World.size_drew, World.drewN] at z1)
  clear hb0
  have l_q : w.heap.size < w1.heap.size := Bk.Blk.lt q
  have c_q0 : w1.cell? ⟨w.heap.size, 0, none⟩ = some (.int .i64 ms) := Bk.Blk.cell q 0
  have c_q1 : w1.cell? ⟨w.heap.size, 1, none⟩ = some (.int .i64 no) := Bk.Blk.cell q 1
  have c_q2 : w1.cell? ⟨w.heap.size, 2, none⟩ = some (.int .i64 pe) := Bk.Blk.cell q 2
  have c_q3 : w1.cell? ⟨w.heap.size, 3, none⟩ = some (.int .i64 re) := Bk.Blk.cell q 3
  have c_q4 : w1.cell? ⟨w.heap.size, 4, none⟩ = some (.int .i64 gr) := Bk.Blk.cell q 4
  have c_q5 : w1.cell? ⟨w.heap.size, 5, none⟩ = some (.int .i64 wa) := Bk.Blk.cell q 5
  have c_q6 : w1.cell? ⟨w.heap.size, 6, none⟩ = some (.bool dn) := Bk.Blk.cell q 6
  go_wp2_with fail
  clear l_q c_q0 c_q1 c_q2 c_q3 c_q4 c_q5 c_q6
  refine (HS.out _).mono ?_
  rintro x w2 ⟨rfl, hb0⟩
  replace q : Bk.Blk w2 (w.heap.size) 35 #[.int .i64 ms, .int .i64 no, .int .i64 pe, .int .i64 re, .int .i64 gr, .int .i64 wa, .bool dn] := Bk.Blk.under hb0 (by (repeat (first | with_reducible assumption | (with_reducible apply Bk.Blk.newAt; focus (first | (simp [Bk.size_set]; done) | (simp [Bk.size_set]; omega))) | with_reducible apply Bk.Blk.drewN | with_reducible apply Bk.Blk.drew | with_reducible apply Bk.Blk.set_ | (with_reducible apply Bk.Blk.far; focus (dsimp only; first | omega | (simp; omega) | (simp; done))) | with_reducible apply Bk.Blk.alloc)))
  replace B : Below w.heap.size w w2 := Below.trans (by go_grown) (hb0.mono (by first | omega | (simp [Bk.size_set]; done) | (simp [Bk.size_set]; omega)))
  have z2 := hb0.size
  (try simp only [World.size_alloc, Bk.size_set, World.size_drew, World.drewN] at z2)
  clear hb0
  have l_q : w.heap.size < w2.heap.size := Bk.Blk.lt q
  have c_q0 : w2.cell? ⟨w.heap.size, 0, none⟩ = some (.int .i64 ms) := Bk.Blk.cell q 0
  have c_q1 : w2.cell? ⟨w.heap.size, 1, none⟩ = some (.int .i64 no) := Bk.Blk.cell q 1
  have c_q2 : w2.cell? ⟨w.heap.size, 2, none⟩ = some (.int .i64 pe) := Bk.Blk.cell q 2
  have c_q3 : w2.cell? ⟨w.heap.size, 3, none⟩ = some (.int .i64 re) := Bk.Blk.cell q 3
  have c_q4 : w2.cell? ⟨w.heap.size, 4, none⟩ = some (.int .i64 gr) := Bk.Blk.cell q 4
  have c_q5 : w2.cell? ⟨w.heap.size, 5, none⟩ = some (.int .i64 wa) := Bk.Blk.cell q 5
  have c_q6 : w2.cell? ⟨w.heap.size, 6, none⟩ = some (.bool dn) := Bk.Blk.cell q 6
  go_wp2_with fail
  clear l_q c_q0 c_q1 c_q2 c_q3 c_q4 c_q5 c_q6
  refine (toAu_any ms no pe re gr wa dn _).mono ?_
  rintro x w3 ⟨rfl, hb0⟩
  have s : Bk.Blk w3 (w2.heap.size) 36 #[.int .i64 ms', .int .i64 no', .int .i64 pe', .int .i64 re', .int .i64 gr', .int .i64 wa', .bool dn'] := (by apply Bk.Blk.to; (focus (apply Bk.Blk.under hb0; (repeat (first | with_reducible assumption | (with_reducible apply Bk.Blk.newAt; focus (first | (simp [Bk.size_set]; done) | (simp [Bk.size_set]; omega))) | with_reducible apply Bk.Blk.drewN | with_reducible apply Bk.Blk.drew | with_reducible apply Bk.Blk.set_ | (with_reducible apply Bk.Blk.far; focus (dsimp only; first | omega | (simp; omega) | (simp; done))) | with_reducible apply Bk.Blk.alloc)))); rfl)
  have u : Bk.Blk w3 (w2.heap.size + 1) 29 #[.int .i64 n, .int .i64 r, .int .i64 c, .int .i64 g, .int .i64 m] := (by apply Bk.Blk.to; (focus (apply Bk.Blk.under hb0; (repeat (first | with_reducible assumption | (with_reducible apply Bk.Blk.newAt; focus (first | (simp [Bk.size_set]; done) | (simp [Bk.size_set]; omega))) | with_reducible apply Bk.Blk.drewN | with_reducible apply Bk.Blk.drew | with_reducible apply Bk.Blk.set_ | (with_reducible apply Bk.Blk.far; focus (dsimp only; first | omega | (simp; omega) | (simp; done))) | with_reducible apply Bk.Blk.alloc)))); rfl)
  replace B : Below w.heap.size w w3 := Below.trans (by go_grown) (hb0.mono (by first | omega | (simp [Bk.size_set]; done) | (simp [Bk.size_set]; omega)))
  have z3 := hb0.size
  (try simp only [World.size_alloc, Bk.size_set, World.size_drew, World.drewN] at z3)
  clear hb0
  go_wp2_with fail
  refine (HI.out _).mono ?_
  rintro x w4 ⟨rfl, hb0⟩
  replace s : Bk.Blk w4 (w2.heap.size) 36 #[.int .i64 ms', .int .i64 no', .int .i64 pe', .int .i64 re', .int .i64 gr', .int .i64 wa', .bool dn'] := Bk.Blk.under hb0 (by (repeat (first | with_reducible assumption | (with_reducible apply Bk.Blk.newAt; focus (first | (simp [Bk.size_set]; done) | (simp [Bk.size_set]; omega))) | with_reducible apply Bk.Blk.drewN | with_reducible apply Bk.Blk.drew | with_reducible apply Bk.Blk.set_ | (with_reducible apply Bk.Blk.far; focus (dsimp only; first | omega | (simp; omega) | (simp; done))) | with_reducible apply Bk.Blk.alloc)))
  replace u : Bk.Blk w4 (w2.heap.size + 1) 29 #[.int .i64 n, .int .i64 r, .int .i64 c, .int .i64 g, .int .i64 m] := Bk.Blk.under hb0 (by (repeat (first | with_reducible assumption | (with_reducible apply Bk.Blk.newAt; focus (first | (simp [Bk.size_set]; done) | (simp [Bk.size_set]; omega))) | with_reducible apply Bk.Blk.drewN | with_reducible apply Bk.Blk.drew | with_reducible apply Bk.Blk.set_ | (with_reducible apply Bk.Blk.far; focus (dsimp only; first | omega | (simp; omega) | (simp; done))) | with_reducible apply Bk.Blk.alloc)))
  replace B : Below w.heap.size w w4 := Below.trans (by go_grown) (hb0.mono (by first | omega | (simp [Bk.size_set]; done) | (simp [Bk.size_set]; omega)))
  have z4 := hb0.size
  (try simp only [World.size_alloc, Bk.size_set, World.size_drew, World.drewN] at z4)
  clear hb0
  have l_s : w2.heap.size < w4.heap.size := Bk.Blk.lt s
  have c_s0 : w4.cell? ⟨w2.heap.size, 0, none⟩ = some (.int .i64 ms') := Bk.Blk.cell s 0
  have c_s1 : w4.cell? ⟨w2.heap.size, 1, none⟩ = some (.int .i64 no') := Bk.Blk.cell s 1
  have c_s2 : w4.cell? ⟨w2.heap.size, 2, none⟩ = some (.int .i64 pe') := Bk.Blk.cell s 2
  have c_s3 : w4.cell? ⟨w2.heap.size, 3, none⟩ = some (.int .i64 re') := Bk.Blk.cell s 3
  have c_s4 : w4.cell? ⟨w2.heap.size, 4, none⟩ = some (.int .i64 gr') := Bk.Blk.cell s 4
  have c_s5 : w4.cell? ⟨w2.heap.size, 5, none⟩ = some (.int .i64 wa') := Bk.Blk.cell s 5
  have c_s6 : w4.cell? ⟨w2.heap.size, 6, none⟩ = some (.bool dn') := Bk.Blk.cell s 6
  have l_u : w2.heap.size + 1 < w4.heap.size := Bk.Blk.lt u
  have c_u0 : w4.cell? ⟨w2.heap.size + 1, 0, none⟩ = some (.int .i64 n) := Bk.Blk.cell u 0
  have c_u1 : w4.cell? ⟨w2.heap.size + 1, 1, none⟩ = some (.int .i64 r) := Bk.Blk.cell u 1
  have c_u2 : w4.cell? ⟨w2.heap.size + 1, 2, none⟩ = some (.int .i64 c) := Bk.Blk.cell u 2
  have c_u3 : w4.cell? ⟨w2.heap.size + 1, 3, none⟩ = some (.int .i64 g) := Bk.Blk.cell u 3
  have c_u4 : w4.cell? ⟨w2.heap.size + 1, 4, none⟩ = some (.int .i64 m) := Bk.Blk.cell u 4
  go_wp2_with fail
  clear l_s c_s0 c_s1 c_s2 c_s3 c_s4 c_s5 c_s6 l_u c_u0 c_u1 c_u2 c_u3 c_u4
  refine (eqAu_same ms' no' pe' re' gr' wa' dn' _).mono ?_
  rintro x w5 ⟨rfl, hb0⟩
  replace u : Bk.Blk w5 (w2.heap.size + 1) 29 #[.int .i64 n, .int .i64 r, .int .i64 c, .int .i64 g, .int .i64 m] := Bk.Blk.under hb0 (by (repeat (first | with_reducible assumption | (with_reducible apply Bk.Blk.newAt; focus (first | (simp [Bk.size_set]; done) | (simp [Bk.size_set]; omega))) | with_reducible apply Bk.Blk.drewN | with_reducible apply Bk.Blk.drew | with_reducible apply Bk.Blk.set_ | (with_reducible apply Bk.Blk.far; focus (dsimp only; first | omega | (simp; omega) | (simp; done))) | with_reducible apply Bk.Blk.alloc)))
  have v : Bk.Blk w5 (w4.heap.size + 1) 29 #[.int .i64 n, .int .i64 r, .int .i64 c, .int .i64 g, .int .i64 m] := (by apply Bk.Blk.to; (focus (apply Bk.Blk.under hb0; (repeat (first | with_reducible assumption | (with_reducible apply Bk.Blk.newAt; focus (first | (simp [Bk.size_set]; done) | (simp [Bk.size_set]; omega))) | with_reducible apply Bk.Blk.drewN | with_reducible apply Bk.Blk.drew | with_reducible apply Bk.Blk.set_ | (with_reducible apply Bk.Blk.far; focus (dsimp only; first | omega | (simp; omega) | (simp; done))) | with_reducible apply Bk.Blk.alloc)))); rfl)
  replace B : Below w.heap.size w w5 := Below.trans (by go_grown) (hb0.mono (by first | omega | (simp [Bk.size_set]; done) | (simp [Bk.size_set]; omega)))
  have z5 := hb0.size
  (try simp only [World.size_alloc, Bk.size_set, World.size_drew, World.drewN] at z5)
  clear hb0
  have l_u : w2.heap.size + 1 < w5.heap.size := Bk.Blk.lt u
  have c_u0 : w5.cell? ⟨w2.heap.size + 1, 0, none⟩ = some (.int .i64 n) := Bk.Blk.cell u 0
  have c_u1 : w5.cell? ⟨w2.heap.size + 1, 1, none⟩ = some (.int .i64 r) := Bk.Blk.cell u 1
  have c_u2 : w5.cell? ⟨w2.heap.size + 1, 2, none⟩ = some (.int .i64 c) := Bk.Blk.cell u 2
  have c_u3 : w5.cell? ⟨w2.heap.size + 1, 3, none⟩ = some (.int .i64 g) := Bk.Blk.cell u 3
  have c_u4 : w5.cell? ⟨w2.heap.size + 1, 4, none⟩ = some (.int .i64 m) := Bk.Blk.cell u 4
  have l_v : w4.heap.size + 1 < w5.heap.size := Bk.Blk.lt v
  have c_v0 : w5.cell? ⟨w4.heap.size + 1, 0, none⟩ = some (.int .i64 n) := Bk.Blk.cell v 0
  have c_v1 : w5.cell? ⟨w4.heap.size + 1, 1, none⟩ = some (.int .i64 r) := Bk.Blk.cell v 1
  have c_v2 : w5.cell? ⟨w4.heap.size + 1, 2, none⟩ = some (.int .i64 c) := Bk.Blk.cell v 2
  have c_v3 : w5.cell? ⟨w4.heap.size + 1, 3, none⟩ = some (.int .i64 g) := Bk.Blk.cell v 3
  have c_v4 : w5.cell? ⟨w4.heap.size + 1, 4, none⟩ = some (.int .i64 m) := Bk.Blk.cell v 4
  go_wp2_with fail
  clear l_u c_u0 c_u1 c_u2 c_u3 c_u4 l_v c_v0 c_v1 c_v2 c_v3 c_v4
  refine (eqHM_same n r c g m _).mono ?_
  rintro x w6 ⟨rfl, hb0⟩
  replace B : Below w.heap.size w w6 := Below.trans (by go_grown) (hb0.mono (by first | omega | (simp [Bk.size_set]; done) | (simp [Bk.size_set]; omega)))
  have z6 := hb0.size
  (try simp only [World.size_alloc, Bk.size_set, World.size_drew, World.drewN] at z6)
  clear hb0
  cases ok <;> (go_wp2; go_ret; exact ⟨rfl, B⟩)
theorem again_law (ms no pe re gr wa : Int) (dn : Bool) (w : World) (h0 : (Lit.int .i64 ms).wf = true) (h1 : (Lit.int .i64 no).wf = true) (h2 : (Lit.int .i64 pe).wf = true) (h3 : (Lit.int .i64 re).wf = true) (h4 : (Lit.int .i64 gr).wf = true) (h5 : (Lit.int .i64 wa).wf = true) :
    Calls Try.prog 9 #[.agg #[.int .i64 ms, .int .i64 no, .int .i64 pe, .int .i64 re, .int .i64 gr, .int .i64 wa, .bool dn]] w fun x w' => x = .returned (.bool true) ∧ Below w.heap.size w w' := by
  by_cases h : wa = 4
  · subst h
    by_cases hr : 0 ≤ re ∧ re ≤ 999999999999
    · exact again_core ms no pe re gr 4 dn ms no pe (re + 1) gr 4 dn 3 (re + 1) no (hidM (keyM ms [41, no, pe]) (re + 1) gr) (macM (keyM ms [41, no, pe]) [43, 3, re + 1, no, hidM (keyM ms [41, no, pe]) (re + 1) gr]) true w (fun w => resend_on_spec _ _ _ _ _ _ w (i64_wf h0) (i64_wf h1) (i64_wf h2) (i64_wf h4) hr.1 hr.2) (fun w => resend_on_impl _ _ _ _ _ _ w (i64_wf h0) (i64_wf h1) (i64_wf h2) (i64_wf h4) hr.1 hr.2)
    · exact again_core ms no pe re gr 4 dn ms no pe re gr 4 dn 0 0 0 0 0 false w (fun w => resend_off2_spec _ _ _ _ _ _ w (by omega)) (fun w => resend_off2_impl _ _ _ _ _ _ w (by omega))
  · have h4 : (wa != 4) = true := by simpa using h
    exact again_core ms no pe re gr wa dn ms no pe re gr wa dn 0 0 0 0 0 false w (fun w => resend_off1_spec _ _ _ _ _ _ _ w h4) (fun w => resend_off1_impl _ _ _ _ _ _ _ w h4)
end Go.Proofs.Ytmhcbiipbilakaa.Hs
