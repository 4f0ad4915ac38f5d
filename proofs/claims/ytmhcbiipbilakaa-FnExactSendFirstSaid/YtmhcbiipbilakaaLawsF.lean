/- The walk of the law on the first message. -/
import Derived.Test.YtmhcbiipbilakaaAuth
namespace Go.Proofs.Ytmhcbiipbilakaa.LawsF
open Go.RowKit
open Go.Proofs.Ytmhcbiipbilakaa.Num Go.Proofs.Ytmhcbiipbilakaa.Mem Go.Proofs.Ytmhcbiipbilakaa.Hsh Go.Proofs.Ytmhcbiipbilakaa.Keys Go.Proofs.Ytmhcbiipbilakaa.Hand Go.Proofs.Ytmhcbiipbilakaa.Auth

set_option maxHeartbeats 4000000 in
theorem first_core (ms no pe re gr wa : Int) (dn : Bool) (ms' no' pe' re' gr' wa' : Int) (dn' : Bool) (n r c g m : Int) (w : World)
    (hspec : ∀ w, Calls Try.prog 25 #[.agg #[.int .i64 ms, .int .i64 no, .int .i64 pe, .int .i64 re, .int .i64 gr, .int .i64 wa, .bool dn]] w fun x w' => x = .returned (.tuple #[.agg #[.int .i64 ms', .int .i64 no', .int .i64 pe', .int .i64 re', .int .i64 gr', .int .i64 wa', .bool dn'], .agg #[.int .i64 n, .int .i64 r, .int .i64 c, .int .i64 g, .int .i64 m]]) ∧ Below w.heap.size w w')
    (himpl : ∀ w, Calls Try.prog 27 #[.agg #[.int .i64 ms, .int .i64 no, .int .i64 pe, .int .i64 re, .int .i64 gr, .int .i64 wa, .bool dn]] w fun x w' => x = .returned (.tuple #[.agg #[.int .i64 ms', .int .i64 no', .int .i64 pe', .int .i64 re', .int .i64 gr', .int .i64 wa', .bool dn'], .agg #[.int .i64 n, .int .i64 r, .int .i64 c, .int .i64 g, .int .i64 m]]) ∧ Below w.heap.size w w')
    : Calls Try.prog 8 #[.agg #[.int .i64 ms, .int .i64 no, .int .i64 pe, .int .i64 re, .int .i64 gr, .int .i64 wa, .bool dn]] w fun x w' => x = .returned (.bool true) ∧ Below w.heap.size w w' := by
  obtain ⟨w0, hW⟩ : ∃ W, W = w.alloc (.cells #[.int .i64 ms, .int .i64 no, .int .i64 pe, .int .i64 re, .int .i64 gr, .int .i64 wa, .bool dn] 35) := ⟨_, rfl⟩
  have q0 : w0.cell? ⟨w.heap.size, 0, none⟩ = some (.int .i64 ms) := by rw [hW]; simp [World.cell?_alloc_at]
  have q1 : w0.cell? ⟨w.heap.size, 1, none⟩ = some (.int .i64 no) := by rw [hW]; simp [World.cell?_alloc_at]
  have q2 : w0.cell? ⟨w.heap.size, 2, none⟩ = some (.int .i64 pe) := by rw [hW]; simp [World.cell?_alloc_at]
  have q3 : w0.cell? ⟨w.heap.size, 3, none⟩ = some (.int .i64 re) := by rw [hW]; simp [World.cell?_alloc_at]
  have q4 : w0.cell? ⟨w.heap.size, 4, none⟩ = some (.int .i64 gr) := by rw [hW]; simp [World.cell?_alloc_at]
  have q5 : w0.cell? ⟨w.heap.size, 5, none⟩ = some (.int .i64 wa) := by rw [hW]; simp [World.cell?_alloc_at]
  have q6 : w0.cell? ⟨w.heap.size, 6, none⟩ = some (.bool dn) := by rw [hW]; simp [World.cell?_alloc_at]
  have B : Below w.heap.size w w0 := by rw [hW]; exact (Below.refl _ _).alloc (Nat.le_refl _) _
  have HW := Lib.hid hW
  have HS := Lib.hid hspec
  have HI := Lib.hid himpl
  clear hW hspec himpl
  go_enter Try.func8, Try.ntmps8
  go_wp2_with fail
  rw [← HW.out]
  clear HW
  refine (toAu_any ms no pe re gr wa dn _).mono ?_
  rintro x w1 ⟨rfl, hb0⟩
  have hb : Below w0.heap.size w0 w1 := Below.trans (by go_grown) (hb0.mono (by first | exact Nat.le_refl _ | (simp; done) | (simp; omega)))
  replace q0 := Mem.lift hb q0; replace q1 := Mem.lift hb q1; replace q2 := Mem.lift hb q2; replace q3 := Mem.lift hb q3; replace q4 := Mem.lift hb q4; replace q5 := Mem.lift hb q5; replace q6 := Mem.lift hb q6
  replace B := stepB B hb B.size
  clear hb hb0
  go_wp2_with fail
  refine (HS.out _).mono ?_
  rintro x w2 ⟨rfl, hb0⟩
  have hb : Below w1.heap.size w1 w2 := Below.trans (by go_grown) (hb0.mono (by first | exact Nat.le_refl _ | (simp; done) | (simp; omega)))
  replace q0 := Mem.lift hb q0; replace q1 := Mem.lift hb q1; replace q2 := Mem.lift hb q2; replace q3 := Mem.lift hb q3; replace q4 := Mem.lift hb q4; replace q5 := Mem.lift hb q5; replace q6 := Mem.lift hb q6
  replace B := stepB B hb B.size
  clear hb hb0
  have z2 : w.heap.size < w2.heap.size := World.block_lt_of_cell? w2 _ q0
  go_wp2_with fail
  refine (toAu_any ms no pe re gr wa dn _).mono ?_
  rintro x w3 ⟨rfl, hb0⟩
  obtain ⟨hc0, hf0⟩ := bcells hb0
  have s0 : w3.cell? ⟨w2.heap.size, 0, none⟩ = some (.int .i64 ms') := (hc0 _ _ (by simp <;> omega)).trans (by first | (simp; done) | (simp [World.cell?_alloc_at]; done) | (rw [World.cell?_alloc_old _ _ _ (by simp <;> omega)]; first | (simp; done) | (simp [World.cell?_alloc_at]; done)))
  have s1 : w3.cell? ⟨w2.heap.size, 1, none⟩ = some (.int .i64 no') := (hc0 _ _ (by simp <;> omega)).trans (by first | (simp; done) | (simp [World.cell?_alloc_at]; done) | (rw [World.cell?_alloc_old _ _ _ (by simp <;> omega)]; first | (simp; done) | (simp [World.cell?_alloc_at]; done)))
  have s2 : w3.cell? ⟨w2.heap.size, 2, none⟩ = some (.int .i64 pe') := (hc0 _ _ (by simp <;> omega)).trans (by first | (simp; done) | (simp [World.cell?_alloc_at]; done) | (rw [World.cell?_alloc_old _ _ _ (by simp <;> omega)]; first | (simp; done) | (simp [World.cell?_alloc_at]; done)))
  have s3 : w3.cell? ⟨w2.heap.size, 3, none⟩ = some (.int .i64 re') := (hc0 _ _ (by simp <;> omega)).trans (by first | (simp; done) | (simp [World.cell?_alloc_at]; done) | (rw [World.cell?_alloc_old _ _ _ (by simp <;> omega)]; first | (simp; done) | (simp [World.cell?_alloc_at]; done)))
  have s4 : w3.cell? ⟨w2.heap.size, 4, none⟩ = some (.int .i64 gr') := (hc0 _ _ (by simp <;> omega)).trans (by first | (simp; done) | (simp [World.cell?_alloc_at]; done) | (rw [World.cell?_alloc_old _ _ _ (by simp <;> omega)]; first | (simp; done) | (simp [World.cell?_alloc_at]; done)))
  have s5 : w3.cell? ⟨w2.heap.size, 5, none⟩ = some (.int .i64 wa') := (hc0 _ _ (by simp <;> omega)).trans (by first | (simp; done) | (simp [World.cell?_alloc_at]; done) | (rw [World.cell?_alloc_old _ _ _ (by simp <;> omega)]; first | (simp; done) | (simp [World.cell?_alloc_at]; done)))
  have s6 : w3.cell? ⟨w2.heap.size, 6, none⟩ = some (.bool dn') := (hc0 _ _ (by simp <;> omega)).trans (by first | (simp; done) | (simp [World.cell?_alloc_at]; done) | (rw [World.cell?_alloc_old _ _ _ (by simp <;> omega)]; first | (simp; done) | (simp [World.cell?_alloc_at]; done)))
  have u0 : w3.cell? ⟨w2.heap.size + 1, 0, none⟩ = some (.int .i64 n) := (hc0 _ _ (by simp <;> omega)).trans (by first | (simp; done) | (simp [World.cell?_alloc_at]; done) | (rw [World.cell?_alloc_old _ _ _ (by simp <;> omega)]; first | (simp; done) | (simp [World.cell?_alloc_at]; done)))
  have u1 : w3.cell? ⟨w2.heap.size + 1, 1, none⟩ = some (.int .i64 r) := (hc0 _ _ (by simp <;> omega)).trans (by first | (simp; done) | (simp [World.cell?_alloc_at]; done) | (rw [World.cell?_alloc_old _ _ _ (by simp <;> omega)]; first | (simp; done) | (simp [World.cell?_alloc_at]; done)))
  have u2 : w3.cell? ⟨w2.heap.size + 1, 2, none⟩ = some (.int .i64 c) := (hc0 _ _ (by simp <;> omega)).trans (by first | (simp; done) | (simp [World.cell?_alloc_at]; done) | (rw [World.cell?_alloc_old _ _ _ (by simp <;> omega)]; first | (simp; done) | (simp [World.cell?_alloc_at]; done)))
  have u3 : w3.cell? ⟨w2.heap.size + 1, 3, none⟩ = some (.int .i64 g) := (hc0 _ _ (by simp <;> omega)).trans (by first | (simp; done) | (simp [World.cell?_alloc_at]; done) | (rw [World.cell?_alloc_old _ _ _ (by simp <;> omega)]; first | (simp; done) | (simp [World.cell?_alloc_at]; done)))
  have u4 : w3.cell? ⟨w2.heap.size + 1, 4, none⟩ = some (.int .i64 m) := (hc0 _ _ (by simp <;> omega)).trans (by first | (simp; done) | (simp [World.cell?_alloc_at]; done) | (rw [World.cell?_alloc_old _ _ _ (by simp <;> omega)]; first | (simp; done) | (simp [World.cell?_alloc_at]; done)))
  have hb : Below w2.heap.size w2 w3 := Below.trans (by go_grown) (hb0.mono (by simp <;> omega))
  replace B := stepB B hb B.size
  clear hb hb0 hc0 hf0 q0 q1 q2 q3 q4 q5 q6
  go_wp2_with fail
  refine (HI.out _).mono ?_
  rintro x w4 ⟨rfl, hb⟩
  replace s0 := Mem.lift hb s0; replace s1 := Mem.lift hb s1; replace s2 := Mem.lift hb s2; replace s3 := Mem.lift hb s3; replace s4 := Mem.lift hb s4; replace s5 := Mem.lift hb s5; replace s6 := Mem.lift hb s6; replace u0 := Mem.lift hb u0; replace u1 := Mem.lift hb u1; replace u2 := Mem.lift hb u2; replace u3 := Mem.lift hb u3; replace u4 := Mem.lift hb u4
  replace B := stepB B hb B.size
  clear hb
  have z4 : w2.heap.size + 1 < w4.heap.size := World.block_lt_of_cell? w4 _ u0
  have z5 : w2.heap.size < w4.heap.size := World.block_lt_of_cell? w4 _ s0
  go_wp2_with fail
  refine (eqAu_same ms' no' pe' re' gr' wa' dn' _).mono ?_
  rintro x w5 ⟨rfl, hb0⟩
  obtain ⟨hc0, hf0⟩ := bcells hb0
  have v0 : w5.cell? ⟨w4.heap.size + 1, 0, none⟩ = some (.int .i64 n) := (hc0 _ _ (by simp <;> omega)).trans (by first | (simp; done) | (simp [World.cell?_alloc_at]; done) | (rw [World.cell?_alloc_old _ _ _ (by simp <;> omega)]; first | (simp; done) | (simp [World.cell?_alloc_at]; done)))
  have v1 : w5.cell? ⟨w4.heap.size + 1, 1, none⟩ = some (.int .i64 r) := (hc0 _ _ (by simp <;> omega)).trans (by first | (simp; done) | (simp [World.cell?_alloc_at]; done) | (rw [World.cell?_alloc_old _ _ _ (by simp <;> omega)]; first | (simp; done) | (simp [World.cell?_alloc_at]; done)))
  have v2 : w5.cell? ⟨w4.heap.size + 1, 2, none⟩ = some (.int .i64 c) := (hc0 _ _ (by simp <;> omega)).trans (by first | (simp; done) | (simp [World.cell?_alloc_at]; done) | (rw [World.cell?_alloc_old _ _ _ (by simp <;> omega)]; first | (simp; done) | (simp [World.cell?_alloc_at]; done)))
  have v3 : w5.cell? ⟨w4.heap.size + 1, 3, none⟩ = some (.int .i64 g) := (hc0 _ _ (by simp <;> omega)).trans (by first | (simp; done) | (simp [World.cell?_alloc_at]; done) | (rw [World.cell?_alloc_old _ _ _ (by simp <;> omega)]; first | (simp; done) | (simp [World.cell?_alloc_at]; done)))
  have v4 : w5.cell? ⟨w4.heap.size + 1, 4, none⟩ = some (.int .i64 m) := (hc0 _ _ (by simp <;> omega)).trans (by first | (simp; done) | (simp [World.cell?_alloc_at]; done) | (rw [World.cell?_alloc_old _ _ _ (by simp <;> omega)]; first | (simp; done) | (simp [World.cell?_alloc_at]; done)))
  have hb : Below w4.heap.size w4 w5 := Below.trans (by go_grown) (hb0.mono (by simp <;> omega))
  replace u0 := Mem.lift hb u0; replace u1 := Mem.lift hb u1; replace u2 := Mem.lift hb u2; replace u3 := Mem.lift hb u3; replace u4 := Mem.lift hb u4
  replace B := stepB B hb B.size
  clear hb hb0 hc0 hf0
  go_wp2_with fail
  refine (eqHM_same n r c g m _).mono ?_
  rintro x w6 ⟨rfl, hb0⟩
  replace B := stepB B hb0 B.size
  clear hb0
  go_wp2
  go_ret
  exact ⟨rfl, B⟩
theorem first_law (ms no pe re gr wa : Int) (dn : Bool) (w : World) (_h0 : (Lit.int .i64 ms).wf = true) (_h1 : (Lit.int .i64 no).wf = true) (_h2 : (Lit.int .i64 pe).wf = true) (_h3 : (Lit.int .i64 re).wf = true) (_h4 : (Lit.int .i64 gr).wf = true) (_h5 : (Lit.int .i64 wa).wf = true) :
    Calls Try.prog 8 #[.agg #[.int .i64 ms, .int .i64 no, .int .i64 pe, .int .i64 re, .int .i64 gr, .int .i64 wa, .bool dn]] w fun x w' => x = .returned (.bool true) ∧ Below w.heap.size w w' := by
  by_cases h : 0 ≤ re ∧ re ≤ 999999999999
  · exact first_core ms no pe re gr wa dn ms no pe (re + 1) gr 2 false 1 (re + 1) no 0 0 w (fun w => first_yes_spec _ _ _ _ _ _ _ w h.1 h.2) (fun w => first_yes_impl _ _ _ _ _ _ _ w h.1 h.2)
  · exact first_core ms no pe re gr wa dn ms no pe re gr wa dn 0 0 0 0 0 w (fun w => first_no_spec _ _ _ _ _ _ _ w (by omega)) (fun w => first_no_impl _ _ _ _ _ _ _ w (by omega))
end Go.Proofs.Ytmhcbiipbilakaa.LawsF
