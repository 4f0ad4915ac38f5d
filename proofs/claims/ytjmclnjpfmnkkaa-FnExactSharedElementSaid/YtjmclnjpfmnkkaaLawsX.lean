/- The walks of the laws on the exchange's small functions. -/
import Derived.Test.YtjmclnjpfmnkkaaExch2
namespace Go.Proofs.Ytjmclnjpfmnkkaa.LawsX
open Go.RowKit
open Go.Proofs.Ytjmclnjpfmnkkaa.Num Go.Proofs.Ytjmclnjpfmnkkaa.Mem Go.Proofs.Ytjmclnjpfmnkkaa.Hsh Go.Proofs.Ytjmclnjpfmnkkaa.Exch

set_option maxHeartbeats 1000000 in
theorem valid_law (s e : Int) (w : World) (_h1 : (Lit.int .i64 s).wf = true) (_h2 : (Lit.int .i64 e).wf = true) :
    Calls Try.prog 14 #[.agg #[.int .i64 s, .int .i64 e]] w fun x w' => x = .returned (.bool true) ∧ Below w.heap.size w w' := by
  obtain ⟨w0, hW⟩ : ∃ W, W = w.alloc (.cells #[.int .i64 s, .int .i64 e] 36) := ⟨_, rfl⟩
  have q0 : w0.cell? ⟨w.heap.size, 0, none⟩ = some (.int .i64 s) := by rw [hW]; simp [World.cell?_alloc_at]
  have q1 : w0.cell? ⟨w.heap.size, 1, none⟩ = some (.int .i64 e) := by rw [hW]; simp [World.cell?_alloc_at]
  have B : Below w.heap.size w w0 := by rw [hW]; exact (Below.refl _ _).alloc (Nat.le_refl _) _
  have HW := Lib.hid hW
  clear hW
  go_enter Try.func14, Try.ntmps14
  go_wp2_with fail
  rw [← HW.out]
  clear HW
  refine (toCommit_any s e _).mono ?_
  rintro x w1 ⟨rfl, hb0⟩
  have hb : Below w0.heap.size w0 w1 := Below.trans (by go_grown) (hb0.mono (by first | exact Nat.le_refl _ | (simp; done) | (simp; omega)))
  replace q0 := Mem.lift hb q0; replace q1 := Mem.lift hb q1
  replace B := stepB B hb B.size
  clear hb hb0
  go_wp2_with fail
  refine (isValidCommit_spec s e _).mono ?_
  rintro x w2 ⟨rfl, hb0⟩
  have hb : Below w1.heap.size w1 w2 := Below.trans (by go_grown) (hb0.mono (by first | exact Nat.le_refl _ | (simp; done) | (simp; omega)))
  replace q0 := Mem.lift hb q0; replace q1 := Mem.lift hb q1
  replace B := stepB B hb B.size
  clear hb hb0
  go_wp2_with fail
  refine (toCommit_any s e _).mono ?_
  rintro x w3 ⟨rfl, hb0⟩
  have hb : Below w2.heap.size w2 w3 := Below.trans (by go_grown) (hb0.mono (by first | exact Nat.le_refl _ | (simp; done) | (simp; omega)))
  replace q0 := Mem.lift hb q0; replace q1 := Mem.lift hb q1
  replace B := stepB B hb B.size
  clear hb hb0
  go_wp2_with fail
  refine (isValidCommit_impl s e _).mono ?_
  rintro x w4 ⟨rfl, hb0⟩
  have hb : Below w3.heap.size w3 w4 := Below.trans (by go_grown) (hb0.mono (by first | exact Nat.le_refl _ | (simp; done) | (simp; omega)))
  replace q0 := Mem.lift hb q0; replace q1 := Mem.lift hb q1
  replace B := stepB B hb B.size
  clear hb hb0
  go_wp2
  go_ret
  exact ⟨rfl, B⟩
set_option maxHeartbeats 1000000 in
theorem confirm_law (sh s e s2 e2 : Int) (w : World) (h0 : (Lit.int .i64 sh).wf = true) (_h1 : (Lit.int .i64 s).wf = true) (_h2 : (Lit.int .i64 e).wf = true) (_h3 : (Lit.int .i64 s2).wf = true) (_h4 : (Lit.int .i64 e2).wf = true) :
    Calls Try.prog 13 #[.int .i64 sh, .agg #[.int .i64 s, .int .i64 e], .agg #[.int .i64 s2, .int .i64 e2]] w fun x w' => x = .returned (.bool true) ∧ Below w.heap.size w w' := by
  obtain ⟨w0, hW⟩ : ∃ W, W = (w.alloc (.cells #[.int .i64 s, .int .i64 e] 36)).alloc (.cells #[.int .i64 s2, .int .i64 e2] 36) := ⟨_, rfl⟩
  have q0 : w0.cell? ⟨w.heap.size, 0, none⟩ = some (.int .i64 s) := by rw [hW]; simp
  have q1 : w0.cell? ⟨w.heap.size, 1, none⟩ = some (.int .i64 e) := by rw [hW]; simp
  have q2 : w0.cell? ⟨w.heap.size + 1, 0, none⟩ = some (.int .i64 s2) := by rw [hW]; simp [World.cell?_alloc_at]
  have q3 : w0.cell? ⟨w.heap.size + 1, 1, none⟩ = some (.int .i64 e2) := by rw [hW]; simp [World.cell?_alloc_at]
  have B : Below w.heap.size w w0 := by rw [hW]; exact ((Below.refl _ _).alloc (Nat.le_refl _) _).alloc (by simp) _
  have HW := Lib.hid hW
  have H0 := Lib.hid (i64_wf h0)
  have H1 := Lib.hid (i64_wf _h1)
  have H2 := Lib.hid (i64_wf _h2)
  have H3 := Lib.hid (i64_wf _h3)
  have H4 := Lib.hid (i64_wf _h4)
  clear hW h0 _h1 _h2 _h3 _h4
  go_enter Try.func13, Try.ntmps13
  go_wp2_with fail
  rw [← HW.out]
  clear HW
  go_region_held3 (fun w' => w'.cell? ⟨w.heap.size, 0, none⟩ = some (.int .i64 s) ∧ w'.cell? ⟨w.heap.size, 1, none⟩ = some (.int .i64 e) ∧ w'.cell? ⟨w.heap.size + 1, 0, none⟩ = some (.int .i64 s2) ∧ w'.cell? ⟨w.heap.size + 1, 1, none⟩ = some (.int .i64 e2)) (go_keep) (first | (go_at_call 43; refine (toCommit_any _ _ _).mono ?_; rintro x wn ⟨rfl, hb0⟩; replace q0 := Mem.lift hb0 q0; replace q1 := Mem.lift hb0 q1; replace q2 := Mem.lift hb0 q2; replace q3 := Mem.lift hb0 q3; replace B := (by first | exact stepB B hb0 B.size | exact stepB B.drew hb0 B.size | exact stepB (B.trans (by go_grown)) hb0 (by have := B.size; simp; omega)); clear hb0) | (go_at_call 42; refine (confirm_spec sh s e s2 e2 _ H0.out H1.out H2.out H3.out H4.out).mono ?_; rintro x wn ⟨rfl, hb0⟩; replace q0 := Mem.lift hb0 q0; replace q1 := Mem.lift hb0 q1; replace q2 := Mem.lift hb0 q2; replace q3 := Mem.lift hb0 q3; replace B := (by first | exact stepB B hb0 B.size | exact stepB B.drew hb0 B.size | exact stepB (B.trans (by go_grown)) hb0 (by have := B.size; simp; omega)); clear hb0) | (go_at_call 44; refine (confirm_impl sh s e s2 e2 _ H0.out H1.out H2.out H3.out H4.out).mono ?_; rintro x wn ⟨rfl, hb0⟩; replace q0 := Mem.lift hb0 q0; replace q1 := Mem.lift hb0 q1; replace q2 := Mem.lift hb0 q2; replace q3 := Mem.lift hb0 q3; replace B := (by first | exact stepB B hb0 B.size | exact stepB B.drew hb0 B.size | exact stepB (B.trans (by go_grown)) hb0 (by have := B.size; simp; omega)); clear hb0))
  go_wp2
  go_region_held3 (fun w' => w'.cell? ⟨w.heap.size, 0, none⟩ = some (.int .i64 s) ∧ w'.cell? ⟨w.heap.size, 1, none⟩ = some (.int .i64 e) ∧ w'.cell? ⟨w.heap.size + 1, 0, none⟩ = some (.int .i64 s2) ∧ w'.cell? ⟨w.heap.size + 1, 1, none⟩ = some (.int .i64 e2)) (go_keep) (first | (go_at_call 43; refine (toCommit_any _ _ _).mono ?_; rintro x wn ⟨rfl, hb0⟩; replace q0 := Mem.lift hb0 q0; replace q1 := Mem.lift hb0 q1; replace q2 := Mem.lift hb0 q2; replace q3 := Mem.lift hb0 q3; replace B := (by first | exact stepB B hb0 B.size | exact stepB B.drew hb0 B.size | exact stepB (B.trans (by go_grown)) hb0 (by have := B.size; simp; omega)); clear hb0) | (go_at_call 42; refine (confirm_spec sh s e s2 e2 _ H0.out H1.out H2.out H3.out H4.out).mono ?_; rintro x wn ⟨rfl, hb0⟩; replace q0 := Mem.lift hb0 q0; replace q1 := Mem.lift hb0 q1; replace q2 := Mem.lift hb0 q2; replace q3 := Mem.lift hb0 q3; replace B := (by first | exact stepB B hb0 B.size | exact stepB B.drew hb0 B.size | exact stepB (B.trans (by go_grown)) hb0 (by have := B.size; simp; omega)); clear hb0) | (go_at_call 44; refine (confirm_impl sh s e s2 e2 _ H0.out H1.out H2.out H3.out H4.out).mono ?_; rintro x wn ⟨rfl, hb0⟩; replace q0 := Mem.lift hb0 q0; replace q1 := Mem.lift hb0 q1; replace q2 := Mem.lift hb0 q2; replace q3 := Mem.lift hb0 q3; replace B := (by first | exact stepB B hb0 B.size | exact stepB B.drew hb0 B.size | exact stepB (B.trans (by go_grown)) hb0 (by have := B.size; simp; omega)); clear hb0))
  go_wp2
  go_ret
  exact ⟨rfl, B⟩
set_option maxHeartbeats 1000000 in
theorem master_law (sh s e s2 e2 : Int) (w : World) (h0 : (Lit.int .i64 sh).wf = true) (_h1 : (Lit.int .i64 s).wf = true) (_h2 : (Lit.int .i64 e).wf = true) (_h3 : (Lit.int .i64 s2).wf = true) (_h4 : (Lit.int .i64 e2).wf = true) :
    Calls Try.prog 16 #[.int .i64 sh, .agg #[.int .i64 s, .int .i64 e], .agg #[.int .i64 s2, .int .i64 e2]] w fun x w' => x = .returned (.bool true) ∧ Below w.heap.size w w' := by
  obtain ⟨w0, hW⟩ : ∃ W, W = (w.alloc (.cells #[.int .i64 s, .int .i64 e] 36)).alloc (.cells #[.int .i64 s2, .int .i64 e2] 36) := ⟨_, rfl⟩
  have q0 : w0.cell? ⟨w.heap.size, 0, none⟩ = some (.int .i64 s) := by rw [hW]; simp
  have q1 : w0.cell? ⟨w.heap.size, 1, none⟩ = some (.int .i64 e) := by rw [hW]; simp
  have q2 : w0.cell? ⟨w.heap.size + 1, 0, none⟩ = some (.int .i64 s2) := by rw [hW]; simp [World.cell?_alloc_at]
  have q3 : w0.cell? ⟨w.heap.size + 1, 1, none⟩ = some (.int .i64 e2) := by rw [hW]; simp [World.cell?_alloc_at]
  have B : Below w.heap.size w w0 := by rw [hW]; exact ((Below.refl _ _).alloc (Nat.le_refl _) _).alloc (by simp) _
  have HW := Lib.hid hW
  have H0 := Lib.hid (i64_wf h0)
  have H1 := Lib.hid (i64_wf _h1)
  have H2 := Lib.hid (i64_wf _h2)
  have H3 := Lib.hid (i64_wf _h3)
  have H4 := Lib.hid (i64_wf _h4)
  clear hW h0 _h1 _h2 _h3 _h4
  go_enter Try.func16, Try.ntmps16
  go_wp2_with fail
  rw [← HW.out]
  clear HW
  go_region_held3 (fun w' => w'.cell? ⟨w.heap.size, 0, none⟩ = some (.int .i64 s) ∧ w'.cell? ⟨w.heap.size, 1, none⟩ = some (.int .i64 e) ∧ w'.cell? ⟨w.heap.size + 1, 0, none⟩ = some (.int .i64 s2) ∧ w'.cell? ⟨w.heap.size + 1, 1, none⟩ = some (.int .i64 e2)) (go_keep) (first | (go_at_call 43; refine (toCommit_any _ _ _).mono ?_; rintro x wn ⟨rfl, hb0⟩; replace q0 := Mem.lift hb0 q0; replace q1 := Mem.lift hb0 q1; replace q2 := Mem.lift hb0 q2; replace q3 := Mem.lift hb0 q3; replace B := (by first | exact stepB B hb0 B.size | exact stepB B.drew hb0 B.size | exact stepB (B.trans (by go_grown)) hb0 (by have := B.size; simp; omega)); clear hb0) | (go_at_call 49; refine (master_spec sh s e s2 e2 _ H0.out).mono ?_; rintro x wn ⟨rfl, hb0⟩; replace q0 := Mem.lift hb0 q0; replace q1 := Mem.lift hb0 q1; replace q2 := Mem.lift hb0 q2; replace q3 := Mem.lift hb0 q3; replace B := (by first | exact stepB B hb0 B.size | exact stepB B.drew hb0 B.size | exact stepB (B.trans (by go_grown)) hb0 (by have := B.size; simp; omega)); clear hb0) | (go_at_call 50; refine (master_impl sh s e s2 e2 _ H0.out).mono ?_; rintro x wn ⟨rfl, hb0⟩; replace q0 := Mem.lift hb0 q0; replace q1 := Mem.lift hb0 q1; replace q2 := Mem.lift hb0 q2; replace q3 := Mem.lift hb0 q3; replace B := (by first | exact stepB B hb0 B.size | exact stepB B.drew hb0 B.size | exact stepB (B.trans (by go_grown)) hb0 (by have := B.size; simp; omega)); clear hb0))
  go_wp2
  go_region_held3 (fun w' => w'.cell? ⟨w.heap.size, 0, none⟩ = some (.int .i64 s) ∧ w'.cell? ⟨w.heap.size, 1, none⟩ = some (.int .i64 e) ∧ w'.cell? ⟨w.heap.size + 1, 0, none⟩ = some (.int .i64 s2) ∧ w'.cell? ⟨w.heap.size + 1, 1, none⟩ = some (.int .i64 e2)) (go_keep) (first | (go_at_call 43; refine (toCommit_any _ _ _).mono ?_; rintro x wn ⟨rfl, hb0⟩; replace q0 := Mem.lift hb0 q0; replace q1 := Mem.lift hb0 q1; replace q2 := Mem.lift hb0 q2; replace q3 := Mem.lift hb0 q3; replace B := (by first | exact stepB B hb0 B.size | exact stepB B.drew hb0 B.size | exact stepB (B.trans (by go_grown)) hb0 (by have := B.size; simp; omega)); clear hb0) | (go_at_call 49; refine (master_spec sh s e s2 e2 _ H0.out).mono ?_; rintro x wn ⟨rfl, hb0⟩; replace q0 := Mem.lift hb0 q0; replace q1 := Mem.lift hb0 q1; replace q2 := Mem.lift hb0 q2; replace q3 := Mem.lift hb0 q3; replace B := (by first | exact stepB B hb0 B.size | exact stepB B.drew hb0 B.size | exact stepB (B.trans (by go_grown)) hb0 (by have := B.size; simp; omega)); clear hb0) | (go_at_call 50; refine (master_impl sh s e s2 e2 _ H0.out).mono ?_; rintro x wn ⟨rfl, hb0⟩; replace q0 := Mem.lift hb0 q0; replace q1 := Mem.lift hb0 q1; replace q2 := Mem.lift hb0 q2; replace q3 := Mem.lift hb0 q3; replace B := (by first | exact stepB B hb0 B.size | exact stepB B.drew hb0 B.size | exact stepB (B.trans (by go_grown)) hb0 (by have := B.size; simp; omega)); clear hb0))
  go_wp2
  go_ret
  exact ⟨rfl, B⟩
set_option maxHeartbeats 1000000 in
theorem shared_law (pe r s e : Int) (w : World) (_h0 : (Lit.int .i64 pe).wf = true) (_h3 : (Lit.int .i64 r).wf = true) (_h1 : (Lit.int .i64 s).wf = true) (_h2 : (Lit.int .i64 e).wf = true) :
    Calls Try.prog 15 #[.int .i64 pe, .int .i64 r, .agg #[.int .i64 s, .int .i64 e]] w fun x w' => x = .returned (.bool true) ∧ Below w.heap.size w w' := by
  obtain ⟨w0, hW⟩ : ∃ W, W = w.alloc (.cells #[.int .i64 s, .int .i64 e] 36) := ⟨_, rfl⟩
  have q0 : w0.cell? ⟨w.heap.size, 0, none⟩ = some (.int .i64 s) := by rw [hW]; simp [World.cell?_alloc_at]
  have q1 : w0.cell? ⟨w.heap.size, 1, none⟩ = some (.int .i64 e) := by rw [hW]; simp [World.cell?_alloc_at]
  have B : Below w.heap.size w w0 := by rw [hW]; exact (Below.refl _ _).alloc (Nat.le_refl _) _
  have HW := Lib.hid hW
  clear hW
  go_enter Try.func15, Try.ntmps15
  go_wp2_with fail
  rw [← HW.out]
  clear HW
  refine (toCommit_any s e _).mono ?_
  rintro x w1 ⟨rfl, hb0⟩
  have hb : Below w0.heap.size w0 w1 := Below.trans (by go_grown) (hb0.mono (by first | exact Nat.le_refl _ | (simp; done) | (simp; omega)))
  replace q0 := Mem.lift hb q0; replace q1 := Mem.lift hb q1
  replace B := stepB B hb B.size
  clear hb hb0
  go_wp2_with fail
  refine (shared_spec pe r s e _).mono ?_
  rintro x w2 ⟨rfl, hb0⟩
  have hb : Below w1.heap.size w1 w2 := Below.trans (by go_grown) (hb0.mono (by first | exact Nat.le_refl _ | (simp; done) | (simp; omega)))
  replace q0 := Mem.lift hb q0; replace q1 := Mem.lift hb q1
  replace B := stepB B hb B.size
  clear hb hb0
  go_wp2_with fail
  refine (toCommit_any s e _).mono ?_
  rintro x w3 ⟨rfl, hb0⟩
  have hb : Below w2.heap.size w2 w3 := Below.trans (by go_grown) (hb0.mono (by first | exact Nat.le_refl _ | (simp; done) | (simp; omega)))
  replace q0 := Mem.lift hb q0; replace q1 := Mem.lift hb q1
  replace B := stepB B hb B.size
  clear hb hb0
  go_wp2_with fail
  refine (shared_impl pe r s e _).mono ?_
  rintro x w4 ⟨rfl, hb0⟩
  have hb : Below w3.heap.size w3 w4 := Below.trans (by go_grown) (hb0.mono (by first | exact Nat.le_refl _ | (simp; done) | (simp; omega)))
  replace q0 := Mem.lift hb q0; replace q1 := Mem.lift hb q1
  replace B := stepB B hb B.size
  clear hb hb0
  go_wp2
  go_ret
  exact ⟨rfl, B⟩
end Go.Proofs.Ytjmclnjpfmnkkaa.LawsX
