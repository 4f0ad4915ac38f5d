/- The walks of the laws on NewCommit and ExplainCommit. -/
import Derived.Test.YtjmclnjpfmnkkaaExch5
namespace Go.Proofs.Ytjmclnjpfmnkkaa.LawsY
open Go.RowKit
open Go.Proofs.Ytjmclnjpfmnkkaa.Num Go.Proofs.Ytjmclnjpfmnkkaa.Mem Go.Proofs.Ytjmclnjpfmnkkaa.Hsh Go.Proofs.Ytjmclnjpfmnkkaa.Exch

set_option maxHeartbeats 1000000 in
theorem newCommit_law (pe r m : Int) (w : World) (_h0 : (Lit.int .i64 pe).wf = true) (_h1 : (Lit.int .i64 r).wf = true) (_h2 : (Lit.int .i64 m).wf = true) :
    Calls Try.prog 17 #[.int .i64 pe, .int .i64 r, .int .i64 m] w fun x w' => x = .returned (.bool true) ∧ Below w.heap.size w w' := by
  have B : Below w.heap.size w w := Below.refl _ _
  go_enter Try.func17, Try.ntmps17
  go_wp2_with fail
  refine (newCommit_spec _ _ _ _).mono ?_
  rintro x w1 ⟨rfl, hb0⟩
  replace B := stepW B hb0
  clear hb0
  go_wp2_with fail
  refine (newCommit_impl _ _ _ _).mono ?_
  rintro x w2 ⟨rfl, hb0⟩
  obtain ⟨hc0, hf0⟩ := bcells hb0
  have q0 := hc0 w1.heap.size 0 (by simp)
  have q1 := hc0 w1.heap.size 1 (by simp)
  have z1 : w1.heap.size < w2.heap.size := by have := hb0.size; simp at this; omega
  clear hc0 hf0
  replace B := stepW (B.alloc B.size _) hb0
  simp at q0 q1
  clear hb0
  go_wp2_with fail
  refine (eqCommit_same _ _ _).mono ?_
  rintro x w3 ⟨rfl, hb0⟩
  replace B := stepW (B.alloc B.size _) hb0
  clear hb0
  go_wp2
  go_ret
  exact ⟨rfl, B⟩
set_option maxHeartbeats 1000000 in
theorem explain_law (pe s e : Int) (w : World) (_h0 : (Lit.int .i64 pe).wf = true) (_h1 : (Lit.int .i64 s).wf = true) (_h2 : (Lit.int .i64 e).wf = true) :
    Calls Try.prog 18 #[.int .i64 pe, .agg #[.int .i64 s, .int .i64 e]] w fun x w' => x = .returned (.bool true) ∧ Below w.heap.size w w' := by
  obtain ⟨w0, hW⟩ : ∃ W, W = w.alloc (.cells #[.int .i64 s, .int .i64 e] 36) := ⟨_, rfl⟩
  have q0 : w0.cell? ⟨w.heap.size, 0, none⟩ = some (.int .i64 s) := by rw [hW]; simp
  have q1 : w0.cell? ⟨w.heap.size, 1, none⟩ = some (.int .i64 e) := by rw [hW]; simp
  have B : Below w.heap.size w w0 := by rw [hW]; exact (Below.refl _ _).alloc (Nat.le_refl _) _
  have HW := Lib.hid hW
  clear hW
  go_enter Try.func18, Try.ntmps18
  go_wp2_with fail
  rw [← HW.out]
  clear HW
  refine (toCommit_any s e _).mono ?_
  rintro x w1 ⟨rfl, hb0⟩
  have hb : Below w0.heap.size w0 w1 := Below.trans (by go_grown) (hb0.mono (by first | exact Nat.le_refl _ | (simp; done) | (simp; omega)))
  replace q0 := Mem.lift hb q0; replace q1 := Mem.lift hb q1
  replace B := stepB B hb B.size
  clear hb hb0
  go_wp2_with fail
  refine (explain_spec _ _ _ _).mono ?_
  rintro x w2 ⟨rfl, hb0⟩
  have hb := hb0
  replace q0 := Mem.lift hb q0; replace q1 := Mem.lift hb q1
  replace B := stepB B hb B.size
  clear hb hb0
  go_wp2_with fail
  refine (toCommit_any s e _).mono ?_
  rintro x w3 ⟨rfl, hb⟩
  replace B := stepB B hb B.size
  clear hb
  go_wp2_with fail
  refine (explain_impl _ _ _ _).mono ?_
  rintro x w4 ⟨rfl, hb⟩
  replace B := stepB B hb B.size
  clear hb
  go_wp2
  go_ret
  exact ⟨rfl, B⟩
end Go.Proofs.Ytjmclnjpfmnkkaa.LawsY
