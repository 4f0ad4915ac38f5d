/- The walk of the law on signed messages. -/
import Derived.Test.YtmhcbiipbilakaaHand
namespace Go.Proofs.Ytmhcbiipbilakaa.LawsH
open Go.RowKit
open Go.Proofs.Ytmhcbiipbilakaa.Num Go.Proofs.Ytmhcbiipbilakaa.Mem Go.Proofs.Ytmhcbiipbilakaa.Hsh Go.Proofs.Ytmhcbiipbilakaa.Keys Go.Proofs.Ytmhcbiipbilakaa.Hand

theorem sign_law (k n r c g m : Int) (w : World) (hk : (Lit.int .i64 k).wf = true) (hn : (Lit.int .i64 n).wf = true) (hr : (Lit.int .i64 r).wf = true) (hc : (Lit.int .i64 c).wf = true) (hg : (Lit.int .i64 g).wf = true) (_hm : (Lit.int .i64 m).wf = true) :
    Calls Try.prog 7 #[.int .i64 k, .agg #[.int .i64 n, .int .i64 r, .int .i64 c, .int .i64 g, .int .i64 m]] w fun x w' => x = .returned (.bool true) ∧ Below w.heap.size w w' := by
  have H0 := Lib.hid (i64_wf hk)
  have H1 := Lib.hid (i64_wf hn)
  have H2 := Lib.hid (i64_wf hr)
  have H3 := Lib.hid (i64_wf hc)
  have H4 := Lib.hid (i64_wf hg)
  clear hk hn hr hc hg
  obtain ⟨w0, hW⟩ : ∃ W, W = w.alloc (.cells #[.int .i64 n, .int .i64 r, .int .i64 c, .int .i64 g, .int .i64 m] 27) := ⟨_, rfl⟩
  have q0 : w0.cell? ⟨w.heap.size, 0, none⟩ = some (.int .i64 n) := by rw [hW]; simp [World.cell?_alloc_at]
  have q1 : w0.cell? ⟨w.heap.size, 1, none⟩ = some (.int .i64 r) := by rw [hW]; simp [World.cell?_alloc_at]
  have q2 : w0.cell? ⟨w.heap.size, 2, none⟩ = some (.int .i64 c) := by rw [hW]; simp [World.cell?_alloc_at]
  have q3 : w0.cell? ⟨w.heap.size, 3, none⟩ = some (.int .i64 g) := by rw [hW]; simp [World.cell?_alloc_at]
  have q4 : w0.cell? ⟨w.heap.size, 4, none⟩ = some (.int .i64 m) := by rw [hW]; simp [World.cell?_alloc_at]
  have B : Below w.heap.size w w0 := by rw [hW]; exact (Below.refl _ _).alloc (Nat.le_refl _) _
  have HW := Lib.hid hW
  clear hW
  go_enter Try.func7, Try.ntmps7
  go_wp2_with fail
  rw [← HW.out]
  clear HW
  refine (toHM_any n r c g m _).mono ?_
  rintro x w1 ⟨rfl, hb0⟩
  have hb : Below w0.heap.size w0 w1 := Below.trans (by go_grown) (hb0.mono (by first | exact Nat.le_refl _ | (simp; done) | (simp; omega)))
  replace q0 := Mem.lift hb q0; replace q1 := Mem.lift hb q1; replace q2 := Mem.lift hb q2; replace q3 := Mem.lift hb q3; replace q4 := Mem.lift hb q4
  replace B := stepB B hb B.size
  clear hb hb0
  go_wp2_with fail
  refine (sign_spec k n r c g m _ H0.out H1.out H2.out H3.out H4.out).mono ?_
  rintro x w2 ⟨rfl, hb0⟩
  have hb : Below w1.heap.size w1 w2 := Below.trans (by go_grown) (hb0.mono (by first | exact Nat.le_refl _ | (simp; done) | (simp; omega)))
  replace q0 := Mem.lift hb q0; replace q1 := Mem.lift hb q1; replace q2 := Mem.lift hb q2; replace q3 := Mem.lift hb q3; replace q4 := Mem.lift hb q4
  replace B := stepB B hb B.size
  clear hb hb0
  have z2 : w.heap.size < w2.heap.size := World.block_lt_of_cell? w2 _ q0
  go_wp2_with fail
  refine (toHM_any n r c g m _).mono ?_
  rintro x w3 ⟨rfl, hb0⟩
  obtain ⟨hc0, hf0⟩ := bcells hb0
  have s0 : w3.cell? ⟨w2.heap.size, 0, none⟩ = some (.int .i64 n) := (hc0 _ _ (by simp)).trans (by simp [World.cell?_alloc_at])
  have s1 : w3.cell? ⟨w2.heap.size, 1, none⟩ = some (.int .i64 r) := (hc0 _ _ (by simp)).trans (by simp [World.cell?_alloc_at])
  have s2 : w3.cell? ⟨w2.heap.size, 2, none⟩ = some (.int .i64 c) := (hc0 _ _ (by simp)).trans (by simp [World.cell?_alloc_at])
  have s3 : w3.cell? ⟨w2.heap.size, 3, none⟩ = some (.int .i64 g) := (hc0 _ _ (by simp)).trans (by simp [World.cell?_alloc_at])
  have s4 : w3.cell? ⟨w2.heap.size, 4, none⟩ = some (.int .i64 (macM k [43, n, r, c, g])) := (hc0 _ _ (by simp)).trans (by simp [World.cell?_alloc_at])
  have hb : Below w2.heap.size w2 w3 := Below.trans (by go_grown) (hb0.mono (by simp))
  replace q0 := Mem.lift hb q0; replace q1 := Mem.lift hb q1; replace q2 := Mem.lift hb q2; replace q3 := Mem.lift hb q3; replace q4 := Mem.lift hb q4
  replace B := stepB B hb B.size
  clear hb hb0 hc0 hf0
  go_wp2_with fail
  refine (sign_impl k n r c g m _ H0.out H1.out H2.out H3.out H4.out).mono ?_
  rintro x w4 ⟨rfl, hb⟩
  replace s0 := Mem.lift hb s0; replace s1 := Mem.lift hb s1; replace s2 := Mem.lift hb s2; replace s3 := Mem.lift hb s3; replace s4 := Mem.lift hb s4
  replace B := stepB B hb B.size
  clear hb
  have z4 : w2.heap.size < w4.heap.size := World.block_lt_of_cell? w4 _ s0
  go_wp2_with fail
  refine (eqHM_same n r c g _ _).mono ?_
  rintro x w5 ⟨rfl, hb0⟩
  replace B := stepW (B.alloc B.size _) hb0
  clear hb0
  go_wp2
  go_ret
  exact ⟨rfl, B⟩
end Go.Proofs.Ytmhcbiipbilakaa.LawsH
