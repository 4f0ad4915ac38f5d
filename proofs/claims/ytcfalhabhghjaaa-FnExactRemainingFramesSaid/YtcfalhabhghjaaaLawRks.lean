/- The walk of the law on RemainingFrames. -/
import Derived.Test.YtcfalhabhghjaaaKsW
import Derived.Test.YtcfalhabhghjaaaKsL
import Derived.Test.YtcfalhabhghjaaaReg
namespace Go.Proofs.Ytcfalhabhghjaaa.Ks
open Go.RowKit
open Go.Proofs.Ytcfalhabhghjaaa.Num Go.Proofs.Ytcfalhabhghjaaa.Mem Go.Proofs.Ytcfalhabhghjaaa.Sls Go.Proofs.Ytcfalhabhghjaaa.Own
set_option linter.unusedSimpArgs false
set_option maxHeartbeats 4000000 in
set_option maxRecDepth 100000 in
theorem rks_core (ke se re : Int) (A : Option Addr) (n c : Nat) (zs : List Int)  (r : Int) (w : World)
    (hspec : ∀ (A : Option Addr) (c : Nat) (w : World), Rd w 1 A n c (zs.map (Value.int .i64)) → Calls Try.prog 14 #[.agg #[.int .i64 ke, .int .i64 se, .int .i64 re, .slice A n c]] w fun x w' => x = .returned (.int .i64 r) ∧ Below w.heap.size w w')
    (himpl : ∀ (A : Option Addr) (c : Nat) (w : World), Rd w 1 A n c (zs.map (Value.int .i64)) → Calls Try.prog 15 #[.agg #[.int .i64 ke, .int .i64 se, .int .i64 re, .slice A n c]] w fun x w' => x = .returned (.int .i64 r) ∧ Below w.heap.size w w')
    (hr : Rd w 1 A n c (zs.map (Value.int .i64))) (hn : n ≤ 1048576) :
    Calls Try.prog 5 #[.agg #[.int .i64 ke, .int .i64 se, .int .i64 re, .slice A n c]] w fun x w' => x = .returned (.bool true) ∧ Below w.heap.size w w' := by
  have er : (r != r) = false := by simp
  have HR := Lib.hid hr
  have HS := Lib.hid hspec
  have HI := Lib.hid himpl
  clear hr hspec himpl
  obtain ⟨w0, hW⟩ : ∃ W, W = w.alloc (.cells #[.int .i64 ke, .int .i64 se, .int .i64 re, .slice A n c] 24) := ⟨_, rfl⟩
  have a0 : w0.cell? ⟨w.heap.size, 0, none⟩ = some (.int .i64 ke) := by rw [hW]; simp [World.cell?_alloc_at]
  have a1 : w0.cell? ⟨w.heap.size, 1, none⟩ = some (.int .i64 se) := by rw [hW]; simp [World.cell?_alloc_at]
  have a2 : w0.cell? ⟨w.heap.size, 2, none⟩ = some (.int .i64 re) := by rw [hW]; simp [World.cell?_alloc_at]
  have a3 : w0.cell? ⟨w.heap.size, 3, none⟩ = some (.slice A n c) := by rw [hW]; simp [World.cell?_alloc_at]
  have B : Below w.heap.size w w0 := by rw [hW]; exact (Below.refl _ _).alloc (Nat.le_refl _) _
  have HW := Lib.hid hW
  clear hW
  go_enter Try.func5, Try.ntmps5
  go_wp2_with fail
  rw [← HW.out]
  clear HW
  refine (szKs_any ke se re A n c 1048576 _ (by omega) (by omega) (by omega)).mono ?_
  rintro x w1 ⟨rfl, hb⟩
  rw [if_neg (by omega)]
  replace a0 := Mem.lift hb a0; replace a1 := Mem.lift hb a1; replace a2 := Mem.lift hb a2; replace a3 := Mem.lift hb a3
  replace B := stepW B hb
  clear hb
  go_wp2_with fail
  refine (toKs_any ke se re A n c zs _ (HR.out.below B) (by omega)).mono ?_
  rintro x w2 ⟨A1, c1, rfl, hown, hb⟩
  replace a0 := Mem.lift hb a0; replace a1 := Mem.lift hb a1; replace a2 := Mem.lift hb a2; replace a3 := Mem.lift hb a3
  replace B := stepW B hb
  have H1 := Lib.hid (Rd.of_own hown)
  clear hb hown
  go_wp2_with fail
  refine (HS.out A1 c1 _ H1.out).mono ?_
  rintro x w3 ⟨rfl, hb⟩
  replace a0 := Mem.lift hb a0; replace a1 := Mem.lift hb a1; replace a2 := Mem.lift hb a2; replace a3 := Mem.lift hb a3
  replace B := stepW B hb
  clear hb H1
  go_wp2_with fail
  refine (toKs_any ke se re A n c zs _ (HR.out.below B) (by omega)).mono ?_
  rintro x w4 ⟨A3, c3, rfl, hown, hb⟩
  replace a0 := Mem.lift hb a0; replace a1 := Mem.lift hb a1; replace a2 := Mem.lift hb a2; replace a3 := Mem.lift hb a3
  replace B := stepW B hb
  have z4 : w.heap.size < w4.heap.size := World.block_lt_of_cell? w4 _ a0
  have OX := Lib.hid (Own.of hown)
  clear hb hown
  have OXB := Lib.hid (OX.out.below ((Below.refl w4.heap.size w4).alloc (Nat.le_refl _) (.cells #[.int .i64 ke, .int .i64 se, .int .i64 re, .slice A3 n c3] 27)) (Nat.le_refl _))
  go_wp2_with fail
  refine (HI.out A3 c3 _ OXB.out.rd).mono ?_
  rintro x w6 ⟨rfl, hb⟩
  obtain ⟨hc, hf⟩ := bcells hb
  have x0 := (hc (w4.heap.size) 0 (by simp <;> omega)).trans (show _ = some (.int .i64 ke) from by first | (simp; done) | (simp [World.cell?_alloc_at]; done) | (rw [World.cell?_alloc_old _ _ _ (by simp <;> omega)]; first | (simp; done) | (simp [World.cell?_alloc_at]; done))); have x1 := (hc (w4.heap.size) 1 (by simp <;> omega)).trans (show _ = some (.int .i64 se) from by first | (simp; done) | (simp [World.cell?_alloc_at]; done) | (rw [World.cell?_alloc_old _ _ _ (by simp <;> omega)]; first | (simp; done) | (simp [World.cell?_alloc_at]; done))); have x2 := (hc (w4.heap.size) 2 (by simp <;> omega)).trans (show _ = some (.int .i64 re) from by first | (simp; done) | (simp [World.cell?_alloc_at]; done) | (rw [World.cell?_alloc_old _ _ _ (by simp <;> omega)]; first | (simp; done) | (simp [World.cell?_alloc_at]; done))); have x3 := (hc (w4.heap.size) 3 (by simp <;> omega)).trans (show _ = some (.slice A3 n c3) from by first | (simp; done) | (simp [World.cell?_alloc_at]; done) | (rw [World.cell?_alloc_old _ _ _ (by simp <;> omega)]; first | (simp; done) | (simp [World.cell?_alloc_at]; done)))
  have hb4 := Lib.hid (Below.trans ((Below.refl w4.heap.size w4).alloc (Nat.le_refl _) (.cells #[.int .i64 ke, .int .i64 se, .int .i64 re, .slice A3 n c3] 27)) (hb.mono (by simp)))
  replace a0 := Mem.lift hb4.out a0
  replace a1 := Mem.lift hb4.out a1
  replace a2 := Mem.lift hb4.out a2
  replace a3 := Mem.lift hb4.out a3
  replace B := stepW (B.alloc (by omega) _) hb
  have z6 : w4.heap.size < w6.heap.size := World.block_lt_of_cell? w6 _ x0
  replace OX := Lib.hid (OX.out.below hb4.out (Nat.le_refl _))
  clear hb hc hf OXB hb4
  go_wp2_with fail
  refine wp_region_held_drew (S := (fun w' => w'.cell? ⟨w.heap.size, 0, none⟩ = some (.int .i64 ke) ∧ w'.cell? ⟨w.heap.size, 1, none⟩ = some (.int .i64 se) ∧ w'.cell? ⟨w.heap.size, 2, none⟩ = some (.int .i64 re) ∧ w'.cell? ⟨w.heap.size, 3, none⟩ = some (.slice A n c) ∧ w'.cell? ⟨w4.heap.size, 0, none⟩ = some (.int .i64 ke) ∧ w'.cell? ⟨w4.heap.size, 1, none⟩ = some (.int .i64 se) ∧ w'.cell? ⟨w4.heap.size, 2, none⟩ = some (.int .i64 re) ∧ w'.cell? ⟨w4.heap.size, 3, none⟩ = some (.slice A3 n c3))) (by kernel_rfl) ?_ (fun hHeld => ?_)
  · (try dsimp only); exact ⟨a0, a1, a2, a3, x0, x1, x2, x3⟩
  first | (refine wpAnyH_take (i := 0) (v := ?_) (Reg.get rfl) (by kernel_rfl) (by kernel_rfl) (by kernel_rfl) (fun _ _ _ h => h) (Or.inl ⟨by rfl, ?_⟩) hHeld ?_; rotate_left 1; (focus (intro w hSw; (try dsimp only at hSw); go_simp <;> with_reducible rfl))) | (refine wpAnyH_take (i := 0) (v := undef) (Reg.get rfl) (by kernel_rfl) (by kernel_rfl) (by kernel_rfl) (fun _ _ _ h => h) (Or.inr ⟨by rfl, rfl⟩) hHeld ?_)
  try simp only [Act.put, List.setIfInBounds_toArray, List.set_cons_zero, List.set_cons_succ]
  first | (refine wpAnyH_take (i := 1) (v := ?_) (Reg.get rfl) (by kernel_rfl) (by kernel_rfl) (by kernel_rfl) (fun _ _ _ h => h) (Or.inl ⟨by rfl, ?_⟩) hHeld ?_; rotate_left 1; (focus (intro w hSw; (try dsimp only at hSw); go_simp <;> with_reducible rfl))) | (refine wpAnyH_take (i := 1) (v := undef) (Reg.get rfl) (by kernel_rfl) (by kernel_rfl) (by kernel_rfl) (fun _ _ _ h => h) (Or.inr ⟨by rfl, rfl⟩) hHeld ?_)
  try simp only [Act.put, List.setIfInBounds_toArray, List.set_cons_zero, List.set_cons_succ]
  first | ((refine wpAnyH_take (i := 2) (v := undef) (Reg.get rfl) (by kernel_rfl) (by kernel_rfl) (by kernel_rfl) (fun _ _ _ h => h) (Or.inr ⟨by rfl, rfl⟩) hHeld ?_)) | (refine wpAnyH_ready (rs := [2]) (by kernel_rfl) (by simp) ?_; refine AllReadyH.cons (Reg.get rfl) (fun K hK => ?_) AllReadyH.nil; clear hHeld; go_simp; (first | ((go_at_call 9; refine (toKs_any ke se re A n c zs _ (HR.out.below (Sls.below_drewN B 1)) (by omega)).mono ?_; rintro x w7 ⟨A7, c7, rfl, hown, hb⟩; have O7 := Lib.hid (Own.of hown); replace hb : Below w6.heap.size w6 w7 := ⟨hb.os, hb.tape, hb.output, hb.size, hb.block⟩; have y7 := hb.size; replace a0 := Mem.lift hb a0; replace a1 := Mem.lift hb a1; replace a2 := Mem.lift hb a2; replace a3 := Mem.lift hb a3; replace x0 := Mem.lift hb x0; replace x1 := Mem.lift hb x1; replace x2 := Mem.lift hb x2; replace x3 := Mem.lift hb x3; replace B := stepW B hb; replace OX := Lib.hid (OX.out.below hb (by first | exact Nat.le_refl _ | (simp; done) | (simp; omega) | omega)); clear hb hown)) | ((go_at_call 11; refine (eqKs_same ke se re A3 n c3 A7 c7 zs _ OX.out.rd O7.out.rd).mono ?_; rintro x w7b ⟨rfl, hb⟩; have y7b := hb.size; replace a0 := Mem.lift hb a0; replace a1 := Mem.lift hb a1; replace a2 := Mem.lift hb a2; replace a3 := Mem.lift hb a3; replace x0 := Mem.lift hb x0; replace x1 := Mem.lift hb x1; replace x2 := Mem.lift hb x2; replace x3 := Mem.lift hb x3; replace B := stepW B hb; replace OX := Lib.hid (OX.out.below hb (by first | exact Nat.le_refl _ | (simp; done) | (simp; omega) | omega)); clear hb O7))); refine hK.out _ _ ?_ (fun hHeld => ?_); ((try dsimp only); exact ⟨a0, a1, a2, a3, x0, x1, x2, x3⟩); clear hK K)
  try simp only [Act.put, List.setIfInBounds_toArray, List.set_cons_zero, List.set_cons_succ]
  first | ((refine wpAnyH_take (i := 3) (v := undef) (Reg.get rfl) (by kernel_rfl) (by kernel_rfl) (by kernel_rfl) (fun _ _ _ h => h) (Or.inr ⟨by rfl, rfl⟩) hHeld ?_)) | (refine wpAnyH_ready (rs := [3]) (by kernel_rfl) (by simp) ?_; refine AllReadyH.cons (Reg.get rfl) (fun K hK => ?_) AllReadyH.nil; clear hHeld; go_simp; (first | ((go_at_call 9; refine (toKs_any ke se re A n c zs _ (HR.out.below (Sls.below_drewN B 1)) (by omega)).mono ?_; rintro x w7 ⟨A7, c7, rfl, hown, hb⟩; have O7 := Lib.hid (Own.of hown); replace hb : Below w6.heap.size w6 w7 := ⟨hb.os, hb.tape, hb.output, hb.size, hb.block⟩; have y7 := hb.size; replace a0 := Mem.lift hb a0; replace a1 := Mem.lift hb a1; replace a2 := Mem.lift hb a2; replace a3 := Mem.lift hb a3; replace x0 := Mem.lift hb x0; replace x1 := Mem.lift hb x1; replace x2 := Mem.lift hb x2; replace x3 := Mem.lift hb x3; replace B := stepW B hb; replace OX := Lib.hid (OX.out.below hb (by first | exact Nat.le_refl _ | (simp; done) | (simp; omega) | omega)); clear hb hown)) | ((go_at_call 11; refine (eqKs_same ke se re A3 n c3 A7 c7 zs _ OX.out.rd O7.out.rd).mono ?_; rintro x w7b ⟨rfl, hb⟩; have y7b := hb.size; replace a0 := Mem.lift hb a0; replace a1 := Mem.lift hb a1; replace a2 := Mem.lift hb a2; replace a3 := Mem.lift hb a3; replace x0 := Mem.lift hb x0; replace x1 := Mem.lift hb x1; replace x2 := Mem.lift hb x2; replace x3 := Mem.lift hb x3; replace B := stepW B hb; replace OX := Lib.hid (OX.out.below hb (by first | exact Nat.le_refl _ | (simp; done) | (simp; omega) | omega)); clear hb O7))); refine hK.out _ _ ?_ (fun hHeld => ?_); ((try dsimp only); exact ⟨a0, a1, a2, a3, x0, x1, x2, x3⟩); clear hK K)
  try simp only [Act.put, List.setIfInBounds_toArray, List.set_cons_zero, List.set_cons_succ]
  first | (refine wpAnyH_take (i := 4) (v := ?_) (Reg.get rfl) (by kernel_rfl) (by kernel_rfl) (by kernel_rfl) (fun _ _ _ h => h) (Or.inl ⟨by rfl, ?_⟩) hHeld ?_; rotate_left 1; (focus (intro w hSw; (try dsimp only at hSw); go_simp <;> with_reducible rfl))) | (refine wpAnyH_take (i := 4) (v := undef) (Reg.get rfl) (by kernel_rfl) (by kernel_rfl) (by kernel_rfl) (fun _ _ _ h => h) (Or.inr ⟨by rfl, rfl⟩) hHeld ?_)
  try simp only [Act.put, List.setIfInBounds_toArray, List.set_cons_zero, List.set_cons_succ]
  refine wpAnyH_done (by kernel_rfl) ?_ _
  go_wp2
  go_ret
  exact ⟨rfl, B⟩
theorem rks_big (ke se re : Int) (A : Option Addr) (n c : Nat) (zs : List Int)  (w : World) (hr : Rd w 1 A n c (zs.map (Value.int .i64))) (hn : 1048576 < n) :
    Calls Try.prog 5 #[.agg #[.int .i64 ke, .int .i64 se, .int .i64 re, .slice A n c]] w fun x w' => x = .returned (.bool true) ∧ Below w.heap.size w w' := by
  have hm : n ≤ 9223372036854775807 := by have h1 := hr.2.1; have h2 := hr.2.2.1; unfold maxLen at h2; omega
  clear hr
  go_enter Try.func5, Try.ntmps5
  go_wp2_with fail
  refine (szKs_any ke se re A n c 1048576 _ (by omega) (by omega) (by omega)).mono ?_
  rintro x w1 ⟨rfl, hb⟩
  rw [if_pos (by omega)]
  have HB := Lib.hid (show Below w.heap.size w w1 from Below.trans (by go_grown) (hb.mono (by simp)))
  clear hb
  go_wp2
  go_ret
  exact ⟨rfl, HB.out⟩
theorem rks_law (ke se re : Int) (A : Option Addr) (n c : Nat) (zs : List Int) (w : World) (_h0 : (Lit.int .i64 ke).wf = true) (_h1 : (Lit.int .i64 se).wf = true) (_h2 : (Lit.int .i64 re).wf = true) (hrow : Rd w 1 A n c (zs.map (Value.int .i64)) ∧ ∀ z ∈ zs, (Lit.int .i64 z).wf = true) :
    Calls Try.prog 5 #[.agg #[.int .i64 ke, .int .i64 se, .int .i64 re, .slice A n c]] w fun x w' => x = .returned (.bool true) ∧ Below w.heap.size w w' := by
  have hr := hrow.1
  by_cases hn : 1048576 < n
  · exact rks_big ke se re A n c zs w hr hn
  · by_cases hv : validK ke se re zs n ∧ ke ≠ 0
    · exact rks_core ke se re A n c zs (1000000 - se) w (fun A c w h => rest_spec_yes ke se re A n c zs w h hv.1 hv.2) (fun A c w h => rest_impl_yes ke se re A n c zs w h hv.1 hv.2) hr (by omega)
    · exact rks_core ke se re A n c zs 0 w (fun A c w h => rest_spec_no ke se re A n c zs w h hv) (fun A c w h => rest_impl_no ke se re A n c zs w h hv) hr (by omega)
end Go.Proofs.Ytcfalhabhghjaaa.Ks
