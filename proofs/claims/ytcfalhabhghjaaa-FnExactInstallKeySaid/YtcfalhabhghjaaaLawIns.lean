/- The walk of the law on InstallKey. -/
import Derived.Test.YtcfalhabhghjaaaInst
import Derived.Test.YtcfalhabhghjaaaKsL
import Derived.Test.YtcfalhabhghjaaaReg
namespace Go.Proofs.Ytcfalhabhghjaaa.Ks
open Go.RowKit
open Go.Proofs.Ytcfalhabhghjaaa.Num Go.Proofs.Ytcfalhabhghjaaa.Mem Go.Proofs.Ytcfalhabhghjaaa.Sls Go.Proofs.Ytcfalhabhghjaaa.Own
set_option linter.unusedSimpArgs false
set_option maxHeartbeats 4000000 in
set_option maxRecDepth 100000 in
theorem ins_core (ke se re : Int) (ke' se' re' : Int) (ok : Bool) (A : Option Addr) (n c : Nat) (zs : List Int) (key : Int) (w : World)
    (n' : Nat) (zs' : List Int) (hn' : n' ≤ 2097152)
    (hspec : ∀ (A : Option Addr) (c : Nat) (w : World), Rd w 1 A n c (zs.map (Value.int .i64)) → Calls Try.prog 16 #[.agg #[.int .i64 ke, .int .i64 se, .int .i64 re, .slice A n c], .int .i64 key] w (RetKs2 w ke' se' re' ok n' zs'))
    (himpl : ∀ (A : Option Addr) (c : Nat) (w : World), Rd w 1 A n c (zs.map (Value.int .i64)) → Calls Try.prog 17 #[.agg #[.int .i64 ke, .int .i64 se, .int .i64 re, .slice A n c], .int .i64 key] w (RetKs2 w ke' se' re' ok n' zs'))
    (hr : Rd w 1 A n c (zs.map (Value.int .i64))) (hn : n ≤ 1048576) :
    Calls Try.prog 6 #[.agg #[.int .i64 ke, .int .i64 se, .int .i64 re, .slice A n c], .int .i64 key] w fun x w' => x = .returned (.bool true) ∧ Below w.heap.size w w' := by
  have eok : (ok != ok) = false := by simp
  have HR := Lib.hid hr
  have HS := Lib.hid hspec
  have HI := Lib.hid himpl
  clear hr hspec himpl
  obtain ⟨w0, hW⟩ : ∃ W, W = w.alloc (.cells #[.int .i64 ke, .int .i64 se, .int .i64 re, .slice A n c] 24) := ⟨_, rfl⟩
  have a0 : w0.cell? ⟨w.heap.size, 0, none⟩ = some (.int .i64 ke) := by rw [hW]; simp [World.cell?_alloc_at]
  have a1 : w0.cell? ⟨w.heap.size, 1, none⟩ = some (.int .i64 se) := by rw [hW]; simp [World.cell?_alloc_at]
  have a2 : w0.cell? ⟨w.heap.size, 2, none⟩ = some (.int .i64 re) := by rw [hW]; simp [World.cell?_alloc_at]
  have a3 : w0.cell? ⟨w.heap.size, 3, none⟩ = some (.slice A n c) := by rw [hW]; simp [World.cell?_alloc_at]
  have B : Below w.heap.size w w0 := by rw [hW]; exact (Below.refl _ _).alloc (Nat.le_refl _) _
  have HW := Lib.hid hW
  clear hW
  go_enter Try.func6, Try.ntmps6
  go_wp2_with fail
  rw [← HW.out]
  clear HW
  refine (szKs_any ke se re A n c 1048576 _ (by omega) (by omega) (by omega)).mono ?_
  rintro x w1 ⟨rfl, hb⟩
  rw [if_neg (by omega)]
  replace a0 := Mem.lift hb a0; replace a1 := Mem.lift hb a1; replace a2 := Mem.lift hb a2; replace a3 := Mem.lift hb a3
  replace B := stepW B hb
  clear hb
  go_wp2_with fail
  refine (toKs_any ke se re A n c zs _ (HR.out.below B) (by omega)).mono ?_
  rintro x w2 ⟨A1, c1, rfl, hown, hb⟩
  replace a0 := Mem.lift hb a0; replace a1 := Mem.lift hb a1; replace a2 := Mem.lift hb a2; replace a3 := Mem.lift hb a3
  replace B := stepW B hb
  have H1 := Lib.hid (Rd.of_own hown)
  clear hb hown
  go_wp2_with fail
  refine (HS.out A1 c1 _ H1.out).mono ?_
  rintro x w3 ⟨A2, c2, rfl, hown, hb⟩
  replace a0 := Mem.lift hb a0; replace a1 := Mem.lift hb a1; replace a2 := Mem.lift hb a2; replace a3 := Mem.lift hb a3
  replace B := stepW B hb
  have z3 : w.heap.size < w3.heap.size := World.block_lt_of_cell? w3 _ a0
  have OS := Lib.hid (Own.of hown)
  have S2 := Lib.hid hb.size
  clear hb hown H1
  go_wp2_with fail
  refine (toKs_any ke se re A n c zs _ (HR.out.below (B.alloc (by omega) _)) (by omega)).mono ?_
  rintro x w4 ⟨A3, c3, rfl, hown, hb⟩
  obtain ⟨hc, hf⟩ := bcells hb
  have s0 := (hc (w3.heap.size) 0 (by simp <;> omega)).trans (show _ = some (.int .i64 ke') from by first | (simp; done) | (simp [World.cell?_alloc_at]; done) | (rw [World.cell?_alloc_old _ _ _ (by simp <;> omega)]; first | (simp; done) | (simp [World.cell?_alloc_at]; done))); have s1 := (hc (w3.heap.size) 1 (by simp <;> omega)).trans (show _ = some (.int .i64 se') from by first | (simp; done) | (simp [World.cell?_alloc_at]; done) | (rw [World.cell?_alloc_old _ _ _ (by simp <;> omega)]; first | (simp; done) | (simp [World.cell?_alloc_at]; done))); have s2 := (hc (w3.heap.size) 2 (by simp <;> omega)).trans (show _ = some (.int .i64 re') from by first | (simp; done) | (simp [World.cell?_alloc_at]; done) | (rw [World.cell?_alloc_old _ _ _ (by simp <;> omega)]; first | (simp; done) | (simp [World.cell?_alloc_at]; done))); have s3 := (hc (w3.heap.size) 3 (by simp <;> omega)).trans (show _ = some (.slice A2 n' c2) from by first | (simp; done) | (simp [World.cell?_alloc_at]; done) | (rw [World.cell?_alloc_old _ _ _ (by simp <;> omega)]; first | (simp; done) | (simp [World.cell?_alloc_at]; done)))
  replace a0 := Mem.lift (Below.trans ((Below.refl w3.heap.size w3).alloc (Nat.le_refl _) _) (hb.mono (by simp))) a0
  replace a1 := Mem.lift (Below.trans ((Below.refl w3.heap.size w3).alloc (Nat.le_refl _) _) (hb.mono (by simp))) a1
  replace a2 := Mem.lift (Below.trans ((Below.refl w3.heap.size w3).alloc (Nat.le_refl _) _) (hb.mono (by simp))) a2
  replace a3 := Mem.lift (Below.trans ((Below.refl w3.heap.size w3).alloc (Nat.le_refl _) _) (hb.mono (by simp))) a3
  replace B := stepW (B.alloc (by omega) _) hb
  have z4 : w3.heap.size < w4.heap.size := World.block_lt_of_cell? w4 _ s0
  have OX := Lib.hid ((Own.of hown).wider (l2 := w3.heap.size + 1) (h2 := w4.heap.size) (by simp) (Nat.le_refl _))
  replace OS := Lib.hid ((OS.out.below ((Below.refl w3.heap.size w3).alloc (Nat.le_refl _) _) (Nat.le_refl _)).below hb (by simp))
  clear hb hown hc hf
  have OXB := Lib.hid (OX.out.below ((Below.refl w4.heap.size w4).alloc (Nat.le_refl _) (.cells #[.int .i64 ke, .int .i64 se, .int .i64 re, .slice A3 n c3] 27)) (Nat.le_refl _))
  go_wp2_with fail
  refine (HI.out A3 c3 _ OXB.out.rd).mono ?_
  rintro x w5 ⟨A4, c4, rfl, hown, hb⟩
  obtain ⟨hc, hf⟩ := bcells hb
  have x0 := (hc (w4.heap.size) 0 (by simp <;> omega)).trans (show _ = some (.int .i64 ke) from by first | (simp; done) | (simp [World.cell?_alloc_at]; done) | (rw [World.cell?_alloc_old _ _ _ (by simp <;> omega)]; first | (simp; done) | (simp [World.cell?_alloc_at]; done))); have x1 := (hc (w4.heap.size) 1 (by simp <;> omega)).trans (show _ = some (.int .i64 se) from by first | (simp; done) | (simp [World.cell?_alloc_at]; done) | (rw [World.cell?_alloc_old _ _ _ (by simp <;> omega)]; first | (simp; done) | (simp [World.cell?_alloc_at]; done))); have x2 := (hc (w4.heap.size) 2 (by simp <;> omega)).trans (show _ = some (.int .i64 re) from by first | (simp; done) | (simp [World.cell?_alloc_at]; done) | (rw [World.cell?_alloc_old _ _ _ (by simp <;> omega)]; first | (simp; done) | (simp [World.cell?_alloc_at]; done))); have x3 := (hc (w4.heap.size) 3 (by simp <;> omega)).trans (show _ = some (.slice A3 n c3) from by first | (simp; done) | (simp [World.cell?_alloc_at]; done) | (rw [World.cell?_alloc_old _ _ _ (by simp <;> omega)]; first | (simp; done) | (simp [World.cell?_alloc_at]; done)))
  have hb4 := Lib.hid (Below.trans ((Below.refl w4.heap.size w4).alloc (Nat.le_refl _) (.cells #[.int .i64 ke, .int .i64 se, .int .i64 re, .slice A3 n c3] 27)) (hb.mono (by simp)))
  replace a0 := Mem.lift hb4.out a0
  replace a1 := Mem.lift hb4.out a1
  replace a2 := Mem.lift hb4.out a2
  replace a3 := Mem.lift hb4.out a3
  replace s0 := Mem.lift hb4.out s0
  replace s1 := Mem.lift hb4.out s1
  replace s2 := Mem.lift hb4.out s2
  replace s3 := Mem.lift hb4.out s3
  replace B := stepW (B.alloc (by omega) _) hb
  have z5 : w4.heap.size < w5.heap.size := World.block_lt_of_cell? w5 _ x0
  have z35 : w3.heap.size < w5.heap.size := World.block_lt_of_cell? w5 _ s0
  have OG := Lib.hid ((Own.of hown).wider (l2 := w4.heap.size + 1) (h2 := w5.heap.size) (by simp) (Nat.le_refl _))
  replace OS := Lib.hid (OS.out.below hb4.out (by omega))
  replace OX := Lib.hid (OX.out.below hb4.out (Nat.le_refl _))
  clear hb hown hc hf OXB hb4
  have hb5 := Lib.hid ((Below.refl w5.heap.size w5).alloc (Nat.le_refl _) (.cells #[.int .i64 ke', .int .i64 se', .int .i64 re', .slice A4 n' c4] 27))
  have OG5 := Lib.hid (OG.out.below hb5.out (Nat.le_refl _))
  have OS5 := Lib.hid (OS.out.below hb5.out (by omega))
  go_wp2_with fail
  refine (eqKs_same ke' se' re' A4 n' c4 A2 c2 zs' _ OG5.out.rd OS5.out.rd).mono ?_
  rintro x w6 ⟨rfl, hb⟩
  obtain ⟨hc, hf⟩ := bcells hb
  have g0 := (hc (w5.heap.size) 0 (by simp <;> omega)).trans (show _ = some (.int .i64 ke') from by first | (simp; done) | (simp [World.cell?_alloc_at]; done) | (rw [World.cell?_alloc_old _ _ _ (by simp <;> omega)]; first | (simp; done) | (simp [World.cell?_alloc_at]; done))); have g1 := (hc (w5.heap.size) 1 (by simp <;> omega)).trans (show _ = some (.int .i64 se') from by first | (simp; done) | (simp [World.cell?_alloc_at]; done) | (rw [World.cell?_alloc_old _ _ _ (by simp <;> omega)]; first | (simp; done) | (simp [World.cell?_alloc_at]; done))); have g2 := (hc (w5.heap.size) 2 (by simp <;> omega)).trans (show _ = some (.int .i64 re') from by first | (simp; done) | (simp [World.cell?_alloc_at]; done) | (rw [World.cell?_alloc_old _ _ _ (by simp <;> omega)]; first | (simp; done) | (simp [World.cell?_alloc_at]; done))); have g3 := (hc (w5.heap.size) 3 (by simp <;> omega)).trans (show _ = some (.slice A4 n' c4) from by first | (simp; done) | (simp [World.cell?_alloc_at]; done) | (rw [World.cell?_alloc_old _ _ _ (by simp <;> omega)]; first | (simp; done) | (simp [World.cell?_alloc_at]; done)))
  have hb6 := Lib.hid (Below.trans hb5.out (hb.mono (by simp)))
  replace a0 := Mem.lift hb6.out a0
  replace a1 := Mem.lift hb6.out a1
  replace a2 := Mem.lift hb6.out a2
  replace a3 := Mem.lift hb6.out a3
  replace s0 := Mem.lift hb6.out s0
  replace s1 := Mem.lift hb6.out s1
  replace s2 := Mem.lift hb6.out s2
  replace s3 := Mem.lift hb6.out s3
  replace x0 := Mem.lift hb6.out x0
  replace x1 := Mem.lift hb6.out x1
  replace x2 := Mem.lift hb6.out x2
  replace x3 := Mem.lift hb6.out x3
  replace B := stepW (B.alloc (by omega) _) hb
  have z6 : w5.heap.size < w6.heap.size := World.block_lt_of_cell? w6 _ g0
  replace OS := Lib.hid (OS.out.below hb6.out (by omega))
  replace OX := Lib.hid (OX.out.below hb6.out (by omega))
  replace OG := Lib.hid (OG.out.below hb6.out (Nat.le_refl _))
  clear hb hc hf hb5 OG5 OS5 hb6
  go_wp2_with fail
  refine wp_region_held_drew (S := (fun w' => w'.cell? ⟨w.heap.size, 0, none⟩ = some (.int .i64 ke) ∧ w'.cell? ⟨w.heap.size, 1, none⟩ = some (.int .i64 se) ∧ w'.cell? ⟨w.heap.size, 2, none⟩ = some (.int .i64 re) ∧ w'.cell? ⟨w.heap.size, 3, none⟩ = some (.slice A n c) ∧ w'.cell? ⟨w4.heap.size, 0, none⟩ = some (.int .i64 ke) ∧ w'.cell? ⟨w4.heap.size, 1, none⟩ = some (.int .i64 se) ∧ w'.cell? ⟨w4.heap.size, 2, none⟩ = some (.int .i64 re) ∧ w'.cell? ⟨w4.heap.size, 3, none⟩ = some (.slice A3 n c3))) (by kernel_rfl) ?_ (fun hHeld => ?_)
  · (try dsimp only); exact ⟨a0, a1, a2, a3, x0, x1, x2, x3⟩
  first | (refine wpAnyH_take (i := 0) (v := ?_) (Reg.get rfl) (by kernel_rfl) (by kernel_rfl) (by kernel_rfl) (fun _ _ _ h => h) (Or.inl ⟨by rfl, ?_⟩) hHeld ?_; rotate_left 1; (focus (intro w hSw; (try dsimp only at hSw); go_simp <;> with_reducible rfl))) | (refine wpAnyH_take (i := 0) (v := undef) (Reg.get rfl) (by kernel_rfl) (by kernel_rfl) (by kernel_rfl) (fun _ _ _ h => h) (Or.inr ⟨by rfl, rfl⟩) hHeld ?_)
  try simp only [Act.put, List.setIfInBounds_toArray, List.set_cons_zero, List.set_cons_succ]
  first | (refine wpAnyH_take (i := 1) (v := ?_) (Reg.get rfl) (by kernel_rfl) (by kernel_rfl) (by kernel_rfl) (fun _ _ _ h => h) (Or.inl ⟨by rfl, ?_⟩) hHeld ?_; rotate_left 1; (focus (intro w hSw; (try dsimp only at hSw); go_simp <;> with_reducible rfl))) | (refine wpAnyH_take (i := 1) (v := undef) (Reg.get rfl) (by kernel_rfl) (by kernel_rfl) (by kernel_rfl) (fun _ _ _ h => h) (Or.inr ⟨by rfl, rfl⟩) hHeld ?_)
  try simp only [Act.put, List.setIfInBounds_toArray, List.set_cons_zero, List.set_cons_succ]
  first | ((refine wpAnyH_take (i := 2) (v := undef) (Reg.get rfl) (by kernel_rfl) (by kernel_rfl) (by kernel_rfl) (fun _ _ _ h => h) (Or.inr ⟨by rfl, rfl⟩) hHeld ?_)) | (refine wpAnyH_ready (rs := [2]) (by kernel_rfl) (by simp) ?_; refine AllReadyH.cons (Reg.get rfl) (fun K hK => ?_) AllReadyH.nil; clear hHeld; go_simp; (first | ((go_at_call 9; refine (toKs_any ke se re A n c zs _ (HR.out.below (Sls.below_drewN B 1)) (by omega)).mono ?_; rintro x w7 ⟨A7, c7, rfl, hown, hb⟩; have O7 := Lib.hid (Own.of hown); replace hb : Below w6.heap.size w6 w7 := ⟨hb.os, hb.tape, hb.output, hb.size, hb.block⟩; have y7 := hb.size; replace a0 := Mem.lift hb a0; replace a1 := Mem.lift hb a1; replace a2 := Mem.lift hb a2; replace a3 := Mem.lift hb a3; replace s0 := Mem.lift hb s0; replace s1 := Mem.lift hb s1; replace s2 := Mem.lift hb s2; replace s3 := Mem.lift hb s3; replace x0 := Mem.lift hb x0; replace x1 := Mem.lift hb x1; replace x2 := Mem.lift hb x2; replace x3 := Mem.lift hb x3; replace g0 := Mem.lift hb g0; replace g1 := Mem.lift hb g1; replace g2 := Mem.lift hb g2; replace g3 := Mem.lift hb g3; replace B := stepW B hb; replace OS := Lib.hid (OS.out.below hb (by first | exact Nat.le_refl _ | (simp; done) | (simp; omega) | omega)); replace OX := Lib.hid (OX.out.below hb (by first | exact Nat.le_refl _ | (simp; done) | (simp; omega) | omega)); replace OG := Lib.hid (OG.out.below hb (by first | exact Nat.le_refl _ | (simp; done) | (simp; omega) | omega)); clear hb hown)) | ((go_at_call 11; refine (eqKs_same ke se re A3 n c3 A7 c7 zs _ OX.out.rd O7.out.rd).mono ?_; rintro x w7b ⟨rfl, hb⟩; have y7b := hb.size; replace a0 := Mem.lift hb a0; replace a1 := Mem.lift hb a1; replace a2 := Mem.lift hb a2; replace a3 := Mem.lift hb a3; replace s0 := Mem.lift hb s0; replace s1 := Mem.lift hb s1; replace s2 := Mem.lift hb s2; replace s3 := Mem.lift hb s3; replace x0 := Mem.lift hb x0; replace x1 := Mem.lift hb x1; replace x2 := Mem.lift hb x2; replace x3 := Mem.lift hb x3; replace g0 := Mem.lift hb g0; replace g1 := Mem.lift hb g1; replace g2 := Mem.lift hb g2; replace g3 := Mem.lift hb g3; replace B := stepW B hb; replace OS := Lib.hid (OS.out.below hb (by first | exact Nat.le_refl _ | (simp; done) | (simp; omega) | omega)); replace OX := Lib.hid (OX.out.below hb (by first | exact Nat.le_refl _ | (simp; done) | (simp; omega) | omega)); replace OG := Lib.hid (OG.out.below hb (by first | exact Nat.le_refl _ | (simp; done) | (simp; omega) | omega)); clear hb O7))); refine hK.out _ _ ?_ (fun hHeld => ?_); ((try dsimp only); exact ⟨a0, a1, a2, a3, x0, x1, x2, x3⟩); clear hK K)
  try simp only [Act.put, List.setIfInBounds_toArray, List.set_cons_zero, List.set_cons_succ]
  first | ((refine wpAnyH_take (i := 3) (v := undef) (Reg.get rfl) (by kernel_rfl) (by kernel_rfl) (by kernel_rfl) (fun _ _ _ h => h) (Or.inr ⟨by rfl, rfl⟩) hHeld ?_)) | (refine wpAnyH_ready (rs := [3]) (by kernel_rfl) (by simp) ?_; refine AllReadyH.cons (Reg.get rfl) (fun K hK => ?_) AllReadyH.nil; clear hHeld; go_simp; (first | ((go_at_call 9; refine (toKs_any ke se re A n c zs _ (HR.out.below (Sls.below_drewN B 1)) (by omega)).mono ?_; rintro x w7 ⟨A7, c7, rfl, hown, hb⟩; have O7 := Lib.hid (Own.of hown); replace hb : Below w6.heap.size w6 w7 := ⟨hb.os, hb.tape, hb.output, hb.size, hb.block⟩; have y7 := hb.size; replace a0 := Mem.lift hb a0; replace a1 := Mem.lift hb a1; replace a2 := Mem.lift hb a2; replace a3 := Mem.lift hb a3; replace s0 := Mem.lift hb s0; replace s1 := Mem.lift hb s1; replace s2 := Mem.lift hb s2; replace s3 := Mem.lift hb s3; replace x0 := Mem.lift hb x0; replace x1 := Mem.lift hb x1; replace x2 := Mem.lift hb x2; replace x3 := Mem.lift hb x3; replace g0 := Mem.lift hb g0; replace g1 := Mem.lift hb g1; replace g2 := Mem.lift hb g2; replace g3 := Mem.lift hb g3; replace B := stepW B hb; replace OS := Lib.hid (OS.out.below hb (by first | exact Nat.le_refl _ | (simp; done) | (simp; omega) | omega)); replace OX := Lib.hid (OX.out.below hb (by first | exact Nat.le_refl _ | (simp; done) | (simp; omega) | omega)); replace OG := Lib.hid (OG.out.below hb (by first | exact Nat.le_refl _ | (simp; done) | (simp; omega) | omega)); clear hb hown)) | ((go_at_call 11; refine (eqKs_same ke se re A3 n c3 A7 c7 zs _ OX.out.rd O7.out.rd).mono ?_; rintro x w7b ⟨rfl, hb⟩; have y7b := hb.size; replace a0 := Mem.lift hb a0; replace a1 := Mem.lift hb a1; replace a2 := Mem.lift hb a2; replace a3 := Mem.lift hb a3; replace s0 := Mem.lift hb s0; replace s1 := Mem.lift hb s1; replace s2 := Mem.lift hb s2; replace s3 := Mem.lift hb s3; replace x0 := Mem.lift hb x0; replace x1 := Mem.lift hb x1; replace x2 := Mem.lift hb x2; replace x3 := Mem.lift hb x3; replace g0 := Mem.lift hb g0; replace g1 := Mem.lift hb g1; replace g2 := Mem.lift hb g2; replace g3 := Mem.lift hb g3; replace B := stepW B hb; replace OS := Lib.hid (OS.out.below hb (by first | exact Nat.le_refl _ | (simp; done) | (simp; omega) | omega)); replace OX := Lib.hid (OX.out.below hb (by first | exact Nat.le_refl _ | (simp; done) | (simp; omega) | omega)); replace OG := Lib.hid (OG.out.below hb (by first | exact Nat.le_refl _ | (simp; done) | (simp; omega) | omega)); clear hb O7))); refine hK.out _ _ ?_ (fun hHeld => ?_); ((try dsimp only); exact ⟨a0, a1, a2, a3, x0, x1, x2, x3⟩); clear hK K)
  try simp only [Act.put, List.setIfInBounds_toArray, List.set_cons_zero, List.set_cons_succ]
  first | (refine wpAnyH_take (i := 4) (v := ?_) (Reg.get rfl) (by kernel_rfl) (by kernel_rfl) (by kernel_rfl) (fun _ _ _ h => h) (Or.inl ⟨by rfl, ?_⟩) hHeld ?_; rotate_left 1; (focus (intro w hSw; (try dsimp only at hSw); go_simp <;> with_reducible rfl))) | (refine wpAnyH_take (i := 4) (v := undef) (Reg.get rfl) (by kernel_rfl) (by kernel_rfl) (by kernel_rfl) (fun _ _ _ h => h) (Or.inr ⟨by rfl, rfl⟩) hHeld ?_)
  try simp only [Act.put, List.setIfInBounds_toArray, List.set_cons_zero, List.set_cons_succ]
  refine wpAnyH_done (by kernel_rfl) ?_ _
  go_wp2_with fail
  refine (markKs_any ke se re A3 n c3 _ 1 _ _ _ OX.out (by omega) (by omega) (by omega) (by omega)).mono ?_
  rintro x w8 ⟨rfl, _, ht⟩
  replace a0 := cell_turned a0 ht (by omega)
  replace a1 := cell_turned a1 ht (by omega)
  replace a2 := cell_turned a2 ht (by omega)
  replace a3 := cell_turned a3 ht (by omega)
  replace s0 := cell_turned s0 ht (by omega)
  replace s1 := cell_turned s1 ht (by omega)
  replace s2 := cell_turned s2 ht (by omega)
  replace s3 := cell_turned s3 ht (by omega)
  replace x0 := cell_turned x0 ht (by omega)
  replace x1 := cell_turned x1 ht (by omega)
  replace x2 := cell_turned x2 ht (by omega)
  replace x3 := cell_turned x3 ht (by omega)
  replace g0 := cell_turned g0 ht (by omega)
  replace g1 := cell_turned g1 ht (by omega)
  replace g2 := cell_turned g2 ht (by omega)
  replace g3 := cell_turned g3 ht (by omega)
  replace B := Below.trans B (ht.below (by omega) (by omega))
  replace OS := Lib.hid (OS.out.turned ht (by omega) (by omega))
  replace OG := Lib.hid (OG.out.turned ht (by omega) (by omega))
  have y8 := ht.size
  clear ht OX
  go_wp2_with fail
  refine (eqKs_same ke' se' re' A4 n' c4 A2 c2 zs' _ OG.out.rd OS.out.rd).mono ?_
  rintro x w9 ⟨rfl, hb⟩
  replace a0 := Mem.lift hb a0
  replace a1 := Mem.lift hb a1
  replace a2 := Mem.lift hb a2
  replace a3 := Mem.lift hb a3
  replace s0 := Mem.lift hb s0
  replace s1 := Mem.lift hb s1
  replace s2 := Mem.lift hb s2
  replace s3 := Mem.lift hb s3
  replace g0 := Mem.lift hb g0
  replace g1 := Mem.lift hb g1
  replace g2 := Mem.lift hb g2
  replace g3 := Mem.lift hb g3
  clear x0 x1 x2 x3
  replace B := stepW B hb
  replace OS := Lib.hid (OS.out.below hb (by omega))
  replace OG := Lib.hid (OG.out.below hb (by omega))
  have y9 := hb.size
  clear hb
  go_wp2_with fail
  refine (markKs_any ke' se' re' A4 n' c4 _ 1 _ _ _ OG.out (by omega) (by omega) (by omega) (by omega)).mono ?_
  rintro x w10 ⟨rfl, hown, ht⟩
  replace OG := Lib.hid hown
  replace a0 := cell_turned a0 ht (by omega)
  replace a1 := cell_turned a1 ht (by omega)
  replace a2 := cell_turned a2 ht (by omega)
  replace a3 := cell_turned a3 ht (by omega)
  replace s0 := cell_turned s0 ht (by omega)
  replace s1 := cell_turned s1 ht (by omega)
  replace s2 := cell_turned s2 ht (by omega)
  replace s3 := cell_turned s3 ht (by omega)
  replace g0 := cell_turned g0 ht (by omega)
  replace g1 := cell_turned g1 ht (by omega)
  replace g2 := cell_turned g2 ht (by omega)
  replace g3 := cell_turned g3 ht (by omega)
  replace B := Below.trans B (ht.below (by omega) (by omega))
  replace OS := Lib.hid (OS.out.turned ht (by omega) (by omega))
  have y10 := ht.size
  clear ht hown
  have hq0 : (0 : Int) ≤ 1 + (n' : Int) * 1 := by omega
  go_wp2_with fail
  refine (heldKs_any ke' se' re' A4 n' c4 1 _ OG.out.rd (by omega) (by omega) (by omega)).mono ?_
  rintro x w11 ⟨rfl, hb⟩
  replace a0 := Mem.lift hb a0
  replace a1 := Mem.lift hb a1
  replace a2 := Mem.lift hb a2
  replace a3 := Mem.lift hb a3
  replace s0 := Mem.lift hb s0
  replace s1 := Mem.lift hb s1
  replace s2 := Mem.lift hb s2
  replace s3 := Mem.lift hb s3
  replace g0 := Mem.lift hb g0
  replace g1 := Mem.lift hb g1
  replace g2 := Mem.lift hb g2
  replace g3 := Mem.lift hb g3
  replace B := stepW B hb
  replace OS := Lib.hid (OS.out.below hb (by omega))
  replace OG := Lib.hid (OG.out.below hb (by omega))
  have y11 := hb.size
  clear hb
  go_wp2_with fail
  refine (toKs_any ke se re A n c zs _ (HR.out.below B) (by omega)).mono ?_
  rintro x w12 ⟨A5, c5, rfl, hown, hb⟩
  have H1 := Lib.hid (Rd.of_own hown)
  replace a0 := Mem.lift hb a0
  replace a1 := Mem.lift hb a1
  replace a2 := Mem.lift hb a2
  replace a3 := Mem.lift hb a3
  replace s0 := Mem.lift hb s0
  replace s1 := Mem.lift hb s1
  replace s2 := Mem.lift hb s2
  replace s3 := Mem.lift hb s3
  replace g0 := Mem.lift hb g0
  replace g1 := Mem.lift hb g1
  replace g2 := Mem.lift hb g2
  replace g3 := Mem.lift hb g3
  replace B := stepW B hb
  replace OS := Lib.hid (OS.out.below hb (by omega))
  replace OG := Lib.hid (OG.out.below hb (by omega))
  have y12 := hb.size
  clear hb hown
  go_wp2_with fail
  refine (HI.out A5 c5 _ H1.out).mono ?_
  rintro x w13 ⟨A6, c6, rfl, hown, hb⟩
  have OH := Lib.hid (Own.of hown)
  replace s0 := Mem.lift hb s0
  replace s1 := Mem.lift hb s1
  replace s2 := Mem.lift hb s2
  replace s3 := Mem.lift hb s3
  replace g0 := Mem.lift hb g0
  replace g1 := Mem.lift hb g1
  replace g2 := Mem.lift hb g2
  replace g3 := Mem.lift hb g3
  clear a0 a1 a2 a3
  replace B := stepW B hb
  replace OS := Lib.hid (OS.out.below hb (by omega))
  replace OG := Lib.hid (OG.out.below hb (by omega))
  have y13 := hb.size
  have z313 : w3.heap.size < w13.heap.size := World.block_lt_of_cell? w13 _ s0
  clear hb hown H1
  have hb13 := Lib.hid ((Below.refl w13.heap.size w13).alloc (Nat.le_refl _) (.cells #[.int .i64 ke', .int .i64 se', .int .i64 re', .slice A6 n' c6] 27))
  have OH5 := Lib.hid (OH.out.below hb13.out (Nat.le_refl _))
  have OS5 := Lib.hid (OS.out.below hb13.out (by omega))
  go_wp2_with fail
  refine (eqKs_same ke' se' re' A6 n' c6 A2 c2 zs' _ OH5.out.rd OS5.out.rd).mono ?_
  rintro x w14 ⟨rfl, hb⟩
  have hb14 := Lib.hid (Below.trans hb13.out (hb.mono (by simp)))
  replace g0 := Mem.lift hb14.out g0
  replace g1 := Mem.lift hb14.out g1
  replace g2 := Mem.lift hb14.out g2
  replace g3 := Mem.lift hb14.out g3
  clear s0 s1 s2 s3
  replace B := stepW (B.alloc (by omega) _) hb
  replace OG := Lib.hid (OG.out.below hb14.out (by omega))
  clear hb hb13 hb14 OH5 OS5 OS OH
  go_wp2_with fail
  refine (heldKs_any ke' se' re' A4 n' c4 1 _ OG.out.rd (by omega) (by omega) (by omega)).mono ?_
  rintro x w15 ⟨rfl, hb⟩
  replace B := stepW B hb
  clear hb
  go_wp2
  go_ret
  exact ⟨rfl, B⟩
theorem ins_big (ke se re : Int) (A : Option Addr) (n c : Nat) (zs : List Int) (key : Int) (w : World) (hr : Rd w 1 A n c (zs.map (Value.int .i64))) (hn : 1048576 < n) :
    Calls Try.prog 6 #[.agg #[.int .i64 ke, .int .i64 se, .int .i64 re, .slice A n c], .int .i64 key] w fun x w' => x = .returned (.bool true) ∧ Below w.heap.size w w' := by
  have hm : n ≤ 9223372036854775807 := by have h1 := hr.2.1; have h2 := hr.2.2.1; unfold maxLen at h2; omega
  clear hr
  go_enter Try.func6, Try.ntmps6
  go_wp2_with fail
  refine (szKs_any ke se re A n c 1048576 _ (by omega) (by omega) (by omega)).mono ?_
  rintro x w1 ⟨rfl, hb⟩
  rw [if_pos (by omega)]
  have HB := Lib.hid (show Below w.heap.size w w1 from Below.trans (by go_grown) (hb.mono (by simp)))
  clear hb
  go_wp2
  go_ret
  exact ⟨rfl, HB.out⟩
theorem ins_law (ke se re : Int) (A : Option Addr) (n c : Nat) (zs : List Int) (key : Int) (w : World) (_h0 : (Lit.int .i64 ke).wf = true) (_h1 : (Lit.int .i64 se).wf = true) (_h2 : (Lit.int .i64 re).wf = true) (hrow : Rd w 1 A n c (zs.map (Value.int .i64)) ∧ ∀ z ∈ zs, (Lit.int .i64 z).wf = true) (_h3 : (Lit.int .i64 key).wf = true) :
    Calls Try.prog 6 #[.agg #[.int .i64 ke, .int .i64 se, .int .i64 re, .slice A n c], .int .i64 key] w fun x w' => x = .returned (.bool true) ∧ Below w.heap.size w w' := by
  have hr := hrow.1
  by_cases hn : 1048576 < n
  · exact ins_big ke se re A n c zs key w hr hn
  · by_cases hv : installP ke se re key zs n
    · by_cases hk : ke = 0
      · exact ins_core ke se re key 0 0 true A n c zs key w n zs (by omega) (fun A c w h => inst_spec_first ke se re key A n c zs w h (by omega) hv hk) (fun A c w h => inst_impl_first ke se re key A n c zs w h (by omega) hv hk) hr (by omega)
      · exact ins_core ke se re key 0 0 true A n c zs key w (n + 1) (zs ++ [ke]) (by omega) (fun A c w h => inst_spec_next ke se re key A n c zs w h (by omega) hv hk) (fun A c w h => inst_impl_next ke se re key A n c zs w h (by omega) hv hk) hr (by omega)
    · exact ins_core ke se re ke se re false A n c zs key w n zs (by omega) (fun A c w h => inst_spec_no ke se re key A n c zs w h (by omega) hv) (fun A c w h => inst_impl_no ke se re key A n c zs w h (by omega) hv) hr (by omega)
end Go.Proofs.Ytcfalhabhghjaaa.Ks
