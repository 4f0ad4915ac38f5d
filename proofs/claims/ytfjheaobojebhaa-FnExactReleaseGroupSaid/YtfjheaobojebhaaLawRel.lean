/- The walk of the law on ReleaseGroup. -/
import Derived.Test.YtfjheaobojebhaaRelS
namespace Go.Proofs.Ytfjheaobojebhaa.Gb
open Go.RowKit
open Go.Proofs.Ytfjheaobojebhaa.Num Go.Proofs.Ytfjheaobojebhaa.Mem Go.Proofs.Ytfjheaobojebhaa.Sls Go.Proofs.Ytfjheaobojebhaa.Own Go.Proofs.Ytfjheaobojebhaa.SS Go.Proofs.Ytfjheaobojebhaa.Bcn Go.Proofs.Ytfjheaobojebhaa.Hsh
set_option linter.unusedSimpArgs false
set_option linter.unusedVariables false
set_option maxHeartbeats 8000000 in
set_option maxRecDepth 100000 in
theorem rel_core (pe lo s : Int) (A : Option Addr) (n c : Nat) (zs : List (List Int)) (gn : Nat) (gs : List (List Int)) (ln : Nat) (ls : List (List Int)) (w : World)
    (hgl : Goes pe lo s zs n gn gs ln ls) (hsl : -9223372036854775808 ≤ s ∧ s ≤ 9223372036854775807) (hr : RdSS w A n c zs) (hn : n + totL zs ≤ 1048576) :
    Calls Try.prog 8 #[.agg #[.int .i64 pe, .slice A n c, .int .i64 lo], .int .i64 s] w fun x w' => x = .returned (.bool true) ∧ Below w.heap.size w w' := by
  have hb4 : gn ≤ 1048576 ∧ totL gs ≤ 1048576 ∧ ln ≤ 1048576 ∧ totL ls ≤ 1048576 := by
    rcases hgl with ⟨_, rfl, rfl, rfl, rfl⟩ | ⟨_, rfl, rfl, rfl, rfl⟩
    · exact ⟨by omega, by rw [tot_nil]; omega, by omega, by omega⟩
    · exact ⟨by omega, by omega, by omega, by rw [tot_nil]; omega⟩
  obtain ⟨g1, g2, g3, g4⟩ := hb4
  have HR := Lib.hid hr
  have HSH := Lib.hid (short_of_tot (xss := zs) (by omega))
  have HS := Lib.hid (fun A c w h => rel_spec pe lo s A n c zs gn gs ln ls w hgl h (by omega) HSH.out hsl)
  have HI := Lib.hid (fun A c w h => rel_impl pe lo s A n c zs gn gs ln ls w hgl h (by omega) HSH.out hsl)
  obtain ⟨K, hK⟩ : ∃ K : Int, 1 + (totL zs : Int) = K := ⟨_, rfl⟩
  obtain ⟨K1, hK1⟩ : ∃ K : Int, 1 + (totL gs : Int) = K := ⟨_, rfl⟩
  obtain ⟨K2, hK2⟩ : ∃ K : Int, K1 + (totL ls : Int) = K := ⟨_, rfl⟩
  have HMX := Lib.hid (fun A c lo' hi w (h : OwnSS w lo' hi A n c zs) (hh : hi ≤ w.heap.size) => show Calls Try.prog 23 #[.agg #[.int .i64 pe, .slice A n c, .int .i64 lo], .int .i64 1] w fun x w' => x = .returned (.int .i64 K) ∧ Turned lo' hi w w' from (markGb2 pe lo A n c zs none 0 0 [] 1 lo' hi w (.inl ⟨h, rfl, rfl, rfl⟩) (by omega) (by omega) (by omega) (by omega) hh).mono fun x w' h => ⟨by rw [h.1, hK], h.2.2⟩)
  have HMG := Lib.hid (fun A c B d lo' hi w (h : Own2 w lo' hi A gn c gs B ln d ls) (hh : hi ≤ w.heap.size) => show Calls Try.prog 23 #[.agg #[.int .i64 pe, .slice A gn c, .int .i64 lo], .int .i64 1] w fun x w' => x = .returned (.int .i64 K1) ∧ Own2 w' lo' hi A gn c (mSS 1 gs) B ln d ls ∧ Turned lo' hi w w' from (markGb2 pe lo A gn c gs B ln d ls 1 lo' hi w h (by omega) (by omega) (by omega) (by omega) hh).mono fun x w' h => ⟨by rw [h.1, hK1], h.2⟩)
  have HML := Lib.hid (fun A c B d lo' hi w (h : Own2 w lo' hi A gn c (mSS 1 gs) B ln d ls) => show Calls Try.prog 39 #[.slice B ln d, .int .i64 K1] w fun x w' => x = .returned (.int .i64 K2) ∧ Own2 w' lo' hi A gn c (mSS 1 gs) B ln d (mSS K1 ls) ∧ Turned lo' hi w w' from (markY A gn c (mSS 1 gs) B ln d ls K1 lo' hi w h (by omega) (by omega) (by omega) (by omega)).mono fun x w' h => ⟨by rw [h.1, hK2], h.2⟩)
  have HHG := Lib.hid (fun A c w (h : RdSS w A gn c (mSS 1 gs)) => show Calls Try.prog 24 #[.agg #[.int .i64 pe, .slice A gn c, .int .i64 lo], .int .i64 1] w fun x w' => x = .returned (.int .i64 K1) ∧ Below w.heap.size w w' from (heldGb_any pe lo A gn c gs 1 w h (by omega) (by omega) (by omega) (by omega)).mono fun x w' h => ⟨by rw [h.1, hK1], h.2⟩)
  have HHL := Lib.hid (fun B d w (h : RdSS w B ln d (mSS K1 ls)) => show Calls Try.prog 40 #[.slice B ln d, .int .i64 K1] w fun x w' => x = .returned (.int .i64 K2) ∧ w = w' from (heldSS_any B ln d ls K1 w h (by omega) (by omega) (by omega) (by omega)).mono fun x w' h => ⟨by rw [h.1, hK2], h.2⟩)
  have k0 : 0 ≤ K := by omega
  have k1 : 0 ≤ K1 := by omega
  have k2 : 0 ≤ K2 := by omega
  clear hr hgl hK hK1 hK2
  obtain ⟨w0, hW⟩ : ∃ W, W = w.alloc (.cells #[.int .i64 pe, .slice A n c, .int .i64 lo] 37) := ⟨_, rfl⟩
  have a0 : w0.cell? ⟨w.heap.size, 0, none⟩ = some (.int .i64 pe) := by rw [hW]; simp [World.cell?_alloc_at]
  have a1 : w0.cell? ⟨w.heap.size, 1, none⟩ = some (.slice A n c) := by rw [hW]; simp [World.cell?_alloc_at]
  have a2 : w0.cell? ⟨w.heap.size, 2, none⟩ = some (.int .i64 lo) := by rw [hW]; simp [World.cell?_alloc_at]
  have B : Below w.heap.size w w0 := by rw [hW]; exact (Below.refl _ _).alloc (Nat.le_refl _) _
  have HW := Lib.hid hW
  clear hW
  go_enter Try.func8, Try.ntmps8
  go_wp2_with fail
  rw [← HW.out]
  clear HW
  refine (szGb_any pe lo A n c zs 1048576 _ (HR.out.below B) (by omega) (by omega)).mono ?_
  rintro x w1 ⟨rfl, hb⟩
  rw [szOf_ge (by omega)]
  replace a0 := Mem.lift hb a0; replace a1 := Mem.lift hb a1; replace a2 := Mem.lift hb a2
  replace B := stepW B hb
  clear hb
  go_wp2_with fail
  refine (toGb_any pe lo A n c zs _ (HR.out.below B) (by omega) HSH.out).mono ?_
  rintro x w2 ⟨A1, c1, rfl, hown, hb⟩
  replace a0 := Mem.lift hb a0; replace a1 := Mem.lift hb a1; replace a2 := Mem.lift hb a2
  replace B := stepW B hb
  have H1 := Lib.hid (hown.rd)
  clear hb hown
  go_wp2_with fail
  refine (HS.out A1 c1 _ H1.out).mono ?_
  rintro x w3 ⟨A2, c2, B2, d2, rfl, hx, hy, hb⟩
  replace a0 := Mem.lift hb a0; replace a1 := Mem.lift hb a1; replace a2 := Mem.lift hb a2
  replace B := stepW B hb
  have H0X := Lib.hid hx
  have H0Y := Lib.hid hy
  have D := Below.refl w3.heap.size w3
  have y3 : w.heap.size < w3.heap.size := World.block_lt_of_cell? w3 _ a0
  clear hb hx hy H1
  go_wp2_with fail
  refine (toGb_any pe lo A n c zs _ ((HR.out.below B).alloc _) (by omega) HSH.out).mono ?_
  rintro x w4 ⟨A3, c3, rfl, hown, hb⟩
  obtain ⟨hc, hf⟩ := bcells hb
  have s0 := (hc (w3.heap.size) 0 (by simp <;> omega)).trans (show _ = some (.int .i64 pe) from by first | (simp; done) | (simp [World.cell?_alloc_at]; done) | (rw [World.cell?_alloc_old _ _ _ (by simp <;> omega)]; first | (simp; done) | (simp [World.cell?_alloc_at]; done))); have s1 := (hc (w3.heap.size) 1 (by simp <;> omega)).trans (show _ = some (.slice A2 gn c2) from by first | (simp; done) | (simp [World.cell?_alloc_at]; done) | (rw [World.cell?_alloc_old _ _ _ (by simp <;> omega)]; first | (simp; done) | (simp [World.cell?_alloc_at]; done))); have s2 := (hc (w3.heap.size) 2 (by simp <;> omega)).trans (show _ = some (.int .i64 lo) from by first | (simp; done) | (simp [World.cell?_alloc_at]; done) | (rw [World.cell?_alloc_old _ _ _ (by simp <;> omega)]; first | (simp; done) | (simp [World.cell?_alloc_at]; done)))
  replace a0 := (hc _ _ (by simp <;> omega)).trans ((World.cell?_alloc_old _ _ _ (by simp <;> omega)).trans a0); replace a1 := (hc _ _ (by simp <;> omega)).trans ((World.cell?_alloc_old _ _ _ (by simp <;> omega)).trans a1); replace a2 := (hc _ _ (by simp <;> omega)).trans ((World.cell?_alloc_old _ _ _ (by simp <;> omega)).trans a2)
  have y4 : w3.heap.size < w4.heap.size := World.block_lt_of_cell? w4 _ s0
  have y4a : w.heap.size < w4.heap.size := World.block_lt_of_cell? w4 _ a0
  replace D := stepW (D.alloc (Nat.le_refl _) _) hb
  replace B := stepW (B.alloc (by omega) _) hb
  have OX := Lib.hid (show OwnSS w4 (w3.heap.size + 1) w4.heap.size A3 n c3 zs from by simpa using hown)
  clear hb hc hf hown
  go_wp2_with fail
  refine (HI.out A3 c3 _ (OX.out.rd.alloc _)).mono ?_
  rintro x w5 ⟨A5, c5, B5, d5, rfl, hown, hb⟩
  obtain ⟨hc, hf⟩ := bcells hb
  have x0 := (hc (w4.heap.size) 0 (by simp <;> omega)).trans (show _ = some (.int .i64 pe) from by first | (simp; done) | (simp [World.cell?_alloc_at]; done) | (rw [World.cell?_alloc_old _ _ _ (by simp <;> omega)]; first | (simp; done) | (simp [World.cell?_alloc_at]; done))); have x1 := (hc (w4.heap.size) 1 (by simp <;> omega)).trans (show _ = some (.slice A3 n c3) from by first | (simp; done) | (simp [World.cell?_alloc_at]; done) | (rw [World.cell?_alloc_old _ _ _ (by simp <;> omega)]; first | (simp; done) | (simp [World.cell?_alloc_at]; done))); have x2 := (hc (w4.heap.size) 2 (by simp <;> omega)).trans (show _ = some (.int .i64 lo) from by first | (simp; done) | (simp [World.cell?_alloc_at]; done) | (rw [World.cell?_alloc_old _ _ _ (by simp <;> omega)]; first | (simp; done) | (simp [World.cell?_alloc_at]; done)))
  replace a0 := (hc _ _ (by simp <;> omega)).trans ((World.cell?_alloc_old _ _ _ (by simp <;> omega)).trans a0); replace a1 := (hc _ _ (by simp <;> omega)).trans ((World.cell?_alloc_old _ _ _ (by simp <;> omega)).trans a1); replace a2 := (hc _ _ (by simp <;> omega)).trans ((World.cell?_alloc_old _ _ _ (by simp <;> omega)).trans a2); replace s0 := (hc _ _ (by simp <;> omega)).trans ((World.cell?_alloc_old _ _ _ (by simp <;> omega)).trans s0); replace s1 := (hc _ _ (by simp <;> omega)).trans ((World.cell?_alloc_old _ _ _ (by simp <;> omega)).trans s1); replace s2 := (hc _ _ (by simp <;> omega)).trans ((World.cell?_alloc_old _ _ _ (by simp <;> omega)).trans s2)
  have y5 : w4.heap.size < w5.heap.size := World.block_lt_of_cell? w5 _ x0
  have y5a : w.heap.size < w5.heap.size := World.block_lt_of_cell? w5 _ a0
  have y5s : w3.heap.size < w5.heap.size := World.block_lt_of_cell? w5 _ s0
  replace D := stepW (D.alloc (by omega) _) hb
  replace B := stepW (B.alloc (by omega) _) hb
  have OG := Lib.hid (show Own2 w5 (w4.heap.size + 1) w5.heap.size A5 gn c5 gs B5 ln d5 ls from by simpa using hown)
  replace OX := Lib.hid (OX.out.below (show Below w4.heap.size w4 w5 from Below.trans (by go_grown) (hb.mono (by simp))) (Nat.le_refl _))
  clear hb hc hf hown
  go_wp2_with fail
  refine (eqGb_same pe lo A5 gn c5 A2 c2 gs _ (OG.out.rdx.alloc _) ((H0X.out.below D).alloc _)).mono ?_
  rintro x w6 ⟨rfl, hb⟩
  obtain ⟨hc, hf⟩ := bcells hb
  have g0 := (hc (w5.heap.size) 0 (by simp <;> omega)).trans (show _ = some (.int .i64 pe) from by first | (simp; done) | (simp [World.cell?_alloc_at]; done) | (rw [World.cell?_alloc_old _ _ _ (by simp <;> omega)]; first | (simp; done) | (simp [World.cell?_alloc_at]; done))); have g1 := (hc (w5.heap.size) 1 (by simp <;> omega)).trans (show _ = some (.slice A5 gn c5) from by first | (simp; done) | (simp [World.cell?_alloc_at]; done) | (rw [World.cell?_alloc_old _ _ _ (by simp <;> omega)]; first | (simp; done) | (simp [World.cell?_alloc_at]; done))); have g2 := (hc (w5.heap.size) 2 (by simp <;> omega)).trans (show _ = some (.int .i64 lo) from by first | (simp; done) | (simp [World.cell?_alloc_at]; done) | (rw [World.cell?_alloc_old _ _ _ (by simp <;> omega)]; first | (simp; done) | (simp [World.cell?_alloc_at]; done)))
  replace a0 := (hc _ _ (by simp <;> omega)).trans ((World.cell?_alloc_old _ _ _ (by simp <;> omega)).trans a0); replace a1 := (hc _ _ (by simp <;> omega)).trans ((World.cell?_alloc_old _ _ _ (by simp <;> omega)).trans a1); replace a2 := (hc _ _ (by simp <;> omega)).trans ((World.cell?_alloc_old _ _ _ (by simp <;> omega)).trans a2); replace s0 := (hc _ _ (by simp <;> omega)).trans ((World.cell?_alloc_old _ _ _ (by simp <;> omega)).trans s0); replace s1 := (hc _ _ (by simp <;> omega)).trans ((World.cell?_alloc_old _ _ _ (by simp <;> omega)).trans s1); replace s2 := (hc _ _ (by simp <;> omega)).trans ((World.cell?_alloc_old _ _ _ (by simp <;> omega)).trans s2); replace x0 := (hc _ _ (by simp <;> omega)).trans ((World.cell?_alloc_old _ _ _ (by simp <;> omega)).trans x0); replace x1 := (hc _ _ (by simp <;> omega)).trans ((World.cell?_alloc_old _ _ _ (by simp <;> omega)).trans x1); replace x2 := (hc _ _ (by simp <;> omega)).trans ((World.cell?_alloc_old _ _ _ (by simp <;> omega)).trans x2)
  have hb5 : Below w5.heap.size w5 w6 := Below.trans (by go_grown) (hb.mono (by simp))
  have y6 : w5.heap.size < w6.heap.size := World.block_lt_of_cell? w6 _ g0
  have y6a : w.heap.size < w6.heap.size := World.block_lt_of_cell? w6 _ a0
  replace D := stepW (D.alloc (by omega) _) hb
  replace B := stepW (B.alloc (by omega) _) hb
  replace OG := Lib.hid (OG.out.below hb5 (Nat.le_refl _))
  replace OX := Lib.hid (OX.out.below hb5 (by omega))
  clear hb hc hf hb5
  go_wp2_with fail
  refine (eqSS_laws B5 ln d5 ls B2 ln d2 ls _ OG.out.rdy (H0Y.out.below D)).mono ?_
  rintro x w7 ⟨rfl, hb⟩
  rw [decide_eq_true rfl]
  replace a0 := Mem.lift hb a0; replace a1 := Mem.lift hb a1; replace a2 := Mem.lift hb a2; replace s0 := Mem.lift hb s0; replace s1 := Mem.lift hb s1; replace s2 := Mem.lift hb s2; replace x0 := Mem.lift hb x0; replace x1 := Mem.lift hb x1; replace x2 := Mem.lift hb x2; replace g0 := Mem.lift hb g0; replace g1 := Mem.lift hb g1; replace g2 := Mem.lift hb g2
  replace D := stepW D hb
  replace B := stepW B hb
  replace OG := Lib.hid (OG.out.below hb (by have := y6; omega))
  replace OX := Lib.hid (OX.out.below hb (by have := y6; omega))
  have y7 := hb.size
  clear hb
  go_wp2_with fail
  refine wp_region_held_drew (S := (fun w' => w'.cell? ⟨w.heap.size, 0, none⟩ = some (.int .i64 pe) ∧ w'.cell? ⟨w.heap.size, 1, none⟩ = some (.slice A n c) ∧ w'.cell? ⟨w.heap.size, 2, none⟩ = some (.int .i64 lo) ∧ w'.cell? ⟨w3.heap.size, 0, none⟩ = some (.int .i64 pe) ∧ w'.cell? ⟨w3.heap.size, 1, none⟩ = some (.slice A2 gn c2) ∧ w'.cell? ⟨w3.heap.size, 2, none⟩ = some (.int .i64 lo) ∧ w'.cell? ⟨w4.heap.size, 0, none⟩ = some (.int .i64 pe) ∧ w'.cell? ⟨w4.heap.size, 1, none⟩ = some (.slice A3 n c3) ∧ w'.cell? ⟨w4.heap.size, 2, none⟩ = some (.int .i64 lo) ∧ w'.cell? ⟨w5.heap.size, 0, none⟩ = some (.int .i64 pe) ∧ w'.cell? ⟨w5.heap.size, 1, none⟩ = some (.slice A5 gn c5) ∧ w'.cell? ⟨w5.heap.size, 2, none⟩ = some (.int .i64 lo))) (by kernel_rfl) ?_ (fun hHeld => ?_)
  · (try dsimp only); exact ⟨a0, a1, a2, s0, s1, s2, x0, x1, x2, g0, g1, g2⟩
  first | (refine wpAnyH_take (i := 0) (v := ?_) (Reg.get rfl) (by kernel_rfl) (by kernel_rfl) (by kernel_rfl) (fun _ _ _ h => h) (Or.inl ⟨by rfl, ?_⟩) hHeld ?_; rotate_left 1; (focus (intro w hSw; (try dsimp only at hSw); go_simp <;> with_reducible rfl))) | (refine wpAnyH_take (i := 0) (v := undef) (Reg.get rfl) (by kernel_rfl) (by kernel_rfl) (by kernel_rfl) (fun _ _ _ h => h) (Or.inr ⟨by rfl, rfl⟩) hHeld ?_)
  try simp only [Act.put, List.setIfInBounds_toArray, List.set_cons_zero, List.set_cons_succ]
  first | (refine wpAnyH_take (i := 1) (v := ?_) (Reg.get rfl) (by kernel_rfl) (by kernel_rfl) (by kernel_rfl) (fun _ _ _ h => h) (Or.inl ⟨by rfl, ?_⟩) hHeld ?_; rotate_left 1; (focus (intro w hSw; (try dsimp only at hSw); go_simp <;> with_reducible rfl))) | (refine wpAnyH_take (i := 1) (v := undef) (Reg.get rfl) (by kernel_rfl) (by kernel_rfl) (by kernel_rfl) (fun _ _ _ h => h) (Or.inr ⟨by rfl, rfl⟩) hHeld ?_)
  try simp only [Act.put, List.setIfInBounds_toArray, List.set_cons_zero, List.set_cons_succ]
  first | ((refine wpAnyH_take (i := 2) (v := undef) (Reg.get rfl) (by kernel_rfl) (by kernel_rfl) (by kernel_rfl) (fun _ _ _ h => h) (Or.inr ⟨by rfl, rfl⟩) hHeld ?_)) | (refine wpAnyH_ready (rs := [2]) (by kernel_rfl) (by simp) ?_; refine AllReadyH.cons (Reg.get rfl) (fun K hK => ?_) AllReadyH.nil; clear hHeld; go_simp; (first | ((go_at_call 27; refine (toGb_any pe lo A n c zs _ (HR.out.below (Sls.below_drewN B 1)) (by omega) HSH.out).mono ?_; rintro x w8 ⟨A8, c8, rfl, hown, hb⟩; have O8 := Lib.hid hown; replace hb : Below w7.heap.size w7 w8 := ⟨hb.os, hb.tape, hb.output, hb.size, hb.block⟩; have y8 := hb.size; replace a0 := Mem.lift hb a0; replace a1 := Mem.lift hb a1; replace a2 := Mem.lift hb a2; replace s0 := Mem.lift hb s0; replace s1 := Mem.lift hb s1; replace s2 := Mem.lift hb s2; replace x0 := Mem.lift hb x0; replace x1 := Mem.lift hb x1; replace x2 := Mem.lift hb x2; replace g0 := Mem.lift hb g0; replace g1 := Mem.lift hb g1; replace g2 := Mem.lift hb g2; replace B := stepW B hb; replace D := stepW D hb; replace OG := Lib.hid (OG.out.below hb (by omega)); replace OX := Lib.hid (OX.out.below hb (by omega)); clear hb hown)) | ((go_at_call 22; refine (eqGb_same pe lo A3 n c3 A8 c8 zs _ OX.out.rd O8.out.rd).mono ?_; rintro x w9 ⟨rfl, hb⟩; have y9 := hb.size; replace a0 := Mem.lift hb a0; replace a1 := Mem.lift hb a1; replace a2 := Mem.lift hb a2; replace s0 := Mem.lift hb s0; replace s1 := Mem.lift hb s1; replace s2 := Mem.lift hb s2; replace x0 := Mem.lift hb x0; replace x1 := Mem.lift hb x1; replace x2 := Mem.lift hb x2; replace g0 := Mem.lift hb g0; replace g1 := Mem.lift hb g1; replace g2 := Mem.lift hb g2; replace B := stepW B hb; replace D := stepW D hb; replace OG := Lib.hid (OG.out.below hb (by omega)); replace OX := Lib.hid (OX.out.below hb (by omega)); clear hb O8))); refine hK.out _ _ ?_ (fun hHeld => ?_); ((try dsimp only); exact ⟨a0, a1, a2, s0, s1, s2, x0, x1, x2, g0, g1, g2⟩); clear hK K)
  try simp only [Act.put, List.setIfInBounds_toArray, List.set_cons_zero, List.set_cons_succ]
  first | ((refine wpAnyH_take (i := 3) (v := undef) (Reg.get rfl) (by kernel_rfl) (by kernel_rfl) (by kernel_rfl) (fun _ _ _ h => h) (Or.inr ⟨by rfl, rfl⟩) hHeld ?_)) | (refine wpAnyH_ready (rs := [3]) (by kernel_rfl) (by simp) ?_; refine AllReadyH.cons (Reg.get rfl) (fun K hK => ?_) AllReadyH.nil; clear hHeld; go_simp; (first | ((go_at_call 27; refine (toGb_any pe lo A n c zs _ (HR.out.below (Sls.below_drewN B 1)) (by omega) HSH.out).mono ?_; rintro x w8 ⟨A8, c8, rfl, hown, hb⟩; have O8 := Lib.hid hown; replace hb : Below w7.heap.size w7 w8 := ⟨hb.os, hb.tape, hb.output, hb.size, hb.block⟩; have y8 := hb.size; replace a0 := Mem.lift hb a0; replace a1 := Mem.lift hb a1; replace a2 := Mem.lift hb a2; replace s0 := Mem.lift hb s0; replace s1 := Mem.lift hb s1; replace s2 := Mem.lift hb s2; replace x0 := Mem.lift hb x0; replace x1 := Mem.lift hb x1; replace x2 := Mem.lift hb x2; replace g0 := Mem.lift hb g0; replace g1 := Mem.lift hb g1; replace g2 := Mem.lift hb g2; replace B := stepW B hb; replace D := stepW D hb; replace OG := Lib.hid (OG.out.below hb (by omega)); replace OX := Lib.hid (OX.out.below hb (by omega)); clear hb hown)) | ((go_at_call 22; refine (eqGb_same pe lo A3 n c3 A8 c8 zs _ OX.out.rd O8.out.rd).mono ?_; rintro x w9 ⟨rfl, hb⟩; have y9 := hb.size; replace a0 := Mem.lift hb a0; replace a1 := Mem.lift hb a1; replace a2 := Mem.lift hb a2; replace s0 := Mem.lift hb s0; replace s1 := Mem.lift hb s1; replace s2 := Mem.lift hb s2; replace x0 := Mem.lift hb x0; replace x1 := Mem.lift hb x1; replace x2 := Mem.lift hb x2; replace g0 := Mem.lift hb g0; replace g1 := Mem.lift hb g1; replace g2 := Mem.lift hb g2; replace B := stepW B hb; replace D := stepW D hb; replace OG := Lib.hid (OG.out.below hb (by omega)); replace OX := Lib.hid (OX.out.below hb (by omega)); clear hb O8))); refine hK.out _ _ ?_ (fun hHeld => ?_); ((try dsimp only); exact ⟨a0, a1, a2, s0, s1, s2, x0, x1, x2, g0, g1, g2⟩); clear hK K)
  try simp only [Act.put, List.setIfInBounds_toArray, List.set_cons_zero, List.set_cons_succ]
  first | (refine wpAnyH_take (i := 4) (v := ?_) (Reg.get rfl) (by kernel_rfl) (by kernel_rfl) (by kernel_rfl) (fun _ _ _ h => h) (Or.inl ⟨by rfl, ?_⟩) hHeld ?_; rotate_left 1; (focus (intro w hSw; (try dsimp only at hSw); go_simp <;> with_reducible rfl))) | (refine wpAnyH_take (i := 4) (v := undef) (Reg.get rfl) (by kernel_rfl) (by kernel_rfl) (by kernel_rfl) (fun _ _ _ h => h) (Or.inr ⟨by rfl, rfl⟩) hHeld ?_)
  try simp only [Act.put, List.setIfInBounds_toArray, List.set_cons_zero, List.set_cons_succ]
  refine wpAnyH_done (by kernel_rfl) ?_ _
  go_wp2_with fail
  refine (HMX.out A3 c3 _ _ _ OX.out (by omega)).mono ?_
  rintro x w10 ⟨rfl, ht⟩
  replace a0 := cell_turned a0 ht (.inl (by omega)); replace a1 := cell_turned a1 ht (.inl (by omega)); replace a2 := cell_turned a2 ht (.inl (by omega)); replace s0 := cell_turned s0 ht (.inl (by omega)); replace s1 := cell_turned s1 ht (.inl (by omega)); replace s2 := cell_turned s2 ht (.inl (by omega))
  replace g0 := cell_turned g0 ht (.inr (by omega)); replace g1 := cell_turned g1 ht (.inr (by omega)); replace g2 := cell_turned g2 ht (.inr (by omega))
  replace D := D.trans (ht.below (by omega) (by omega))
  replace B := B.trans (ht.below (by omega) (by omega))
  replace OG := Lib.hid (OG.out.turned ht (.inr (by omega)) (by omega))
  have y10 := ht.size
  clear ht OX x0 x1 x2
  go_wp2_with fail
  refine (eqGb_same pe lo A5 gn c5 A2 c2 gs _ OG.out.rdx (H0X.out.below D)).mono ?_
  rintro x w11 ⟨rfl, hb⟩
  replace a0 := Mem.lift hb a0; replace a1 := Mem.lift hb a1; replace a2 := Mem.lift hb a2; replace s0 := Mem.lift hb s0; replace s1 := Mem.lift hb s1; replace s2 := Mem.lift hb s2; replace g0 := Mem.lift hb g0; replace g1 := Mem.lift hb g1; replace g2 := Mem.lift hb g2
  replace D := stepW D hb
  replace B := stepW B hb
  replace OG := Lib.hid (OG.out.below hb (by have := y10; omega))
  have y11 := hb.size
  clear hb
  go_wp2_with fail
  refine (eqSS_laws B5 ln d5 ls B2 ln d2 ls _ OG.out.rdy (H0Y.out.below D)).mono ?_
  rintro x w12 ⟨rfl, hb⟩
  rw [decide_eq_true rfl]
  replace a0 := Mem.lift hb a0; replace a1 := Mem.lift hb a1; replace a2 := Mem.lift hb a2; replace s0 := Mem.lift hb s0; replace s1 := Mem.lift hb s1; replace s2 := Mem.lift hb s2; replace g0 := Mem.lift hb g0; replace g1 := Mem.lift hb g1; replace g2 := Mem.lift hb g2
  replace D := stepW D hb
  replace B := stepW B hb
  replace OG := Lib.hid (OG.out.below hb (by have := y11; omega))
  have y12 := hb.size
  clear hb
  go_wp2_with fail
  refine (HMG.out A5 c5 B5 d5 _ _ _ OG.out (by omega)).mono ?_
  rintro x w13 ⟨rfl, ho, ht⟩
  replace a0 := cell_turned a0 ht (.inl (by omega)); replace a1 := cell_turned a1 ht (.inl (by omega)); replace a2 := cell_turned a2 ht (.inl (by omega)); replace s0 := cell_turned s0 ht (.inl (by omega)); replace s1 := cell_turned s1 ht (.inl (by omega)); replace s2 := cell_turned s2 ht (.inl (by omega))
  replace g0 := cell_turned g0 ht (.inr (Nat.le_refl _)); replace g1 := cell_turned g1 ht (.inr (Nat.le_refl _)); replace g2 := cell_turned g2 ht (.inr (Nat.le_refl _))
  replace D := D.trans (ht.below (by omega) (by omega))
  replace B := B.trans (ht.below (by omega) (by omega))
  replace OG := Lib.hid ho
  have y13 := ht.size
  clear ht ho
  go_wp2_with fail
  refine (HML.out A5 c5 B5 d5 _ _ _ OG.out).mono ?_
  rintro x w14 ⟨rfl, ho, ht⟩
  replace a0 := cell_turned a0 ht (.inl (by omega)); replace a1 := cell_turned a1 ht (.inl (by omega)); replace a2 := cell_turned a2 ht (.inl (by omega)); replace s0 := cell_turned s0 ht (.inl (by omega)); replace s1 := cell_turned s1 ht (.inl (by omega)); replace s2 := cell_turned s2 ht (.inl (by omega))
  replace g0 := cell_turned g0 ht (.inr (Nat.le_refl _)); replace g1 := cell_turned g1 ht (.inr (Nat.le_refl _)); replace g2 := cell_turned g2 ht (.inr (Nat.le_refl _))
  replace D := D.trans (ht.below (by omega) (by omega))
  replace B := B.trans (ht.below (by omega) (by omega))
  replace OG := Lib.hid ho
  have y14 := ht.size
  clear ht ho
  go_wp2_with fail
  refine (HHG.out A5 c5 _ OG.out.rdx).mono ?_
  rintro x w15 ⟨rfl, hb⟩
  replace a0 := Mem.lift hb a0; replace a1 := Mem.lift hb a1; replace a2 := Mem.lift hb a2; replace s0 := Mem.lift hb s0; replace s1 := Mem.lift hb s1; replace s2 := Mem.lift hb s2; replace g0 := Mem.lift hb g0; replace g1 := Mem.lift hb g1; replace g2 := Mem.lift hb g2
  replace D := stepW D hb
  replace B := stepW B hb
  replace OG := Lib.hid (OG.out.below hb (by have := y14; omega))
  have y15 := hb.size
  clear hb
  go_wp2_with fail
  refine (HHL.out B5 d5 _ OG.out.rdy).mono ?_
  rintro x w' ⟨rfl, rfl⟩
  go_wp2_with fail
  refine (toGb_any pe lo A n c zs _ (HR.out.below B) (by omega) HSH.out).mono ?_
  rintro x w16 ⟨A16, c16, rfl, hown, hb⟩
  have O16 := Lib.hid hown
  replace a0 := Mem.lift hb a0; replace a1 := Mem.lift hb a1; replace a2 := Mem.lift hb a2; replace s0 := Mem.lift hb s0; replace s1 := Mem.lift hb s1; replace s2 := Mem.lift hb s2; replace g0 := Mem.lift hb g0; replace g1 := Mem.lift hb g1; replace g2 := Mem.lift hb g2
  replace D := stepW D hb
  replace B := stepW B hb
  replace OG := Lib.hid (OG.out.below hb (by omega))
  have y16 := hb.size
  clear hb hown
  go_wp2_with fail
  refine (HI.out A16 c16 _ O16.out.rd).mono ?_
  rintro x w17 ⟨A17, c17, B17, d17, rfl, hown, hb⟩
  have O17 := Lib.hid hown
  replace a0 := Mem.lift hb a0; replace a1 := Mem.lift hb a1; replace a2 := Mem.lift hb a2; replace s0 := Mem.lift hb s0; replace s1 := Mem.lift hb s1; replace s2 := Mem.lift hb s2; replace g0 := Mem.lift hb g0; replace g1 := Mem.lift hb g1; replace g2 := Mem.lift hb g2
  replace D := stepW D hb
  replace B := stepW B hb
  replace OG := Lib.hid (OG.out.below hb (by omega))
  have y17 := hb.size
  have q1 : w.heap.size < w17.heap.size := World.block_lt_of_cell? w17 _ a0
  have q3 : w3.heap.size < w17.heap.size := World.block_lt_of_cell? w17 _ s0
  have q5 : w5.heap.size < w17.heap.size := World.block_lt_of_cell? w17 _ g0
  clear hb hown O16
  go_wp2_with fail
  refine (eqGb_same pe lo A17 gn c17 A2 c2 gs _ (O17.out.rdx.alloc _) ((H0X.out.below D).alloc _)).mono ?_
  rintro x w18 ⟨rfl, hb⟩
  obtain ⟨hc, hf⟩ := bcells hb
  replace g0 := (hc _ _ (by simp <;> omega)).trans ((World.cell?_alloc_old _ _ _ (by simp <;> omega)).trans g0); replace g1 := (hc _ _ (by simp <;> omega)).trans ((World.cell?_alloc_old _ _ _ (by simp <;> omega)).trans g1); replace g2 := (hc _ _ (by simp <;> omega)).trans ((World.cell?_alloc_old _ _ _ (by simp <;> omega)).trans g2)
  have hb5 : Below w17.heap.size w17 w18 := Below.trans (by go_grown) (hb.mono (by simp))
  replace D := stepW (D.alloc (by omega) _) hb
  replace B := stepW (B.alloc (by omega) _) hb
  replace OG := Lib.hid (OG.out.below hb5 (by omega))
  replace O17 := Lib.hid (O17.out.below hb5 (Nat.le_refl _))
  have y18 := hb5.size
  clear hb hc hf hb5 a0 a1 a2 s0 s1 s2
  go_wp2_with fail
  refine (eqSS_laws B17 ln d17 ls B2 ln d2 ls _ O17.out.rdy (H0Y.out.below D)).mono ?_
  rintro x w19 ⟨rfl, hb⟩
  rw [decide_eq_true rfl]
  replace g0 := Mem.lift hb g0; replace g1 := Mem.lift hb g1; replace g2 := Mem.lift hb g2
  replace B := stepW B hb
  replace OG := Lib.hid (OG.out.below hb (by omega))
  have y19 := hb.size
  clear hb
  go_wp2_with fail
  refine (HHG.out A5 c5 _ OG.out.rdx).mono ?_
  rintro x w20 ⟨rfl, hb⟩
  replace B := stepW B hb
  replace OG := Lib.hid (OG.out.below hb (by omega))
  clear hb
  go_wp2_with fail
  refine (HHL.out B5 d5 _ OG.out.rdy).mono ?_
  rintro x w' ⟨rfl, rfl⟩
  go_wp2
  go_ret
  exact ⟨rfl, B⟩
theorem rel_big (pe lo s : Int) (A : Option Addr) (n c : Nat) (zs : List (List Int)) (w : World) (hr : RdSS w A n c zs) (hn : 1048576 < n + totL zs) :
    Calls Try.prog 8 #[.agg #[.int .i64 pe, .slice A n c, .int .i64 lo], .int .i64 s] w fun x w' => x = .returned (.bool true) ∧ Below w.heap.size w w' := by
  have HR := Lib.hid hr
  clear hr
  go_enter Try.func8, Try.ntmps8
  go_wp2_with fail
  refine (szGb_any pe lo A n c zs 1048576 _ (HR.out.alloc _) (by omega) (by omega)).mono ?_
  rintro x w1 ⟨rfl, hb⟩
  rw [szOf_lt (by omega)]
  have HB := Lib.hid (show Below w.heap.size w w1 from Below.trans (by go_grown) (hb.mono (by simp)))
  clear hb
  go_wp2
  go_ret
  exact ⟨rfl, HB.out⟩
theorem rel_law (pe : Int) (A : Option Addr) (n c : Nat) (zs : List (List Int)) (lo : Int) (s : Int) (w : World) (_h0 : (Lit.int .i64 pe).wf = true) (hr : RdSS w A n c zs) (_h1 : (Lit.int .i64 lo).wf = true) (h2 : (Lit.int .i64 s).wf = true) :
    Calls Try.prog 8 #[.agg #[.int .i64 pe, .slice A n c, .int .i64 lo], .int .i64 s] w fun x w' => x = .returned (.bool true) ∧ Below w.heap.size w w' := by
  have hsl : -9223372036854775808 ≤ s ∧ s ≤ 9223372036854775807 := by have := bounds_i64 h2; omega
  by_cases hn : 1048576 < n + totL zs
  · exact rel_big pe lo s A n c zs w hr hn
  · by_cases h : validG pe lo zs n ∧ dcount s pe = 0
    · exact rel_core pe lo s A n c zs 0 [] n zs w (.inl ⟨h, rfl, rfl, rfl, rfl⟩) hsl hr (by omega)
    · exact rel_core pe lo s A n c zs n zs 0 [] w (.inr ⟨h, rfl, rfl, rfl, rfl⟩) hsl hr (by omega)
end Go.Proofs.Ytfjheaobojebhaa.Gb
