/- The walk of the law on EqualGroupBuffers. -/
import Derived.Test.YtfjheaobojebhaaGbE
import Derived.Test.YtfjheaobojebhaaReg
namespace Go.Proofs.Ytfjheaobojebhaa.Gb
open Go.RowKit
open Go.Proofs.Ytfjheaobojebhaa.Num Go.Proofs.Ytfjheaobojebhaa.Mem Go.Proofs.Ytfjheaobojebhaa.Sls Go.Proofs.Ytfjheaobojebhaa.Own Go.Proofs.Ytfjheaobojebhaa.SS Go.Proofs.Ytfjheaobojebhaa.Bcn Go.Proofs.Ytfjheaobojebhaa.Hsh
set_option linter.unusedSimpArgs false
set_option maxHeartbeats 4000000 in
set_option maxRecDepth 100000 in
theorem egb_core (pe lo : Int) (A : Option Addr) (n c : Nat) (xs : List (List Int)) (pe' lo' : Int) (B : Option Addr) (m d : Nat) (ys : List (List Int)) (r : Bool) (w : World)
    (hspec : ∀ (A : Option Addr) (c : Nat) (B : Option Addr) (d : Nat) (w : World), RdSS w A n c xs → RdSS w B m d ys → Calls Try.prog 29 #[.agg #[.int .i64 pe, .slice A n c, .int .i64 lo], .agg #[.int .i64 pe', .slice B m d, .int .i64 lo']] w fun x w' => x = .returned (.bool r) ∧ Below w.heap.size w w')
    (himpl : ∀ (A : Option Addr) (c : Nat) (B : Option Addr) (d : Nat) (w : World), RdSS w A n c xs → RdSS w B m d ys → Calls Try.prog 30 #[.agg #[.int .i64 pe, .slice A n c, .int .i64 lo], .agg #[.int .i64 pe', .slice B m d, .int .i64 lo']] w fun x w' => x = .returned (.bool r) ∧ Below w.heap.size w w')
    (hx : RdSS w A n c xs) (hy : RdSS w B m d ys) (hn : n + totL xs + (m + totL ys) ≤ 1048576) :
    Calls Try.prog 6 #[.agg #[.int .i64 pe, .slice A n c, .int .i64 lo], .agg #[.int .i64 pe', .slice B m d, .int .i64 lo']] w fun x w' => x = .returned (.bool true) ∧ Below w.heap.size w w' := by
  have er : (r != r) = false := by simp
  have HX := Lib.hid hx
  have HY := Lib.hid hy
  have HS := Lib.hid hspec
  have HI := Lib.hid himpl
  clear hx hy hspec himpl
  have HSX := Lib.hid (short_of_tot (xss := xs) (by omega))
  have HSY := Lib.hid (short_of_tot (xss := ys) (by omega))
  obtain ⟨w0, hW⟩ : ∃ W, W = (w.alloc (.cells #[.int .i64 pe, .slice A n c, .int .i64 lo] 37)).alloc (.cells #[.int .i64 pe', .slice B m d, .int .i64 lo'] 37) := ⟨_, rfl⟩
  have a0 : w0.cell? ⟨w.heap.size, 0, none⟩ = some (.int .i64 pe) := by rw [hW]; first | (simp; done) | (simp [World.cell?_alloc_at]; done) | (rw [World.cell?_alloc_old _ _ _ (by simp <;> omega)]; first | (simp; done) | (simp [World.cell?_alloc_at]; done))
  have a1 : w0.cell? ⟨w.heap.size, 1, none⟩ = some (.slice A n c) := by rw [hW]; first | (simp; done) | (simp [World.cell?_alloc_at]; done) | (rw [World.cell?_alloc_old _ _ _ (by simp <;> omega)]; first | (simp; done) | (simp [World.cell?_alloc_at]; done))
  have a2 : w0.cell? ⟨w.heap.size, 2, none⟩ = some (.int .i64 lo) := by rw [hW]; first | (simp; done) | (simp [World.cell?_alloc_at]; done) | (rw [World.cell?_alloc_old _ _ _ (by simp <;> omega)]; first | (simp; done) | (simp [World.cell?_alloc_at]; done))
  have b0 : w0.cell? ⟨w.heap.size + 1, 0, none⟩ = some (.int .i64 pe') := by rw [hW]; first | (simp; done) | (simp [World.cell?_alloc_at]; done)
  have b1 : w0.cell? ⟨w.heap.size + 1, 1, none⟩ = some (.slice B m d) := by rw [hW]; first | (simp; done) | (simp [World.cell?_alloc_at]; done)
  have b2 : w0.cell? ⟨w.heap.size + 1, 2, none⟩ = some (.int .i64 lo') := by rw [hW]; first | (simp; done) | (simp [World.cell?_alloc_at]; done)
  have D : Below w.heap.size w w0 := by rw [hW]; exact ((Below.refl _ _).alloc (Nat.le_refl _) _).alloc (by simp) _
  have HW := Lib.hid hW
  clear hW
  go_enter Try.func6, Try.ntmps6
  go_wp2_with fail
  rw [← HW.out]
  clear HW
  refine (szGb_any pe lo A n c xs 1048576 _ (HX.out.below D) (by omega) (by omega)).mono ?_
  rintro x w1 ⟨rfl, hb⟩
  rw [szOf_ge (by omega)]
  replace a0 := Mem.lift hb a0
  replace a1 := Mem.lift hb a1
  replace a2 := Mem.lift hb a2
  replace b0 := Mem.lift hb b0
  replace b1 := Mem.lift hb b1
  replace b2 := Mem.lift hb b2
  replace D := stepW D hb
  clear hb
  have g0 : (0 : Int) ≤ 1048576 - ((n + totL xs : Nat) : Int) := by omega
  go_wp2_with fail
  refine (szGb_any pe' lo' B m d ys (1048576 - ((n + totL xs : Nat) : Int)) _ (HY.out.below D) (by omega) (by omega)).mono ?_
  rintro x w2 ⟨rfl, hb⟩
  rw [szOf_ge (by omega)]
  replace a0 := Mem.lift hb a0
  replace a1 := Mem.lift hb a1
  replace a2 := Mem.lift hb a2
  replace b0 := Mem.lift hb b0
  replace b1 := Mem.lift hb b1
  replace b2 := Mem.lift hb b2
  replace D := stepW D hb
  clear hb
  have g1 : (0 : Int) ≤ 1048576 - ((n + totL xs : Nat) : Int) - ((m + totL ys : Nat) : Int) := by omega
  go_wp2_with fail
  refine wp_region_held_drew (S := (fun w' => w'.cell? ⟨w.heap.size, 0, none⟩ = some (.int .i64 pe) ∧ w'.cell? ⟨w.heap.size, 1, none⟩ = some (.slice A n c) ∧ w'.cell? ⟨w.heap.size, 2, none⟩ = some (.int .i64 lo) ∧ w'.cell? ⟨w.heap.size + 1, 0, none⟩ = some (.int .i64 pe') ∧ w'.cell? ⟨w.heap.size + 1, 1, none⟩ = some (.slice B m d) ∧ w'.cell? ⟨w.heap.size + 1, 2, none⟩ = some (.int .i64 lo'))) (by kernel_rfl) ?_ (fun hHeld => ?_)
  · (try dsimp only); exact ⟨a0, a1, a2, b0, b1, b2⟩
  first | (refine wpAnyH_take (i := 0) (v := ?_) (Reg.get rfl) (by kernel_rfl) (by kernel_rfl) (by kernel_rfl) (fun _ _ _ h => h) (Or.inl ⟨by rfl, ?_⟩) hHeld ?_; rotate_left 1; (focus (intro w hSw; (try dsimp only at hSw); go_simp <;> with_reducible rfl))) | (refine wpAnyH_take (i := 0) (v := undef) (Reg.get rfl) (by kernel_rfl) (by kernel_rfl) (by kernel_rfl) (fun _ _ _ h => h) (Or.inr ⟨by rfl, rfl⟩) hHeld ?_)
  try simp only [Act.put, List.setIfInBounds_toArray, List.set_cons_zero, List.set_cons_succ]
  first | (refine wpAnyH_take (i := 2) (v := ?_) (Reg.get rfl) (by kernel_rfl) (by kernel_rfl) (by kernel_rfl) (fun _ _ _ h => h) (Or.inl ⟨by rfl, ?_⟩) hHeld ?_; rotate_left 1; (focus (intro w hSw; (try dsimp only at hSw); go_simp <;> with_reducible rfl))) | (refine wpAnyH_take (i := 2) (v := undef) (Reg.get rfl) (by kernel_rfl) (by kernel_rfl) (by kernel_rfl) (fun _ _ _ h => h) (Or.inr ⟨by rfl, rfl⟩) hHeld ?_)
  try simp only [Act.put, List.setIfInBounds_toArray, List.set_cons_zero, List.set_cons_succ]
  first | ((refine wpAnyH_take (i := 1) (v := undef) (Reg.get rfl) (by kernel_rfl) (by kernel_rfl) (by kernel_rfl) (fun _ _ _ h => h) (Or.inr ⟨by rfl, rfl⟩) hHeld ?_)) | (refine wpAnyH_ready (rs := [1]) (by kernel_rfl) (by simp) ?_; refine AllReadyH.cons (Reg.get rfl) (fun K hK => ?_) AllReadyH.nil; clear hHeld; go_simp; ((go_at_call 27; refine (toGb_any pe lo A n c xs _ (HX.out.below (Sls.below_drewN D 1)) (by omega) HSX.out).mono ?_; rintro x w3 ⟨A1, c1, rfl, hown, hb⟩; have O1 := Lib.hid (hown); replace hb : Below w2.heap.size w2 w3 := ⟨hb.os, hb.tape, hb.output, hb.size, hb.block⟩; replace a0 := Mem.lift hb a0; replace a1 := Mem.lift hb a1; replace a2 := Mem.lift hb a2; replace b0 := Mem.lift hb b0; replace b1 := Mem.lift hb b1; replace b2 := Mem.lift hb b2; replace D := stepW D hb; clear hb hown)); refine hK.out _ _ ?_ (fun hHeld => ?_); ((try dsimp only); exact ⟨a0, a1, a2, b0, b1, b2⟩); clear hK K)
  try simp only [Act.put, List.setIfInBounds_toArray, List.set_cons_zero, List.set_cons_succ]
  first | ((refine wpAnyH_take (i := 3) (v := undef) (Reg.get rfl) (by kernel_rfl) (by kernel_rfl) (by kernel_rfl) (fun _ _ _ h => h) (Or.inr ⟨by rfl, rfl⟩) hHeld ?_)) | (refine wpAnyH_ready (rs := [3]) (by kernel_rfl) (by simp) ?_; refine AllReadyH.cons (Reg.get rfl) (fun K hK => ?_) AllReadyH.nil; clear hHeld; go_simp; ((go_at_call 27; refine (toGb_any pe' lo' B m d ys _ (HY.out.below D) (by omega) HSY.out).mono ?_; rintro x w4 ⟨B1, d1, rfl, hown, hb⟩; have O2 := Lib.hid (hown.rd); replace a0 := Mem.lift hb a0; replace a1 := Mem.lift hb a1; replace a2 := Mem.lift hb a2; replace b0 := Mem.lift hb b0; replace b1 := Mem.lift hb b1; replace b2 := Mem.lift hb b2; replace D := stepW D hb; have O3 := Lib.hid (O1.out.below hb (Nat.le_refl _)); clear hb hown O1)); refine hK.out _ _ ?_ (fun hHeld => ?_); ((try dsimp only); exact ⟨a0, a1, a2, b0, b1, b2⟩); clear hK K)
  try simp only [Act.put, List.setIfInBounds_toArray, List.set_cons_zero, List.set_cons_succ]
  first | ((refine wpAnyH_take (i := 4) (v := undef) (Reg.get rfl) (by kernel_rfl) (by kernel_rfl) (by kernel_rfl) (fun _ _ _ h => h) (Or.inr ⟨by rfl, rfl⟩) hHeld ?_)) | (refine wpAnyH_ready (rs := [4]) (by kernel_rfl) (by simp) ?_; refine AllReadyH.cons (Reg.get rfl) (fun K hK => ?_) AllReadyH.nil; clear hHeld; go_simp; ((go_at_call 29; refine (HS.out A1 c1 B1 d1 _ O3.out.rd O2.out).mono ?_; rintro x w5 ⟨rfl, hb⟩; replace a0 := Mem.lift hb a0; replace a1 := Mem.lift hb a1; replace a2 := Mem.lift hb a2; replace b0 := Mem.lift hb b0; replace b1 := Mem.lift hb b1; replace b2 := Mem.lift hb b2; replace D := stepW D hb; clear hb O2 O3)); refine hK.out _ _ ?_ (fun hHeld => ?_); ((try dsimp only); exact ⟨a0, a1, a2, b0, b1, b2⟩); clear hK K)
  try simp only [Act.put, List.setIfInBounds_toArray, List.set_cons_zero, List.set_cons_succ]
  first | (refine wpAnyH_take (i := 5) (v := ?_) (Reg.get rfl) (by kernel_rfl) (by kernel_rfl) (by kernel_rfl) (fun _ _ _ h => h) (Or.inl ⟨by rfl, ?_⟩) hHeld ?_; rotate_left 1; (focus (intro w hSw; (try dsimp only at hSw); go_simp <;> with_reducible rfl))) | (refine wpAnyH_take (i := 5) (v := undef) (Reg.get rfl) (by kernel_rfl) (by kernel_rfl) (by kernel_rfl) (fun _ _ _ h => h) (Or.inr ⟨by rfl, rfl⟩) hHeld ?_)
  try simp only [Act.put, List.setIfInBounds_toArray, List.set_cons_zero, List.set_cons_succ]
  refine wpAnyH_done (by kernel_rfl) ?_ _
  go_wp2_with fail
  refine (toGb_any pe lo A n c xs _ (HX.out.below D) (by omega) HSX.out).mono ?_
  rintro x w6 ⟨A3, c3, rfl, hown, hb⟩
  replace a0 := Mem.lift hb a0
  replace a1 := Mem.lift hb a1
  replace a2 := Mem.lift hb a2
  replace b0 := Mem.lift hb b0
  replace b1 := Mem.lift hb b1
  replace b2 := Mem.lift hb b2
  replace D := stepW D hb
  have z6 : w.heap.size < w6.heap.size := World.block_lt_of_cell? w6 _ a0
  have z6b : w.heap.size + 1 < w6.heap.size := World.block_lt_of_cell? w6 _ b0
  have OX := Lib.hid (hown)
  clear hb hown
  go_wp2_with fail
  refine (toGb_any pe' lo' B m d ys _ (HY.out.below (D.alloc (by omega) _)) (by omega) HSY.out).mono ?_
  rintro x w7 ⟨B3, d3, rfl, hown, hb⟩
  obtain ⟨hc, hf⟩ := bcells hb
  have x0 := (hc (w6.heap.size) 0 (by simp <;> omega)).trans (show _ = some (.int .i64 pe) from by first | (simp; done) | (simp [World.cell?_alloc_at]; done) | (rw [World.cell?_alloc_old _ _ _ (by simp <;> omega)]; first | (simp; done) | (simp [World.cell?_alloc_at]; done))); have x1 := (hc (w6.heap.size) 1 (by simp <;> omega)).trans (show _ = some (.slice A3 n c3) from by first | (simp; done) | (simp [World.cell?_alloc_at]; done) | (rw [World.cell?_alloc_old _ _ _ (by simp <;> omega)]; first | (simp; done) | (simp [World.cell?_alloc_at]; done))); have x2 := (hc (w6.heap.size) 2 (by simp <;> omega)).trans (show _ = some (.int .i64 lo) from by first | (simp; done) | (simp [World.cell?_alloc_at]; done) | (rw [World.cell?_alloc_old _ _ _ (by simp <;> omega)]; first | (simp; done) | (simp [World.cell?_alloc_at]; done)))
  have OY := Lib.hid ((hown).wider (l2 := w6.heap.size + 1) (h2 := w7.heap.size) (by simp) (Nat.le_refl _))
  replace hb : Below w6.heap.size w6 w7 := Below.trans ((Below.refl w6.heap.size w6).alloc (Nat.le_refl _) (.cells #[.int .i64 pe, .slice A3 n c3, .int .i64 lo] 33)) (hb.mono (by simp))
  replace a0 := Mem.lift hb a0
  replace a1 := Mem.lift hb a1
  replace a2 := Mem.lift hb a2
  replace b0 := Mem.lift hb b0
  replace b1 := Mem.lift hb b1
  replace b2 := Mem.lift hb b2
  replace D := stepW D hb
  have z7 : w6.heap.size < w7.heap.size := World.block_lt_of_cell? w7 _ x0
  replace OX := Lib.hid (OX.out.below hb (Nat.le_refl _))
  clear hb hown hc hf
  have h7 := Lib.hid ((Below.refl w7.heap.size w7).alloc (Nat.le_refl _) (.cells #[.int .i64 pe', .slice B3 m d3, .int .i64 lo'] 33))
  have OX7 := Lib.hid (OX.out.below h7.out (by omega))
  have OY7 := Lib.hid (OY.out.below h7.out (Nat.le_refl _))
  go_wp2_with fail
  refine (HI.out A3 c3 B3 d3 _ OX7.out.rd OY7.out.rd).mono ?_
  rintro x w8 ⟨rfl, hb⟩
  obtain ⟨hc, hf⟩ := bcells hb
  have y0 := (hc (w7.heap.size) 0 (by simp <;> omega)).trans (show _ = some (.int .i64 pe') from by first | (simp; done) | (simp [World.cell?_alloc_at]; done) | (rw [World.cell?_alloc_old _ _ _ (by simp <;> omega)]; first | (simp; done) | (simp [World.cell?_alloc_at]; done))); have y1 := (hc (w7.heap.size) 1 (by simp <;> omega)).trans (show _ = some (.slice B3 m d3) from by first | (simp; done) | (simp [World.cell?_alloc_at]; done) | (rw [World.cell?_alloc_old _ _ _ (by simp <;> omega)]; first | (simp; done) | (simp [World.cell?_alloc_at]; done))); have y2 := (hc (w7.heap.size) 2 (by simp <;> omega)).trans (show _ = some (.int .i64 lo') from by first | (simp; done) | (simp [World.cell?_alloc_at]; done) | (rw [World.cell?_alloc_old _ _ _ (by simp <;> omega)]; first | (simp; done) | (simp [World.cell?_alloc_at]; done)))
  replace hb : Below w7.heap.size w7 w8 := Below.trans h7.out (hb.mono (by simp))
  replace a0 := Mem.lift hb a0
  replace a1 := Mem.lift hb a1
  replace a2 := Mem.lift hb a2
  replace b0 := Mem.lift hb b0
  replace b1 := Mem.lift hb b1
  replace b2 := Mem.lift hb b2
  replace x0 := Mem.lift hb x0
  replace x1 := Mem.lift hb x1
  replace x2 := Mem.lift hb x2
  replace D := stepW D hb
  have z8 : w7.heap.size < w8.heap.size := World.block_lt_of_cell? w8 _ y0
  replace OX := Lib.hid (OX.out.below hb (by omega))
  replace OY := Lib.hid (OY.out.below hb (Nat.le_refl _))
  clear hb hc hf h7 OX7 OY7
  go_wp2_with fail
  refine wp_region_held_drew (S := (fun w' => w'.cell? ⟨w6.heap.size, 0, none⟩ = some (.int .i64 pe) ∧ w'.cell? ⟨w6.heap.size, 1, none⟩ = some (.slice A3 n c3) ∧ w'.cell? ⟨w6.heap.size, 2, none⟩ = some (.int .i64 lo) ∧ w'.cell? ⟨w.heap.size, 0, none⟩ = some (.int .i64 pe) ∧ w'.cell? ⟨w.heap.size, 1, none⟩ = some (.slice A n c) ∧ w'.cell? ⟨w.heap.size, 2, none⟩ = some (.int .i64 lo))) (by kernel_rfl) ?_ (fun hHeld => ?_)
  · (try dsimp only); exact ⟨x0, x1, x2, a0, a1, a2⟩
  first | (refine wpAnyH_take (i := 0) (v := ?_) (Reg.get rfl) (by kernel_rfl) (by kernel_rfl) (by kernel_rfl) (fun _ _ _ h => h) (Or.inl ⟨by rfl, ?_⟩) hHeld ?_; rotate_left 1; (focus (intro w hSw; (try dsimp only at hSw); go_simp <;> with_reducible rfl))) | (refine wpAnyH_take (i := 0) (v := undef) (Reg.get rfl) (by kernel_rfl) (by kernel_rfl) (by kernel_rfl) (fun _ _ _ h => h) (Or.inr ⟨by rfl, rfl⟩) hHeld ?_)
  try simp only [Act.put, List.setIfInBounds_toArray, List.set_cons_zero, List.set_cons_succ]
  first | (refine wpAnyH_take (i := 1) (v := ?_) (Reg.get rfl) (by kernel_rfl) (by kernel_rfl) (by kernel_rfl) (fun _ _ _ h => h) (Or.inl ⟨by rfl, ?_⟩) hHeld ?_; rotate_left 1; (focus (intro w hSw; (try dsimp only at hSw); go_simp <;> with_reducible rfl))) | (refine wpAnyH_take (i := 1) (v := undef) (Reg.get rfl) (by kernel_rfl) (by kernel_rfl) (by kernel_rfl) (fun _ _ _ h => h) (Or.inr ⟨by rfl, rfl⟩) hHeld ?_)
  try simp only [Act.put, List.setIfInBounds_toArray, List.set_cons_zero, List.set_cons_succ]
  first | ((refine wpAnyH_take (i := 2) (v := undef) (Reg.get rfl) (by kernel_rfl) (by kernel_rfl) (by kernel_rfl) (fun _ _ _ h => h) (Or.inr ⟨by rfl, rfl⟩) hHeld ?_)) | (refine wpAnyH_ready (rs := [2]) (by kernel_rfl) (by simp) ?_; refine AllReadyH.cons (Reg.get rfl) (fun K hK => ?_) AllReadyH.nil; clear hHeld; go_simp; (first | ((go_at_call 27; refine (toGb_any pe lo A n c xs _ (HX.out.below (Sls.below_drewN D 1)) (by omega) HSX.out).mono ?_; rintro x w9a ⟨A7, c7, rfl, hown, hb⟩; have O7 := Lib.hid (hown); replace hb : Below w8.heap.size w8 w9a := ⟨hb.os, hb.tape, hb.output, hb.size, hb.block⟩; have y9a := hb.size; replace a0 := Mem.lift hb a0; replace a1 := Mem.lift hb a1; replace a2 := Mem.lift hb a2; replace b0 := Mem.lift hb b0; replace b1 := Mem.lift hb b1; replace b2 := Mem.lift hb b2; replace x0 := Mem.lift hb x0; replace x1 := Mem.lift hb x1; replace x2 := Mem.lift hb x2; replace y0 := Mem.lift hb y0; replace y1 := Mem.lift hb y1; replace y2 := Mem.lift hb y2; replace D := stepW D hb; replace OX := Lib.hid (OX.out.below hb (by first | exact Nat.le_refl _ | (simp; done) | (simp; omega) | omega)); replace OY := Lib.hid (OY.out.below hb (by first | exact Nat.le_refl _ | (simp; done) | (simp; omega) | omega)); clear hb hown)) | ((go_at_call 22; refine (eqGb_same pe lo A3 n c3 A7 c7 xs _ OX.out.rd O7.out.rd).mono ?_; rintro x w9b ⟨rfl, hb⟩; have y9b := hb.size; replace a0 := Mem.lift hb a0; replace a1 := Mem.lift hb a1; replace a2 := Mem.lift hb a2; replace b0 := Mem.lift hb b0; replace b1 := Mem.lift hb b1; replace b2 := Mem.lift hb b2; replace x0 := Mem.lift hb x0; replace x1 := Mem.lift hb x1; replace x2 := Mem.lift hb x2; replace y0 := Mem.lift hb y0; replace y1 := Mem.lift hb y1; replace y2 := Mem.lift hb y2; replace D := stepW D hb; replace OX := Lib.hid (OX.out.below hb (by first | exact Nat.le_refl _ | (simp; done) | (simp; omega) | omega)); replace OY := Lib.hid (OY.out.below hb (by first | exact Nat.le_refl _ | (simp; done) | (simp; omega) | omega)); clear hb O7))); refine hK.out _ _ ?_ (fun hHeld => ?_); ((try dsimp only); exact ⟨x0, x1, x2, a0, a1, a2⟩); clear hK K)
  try simp only [Act.put, List.setIfInBounds_toArray, List.set_cons_zero, List.set_cons_succ]
  first | ((refine wpAnyH_take (i := 3) (v := undef) (Reg.get rfl) (by kernel_rfl) (by kernel_rfl) (by kernel_rfl) (fun _ _ _ h => h) (Or.inr ⟨by rfl, rfl⟩) hHeld ?_)) | (refine wpAnyH_ready (rs := [3]) (by kernel_rfl) (by simp) ?_; refine AllReadyH.cons (Reg.get rfl) (fun K hK => ?_) AllReadyH.nil; clear hHeld; go_simp; (first | ((go_at_call 27; refine (toGb_any pe lo A n c xs _ (HX.out.below (Sls.below_drewN D 1)) (by omega) HSX.out).mono ?_; rintro x w9a ⟨A7, c7, rfl, hown, hb⟩; have O7 := Lib.hid (hown); replace hb : Below w8.heap.size w8 w9a := ⟨hb.os, hb.tape, hb.output, hb.size, hb.block⟩; have y9a := hb.size; replace a0 := Mem.lift hb a0; replace a1 := Mem.lift hb a1; replace a2 := Mem.lift hb a2; replace b0 := Mem.lift hb b0; replace b1 := Mem.lift hb b1; replace b2 := Mem.lift hb b2; replace x0 := Mem.lift hb x0; replace x1 := Mem.lift hb x1; replace x2 := Mem.lift hb x2; replace y0 := Mem.lift hb y0; replace y1 := Mem.lift hb y1; replace y2 := Mem.lift hb y2; replace D := stepW D hb; replace OX := Lib.hid (OX.out.below hb (by first | exact Nat.le_refl _ | (simp; done) | (simp; omega) | omega)); replace OY := Lib.hid (OY.out.below hb (by first | exact Nat.le_refl _ | (simp; done) | (simp; omega) | omega)); clear hb hown)) | ((go_at_call 22; refine (eqGb_same pe lo A3 n c3 A7 c7 xs _ OX.out.rd O7.out.rd).mono ?_; rintro x w9b ⟨rfl, hb⟩; have y9b := hb.size; replace a0 := Mem.lift hb a0; replace a1 := Mem.lift hb a1; replace a2 := Mem.lift hb a2; replace b0 := Mem.lift hb b0; replace b1 := Mem.lift hb b1; replace b2 := Mem.lift hb b2; replace x0 := Mem.lift hb x0; replace x1 := Mem.lift hb x1; replace x2 := Mem.lift hb x2; replace y0 := Mem.lift hb y0; replace y1 := Mem.lift hb y1; replace y2 := Mem.lift hb y2; replace D := stepW D hb; replace OX := Lib.hid (OX.out.below hb (by first | exact Nat.le_refl _ | (simp; done) | (simp; omega) | omega)); replace OY := Lib.hid (OY.out.below hb (by first | exact Nat.le_refl _ | (simp; done) | (simp; omega) | omega)); clear hb O7))); refine hK.out _ _ ?_ (fun hHeld => ?_); ((try dsimp only); exact ⟨x0, x1, x2, a0, a1, a2⟩); clear hK K)
  try simp only [Act.put, List.setIfInBounds_toArray, List.set_cons_zero, List.set_cons_succ]
  first | (refine wpAnyH_take (i := 4) (v := ?_) (Reg.get rfl) (by kernel_rfl) (by kernel_rfl) (by kernel_rfl) (fun _ _ _ h => h) (Or.inl ⟨by rfl, ?_⟩) hHeld ?_; rotate_left 1; (focus (intro w hSw; (try dsimp only at hSw); go_simp <;> with_reducible rfl))) | (refine wpAnyH_take (i := 4) (v := undef) (Reg.get rfl) (by kernel_rfl) (by kernel_rfl) (by kernel_rfl) (fun _ _ _ h => h) (Or.inr ⟨by rfl, rfl⟩) hHeld ?_)
  try simp only [Act.put, List.setIfInBounds_toArray, List.set_cons_zero, List.set_cons_succ]
  refine wpAnyH_done (by kernel_rfl) ?_ _
  go_wp2_with fail
  refine wp_region_held_drew (S := (fun w' => w'.cell? ⟨w7.heap.size, 0, none⟩ = some (.int .i64 pe') ∧ w'.cell? ⟨w7.heap.size, 1, none⟩ = some (.slice B3 m d3) ∧ w'.cell? ⟨w7.heap.size, 2, none⟩ = some (.int .i64 lo') ∧ w'.cell? ⟨w.heap.size + 1, 0, none⟩ = some (.int .i64 pe') ∧ w'.cell? ⟨w.heap.size + 1, 1, none⟩ = some (.slice B m d) ∧ w'.cell? ⟨w.heap.size + 1, 2, none⟩ = some (.int .i64 lo'))) (by kernel_rfl) ?_ (fun hHeld => ?_)
  · (try dsimp only); exact ⟨y0, y1, y2, b0, b1, b2⟩
  first | (refine wpAnyH_take (i := 0) (v := ?_) (Reg.get rfl) (by kernel_rfl) (by kernel_rfl) (by kernel_rfl) (fun _ _ _ h => h) (Or.inl ⟨by rfl, ?_⟩) hHeld ?_; rotate_left 1; (focus (intro w hSw; (try dsimp only at hSw); go_simp <;> with_reducible rfl))) | (refine wpAnyH_take (i := 0) (v := undef) (Reg.get rfl) (by kernel_rfl) (by kernel_rfl) (by kernel_rfl) (fun _ _ _ h => h) (Or.inr ⟨by rfl, rfl⟩) hHeld ?_)
  try simp only [Act.put, List.setIfInBounds_toArray, List.set_cons_zero, List.set_cons_succ]
  first | (refine wpAnyH_take (i := 1) (v := ?_) (Reg.get rfl) (by kernel_rfl) (by kernel_rfl) (by kernel_rfl) (fun _ _ _ h => h) (Or.inl ⟨by rfl, ?_⟩) hHeld ?_; rotate_left 1; (focus (intro w hSw; (try dsimp only at hSw); go_simp <;> with_reducible rfl))) | (refine wpAnyH_take (i := 1) (v := undef) (Reg.get rfl) (by kernel_rfl) (by kernel_rfl) (by kernel_rfl) (fun _ _ _ h => h) (Or.inr ⟨by rfl, rfl⟩) hHeld ?_)
  try simp only [Act.put, List.setIfInBounds_toArray, List.set_cons_zero, List.set_cons_succ]
  first | ((refine wpAnyH_take (i := 2) (v := undef) (Reg.get rfl) (by kernel_rfl) (by kernel_rfl) (by kernel_rfl) (fun _ _ _ h => h) (Or.inr ⟨by rfl, rfl⟩) hHeld ?_)) | (refine wpAnyH_ready (rs := [2]) (by kernel_rfl) (by simp) ?_; refine AllReadyH.cons (Reg.get rfl) (fun K hK => ?_) AllReadyH.nil; clear hHeld; go_simp; (first | ((go_at_call 27; refine (toGb_any pe' lo' B m d ys _ (HY.out.below (Sls.below_drewN D 1)) (by omega) HSY.out).mono ?_; rintro x w10a ⟨A7, c7, rfl, hown, hb⟩; have O7 := Lib.hid (hown); replace hb : Below w9b.heap.size w9b w10a := ⟨hb.os, hb.tape, hb.output, hb.size, hb.block⟩; have y10a := hb.size; replace a0 := Mem.lift hb a0; replace a1 := Mem.lift hb a1; replace a2 := Mem.lift hb a2; replace b0 := Mem.lift hb b0; replace b1 := Mem.lift hb b1; replace b2 := Mem.lift hb b2; replace x0 := Mem.lift hb x0; replace x1 := Mem.lift hb x1; replace x2 := Mem.lift hb x2; replace y0 := Mem.lift hb y0; replace y1 := Mem.lift hb y1; replace y2 := Mem.lift hb y2; replace D := stepW D hb; replace OX := Lib.hid (OX.out.below hb (by first | exact Nat.le_refl _ | (simp; done) | (simp; omega) | omega)); replace OY := Lib.hid (OY.out.below hb (by first | exact Nat.le_refl _ | (simp; done) | (simp; omega) | omega)); clear hb hown)) | ((go_at_call 22; refine (eqGb_same pe' lo' B3 m d3 A7 c7 ys _ OY.out.rd O7.out.rd).mono ?_; rintro x w10b ⟨rfl, hb⟩; have y10b := hb.size; replace a0 := Mem.lift hb a0; replace a1 := Mem.lift hb a1; replace a2 := Mem.lift hb a2; replace b0 := Mem.lift hb b0; replace b1 := Mem.lift hb b1; replace b2 := Mem.lift hb b2; replace x0 := Mem.lift hb x0; replace x1 := Mem.lift hb x1; replace x2 := Mem.lift hb x2; replace y0 := Mem.lift hb y0; replace y1 := Mem.lift hb y1; replace y2 := Mem.lift hb y2; replace D := stepW D hb; replace OX := Lib.hid (OX.out.below hb (by first | exact Nat.le_refl _ | (simp; done) | (simp; omega) | omega)); replace OY := Lib.hid (OY.out.below hb (by first | exact Nat.le_refl _ | (simp; done) | (simp; omega) | omega)); clear hb O7))); refine hK.out _ _ ?_ (fun hHeld => ?_); ((try dsimp only); exact ⟨y0, y1, y2, b0, b1, b2⟩); clear hK K)
  try simp only [Act.put, List.setIfInBounds_toArray, List.set_cons_zero, List.set_cons_succ]
  first | ((refine wpAnyH_take (i := 3) (v := undef) (Reg.get rfl) (by kernel_rfl) (by kernel_rfl) (by kernel_rfl) (fun _ _ _ h => h) (Or.inr ⟨by rfl, rfl⟩) hHeld ?_)) | (refine wpAnyH_ready (rs := [3]) (by kernel_rfl) (by simp) ?_; refine AllReadyH.cons (Reg.get rfl) (fun K hK => ?_) AllReadyH.nil; clear hHeld; go_simp; (first | ((go_at_call 27; refine (toGb_any pe' lo' B m d ys _ (HY.out.below (Sls.below_drewN D 1)) (by omega) HSY.out).mono ?_; rintro x w10a ⟨A7, c7, rfl, hown, hb⟩; have O7 := Lib.hid (hown); replace hb : Below w9b.heap.size w9b w10a := ⟨hb.os, hb.tape, hb.output, hb.size, hb.block⟩; have y10a := hb.size; replace a0 := Mem.lift hb a0; replace a1 := Mem.lift hb a1; replace a2 := Mem.lift hb a2; replace b0 := Mem.lift hb b0; replace b1 := Mem.lift hb b1; replace b2 := Mem.lift hb b2; replace x0 := Mem.lift hb x0; replace x1 := Mem.lift hb x1; replace x2 := Mem.lift hb x2; replace y0 := Mem.lift hb y0; replace y1 := Mem.lift hb y1; replace y2 := Mem.lift hb y2; replace D := stepW D hb; replace OX := Lib.hid (OX.out.below hb (by first | exact Nat.le_refl _ | (simp; done) | (simp; omega) | omega)); replace OY := Lib.hid (OY.out.below hb (by first | exact Nat.le_refl _ | (simp; done) | (simp; omega) | omega)); clear hb hown)) | ((go_at_call 22; refine (eqGb_same pe' lo' B3 m d3 A7 c7 ys _ OY.out.rd O7.out.rd).mono ?_; rintro x w10b ⟨rfl, hb⟩; have y10b := hb.size; replace a0 := Mem.lift hb a0; replace a1 := Mem.lift hb a1; replace a2 := Mem.lift hb a2; replace b0 := Mem.lift hb b0; replace b1 := Mem.lift hb b1; replace b2 := Mem.lift hb b2; replace x0 := Mem.lift hb x0; replace x1 := Mem.lift hb x1; replace x2 := Mem.lift hb x2; replace y0 := Mem.lift hb y0; replace y1 := Mem.lift hb y1; replace y2 := Mem.lift hb y2; replace D := stepW D hb; replace OX := Lib.hid (OX.out.below hb (by first | exact Nat.le_refl _ | (simp; done) | (simp; omega) | omega)); replace OY := Lib.hid (OY.out.below hb (by first | exact Nat.le_refl _ | (simp; done) | (simp; omega) | omega)); clear hb O7))); refine hK.out _ _ ?_ (fun hHeld => ?_); ((try dsimp only); exact ⟨y0, y1, y2, b0, b1, b2⟩); clear hK K)
  try simp only [Act.put, List.setIfInBounds_toArray, List.set_cons_zero, List.set_cons_succ]
  first | (refine wpAnyH_take (i := 4) (v := ?_) (Reg.get rfl) (by kernel_rfl) (by kernel_rfl) (by kernel_rfl) (fun _ _ _ h => h) (Or.inl ⟨by rfl, ?_⟩) hHeld ?_; rotate_left 1; (focus (intro w hSw; (try dsimp only at hSw); go_simp <;> with_reducible rfl))) | (refine wpAnyH_take (i := 4) (v := undef) (Reg.get rfl) (by kernel_rfl) (by kernel_rfl) (by kernel_rfl) (fun _ _ _ h => h) (Or.inr ⟨by rfl, rfl⟩) hHeld ?_)
  try simp only [Act.put, List.setIfInBounds_toArray, List.set_cons_zero, List.set_cons_succ]
  refine wpAnyH_done (by kernel_rfl) ?_ _
  go_wp2
  go_ret
  exact ⟨rfl, D⟩
theorem egb_big1 (pe lo : Int) (A : Option Addr) (n c : Nat) (xs : List (List Int)) (pe' lo' : Int) (B : Option Addr) (m d : Nat) (w : World) (hx : RdSS w A n c xs) (hn : 1048576 < n + totL xs) :
    Calls Try.prog 6 #[.agg #[.int .i64 pe, .slice A n c, .int .i64 lo], .agg #[.int .i64 pe', .slice B m d, .int .i64 lo']] w fun x w' => x = .returned (.bool true) ∧ Below w.heap.size w w' := by
  have HX := Lib.hid hx
  clear hx
  go_enter Try.func6, Try.ntmps6
  go_wp2_with fail
  refine (szGb_any pe lo A n c xs 1048576 _ ((HX.out.alloc _).alloc _) (by omega) (by omega)).mono ?_
  rintro x w1 ⟨rfl, hb⟩
  rw [szOf_lt (by omega)]
  have HB := Lib.hid (show Below w.heap.size w w1 from Below.trans (by go_grown) (hb.mono (by simp <;> omega)))
  clear hb
  go_wp2
  go_ret
  exact ⟨rfl, HB.out⟩
theorem egb_big2 (pe lo : Int) (A : Option Addr) (n c : Nat) (xs : List (List Int)) (pe' lo' : Int) (B : Option Addr) (m d : Nat) (ys : List (List Int)) (w : World) (hx : RdSS w A n c xs) (hy : RdSS w B m d ys) (h1 : n + totL xs ≤ 1048576) (hn : 1048576 < n + totL xs + (m + totL ys)) :
    Calls Try.prog 6 #[.agg #[.int .i64 pe, .slice A n c, .int .i64 lo], .agg #[.int .i64 pe', .slice B m d, .int .i64 lo']] w fun x w' => x = .returned (.bool true) ∧ Below w.heap.size w w' := by
  have HX := Lib.hid hx
  have HY := Lib.hid hy
  clear hx hy
  go_enter Try.func6, Try.ntmps6
  go_wp2_with fail
  refine (szGb_any pe lo A n c xs 1048576 _ ((HX.out.alloc _).alloc _) (by omega) (by omega)).mono ?_
  rintro x w1 ⟨rfl, hb⟩
  rw [szOf_ge (by omega)]
  have g0 : (0 : Int) ≤ 1048576 - ((n + totL xs : Nat) : Int) := by omega
  obtain ⟨hc, hf⟩ := bcells hb
  have b0 := (hc (w.heap.size + 1) 0 (by simp <;> omega)).trans (show _ = some (.int .i64 pe') from by first | (simp; done) | (simp [World.cell?_alloc_at]; done) | (rw [World.cell?_alloc_old _ _ _ (by simp <;> omega)]; first | (simp; done) | (simp [World.cell?_alloc_at]; done))); have b1 := (hc (w.heap.size + 1) 1 (by simp <;> omega)).trans (show _ = some (.slice B m d) from by first | (simp; done) | (simp [World.cell?_alloc_at]; done) | (rw [World.cell?_alloc_old _ _ _ (by simp <;> omega)]; first | (simp; done) | (simp [World.cell?_alloc_at]; done))); have b2 := (hc (w.heap.size + 1) 2 (by simp <;> omega)).trans (show _ = some (.int .i64 lo') from by first | (simp; done) | (simp [World.cell?_alloc_at]; done) | (rw [World.cell?_alloc_old _ _ _ (by simp <;> omega)]; first | (simp; done) | (simp [World.cell?_alloc_at]; done)))
  have HB := Lib.hid (show Below w.heap.size w w1 from Below.trans (by go_grown) (hb.mono (by simp <;> omega)))
  clear hb hc hf
  go_wp2_with fail
  refine (szGb_any pe' lo' B m d ys (1048576 - ((n + totL xs : Nat) : Int)) _ (HY.out.below HB.out) (by omega) (by omega)).mono ?_
  rintro x w2 ⟨rfl, hb⟩
  rw [szOf_lt (by omega)]
  have HB2 := Lib.hid (stepW HB.out hb)
  clear hb HB
  go_wp2
  go_ret
  exact ⟨rfl, HB2.out⟩
theorem saidE {b : Prop} [Decidable b] {w : World} {P : Program} {f : FuncId} {args : Array Value} (r : Bool) (hr : r = decide b) (h : Calls P f args w (Says b w)) : Calls P f args w fun x w' => x = .returned (.bool r) ∧ Below w.heap.size w w' :=
  h.mono fun x w' ⟨he, hbl⟩ => ⟨by rw [he, hr], hbl⟩
theorem egb_law (pe : Int) (A : Option Addr) (n c : Nat) (xs : List (List Int)) (lo : Int) (pe' : Int) (B : Option Addr) (m d : Nat) (ys : List (List Int)) (lo' : Int) (w : World) (_h0 : (Lit.int .i64 pe).wf = true) (hx : RdSS w A n c xs) (bx : AllB xs) (_h1 : (Lit.int .i64 lo).wf = true) (_h2 : (Lit.int .i64 pe').wf = true) (hy : RdSS w B m d ys) (by_ : AllB ys) (_h3 : (Lit.int .i64 lo').wf = true) :
    Calls Try.prog 6 #[.agg #[.int .i64 pe, .slice A n c, .int .i64 lo], .agg #[.int .i64 pe', .slice B m d, .int .i64 lo']] w fun x w' => x = .returned (.bool true) ∧ Below w.heap.size w w' := by
  by_cases hn : 1048576 < n + totL xs
  · exact egb_big1 pe lo A n c xs pe' lo' B m d w hx hn
  · by_cases hm : 1048576 < n + totL xs + (m + totL ys)
    · exact egb_big2 pe lo A n c xs pe' lo' B m d ys w hx hy (by omega) hm
    · exact egb_core pe lo A n c xs pe' lo' B m d ys _ w (fun A c B d w h h' => saidE _ rfl (eqgb_spec pe lo A n c xs pe' lo' B m d ys w h h' bx by_)) (fun A c B d w h h' => saidE _ rfl (eqgb_impl pe lo A n c xs pe' lo' B m d ys w h h' bx by_)) hx hy (by omega)
end Go.Proofs.Ytfjheaobojebhaa.Gb
