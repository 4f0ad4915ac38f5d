/- The walk of the law on IsValidGroupBuffer. -/
import Derived.Test.YtfjheaobojebhaaGb
import Derived.Test.YtfjheaobojebhaaReg
namespace Go.Proofs.Ytfjheaobojebhaa.Gb
open Go.RowKit
open Go.Proofs.Ytfjheaobojebhaa.Num Go.Proofs.Ytfjheaobojebhaa.Mem Go.Proofs.Ytfjheaobojebhaa.Sls Go.Proofs.Ytfjheaobojebhaa.Own Go.Proofs.Ytfjheaobojebhaa.SS Go.Proofs.Ytfjheaobojebhaa.Bcn Go.Proofs.Ytfjheaobojebhaa.Hsh
set_option linter.unusedSimpArgs false
set_option maxHeartbeats 4000000 in
set_option maxRecDepth 100000 in
theorem vgb_core (pe lo : Int) (A : Option Addr) (n c : Nat) (zs : List (List Int))  (r : Bool) (w : World)
    (hspec : ∀ (A : Option Addr) (c : Nat) (w : World), RdSS w A n c zs → Calls Try.prog 26 #[.agg #[.int .i64 pe, .slice A n c, .int .i64 lo]] w fun x w' => x = .returned (.bool r) ∧ Below w.heap.size w w')
    (himpl : ∀ (A : Option Addr) (c : Nat) (w : World), RdSS w A n c zs → Calls Try.prog 28 #[.agg #[.int .i64 pe, .slice A n c, .int .i64 lo]] w fun x w' => x = .returned (.bool r) ∧ Below w.heap.size w w')
    (hr : RdSS w A n c zs) (hn : n + totL zs ≤ 1048576) :
    Calls Try.prog 5 #[.agg #[.int .i64 pe, .slice A n c, .int .i64 lo]] w fun x w' => x = .returned (.bool true) ∧ Below w.heap.size w w' := by
  have er : (r != r) = false := by simp
  have HR := Lib.hid hr
  have HS := Lib.hid hspec
  have HI := Lib.hid himpl
  clear hr hspec himpl
  have HSH := Lib.hid (short_of_tot (xss := zs) (by omega))
  obtain ⟨w0, hW⟩ : ∃ W, W = w.alloc (.cells #[.int .i64 pe, .slice A n c, .int .i64 lo] 37) := ⟨_, rfl⟩
  have a0 : w0.cell? ⟨w.heap.size, 0, none⟩ = some (.int .i64 pe) := by rw [hW]; simp [World.cell?_alloc_at]
  have a1 : w0.cell? ⟨w.heap.size, 1, none⟩ = some (.slice A n c) := by rw [hW]; simp [World.cell?_alloc_at]
  have a2 : w0.cell? ⟨w.heap.size, 2, none⟩ = some (.int .i64 lo) := by rw [hW]; simp [World.cell?_alloc_at]
  have B : Below w.heap.size w w0 := by rw [hW]; exact (Below.refl _ _).alloc (Nat.le_refl _) _
  have HW := Lib.hid hW
  clear hW
  go_enter Try.func5, Try.ntmps5
  go_wp2_with fail
  rw [← HW.out]
  clear HW
  refine (szGb_any pe lo A n c zs 1048576 _ (HR.out.below B) (by omega) (by omega)).mono ?_
  rintro x w1 ⟨rfl, hb⟩
  rw [szOf_ge (by omega)]
  replace a0 := Mem.lift hb a0; replace a1 := Mem.lift hb a1; replace a2 := Mem.lift hb a2
  replace B := stepW B hb
  clear hb
  go_wp2_with fail
  refine (toGb_any pe lo A n c zs _ (HR.out.below B) (by omega) HSH.out).mono ?_
  rintro x w2 ⟨A1, c1, rfl, hown, hb⟩
  replace a0 := Mem.lift hb a0; replace a1 := Mem.lift hb a1; replace a2 := Mem.lift hb a2
  replace B := stepW B hb
  have H1 := Lib.hid (hown.rd)
  clear hb hown
  go_wp2_with fail
  refine (HS.out A1 c1 _ H1.out).mono ?_
  rintro x w3 ⟨rfl, hb⟩
  replace a0 := Mem.lift hb a0; replace a1 := Mem.lift hb a1; replace a2 := Mem.lift hb a2
  replace B := stepW B hb
  clear hb H1
  go_wp2_with fail
  refine (toGb_any pe lo A n c zs _ (HR.out.below B) (by omega) HSH.out).mono ?_
  rintro x w4 ⟨A3, c3, rfl, hown, hb⟩
  replace a0 := Mem.lift hb a0; replace a1 := Mem.lift hb a1; replace a2 := Mem.lift hb a2
  replace B := stepW B hb
  have z4 : w.heap.size < w4.heap.size := World.block_lt_of_cell? w4 _ a0
  have OX := Lib.hid (hown)
  clear hb hown
  have OXB := Lib.hid (OX.out.below ((Below.refl w4.heap.size w4).alloc (Nat.le_refl _) (.cells #[.int .i64 pe, .slice A3 n c3, .int .i64 lo] 33)) (Nat.le_refl _))
  go_wp2_with fail
  refine (HI.out A3 c3 _ OXB.out.rd).mono ?_
  rintro x w6 ⟨rfl, hb⟩
  obtain ⟨hc, hf⟩ := bcells hb
  have x0 := (hc (w4.heap.size) 0 (by simp <;> omega)).trans (show _ = some (.int .i64 pe) from by first | (simp; done) | (simp [World.cell?_alloc_at]; done) | (rw [World.cell?_alloc_old _ _ _ (by simp <;> omega)]; first | (simp; done) | (simp [World.cell?_alloc_at]; done))); have x1 := (hc (w4.heap.size) 1 (by simp <;> omega)).trans (show _ = some (.slice A3 n c3) from by first | (simp; done) | (simp [World.cell?_alloc_at]; done) | (rw [World.cell?_alloc_old _ _ _ (by simp <;> omega)]; first | (simp; done) | (simp [World.cell?_alloc_at]; done))); have x2 := (hc (w4.heap.size) 2 (by simp <;> omega)).trans (show _ = some (.int .i64 lo) from by first | (simp; done) | (simp [World.cell?_alloc_at]; done) | (rw [World.cell?_alloc_old _ _ _ (by simp <;> omega)]; first | (simp; done) | (simp [World.cell?_alloc_at]; done)))
  have hb4 := Lib.hid (Below.trans ((Below.refl w4.heap.size w4).alloc (Nat.le_refl _) (.cells #[.int .i64 pe, .slice A3 n c3, .int .i64 lo] 33)) (hb.mono (by simp)))
  replace a0 := Mem.lift hb4.out a0
  replace a1 := Mem.lift hb4.out a1
  replace a2 := Mem.lift hb4.out a2
  replace B := stepW (B.alloc (by omega) _) hb
  have z6 : w4.heap.size < w6.heap.size := World.block_lt_of_cell? w6 _ x0
  replace OX := Lib.hid (OX.out.below hb4.out (Nat.le_refl _))
  clear hb hc hf OXB hb4
  go_wp2_with fail
  refine wp_region_held_drew (S := (fun w' => w'.cell? ⟨w.heap.size, 0, none⟩ = some (.int .i64 pe) ∧ w'.cell? ⟨w.heap.size, 1, none⟩ = some (.slice A n c) ∧ w'.cell? ⟨w.heap.size, 2, none⟩ = some (.int .i64 lo) ∧ w'.cell? ⟨w4.heap.size, 0, none⟩ = some (.int .i64 pe) ∧ w'.cell? ⟨w4.heap.size, 1, none⟩ = some (.slice A3 n c3) ∧ w'.cell? ⟨w4.heap.size, 2, none⟩ = some (.int .i64 lo))) (by kernel_rfl) ?_ (fun hHeld => ?_)
  · (try dsimp only); exact ⟨a0, a1, a2, x0, x1, x2⟩
  first | (refine wpAnyH_take (i := 0) (v := ?_) (Reg.get rfl) (by kernel_rfl) (by kernel_rfl) (by kernel_rfl) (fun _ _ _ h => h) (Or.inl ⟨by rfl, ?_⟩) hHeld ?_; rotate_left 1; (focus (intro w hSw; (try dsimp only at hSw); go_simp <;> with_reducible rfl))) | (refine wpAnyH_take (i := 0) (v := undef) (Reg.get rfl) (by kernel_rfl) (by kernel_rfl) (by kernel_rfl) (fun _ _ _ h => h) (Or.inr ⟨by rfl, rfl⟩) hHeld ?_)
  try simp only [Act.put, List.setIfInBounds_toArray, List.set_cons_zero, List.set_cons_succ]
  first | (refine wpAnyH_take (i := 1) (v := ?_) (Reg.get rfl) (by kernel_rfl) (by kernel_rfl) (by kernel_rfl) (fun _ _ _ h => h) (Or.inl ⟨by rfl, ?_⟩) hHeld ?_; rotate_left 1; (focus (intro w hSw; (try dsimp only at hSw); go_simp <;> with_reducible rfl))) | (refine wpAnyH_take (i := 1) (v := undef) (Reg.get rfl) (by kernel_rfl) (by kernel_rfl) (by kernel_rfl) (fun _ _ _ h => h) (Or.inr ⟨by rfl, rfl⟩) hHeld ?_)
  try simp only [Act.put, List.setIfInBounds_toArray, List.set_cons_zero, List.set_cons_succ]
  first | ((refine wpAnyH_take (i := 2) (v := undef) (Reg.get rfl) (by kernel_rfl) (by kernel_rfl) (by kernel_rfl) (fun _ _ _ h => h) (Or.inr ⟨by rfl, rfl⟩) hHeld ?_)) | (refine wpAnyH_ready (rs := [2]) (by kernel_rfl) (by simp) ?_; refine AllReadyH.cons (Reg.get rfl) (fun K hK => ?_) AllReadyH.nil; clear hHeld; go_simp; (first | ((go_at_call 27; refine (toGb_any pe lo A n c zs _ (HR.out.below (Sls.below_drewN B 1)) (by omega) HSH.out).mono ?_; rintro x w7 ⟨A7, c7, rfl, hown, hb⟩; have O7 := Lib.hid (hown); replace hb : Below w6.heap.size w6 w7 := ⟨hb.os, hb.tape, hb.output, hb.size, hb.block⟩; have y7 := hb.size; replace a0 := Mem.lift hb a0; replace a1 := Mem.lift hb a1; replace a2 := Mem.lift hb a2; replace x0 := Mem.lift hb x0; replace x1 := Mem.lift hb x1; replace x2 := Mem.lift hb x2; replace B := stepW B hb; replace OX := Lib.hid (OX.out.below hb (by first | exact Nat.le_refl _ | (simp; done) | (simp; omega) | omega)); clear hb hown)) | ((go_at_call 22; refine (eqGb_same pe lo A3 n c3 A7 c7 zs _ OX.out.rd O7.out.rd).mono ?_; rintro x w7b ⟨rfl, hb⟩; have y7b := hb.size; replace a0 := Mem.lift hb a0; replace a1 := Mem.lift hb a1; replace a2 := Mem.lift hb a2; replace x0 := Mem.lift hb x0; replace x1 := Mem.lift hb x1; replace x2 := Mem.lift hb x2; replace B := stepW B hb; replace OX := Lib.hid (OX.out.below hb (by first | exact Nat.le_refl _ | (simp; done) | (simp; omega) | omega)); clear hb O7))); refine hK.out _ _ ?_ (fun hHeld => ?_); ((try dsimp only); exact ⟨a0, a1, a2, x0, x1, x2⟩); clear hK K)
  try simp only [Act.put, List.setIfInBounds_toArray, List.set_cons_zero, List.set_cons_succ]
  first | ((refine wpAnyH_take (i := 3) (v := undef) (Reg.get rfl) (by kernel_rfl) (by kernel_rfl) (by kernel_rfl) (fun _ _ _ h => h) (Or.inr ⟨by rfl, rfl⟩) hHeld ?_)) | (refine wpAnyH_ready (rs := [3]) (by kernel_rfl) (by simp) ?_; refine AllReadyH.cons (Reg.get rfl) (fun K hK => ?_) AllReadyH.nil; clear hHeld; go_simp; (first | ((go_at_call 27; refine (toGb_any pe lo A n c zs _ (HR.out.below (Sls.below_drewN B 1)) (by omega) HSH.out).mono ?_; rintro x w7 ⟨A7, c7, rfl, hown, hb⟩; have O7 := Lib.hid (hown); replace hb : Below w6.heap.size w6 w7 := ⟨hb.os, hb.tape, hb.output, hb.size, hb.block⟩; have y7 := hb.size; replace a0 := Mem.lift hb a0; replace a1 := Mem.lift hb a1; replace a2 := Mem.lift hb a2; replace x0 := Mem.lift hb x0; replace x1 := Mem.lift hb x1; replace x2 := Mem.lift hb x2; replace B := stepW B hb; replace OX := Lib.hid (OX.out.below hb (by first | exact Nat.le_refl _ | (simp; done) | (simp; omega) | omega)); clear hb hown)) | ((go_at_call 22; refine (eqGb_same pe lo A3 n c3 A7 c7 zs _ OX.out.rd O7.out.rd).mono ?_; rintro x w7b ⟨rfl, hb⟩; have y7b := hb.size; replace a0 := Mem.lift hb a0; replace a1 := Mem.lift hb a1; replace a2 := Mem.lift hb a2; replace x0 := Mem.lift hb x0; replace x1 := Mem.lift hb x1; replace x2 := Mem.lift hb x2; replace B := stepW B hb; replace OX := Lib.hid (OX.out.below hb (by first | exact Nat.le_refl _ | (simp; done) | (simp; omega) | omega)); clear hb O7))); refine hK.out _ _ ?_ (fun hHeld => ?_); ((try dsimp only); exact ⟨a0, a1, a2, x0, x1, x2⟩); clear hK K)
  try simp only [Act.put, List.setIfInBounds_toArray, List.set_cons_zero, List.set_cons_succ]
  first | (refine wpAnyH_take (i := 4) (v := ?_) (Reg.get rfl) (by kernel_rfl) (by kernel_rfl) (by kernel_rfl) (fun _ _ _ h => h) (Or.inl ⟨by rfl, ?_⟩) hHeld ?_; rotate_left 1; (focus (intro w hSw; (try dsimp only at hSw); go_simp <;> with_reducible rfl))) | (refine wpAnyH_take (i := 4) (v := undef) (Reg.get rfl) (by kernel_rfl) (by kernel_rfl) (by kernel_rfl) (fun _ _ _ h => h) (Or.inr ⟨by rfl, rfl⟩) hHeld ?_)
  try simp only [Act.put, List.setIfInBounds_toArray, List.set_cons_zero, List.set_cons_succ]
  refine wpAnyH_done (by kernel_rfl) ?_ _
  go_wp2
  go_ret
  exact ⟨rfl, B⟩
theorem vgb_big (pe lo : Int) (A : Option Addr) (n c : Nat) (zs : List (List Int)) (w : World) (hr : RdSS w A n c zs) (hn : 1048576 < n + totL zs) :
    Calls Try.prog 5 #[.agg #[.int .i64 pe, .slice A n c, .int .i64 lo]] w fun x w' => x = .returned (.bool true) ∧ Below w.heap.size w w' := by
  have HR := Lib.hid hr
  clear hr
  go_enter Try.func5, Try.ntmps5
  go_wp2_with fail
  refine (szGb_any pe lo A n c zs 1048576 _ (HR.out.alloc _) (by omega) (by omega)).mono ?_
  rintro x w1 ⟨rfl, hb⟩
  rw [szOf_lt (by omega)]
  have HB := Lib.hid (show Below w.heap.size w w1 from Below.trans (by go_grown) (hb.mono (by simp)))
  clear hb
  go_wp2
  go_ret
  exact ⟨rfl, HB.out⟩
theorem said_vgb {b : Prop} {w : World} {P : Program} {f : FuncId} {args : Array Value} (r : Bool) (hr : r = true ↔ b) (h : Calls P f args w (SaysG b w)) : Calls P f args w fun x w' => x = .returned (.bool r) ∧ Below w.heap.size w w' :=
  h.mono fun x w' ⟨b', hb, he, hbl⟩ => ⟨by rw [he, show b' = r by rw [Bool.eq_iff_iff, hb, hr]], hbl⟩
theorem vgb_law (pe : Int) (A : Option Addr) (n c : Nat) (zs : List (List Int)) (lo : Int) (w : World) (_h0 : (Lit.int .i64 pe).wf = true) (hr : RdSS w A n c zs) (_h1 : (Lit.int .i64 lo).wf = true) :
    Calls Try.prog 5 #[.agg #[.int .i64 pe, .slice A n c, .int .i64 lo]] w fun x w' => x = .returned (.bool true) ∧ Below w.heap.size w w' := by
  by_cases hn : 1048576 < n + totL zs
  · exact vgb_big pe lo A n c zs w hr hn
  · by_cases hv : validG pe lo zs n
    · exact vgb_core pe lo A n c zs true w (fun A c w h => said_vgb true (by simp [hv]) (validGb_spec pe lo A n c zs w h)) (fun A c w h => said_vgb true (by simp [hv]) (validGb_impl pe lo A n c zs w h)) hr (by omega)
    · exact vgb_core pe lo A n c zs false w (fun A c w h => said_vgb false (by simp [hv]) (validGb_spec pe lo A n c zs w h)) (fun A c w h => said_vgb false (by simp [hv]) (validGb_impl pe lo A n c zs w h)) hr (by omega)
end Go.Proofs.Ytfjheaobojebhaa.Gb
