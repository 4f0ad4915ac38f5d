/- The draw of a valid power buffer and a station. -/
import Derived.Test.YthdieeaegplnmaaDrawP
namespace Go.Proofs.Ythdieeaegplnmaa.Pb
open Go.RowKit
open Go.Proofs.Ythdieeaegplnmaa.Num Go.Proofs.Ythdieeaegplnmaa.Mem Go.Proofs.Ythdieeaegplnmaa.Hsh Go.Proofs.Ythdieeaegplnmaa.Sls Go.Proofs.Ythdieeaegplnmaa.Own Go.Proofs.Ythdieeaegplnmaa.SS Go.Proofs.Ythdieeaegplnmaa.Gb Go.Proofs.Ythdieeaegplnmaa.Cur
set_option linter.unusedSimpArgs false
set_option linter.unusedVariables false
theorem l26B2 (A : Option Addr) (n c : Nat) (bs : List Int) (g : Nat) (w : World) (hcur : Cur w g A n c bs) :
    Calls Try.prog 87 #[.pointer (some ⟨g, 0, none⟩)] w fun e w' => ∃ (N : Nat) (ks : List Kt) (Ap : Option Addr) (cp : Nat), N ≤ 14 ∧ GoodP ks N 14 ∧ PbIn w' w.heap.size w'.heap.size Ap N cp ks ∧ e = .returned (.agg #[.slice Ap N cp]) ∧ Cur w' g A n c bs ∧ w.grownBy w' (some g) := by
  refine (l26Buffer_any A n c bs g w hcur).mono ?_
  rintro e w' ⟨N, ks, Ap, cp, h1, h2, h3, h4, h5, h6⟩
  exact ⟨N, ks, Ap, cp, h1, h2, h4, h3, h5, h6⟩
/-- a valid power buffer and a station -/
def DrewKept (w : World) (e : Ending) (w' : World) : Prop :=
  ∃ (N : Nat) (ks : List Kt) (Ap : Option Addr) (cp : Nat) (s : Int), N ≤ 14 ∧ GoodP ks N 14 ∧ (0 ≤ s ∧ s < 4) ∧ e = .returned (.tuple #[.agg #[.slice Ap N cp], .int .i64 s]) ∧ PbIn w' w.heap.size w'.heap.size Ap N cp ks ∧ Below w.heap.size w w'
set_option maxRecDepth 100000 in
set_option maxHeartbeats 8000000 in
theorem drawKept_any (A : Option Addr) (n c : Nat) (bs : List Int) (w : World) (hr : Rd w 1 A n c (bs.map (Value.int .u8))) (hb : AllBytes bs) (hn : n ≤ 2097152) :
    Calls Try.prog 41 #[.slice A n c] w (DrewKept w) := by
  have HAL := Lib.hid (CurB.old_of hr)
  have HR := Lib.hid hr
  have HB := Lib.hid hb
  have HN := Lib.hid hn
  have B : Below w.heap.size w w := Below.refl _ _
  clear hr hb
  go_enter Try.func41, Try.ntmps41
  go_wp2_with fail
  generalize hW : World.alloc _ _ = w1
  have r0 : Bk.Blk w1 (w.heap.size) 39 #[.slice none 0 0] := (by rw [← hW]; apply Bk.Blk.to; (focus (exact Bk.sv)); rfl)
  replace B : Below w.heap.size w w1 := (by rw [← hW]; go_grown)
  have z1 : w1.heap.size = _ := congrArg (fun W : World => W.heap.size) hW.symm
  (try simp only [World.size_alloc, Bk.size_set, World.size_drew, World.drewN] at z1)
  clear hW
  refine (l1New_any A n c bs _ (HR.out.below B) HB.out hn).mono ?_
  rintro e w2 ⟨h, rfl, rfl⟩
  generalize hW : World.alloc _ _ = w2
  have C : Cur.Cur w2 (w.heap.size + 1) A n c bs := by rw [← hW, ← z1]; exact CurB.cur_newAt rfl (HR.out.below B) HB.out HN.out _
  replace r0 : Bk.Blk w2 (w.heap.size) 39 #[.slice none 0 0] := (by rw [← hW]; exact Bk.sv)
  replace B : Below w.heap.size w w2 := (by rw [← hW]; go_grown)
  have z2 : w2.heap.size = _ := congrArg (fun W : World => W.heap.size) hW.symm
  (try simp only [World.size_alloc, Bk.size_set, World.size_drew, World.drewN] at z2)
  clear hW
  (try rw [z1])
  go_wp2_with fail
  refine (l26B2 A n c bs _ _ (by (repeat (first | with_reducible assumption | with_reducible apply Cur.Cur.alloc | with_reducible apply CurB.cur_drewN | with_reducible apply CurB.cur_drew | ((with_reducible refine CurB.cur_set HAL.out ?_ ?_ ?_ _); (focus (first | omega | (dsimp only; done) | (dsimp only; omega))); (focus (first | omega | (dsimp only; omega)))))))).mono ?_
  rintro x w3 ⟨N, ks, Ap, cp, hN, hgd, hpi, rfl, C0, hg0⟩
  have HGD := Lib.hid hgd
  have HPI := Lib.hid hpi
  clear hgd hpi
  replace r0 : Bk.Blk w3 (w.heap.size) 39 #[.slice none 0 0] := Bk.Blk.grown hg0 (by omega) (by exact Bk.sv)
  replace C := C0
  replace B : Below w.heap.size w w3 := Bk.below_grown (by go_grown) hg0 (by omega) (by first | omega | (simp [Bk.size_set]; done) | (simp [Bk.size_set]; omega))
  have z3 := hg0.size
  (try simp only [World.size_alloc, Bk.size_set, World.size_drew, World.drewN] at z3)
  clear hg0
  go_wp2_with fail
  generalize hW : World.alloc _ _ = w4
  replace HPI := Lib.hid (HPI.out.keep (w' := w4) fun q _ h2 => by rw [← hW]; exact Below.heap_alloc _ _ q h2)
  have bk : Bk.Blk w4 (w3.heap.size) 39 #[.slice Ap N cp] := (by rw [← hW]; apply Bk.Blk.to; (focus (exact Bk.sv)); rfl)
  replace r0 : Bk.Blk w4 (w.heap.size) 39 #[.slice none 0 0] := (by rw [← hW]; exact Bk.sv)
  replace C : Cur.Cur w4 (w.heap.size + 1) A n c bs := (by rw [← hW]; (repeat (first | with_reducible assumption | with_reducible apply Cur.Cur.alloc | with_reducible apply CurB.cur_drewN | with_reducible apply CurB.cur_drew | ((with_reducible refine CurB.cur_set HAL.out ?_ ?_ ?_ _); (focus (first | omega | (dsimp only; done) | (dsimp only; omega))); (focus (first | omega | (dsimp only; omega)))))))
  replace B : Below w.heap.size w w4 := (by rw [← hW]; go_grown)
  have z4 : w4.heap.size = _ := congrArg (fun W : World => W.heap.size) hW.symm
  (try simp only [World.size_alloc, Bk.size_set, World.size_drew, World.drewN] at z4)
  clear hW
  have L_bk := Lay.f1 bk
  have L_r0 := Lay.f1 r0
  refine wp_region_held_drew (S := (fun w' => Bk.Blk w' (w3.heap.size) 39 #[.slice Ap N cp])) (by kernel_rfl) ?_ (fun hHeld => ?_)
  · (try dsimp only); exact Bk.sv
  first | (refine Reg.tkC 0 ?_ (Reg.get rfl) ?_ hHeld ?_; rotate_left 1; (focus (intro wq hSw; (try dsimp only at hSw); have s_bk := hSw; have L_bk := Lay.c1 s_bk;  go_simp <;> with_reducible rfl))) | (refine Reg.tkB 0 (Reg.get rfl) hHeld ?_)
  try simp only [Act.put, List.setIfInBounds_toArray, List.set_cons_zero, List.set_cons_succ]
  first | (refine Reg.tkC 1 ?_ (Reg.get rfl) ?_ hHeld ?_; rotate_left 1; (focus (intro wq hSw; (try dsimp only at hSw); have s_bk := hSw; have L_bk := Lay.c1 s_bk;  go_simp <;> with_reducible rfl))) | (refine Reg.tkB 1 (Reg.get rfl) hHeld ?_)
  try simp only [Act.put, List.setIfInBounds_toArray, List.set_cons_zero, List.set_cons_succ]
  first | ((refine Reg.tkB 2 (Reg.get rfl) hHeld ?_)) | (refine wpAnyH_ready (rs := [2]) (by kernel_rfl) (by simp) ?_; refine AllReadyH.cons (Reg.get rfl) (fun K hK => ?_) AllReadyH.nil; clear hHeld; go_simp; ((go_at_call 88; refine (l1Below_any A n c bs _ _ _ (by (repeat (first | with_reducible assumption | with_reducible apply Cur.Cur.alloc | with_reducible apply CurB.cur_drewN | with_reducible apply CurB.cur_drew | ((with_reducible refine CurB.cur_set HAL.out ?_ ?_ ?_ _); (focus (first | omega | (dsimp only; done) | (dsimp only; omega))); (focus (first | omega | (dsimp only; omega))))))) (by omega) (by omega)).mono ?_; rintro e w5 ⟨s, hs, rfl, C0, hg0⟩; obtain ⟨s0, s1⟩ := hs; (first | replace HPI := Lib.hid (HPI.out.keep (w' := w5) fun q h1 h2 => hg0.block q (by first | omega | (simp; omega)) (fun e => by injection e with e; omega)) | fail); clear L_bk L_r0; replace r0 : Bk.Blk w5 (w.heap.size) 39 #[.slice none 0 0] := Bk.Blk.grown hg0 (by omega) (by exact Bk.sv); replace bk : Bk.Blk w5 (w3.heap.size) 39 #[.slice Ap N cp] := Bk.Blk.grown hg0 (by omega) (by exact Bk.sv); replace C := C0; replace B : Below w.heap.size w w5 := Bk.below_grown (by go_grown) hg0 (by omega) (by first | omega | (simp [Bk.size_set]; done) | (simp [Bk.size_set]; omega)); have z5 := hg0.size; (try simp only [World.size_alloc, Bk.size_set, World.size_drew, World.drewN] at z5); clear hg0; have L_bk := Lay.f1 bk; have L_r0 := Lay.f1 r0)); refine hK.out _ _ ?_ (fun hHeld => ?_); ((try dsimp only); exact Bk.sv); clear hK K)
  try simp only [Act.put, List.setIfInBounds_toArray, List.set_cons_zero, List.set_cons_succ]
  first | ((refine Reg.tkB 3 (Reg.get rfl) hHeld ?_)) | (refine wpAnyH_ready (rs := [3]) (by kernel_rfl) (by simp) ?_; refine AllReadyH.cons (Reg.get rfl) (fun K hK => ?_) AllReadyH.nil; clear hHeld; go_simp; (skip); refine hK.out _ _ ?_ (fun hHeld => ?_); ((try dsimp only); exact Bk.sv); clear hK K)
  try simp only [Act.put, List.setIfInBounds_toArray, List.set_cons_zero, List.set_cons_succ]
  first | (refine Reg.tkC 4 ?_ (Reg.get rfl) ?_ hHeld ?_; rotate_left 1; (focus (intro wq hSw; (try dsimp only at hSw); have s_bk := hSw; have L_bk := Lay.c1 s_bk;  go_simp <;> with_reducible rfl))) | (refine Reg.tkB 4 (Reg.get rfl) hHeld ?_)
  try simp only [Act.put, List.setIfInBounds_toArray, List.set_cons_zero, List.set_cons_succ]
  refine wpAnyH_done (by kernel_rfl) ?_ _
  clear L_bk L_r0
  generalize hW : World.setCell _ _ _ = w6
  have hs6 : w6.heap.size = w5.heap.size := by rw [← hW]; exact Bk.size_set _ _ _
  have HP2 := Lib.hid (pbIn_wider (l2 := w.heap.size) (h2 := w6.heap.size) (HPI.out.keep (w' := w6) fun q h1 _ => by rw [← hW]; exact Below.heap_setCell _ _ _ q (by simp; omega)) (by omega) (by omega))
  replace r0 : Bk.Blk w6 (w.heap.size) 39 #[.slice Ap N cp] := (by rw [← hW]; apply Bk.Blk.to; (focus (exact Bk.sv)); rfl)
  replace B : Below w.heap.size w w6 := (by rw [← hW]; go_grown)
  have z6 : w6.heap.size = _ := congrArg (fun W : World => W.heap.size) hW.symm
  (try simp only [World.size_alloc, Bk.size_set, World.size_drew, World.drewN] at z6)
  clear hW
  have l_r0 : w.heap.size < w6.heap.size := Bk.Blk.lt r0
  have c_r00 : w6.cell? ⟨w.heap.size, 0, none⟩ = some (.slice Ap N cp) := Bk.Blk.cell r0 0
  go_wp2
  refine bodyPost_ret (v := .tuple #[.agg #[.slice Ap N cp], .int .i64 s]) (by simp [results, Try.results41, go_sem, c_r00]) rfl (⟨N, ks, Ap, cp, s, hN, HGD.out, ⟨s0, s1⟩, rfl, HP2.out, B⟩)
end Go.Proofs.Ythdieeaegplnmaa.Pb
