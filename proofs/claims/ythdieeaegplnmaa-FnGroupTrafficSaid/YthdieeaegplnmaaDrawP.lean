/- The draw of a power buffer that is valid. -/
import Derived.Test.YthdieeaegplnmaaPbH
import Derived.Test.YthdieeaegplnmaaDrawB
import Derived.Test.YthdieeaegplnmaaDraw
namespace Go.Proofs.Ythdieeaegplnmaa.Pb
open Go.RowKit
open Go.Proofs.Ythdieeaegplnmaa.Num Go.Proofs.Ythdieeaegplnmaa.Mem Go.Proofs.Ythdieeaegplnmaa.Hsh Go.Proofs.Ythdieeaegplnmaa.Sls Go.Proofs.Ythdieeaegplnmaa.Own Go.Proofs.Ythdieeaegplnmaa.SS Go.Proofs.Ythdieeaegplnmaa.Gb Go.Proofs.Ythdieeaegplnmaa.Cur
set_option linter.unusedSimpArgs false
set_option linter.unusedVariables false
/-- a valid power buffer has been drawn into new memory -/
def DrewPb (w : World) (g : Nat) (A : Option Addr) (n c : Nat) (bs : List Int) (e : Ending) (w' : World) : Prop :=
  ∃ (N : Nat) (ks : List Kt) (Ap : Option Addr) (cp : Nat), N ≤ 14 ∧ GoodP ks N 14 ∧ e = .returned (.agg #[.slice Ap N cp]) ∧ RowO w' w.heap.size w'.heap.size Ap N cp ks ∧ Cur w' g A n c bs ∧ w.grownBy w' (some g)
theorem good_empty : GoodP [] 0 0 := ⟨validP_zero _, rfl, fun i hi => absurd hi (Nat.not_lt_zero _)⟩
set_option maxRecDepth 100000 in
set_option maxHeartbeats 16000000 in
theorem l26Buffer_any (A : Option Addr) (n c : Nat) (bs : List Int) (g : Nat) (w : World) (hcur : Cur w g A n c bs) :
    Calls Try.prog 87 #[.pointer (some ⟨g, 0, none⟩)] w (DrewPb w g A n c bs) := by
  have HAL := Lib.hid (CurB.old_cur hcur)
  have hgl := hcur.lt
  have C := hcur
  have G : w.grownBy w (some g) := World.grownBy.refl _ _
  clear hcur
  go_enter Try.func87, Try.ntmps87
  go_wp2_with fail
  generalize hW : World.alloc _ _ = w1
  have r0 : Bk.Blk w1 (w.heap.size) 39 #[.slice none 0 0] := (by rw [← hW]; apply Bk.Blk.to; (focus (exact Bk.sv)); rfl)
  have bk : Bk.Blk w1 (w.heap.size + 1) 39 #[.slice none 0 0] := (by rw [← hW]; apply Bk.Blk.to; (focus (exact Bk.sv)); rfl)
  replace C : Cur.Cur w1 (g) A n c bs := (by rw [← hW]; (repeat (first | with_reducible assumption | with_reducible apply Cur.Cur.alloc | with_reducible apply CurB.cur_drewN | with_reducible apply CurB.cur_drew | ((with_reducible refine CurB.cur_set HAL.out ?_ ?_ ?_ _); (focus (first | omega | (dsimp only; done) | (dsimp only; omega))); (focus (first | omega | (dsimp only; omega)))))))
  replace G : w.grownBy w1 (some (g)) := (by rw [← hW]; exact CurB.gv)
  have z1 : w1.heap.size = _ := congrArg (fun W : World => W.heap.size) hW.symm
  (try simp only [World.size_alloc, Bk.size_set, World.size_drew, World.drewN] at z1)
  clear hW
  go_wp2_with fail
  refine (l1Below_any A n c bs g _ _ (by (repeat (first | with_reducible assumption | with_reducible apply Cur.Cur.alloc | with_reducible apply CurB.cur_drewN | with_reducible apply CurB.cur_drew | ((with_reducible refine CurB.cur_set HAL.out ?_ ?_ ?_ _); (focus (first | omega | (dsimp only; done) | (dsimp only; omega))); (focus (first | omega | (dsimp only; omega))))))) (by omega) (by omega)).mono ?_
  rintro x w2 ⟨k, hk, rfl, C0, hg0⟩
  replace r0 : Bk.Blk w2 (w.heap.size) 39 #[.slice none 0 0] := Bk.Blk.grown hg0 (by omega) (by exact Bk.sv)
  replace bk : Bk.Blk w2 (w.heap.size + 1) 39 #[.slice none 0 0] := Bk.Blk.grown hg0 (by omega) (by exact Bk.sv)
  replace C := C0
  replace G : w.grownBy w2 (some (g)) := World.grownBy.trans (by exact CurB.gv) hg0
  have z2 := hg0.size
  (try simp only [World.size_alloc, Bk.size_set, World.size_drew, World.drewN] at z2)
  clear hg0
  obtain ⟨k0, k1⟩ := hk
  go_wp2_with fail
  go_loopw [4] (fun v4 wr => ∃ (i : Int) (N b : Nat) (ks : List Kt) (Ap : Option Addr) (cp : Nat), v4 = .int .i64 i ∧ 0 ≤ i ∧ (N : Int) + i ≤ 14 ∧ (b : Int) + i ≤ 14 ∧ GoodP ks N b ∧ RowO wr (w.heap.size + 2) wr.heap.size Ap N cp ks ∧ Bk.Blk wr (w.heap.size) 39 #[.slice none 0 0] ∧ Bk.Blk wr (w.heap.size + 1) 39 #[.slice Ap N cp] ∧ Cur wr g A n c bs ∧ w.grownBy wr (some g)) (fun v4 _ => (intOf v4).toNat)
  case atStart => exact ⟨k, 0, 0, [], none, 0, rfl, k0, by omega, by omega, good_empty, row_empty _ _ _, r0, bk, C, G⟩
  case round =>
    clear r0 bk C G
    obtain ⟨i, N, b, ks, Ap, cp, rfl, hi0, hi1, hi2, hgd, hpi, r0, bk, C, G⟩ := hrel
    have HGD := Lib.hid hgd
    have HPI := Lib.hid hpi
    clear hgd hpi
    obtain ⟨w3, hw3⟩ : ∃ W, W = wr := ⟨_, rfl⟩
    subst hw3
    have z3g := G.size
    have hgw : g < w3.heap.size := C.lt
    have zr0 := r0.lt
    have zbk := bk.lt
    by_cases hz : 0 < i
    · skip
      go_wp2_with fail
      refine (l1Below_any A n c bs g _ _ (by (repeat (first | with_reducible assumption | with_reducible apply Cur.Cur.alloc | with_reducible apply CurB.cur_drewN | with_reducible apply CurB.cur_drew | ((with_reducible refine CurB.cur_set HAL.out ?_ ?_ ?_ _); (focus (first | omega | (dsimp only; done) | (dsimp only; omega))); (focus (first | omega | (dsimp only; omega))))))) (by omega) (by omega)).mono ?_
      rintro x w4 ⟨st, hst, rfl, C0, hg0⟩
      replace HPI := Lib.hid (row_grown HPI.out hg0 (by omega))
      replace r0 : Bk.Blk w4 (w.heap.size) 39 #[.slice none 0 0] := Bk.Blk.grown hg0 (by omega) (by exact Bk.sv)
      replace bk : Bk.Blk w4 (w.heap.size + 1) 39 #[.slice Ap N cp] := Bk.Blk.grown hg0 (by omega) (by exact Bk.sv)
      replace C := C0
      replace G : w.grownBy w4 (some (g)) := World.grownBy.trans (by exact CurB.gv) hg0
      have z4 := hg0.size
      (try simp only [World.size_alloc, Bk.size_set, World.size_drew, World.drewN] at z4)
      clear hg0
      go_wp2_with fail
      refine (l1Below_any A n c bs g _ _ (by (repeat (first | with_reducible assumption | with_reducible apply Cur.Cur.alloc | with_reducible apply CurB.cur_drewN | with_reducible apply CurB.cur_drew | ((with_reducible refine CurB.cur_set HAL.out ?_ ?_ ?_ _); (focus (first | omega | (dsimp only; done) | (dsimp only; omega))); (focus (first | omega | (dsimp only; omega))))))) (by omega) (by omega)).mono ?_
      rintro x w5 ⟨y, hy, rfl, C0, hg0⟩
      replace HPI := Lib.hid (row_grown HPI.out hg0 (by omega))
      replace r0 : Bk.Blk w5 (w.heap.size) 39 #[.slice none 0 0] := Bk.Blk.grown hg0 (by omega) (by exact Bk.sv)
      replace bk : Bk.Blk w5 (w.heap.size + 1) 39 #[.slice Ap N cp] := Bk.Blk.grown hg0 (by omega) (by exact Bk.sv)
      replace C := C0
      replace G : w.grownBy w5 (some (g)) := World.grownBy.trans (by exact CurB.gv) hg0
      have z5 := hg0.size
      (try simp only [World.size_alloc, Bk.size_set, World.size_drew, World.drewN] at z5)
      clear hg0
      obtain ⟨y0, y1⟩ := hy
      obtain ⟨s0, s1⟩ := hst
      by_cases h0 : y = 0
      · have e0 : (y == 0) = true := by simpa using h0
        clear h0
        have L_bk := Lay.f1 bk
        go_wp2_with fail
        clear L_bk
        have cb : w5.cell? ⟨w.heap.size + 1, 0, none⟩ = some (.slice Ap N cp) := Bk.Blk.cell bk 0
        have fb := Bk.Blk.fro bk 0
        have lb := bk.lt
        refine wp_region_held_drew (S := (fun _ => True)) (by kernel_rfl) ?_ (fun hHeld => ?_)
        · (try dsimp only); skip
        first | refine Reg.tkA 1 (Reg.get rfl) hHeld ?_ | refine Reg.tkB 1 (Reg.get rfl) hHeld ?_
        try simp only [Act.put, List.setIfInBounds_toArray, List.set_cons_zero, List.set_cons_succ]
        first | refine Reg.tkA 2 (Reg.get rfl) hHeld ?_ | refine Reg.tkB 2 (Reg.get rfl) hHeld ?_
        try simp only [Act.put, List.setIfInBounds_toArray, List.set_cons_zero, List.set_cons_succ]
        refine wpAnyH_ready (rs := [0, 3]) (by kernel_rfl) (by simp) ?_
        refine (AllReadyH.cons (Reg.get rfl) (fun K hK => ?_) (AllReadyH.cons (Reg.get rfl) (fun K hK => ?_) AllReadyH.nil))
        
        · skip
          clear hHeld; go_simp; (skip); refine hK.out _ _ ?_ (fun hHeld => ?_); ((try dsimp only); skip); clear hK K
          try simp only [Act.put, List.setIfInBounds_toArray, List.set_cons_zero, List.set_cons_succ]
          first | ((refine Reg.tkB 3 (Reg.get rfl) hHeld ?_)) | (refine wpAnyH_ready (rs := [3]) (by kernel_rfl) (by simp) ?_; refine AllReadyH.cons (Reg.get rfl) (fun K hK => ?_) AllReadyH.nil; clear hHeld; go_simp; ((go_at_call 102; refine (l1Once_any A n c bs g _ _ (by (repeat (first | with_reducible assumption | with_reducible apply Cur.Cur.alloc | with_reducible apply CurB.cur_drewN | with_reducible apply CurB.cur_drew | ((with_reducible refine CurB.cur_set HAL.out ?_ ?_ ?_ _); (focus (first | omega | (dsimp only; done) | (dsimp only; omega))); (focus (first | omega | (dsimp only; omega))))))) (by omega) (by omega)).mono ?_; rintro e w6 ⟨v, rfl, C0, hg0⟩; (first | replace HPI := Lib.hid (row_grown HPI.out hg0 (by omega)) | replace HPI := Lib.hid (row_grown (w := w5.drew) HPI.out hg0 (by omega))); replace r0 : Bk.Blk w6 (w.heap.size) 39 #[.slice none 0 0] := Bk.Blk.grown hg0 (by omega) (by exact Bk.sv); replace bk : Bk.Blk w6 (w.heap.size + 1) 39 #[.slice Ap N cp] := Bk.Blk.grown hg0 (by omega) (by exact Bk.sv); replace C := C0; replace G : w.grownBy w6 (some (g)) := World.grownBy.trans (by exact CurB.gv) hg0; have z6 := hg0.size; (try simp only [World.size_alloc, Bk.size_set, World.size_drew, World.drewN] at z6); clear hg0; clear cb fb lb; have cb := Bk.Blk.cell bk 0; have fb := Bk.Blk.fro bk 0; have lb := bk.lt)); refine hK.out _ _ ?_ (fun hHeld => ?_); ((try dsimp only); skip); clear hK K)
          try simp only [Act.put, List.setIfInBounds_toArray, List.set_cons_zero, List.set_cons_succ]
          first | refine Reg.tkA 4 (Reg.get rfl) hHeld ?_ | refine Reg.tkB 4 (Reg.get rfl) hHeld ?_
          try simp only [Act.put, List.setIfInBounds_toArray, List.set_cons_zero, List.set_cons_succ]
          first | ((refine Reg.tkB 5 (Reg.get rfl) hHeld ?_)) | (refine wpAnyH_ready (rs := [5]) (by kernel_rfl) (by simp) ?_; refine AllReadyH.cons (Reg.get rfl) (fun K hK => ?_) AllReadyH.nil; clear hHeld; go_simp; ((go_at_call 101; refine (setS_good Ap N cp b ks st (!v) _ HGD.out (by omega) (by first | exact HPI.out.rd | exact HPI.out.rd.drew)).mono ?_; rintro x w7 ⟨ks2, hg2, A2, c2, F2, m2, d2, rfl, hp, hb0⟩; have HGD2 := Lib.hid hg2; have HPI2 := Lib.hid (RowO.wider hp (show w.heap.size + 2 ≤ _ by first | omega | (simp; omega)) (Nat.le_refl _)); clear hg2 hp; replace r0 : Bk.Blk w7 (w.heap.size) 39 #[.slice none 0 0] := Bk.Blk.under hb0 (by exact Bk.sv); replace bk : Bk.Blk w7 (w.heap.size + 1) 39 #[.slice Ap N cp] := Bk.Blk.under hb0 (by exact Bk.sv); replace C : Cur.Cur w7 (g) A n c bs := Cur.Cur.below (by (repeat (first | with_reducible assumption | with_reducible apply Cur.Cur.alloc | with_reducible apply CurB.cur_drewN | with_reducible apply CurB.cur_drew | ((with_reducible refine CurB.cur_set HAL.out ?_ ?_ ?_ _); (focus (first | omega | (dsimp only; done) | (dsimp only; omega))); (focus (first | omega | (dsimp only; omega))))))) hb0; replace G : w.grownBy w7 (some (g)) := World.grownBy.trans (by exact CurB.gv) (Cur.grown_of_below hb0 _); have z7 := hb0.size; (try simp only [World.size_alloc, Bk.size_set, World.size_drew, World.drewN] at z7); clear hb0; clear cb fb lb; have cb := Bk.Blk.cell bk 0; have fb := Bk.Blk.fro bk 0; have lb := bk.lt)); refine hK.out _ _ ?_ (fun hHeld => ?_); ((try dsimp only); skip); clear hK K)
          try simp only [Act.put, List.setIfInBounds_toArray, List.set_cons_zero, List.set_cons_succ]
          first | refine Reg.tkA 6 (Reg.get rfl) hHeld ?_ | refine Reg.tkB 6 (Reg.get rfl) hHeld ?_
          try simp only [Act.put, List.setIfInBounds_toArray, List.set_cons_zero, List.set_cons_succ]
          first | refine Reg.tkA 7 (Reg.get rfl) hHeld ?_ | refine Reg.tkB 7 (Reg.get rfl) hHeld ?_
          try simp only [Act.put, List.setIfInBounds_toArray, List.set_cons_zero, List.set_cons_succ]
          first | refine Reg.tkA 8 (Reg.get rfl) hHeld ?_ | refine Reg.tkB 8 (Reg.get rfl) hHeld ?_
          try simp only [Act.put, List.setIfInBounds_toArray, List.set_cons_zero, List.set_cons_succ]
          first | ((refine Reg.tkB 9 (Reg.get rfl) hHeld ?_)) | (refine wpAnyH_ready (rs := [9]) (by kernel_rfl) (by simp) ?_; refine AllReadyH.cons (Reg.get rfl) (fun K hK => ?_) AllReadyH.nil; clear hHeld; go_simp; (skip); refine hK.out _ _ ?_ (fun hHeld => ?_); ((try dsimp only); skip); clear hK K)
          try simp only [Act.put, List.setIfInBounds_toArray, List.set_cons_zero, List.set_cons_succ]
          refine wpAnyH_done (by kernel_rfl) ?_ _
          clear cb fb lb
          generalize hW : World.setCell _ _ _ = w8
          replace HPI2 := Lib.hid (show RowO w8 (w.heap.size + 2) w8.heap.size A2 N c2 ks2 from by rw [← hW]; exact row_set HPI2.out (by omega) _)
          replace bk : Bk.Blk w8 (w.heap.size + 1) 39 #[.slice A2 N c2] := (by rw [← hW]; apply Bk.Blk.to; (focus (exact Bk.sv)); rfl)
          replace r0 : Bk.Blk w8 (w.heap.size) 39 #[.slice none 0 0] := (by rw [← hW]; exact Bk.sv)
          replace C : Cur.Cur w8 (g) A n c bs := (by rw [← hW]; (repeat (first | with_reducible assumption | with_reducible apply Cur.Cur.alloc | with_reducible apply CurB.cur_drewN | with_reducible apply CurB.cur_drew | ((with_reducible refine CurB.cur_set HAL.out ?_ ?_ ?_ _); (focus (first | omega | (dsimp only; done) | (dsimp only; omega))); (focus (first | omega | (dsimp only; omega)))))))
          replace G : w.grownBy w8 (some (g)) := (by rw [← hW]; exact CurB.gv)
          have z8 : w8.heap.size = _ := congrArg (fun W : World => W.heap.size) hW.symm
          (try simp only [World.size_alloc, Bk.size_set, World.size_drew, World.drewN] at z8)
          clear hW
          go_wp2_with fail
          go_roundw
          case rel => exact ⟨i - 1, N, b, ks2, A2, c2, by go_num, by omega, by omega, by omega, HGD2.out, HPI2.out, r0, bk, C, G⟩
          case measure => simp [intOf]; omega
        
        · skip
          clear hHeld; go_simp; ((go_at_call 102; refine (l1Once_any A n c bs g _ _ (by (repeat (first | with_reducible assumption | with_reducible apply Cur.Cur.alloc | with_reducible apply CurB.cur_drewN | with_reducible apply CurB.cur_drew | ((with_reducible refine CurB.cur_set HAL.out ?_ ?_ ?_ _); (focus (first | omega | (dsimp only; done) | (dsimp only; omega))); (focus (first | omega | (dsimp only; omega))))))) (by omega) (by omega)).mono ?_; rintro e w6 ⟨v, rfl, C0, hg0⟩; (first | replace HPI := Lib.hid (row_grown HPI.out hg0 (by omega)) | replace HPI := Lib.hid (row_grown (w := w5.drew) HPI.out hg0 (by omega))); replace r0 : Bk.Blk w6 (w.heap.size) 39 #[.slice none 0 0] := Bk.Blk.grown hg0 (by omega) (by exact Bk.sv); replace bk : Bk.Blk w6 (w.heap.size + 1) 39 #[.slice Ap N cp] := Bk.Blk.grown hg0 (by omega) (by exact Bk.sv); replace C := C0; replace G : w.grownBy w6 (some (g)) := World.grownBy.trans (by exact CurB.gv) hg0; have z6 := hg0.size; (try simp only [World.size_alloc, Bk.size_set, World.size_drew, World.drewN] at z6); clear hg0; clear cb fb lb; have cb := Bk.Blk.cell bk 0; have fb := Bk.Blk.fro bk 0; have lb := bk.lt)); refine hK.out _ _ ?_ (fun hHeld => ?_); ((try dsimp only); skip); clear hK K
          try simp only [Act.put, List.setIfInBounds_toArray, List.set_cons_zero, List.set_cons_succ]
          first | refine Reg.tkA 4 (Reg.get rfl) hHeld ?_ | refine Reg.tkB 4 (Reg.get rfl) hHeld ?_
          try simp only [Act.put, List.setIfInBounds_toArray, List.set_cons_zero, List.set_cons_succ]
          first | ((refine Reg.tkB 0 (Reg.get rfl) hHeld ?_)) | (refine wpAnyH_ready (rs := [0]) (by kernel_rfl) (by simp) ?_; refine AllReadyH.cons (Reg.get rfl) (fun K hK => ?_) AllReadyH.nil; clear hHeld; go_simp; (skip); refine hK.out _ _ ?_ (fun hHeld => ?_); ((try dsimp only); skip); clear hK K)
          try simp only [Act.put, List.setIfInBounds_toArray, List.set_cons_zero, List.set_cons_succ]
          first | ((refine Reg.tkB 5 (Reg.get rfl) hHeld ?_)) | (refine wpAnyH_ready (rs := [5]) (by kernel_rfl) (by simp) ?_; refine AllReadyH.cons (Reg.get rfl) (fun K hK => ?_) AllReadyH.nil; clear hHeld; go_simp; ((go_at_call 101; refine (setS_good Ap N cp b ks st (!v) _ HGD.out (by omega) (by first | exact HPI.out.rd | exact HPI.out.rd.drew)).mono ?_; rintro x w7 ⟨ks2, hg2, A2, c2, F2, m2, d2, rfl, hp, hb0⟩; have HGD2 := Lib.hid hg2; have HPI2 := Lib.hid (RowO.wider hp (show w.heap.size + 2 ≤ _ by first | omega | (simp; omega)) (Nat.le_refl _)); clear hg2 hp; replace r0 : Bk.Blk w7 (w.heap.size) 39 #[.slice none 0 0] := Bk.Blk.under hb0 (by exact Bk.sv); replace bk : Bk.Blk w7 (w.heap.size + 1) 39 #[.slice Ap N cp] := Bk.Blk.under hb0 (by exact Bk.sv); replace C : Cur.Cur w7 (g) A n c bs := Cur.Cur.below (by (repeat (first | with_reducible assumption | with_reducible apply Cur.Cur.alloc | with_reducible apply CurB.cur_drewN | with_reducible apply CurB.cur_drew | ((with_reducible refine CurB.cur_set HAL.out ?_ ?_ ?_ _); (focus (first | omega | (dsimp only; done) | (dsimp only; omega))); (focus (first | omega | (dsimp only; omega))))))) hb0; replace G : w.grownBy w7 (some (g)) := World.grownBy.trans (by exact CurB.gv) (Cur.grown_of_below hb0 _); have z7 := hb0.size; (try simp only [World.size_alloc, Bk.size_set, World.size_drew, World.drewN] at z7); clear hb0; clear cb fb lb; have cb := Bk.Blk.cell bk 0; have fb := Bk.Blk.fro bk 0; have lb := bk.lt)); refine hK.out _ _ ?_ (fun hHeld => ?_); ((try dsimp only); skip); clear hK K)
          try simp only [Act.put, List.setIfInBounds_toArray, List.set_cons_zero, List.set_cons_succ]
          first | refine Reg.tkA 6 (Reg.get rfl) hHeld ?_ | refine Reg.tkB 6 (Reg.get rfl) hHeld ?_
          try simp only [Act.put, List.setIfInBounds_toArray, List.set_cons_zero, List.set_cons_succ]
          first | refine Reg.tkA 7 (Reg.get rfl) hHeld ?_ | refine Reg.tkB 7 (Reg.get rfl) hHeld ?_
          try simp only [Act.put, List.setIfInBounds_toArray, List.set_cons_zero, List.set_cons_succ]
          first | refine Reg.tkA 8 (Reg.get rfl) hHeld ?_ | refine Reg.tkB 8 (Reg.get rfl) hHeld ?_
          try simp only [Act.put, List.setIfInBounds_toArray, List.set_cons_zero, List.set_cons_succ]
          first | ((refine Reg.tkB 9 (Reg.get rfl) hHeld ?_)) | (refine wpAnyH_ready (rs := [9]) (by kernel_rfl) (by simp) ?_; refine AllReadyH.cons (Reg.get rfl) (fun K hK => ?_) AllReadyH.nil; clear hHeld; go_simp; (skip); refine hK.out _ _ ?_ (fun hHeld => ?_); ((try dsimp only); skip); clear hK K)
          try simp only [Act.put, List.setIfInBounds_toArray, List.set_cons_zero, List.set_cons_succ]
          refine wpAnyH_done (by kernel_rfl) ?_ _
          clear cb fb lb
          generalize hW : World.setCell _ _ _ = w8
          replace HPI2 := Lib.hid (show RowO w8 (w.heap.size + 2) w8.heap.size A2 N c2 ks2 from by rw [← hW]; exact row_set HPI2.out (by omega) _)
          replace bk : Bk.Blk w8 (w.heap.size + 1) 39 #[.slice A2 N c2] := (by rw [← hW]; apply Bk.Blk.to; (focus (exact Bk.sv)); rfl)
          replace r0 : Bk.Blk w8 (w.heap.size) 39 #[.slice none 0 0] := (by rw [← hW]; exact Bk.sv)
          replace C : Cur.Cur w8 (g) A n c bs := (by rw [← hW]; (repeat (first | with_reducible assumption | with_reducible apply Cur.Cur.alloc | with_reducible apply CurB.cur_drewN | with_reducible apply CurB.cur_drew | ((with_reducible refine CurB.cur_set HAL.out ?_ ?_ ?_ _); (focus (first | omega | (dsimp only; done) | (dsimp only; omega))); (focus (first | omega | (dsimp only; omega)))))))
          replace G : w.grownBy w8 (some (g)) := (by rw [← hW]; exact CurB.gv)
          have z8 : w8.heap.size = _ := congrArg (fun W : World => W.heap.size) hW.symm
          (try simp only [World.size_alloc, Bk.size_set, World.size_drew, World.drewN] at z8)
          clear hW
          go_wp2_with fail
          go_roundw
          case rel => exact ⟨i - 1, N, b, ks2, A2, c2, by go_num, by omega, by omega, by omega, HGD2.out, HPI2.out, r0, bk, C, G⟩
          case measure => simp [intOf]; omega
      · have e0 : (y == 0) = false := by simpa using h0
        by_cases h1 : y = 1
        · have e1 : (y == 1) = true := by simpa using h1
          clear h0 h1
          have L_bk := Lay.f1 bk
          go_wp2_with fail
          clear L_bk
          have cb : w5.cell? ⟨w.heap.size + 1, 0, none⟩ = some (.slice Ap N cp) := Bk.Blk.cell bk 0
          have fb := Bk.Blk.fro bk 0
          have lb := bk.lt
          refine wp_region_held_drew (S := (fun _ => True)) (by kernel_rfl) ?_ (fun hHeld => ?_)
          · (try dsimp only); skip
          first | refine Reg.tkA 1 (Reg.get rfl) hHeld ?_ | refine Reg.tkB 1 (Reg.get rfl) hHeld ?_
          try simp only [Act.put, List.setIfInBounds_toArray, List.set_cons_zero, List.set_cons_succ]
          first | refine Reg.tkA 2 (Reg.get rfl) hHeld ?_ | refine Reg.tkB 2 (Reg.get rfl) hHeld ?_
          try simp only [Act.put, List.setIfInBounds_toArray, List.set_cons_zero, List.set_cons_succ]
          first | refine Reg.tkA 3 (Reg.get rfl) hHeld ?_ | refine Reg.tkB 3 (Reg.get rfl) hHeld ?_
          try simp only [Act.put, List.setIfInBounds_toArray, List.set_cons_zero, List.set_cons_succ]
          refine wpAnyH_ready (rs := [0, 4]) (by kernel_rfl) (by simp) ?_
          refine (AllReadyH.cons (Reg.get rfl) (fun K hK => ?_) (AllReadyH.cons (Reg.get rfl) (fun K hK => ?_) AllReadyH.nil))
          
          · skip
            clear hHeld; go_simp; (skip); refine hK.out _ _ ?_ (fun hHeld => ?_); ((try dsimp only); skip); clear hK K
            try simp only [Act.put, List.setIfInBounds_toArray, List.set_cons_zero, List.set_cons_succ]
            first | ((refine Reg.tkB 4 (Reg.get rfl) hHeld ?_)) | (refine wpAnyH_ready (rs := [4]) (by kernel_rfl) (by simp) ?_; refine AllReadyH.cons (Reg.get rfl) (fun K hK => ?_) AllReadyH.nil; clear hHeld; go_simp; ((go_at_call 88; refine (l1Below_any A n c bs g _ _ (by (repeat (first | with_reducible assumption | with_reducible apply Cur.Cur.alloc | with_reducible apply CurB.cur_drewN | with_reducible apply CurB.cur_drew | ((with_reducible refine CurB.cur_set HAL.out ?_ ?_ ?_ _); (focus (first | omega | (dsimp only; done) | (dsimp only; omega))); (focus (first | omega | (dsimp only; omega))))))) (by omega) (by omega)).mono ?_; rintro e w6 ⟨m, hm, rfl, C0, hg0⟩; (first | replace HPI := Lib.hid (row_grown HPI.out hg0 (by omega)) | replace HPI := Lib.hid (row_grown (w := w5.drew) HPI.out hg0 (by omega))); replace r0 : Bk.Blk w6 (w.heap.size) 39 #[.slice none 0 0] := Bk.Blk.grown hg0 (by omega) (by exact Bk.sv); replace bk : Bk.Blk w6 (w.heap.size + 1) 39 #[.slice Ap N cp] := Bk.Blk.grown hg0 (by omega) (by exact Bk.sv); replace C := C0; replace G : w.grownBy w6 (some (g)) := World.grownBy.trans (by exact CurB.gv) hg0; have z6 := hg0.size; (try simp only [World.size_alloc, Bk.size_set, World.size_drew, World.drewN] at z6); clear hg0; obtain ⟨m0, m1⟩ := hm; clear cb fb lb; have cb := Bk.Blk.cell bk 0; have fb := Bk.Blk.fro bk 0; have lb := bk.lt)); refine hK.out _ _ ?_ (fun hHeld => ?_); ((try dsimp only); skip); clear hK K)
            try simp only [Act.put, List.setIfInBounds_toArray, List.set_cons_zero, List.set_cons_succ]
            first | ((refine Reg.tkB 5 (Reg.get rfl) hHeld ?_)) | (refine wpAnyH_ready (rs := [5]) (by kernel_rfl) (by simp) ?_; refine AllReadyH.cons (Reg.get rfl) (fun K hK => ?_) AllReadyH.nil; clear hHeld; go_simp; ((go_at_call 104; refine (Drw.l1Bytes_any A n c bs g m _ (by (repeat (first | with_reducible assumption | with_reducible apply Cur.Cur.alloc | with_reducible apply CurB.cur_drewN | with_reducible apply CurB.cur_drew | ((with_reducible refine CurB.cur_set HAL.out ?_ ?_ ?_ _); (focus (first | omega | (dsimp only; done) | (dsimp only; omega))); (focus (first | omega | (dsimp only; omega))))))) (by omega) (by omega)).mono ?_; rintro e w7 ⟨q, ys, L, d, hq, hys, hbo, rfl, C0, hg0⟩; (first | replace HPI := Lib.hid (row_grown HPI.out hg0 (by omega)) | replace HPI := Lib.hid (row_grown (w := w6.drew) HPI.out hg0 (by omega))); replace r0 : Bk.Blk w7 (w.heap.size) 39 #[.slice none 0 0] := Bk.Blk.grown hg0 (by omega) (by exact Bk.sv); replace bk : Bk.Blk w7 (w.heap.size + 1) 39 #[.slice Ap N cp] := Bk.Blk.grown hg0 (by omega) (by exact Bk.sv); replace C := C0; replace G : w.grownBy w7 (some (g)) := World.grownBy.trans (by exact CurB.gv) hg0; have z7 := hg0.size; (try simp only [World.size_alloc, Bk.size_set, World.size_drew, World.drewN] at z7); clear hg0; have HBO := Lib.hid (Rd.of_own hbo); clear hbo; clear cb fb lb; have cb := Bk.Blk.cell bk 0; have fb := Bk.Blk.fro bk 0; have lb := bk.lt)); refine hK.out _ _ ?_ (fun hHeld => ?_); ((try dsimp only); skip); clear hK K)
            try simp only [Act.put, List.setIfInBounds_toArray, List.set_cons_zero, List.set_cons_succ]
            first | ((refine Reg.tkB 6 (Reg.get rfl) hHeld ?_)) | (refine wpAnyH_ready (rs := [6]) (by kernel_rfl) (by simp) ?_; refine AllReadyH.cons (Reg.get rfl) (fun K hK => ?_) AllReadyH.nil; clear hHeld; go_simp; ((go_at_call 103; refine (keepS_good Ap N cp b ks st L q d ys _ HGD.out (by omega) (by omega) (by omega) (by first | exact HPI.out.rd | exact HPI.out.rd.drew) (by first | exact HBO.out | exact HBO.out.drew)).mono ?_; rintro x w8 ⟨ks2, hg2, A2, c2, v, rfl, hp, hb0⟩; have HGD2 := Lib.hid hg2; have HPI2 := Lib.hid (RowO.wider hp (show w.heap.size + 2 ≤ _ by first | omega | (simp; omega)) (Nat.le_refl _)); clear hg2 hp; replace r0 : Bk.Blk w8 (w.heap.size) 39 #[.slice none 0 0] := Bk.Blk.under hb0 (by exact Bk.sv); replace bk : Bk.Blk w8 (w.heap.size + 1) 39 #[.slice Ap N cp] := Bk.Blk.under hb0 (by exact Bk.sv); replace C : Cur.Cur w8 (g) A n c bs := Cur.Cur.below (by (repeat (first | with_reducible assumption | with_reducible apply Cur.Cur.alloc | with_reducible apply CurB.cur_drewN | with_reducible apply CurB.cur_drew | ((with_reducible refine CurB.cur_set HAL.out ?_ ?_ ?_ _); (focus (first | omega | (dsimp only; done) | (dsimp only; omega))); (focus (first | omega | (dsimp only; omega))))))) hb0; replace G : w.grownBy w8 (some (g)) := World.grownBy.trans (by exact CurB.gv) (Cur.grown_of_below hb0 _); have z8 := hb0.size; (try simp only [World.size_alloc, Bk.size_set, World.size_drew, World.drewN] at z8); clear hb0; clear cb fb lb; have cb := Bk.Blk.cell bk 0; have fb := Bk.Blk.fro bk 0; have lb := bk.lt)); refine hK.out _ _ ?_ (fun hHeld => ?_); ((try dsimp only); skip); clear hK K)
            try simp only [Act.put, List.setIfInBounds_toArray, List.set_cons_zero, List.set_cons_succ]
            first | refine Reg.tkA 7 (Reg.get rfl) hHeld ?_ | refine Reg.tkB 7 (Reg.get rfl) hHeld ?_
            try simp only [Act.put, List.setIfInBounds_toArray, List.set_cons_zero, List.set_cons_succ]
            first | refine Reg.tkA 8 (Reg.get rfl) hHeld ?_ | refine Reg.tkB 8 (Reg.get rfl) hHeld ?_
            try simp only [Act.put, List.setIfInBounds_toArray, List.set_cons_zero, List.set_cons_succ]
            first | refine Reg.tkA 9 (Reg.get rfl) hHeld ?_ | refine Reg.tkB 9 (Reg.get rfl) hHeld ?_
            try simp only [Act.put, List.setIfInBounds_toArray, List.set_cons_zero, List.set_cons_succ]
            first | ((refine Reg.tkB 10 (Reg.get rfl) hHeld ?_)) | (refine wpAnyH_ready (rs := [10]) (by kernel_rfl) (by simp) ?_; refine AllReadyH.cons (Reg.get rfl) (fun K hK => ?_) AllReadyH.nil; clear hHeld; go_simp; (skip); refine hK.out _ _ ?_ (fun hHeld => ?_); ((try dsimp only); skip); clear hK K)
            try simp only [Act.put, List.setIfInBounds_toArray, List.set_cons_zero, List.set_cons_succ]
            refine wpAnyH_done (by kernel_rfl) ?_ _
            clear cb fb lb
            generalize hW : World.setCell _ _ _ = w9
            replace HPI2 := Lib.hid (show RowO w9 (w.heap.size + 2) w9.heap.size A2 N c2 ks2 from by rw [← hW]; exact row_set HPI2.out (by omega) _)
            replace bk : Bk.Blk w9 (w.heap.size + 1) 39 #[.slice A2 N c2] := (by rw [← hW]; apply Bk.Blk.to; (focus (exact Bk.sv)); rfl)
            replace r0 : Bk.Blk w9 (w.heap.size) 39 #[.slice none 0 0] := (by rw [← hW]; exact Bk.sv)
            replace C : Cur.Cur w9 (g) A n c bs := (by rw [← hW]; (repeat (first | with_reducible assumption | with_reducible apply Cur.Cur.alloc | with_reducible apply CurB.cur_drewN | with_reducible apply CurB.cur_drew | ((with_reducible refine CurB.cur_set HAL.out ?_ ?_ ?_ _); (focus (first | omega | (dsimp only; done) | (dsimp only; omega))); (focus (first | omega | (dsimp only; omega)))))))
            replace G : w.grownBy w9 (some (g)) := (by rw [← hW]; exact CurB.gv)
            have z9 : w9.heap.size = _ := congrArg (fun W : World => W.heap.size) hW.symm
            (try simp only [World.size_alloc, Bk.size_set, World.size_drew, World.drewN] at z9)
            clear hW
            go_wp2_with fail
            go_roundw
            case rel => exact ⟨i - 1, N, b + 1, ks2, A2, c2, by go_num, by omega, by omega, by omega, HGD2.out, HPI2.out, r0, bk, C, G⟩
            case measure => simp [intOf]; omega
          
          · skip
            clear hHeld; go_simp; ((go_at_call 88; refine (l1Below_any A n c bs g _ _ (by (repeat (first | with_reducible assumption | with_reducible apply Cur.Cur.alloc | with_reducible apply CurB.cur_drewN | with_reducible apply CurB.cur_drew | ((with_reducible refine CurB.cur_set HAL.out ?_ ?_ ?_ _); (focus (first | omega | (dsimp only; done) | (dsimp only; omega))); (focus (first | omega | (dsimp only; omega))))))) (by omega) (by omega)).mono ?_; rintro e w6 ⟨m, hm, rfl, C0, hg0⟩; (first | replace HPI := Lib.hid (row_grown HPI.out hg0 (by omega)) | replace HPI := Lib.hid (row_grown (w := w5.drew) HPI.out hg0 (by omega))); replace r0 : Bk.Blk w6 (w.heap.size) 39 #[.slice none 0 0] := Bk.Blk.grown hg0 (by omega) (by exact Bk.sv); replace bk : Bk.Blk w6 (w.heap.size + 1) 39 #[.slice Ap N cp] := Bk.Blk.grown hg0 (by omega) (by exact Bk.sv); replace C := C0; replace G : w.grownBy w6 (some (g)) := World.grownBy.trans (by exact CurB.gv) hg0; have z6 := hg0.size; (try simp only [World.size_alloc, Bk.size_set, World.size_drew, World.drewN] at z6); clear hg0; obtain ⟨m0, m1⟩ := hm; clear cb fb lb; have cb := Bk.Blk.cell bk 0; have fb := Bk.Blk.fro bk 0; have lb := bk.lt)); refine hK.out _ _ ?_ (fun hHeld => ?_); ((try dsimp only); skip); clear hK K
            try simp only [Act.put, List.setIfInBounds_toArray, List.set_cons_zero, List.set_cons_succ]
            refine wpAnyH_ready (rs := [0, 5]) (by kernel_rfl) (by simp) ?_
            refine (AllReadyH.cons (Reg.get rfl) (fun K hK => ?_) (AllReadyH.cons (Reg.get rfl) (fun K hK => ?_) AllReadyH.nil))
          
            · skip
              clear hHeld; go_simp; (skip); refine hK.out _ _ ?_ (fun hHeld => ?_); ((try dsimp only); skip); clear hK K
              try simp only [Act.put, List.setIfInBounds_toArray, List.set_cons_zero, List.set_cons_succ]
              first | ((refine Reg.tkB 5 (Reg.get rfl) hHeld ?_)) | (refine wpAnyH_ready (rs := [5]) (by kernel_rfl) (by simp) ?_; refine AllReadyH.cons (Reg.get rfl) (fun K hK => ?_) AllReadyH.nil; clear hHeld; go_simp; ((go_at_call 104; refine (Drw.l1Bytes_any A n c bs g m _ (by (repeat (first | with_reducible assumption | with_reducible apply Cur.Cur.alloc | with_reducible apply CurB.cur_drewN | with_reducible apply CurB.cur_drew | ((with_reducible refine CurB.cur_set HAL.out ?_ ?_ ?_ _); (focus (first | omega | (dsimp only; done) | (dsimp only; omega))); (focus (first | omega | (dsimp only; omega))))))) (by omega) (by omega)).mono ?_; rintro e w7 ⟨q, ys, L, d, hq, hys, hbo, rfl, C0, hg0⟩; (first | replace HPI := Lib.hid (row_grown HPI.out hg0 (by omega)) | replace HPI := Lib.hid (row_grown (w := w6.drew) HPI.out hg0 (by omega))); replace r0 : Bk.Blk w7 (w.heap.size) 39 #[.slice none 0 0] := Bk.Blk.grown hg0 (by omega) (by exact Bk.sv); replace bk : Bk.Blk w7 (w.heap.size + 1) 39 #[.slice Ap N cp] := Bk.Blk.grown hg0 (by omega) (by exact Bk.sv); replace C := C0; replace G : w.grownBy w7 (some (g)) := World.grownBy.trans (by exact CurB.gv) hg0; have z7 := hg0.size; (try simp only [World.size_alloc, Bk.size_set, World.size_drew, World.drewN] at z7); clear hg0; have HBO := Lib.hid (Rd.of_own hbo); clear hbo; clear cb fb lb; have cb := Bk.Blk.cell bk 0; have fb := Bk.Blk.fro bk 0; have lb := bk.lt)); refine hK.out _ _ ?_ (fun hHeld => ?_); ((try dsimp only); skip); clear hK K)
              try simp only [Act.put, List.setIfInBounds_toArray, List.set_cons_zero, List.set_cons_succ]
              first | ((refine Reg.tkB 6 (Reg.get rfl) hHeld ?_)) | (refine wpAnyH_ready (rs := [6]) (by kernel_rfl) (by simp) ?_; refine AllReadyH.cons (Reg.get rfl) (fun K hK => ?_) AllReadyH.nil; clear hHeld; go_simp; ((go_at_call 103; refine (keepS_good Ap N cp b ks st L q d ys _ HGD.out (by omega) (by omega) (by omega) (by first | exact HPI.out.rd | exact HPI.out.rd.drew) (by first | exact HBO.out | exact HBO.out.drew)).mono ?_; rintro x w8 ⟨ks2, hg2, A2, c2, v, rfl, hp, hb0⟩; have HGD2 := Lib.hid hg2; have HPI2 := Lib.hid (RowO.wider hp (show w.heap.size + 2 ≤ _ by first | omega | (simp; omega)) (Nat.le_refl _)); clear hg2 hp; replace r0 : Bk.Blk w8 (w.heap.size) 39 #[.slice none 0 0] := Bk.Blk.under hb0 (by exact Bk.sv); replace bk : Bk.Blk w8 (w.heap.size + 1) 39 #[.slice Ap N cp] := Bk.Blk.under hb0 (by exact Bk.sv); replace C : Cur.Cur w8 (g) A n c bs := Cur.Cur.below (by (repeat (first | with_reducible assumption | with_reducible apply Cur.Cur.alloc | with_reducible apply CurB.cur_drewN | with_reducible apply CurB.cur_drew | ((with_reducible refine CurB.cur_set HAL.out ?_ ?_ ?_ _); (focus (first | omega | (dsimp only; done) | (dsimp only; omega))); (focus (first | omega | (dsimp only; omega))))))) hb0; replace G : w.grownBy w8 (some (g)) := World.grownBy.trans (by exact CurB.gv) (Cur.grown_of_below hb0 _); have z8 := hb0.size; (try simp only [World.size_alloc, Bk.size_set, World.size_drew, World.drewN] at z8); clear hb0; clear cb fb lb; have cb := Bk.Blk.cell bk 0; have fb := Bk.Blk.fro bk 0; have lb := bk.lt)); refine hK.out _ _ ?_ (fun hHeld => ?_); ((try dsimp only); skip); clear hK K)
              try simp only [Act.put, List.setIfInBounds_toArray, List.set_cons_zero, List.set_cons_succ]
              first | refine Reg.tkA 7 (Reg.get rfl) hHeld ?_ | refine Reg.tkB 7 (Reg.get rfl) hHeld ?_
              try simp only [Act.put, List.setIfInBounds_toArray, List.set_cons_zero, List.set_cons_succ]
              first | refine Reg.tkA 8 (Reg.get rfl) hHeld ?_ | refine Reg.tkB 8 (Reg.get rfl) hHeld ?_
              try simp only [Act.put, List.setIfInBounds_toArray, List.set_cons_zero, List.set_cons_succ]
              first | refine Reg.tkA 9 (Reg.get rfl) hHeld ?_ | refine Reg.tkB 9 (Reg.get rfl) hHeld ?_
              try simp only [Act.put, List.setIfInBounds_toArray, List.set_cons_zero, List.set_cons_succ]
              first | ((refine Reg.tkB 10 (Reg.get rfl) hHeld ?_)) | (refine wpAnyH_ready (rs := [10]) (by kernel_rfl) (by simp) ?_; refine AllReadyH.cons (Reg.get rfl) (fun K hK => ?_) AllReadyH.nil; clear hHeld; go_simp; (skip); refine hK.out _ _ ?_ (fun hHeld => ?_); ((try dsimp only); skip); clear hK K)
              try simp only [Act.put, List.setIfInBounds_toArray, List.set_cons_zero, List.set_cons_succ]
              refine wpAnyH_done (by kernel_rfl) ?_ _
              clear cb fb lb
              generalize hW : World.setCell _ _ _ = w9
              replace HPI2 := Lib.hid (show RowO w9 (w.heap.size + 2) w9.heap.size A2 N c2 ks2 from by rw [← hW]; exact row_set HPI2.out (by omega) _)
              replace bk : Bk.Blk w9 (w.heap.size + 1) 39 #[.slice A2 N c2] := (by rw [← hW]; apply Bk.Blk.to; (focus (exact Bk.sv)); rfl)
              replace r0 : Bk.Blk w9 (w.heap.size) 39 #[.slice none 0 0] := (by rw [← hW]; exact Bk.sv)
              replace C : Cur.Cur w9 (g) A n c bs := (by rw [← hW]; (repeat (first | with_reducible assumption | with_reducible apply Cur.Cur.alloc | with_reducible apply CurB.cur_drewN | with_reducible apply CurB.cur_drew | ((with_reducible refine CurB.cur_set HAL.out ?_ ?_ ?_ _); (focus (first | omega | (dsimp only; done) | (dsimp only; omega))); (focus (first | omega | (dsimp only; omega)))))))
              replace G : w.grownBy w9 (some (g)) := (by rw [← hW]; exact CurB.gv)
              have z9 : w9.heap.size = _ := congrArg (fun W : World => W.heap.size) hW.symm
              (try simp only [World.size_alloc, Bk.size_set, World.size_drew, World.drewN] at z9)
              clear hW
              go_wp2_with fail
              go_roundw
              case rel => exact ⟨i - 1, N, b + 1, ks2, A2, c2, by go_num, by omega, by omega, by omega, HGD2.out, HPI2.out, r0, bk, C, G⟩
              case measure => simp [intOf]; omega
          
            · skip
              clear hHeld; go_simp; ((go_at_call 104; refine (Drw.l1Bytes_any A n c bs g m _ (by (repeat (first | with_reducible assumption | with_reducible apply Cur.Cur.alloc | with_reducible apply CurB.cur_drewN | with_reducible apply CurB.cur_drew | ((with_reducible refine CurB.cur_set HAL.out ?_ ?_ ?_ _); (focus (first | omega | (dsimp only; done) | (dsimp only; omega))); (focus (first | omega | (dsimp only; omega))))))) (by omega) (by omega)).mono ?_; rintro e w7 ⟨q, ys, L, d, hq, hys, hbo, rfl, C0, hg0⟩; (first | replace HPI := Lib.hid (row_grown HPI.out hg0 (by omega)) | replace HPI := Lib.hid (row_grown (w := w6.drew) HPI.out hg0 (by omega))); replace r0 : Bk.Blk w7 (w.heap.size) 39 #[.slice none 0 0] := Bk.Blk.grown hg0 (by omega) (by exact Bk.sv); replace bk : Bk.Blk w7 (w.heap.size + 1) 39 #[.slice Ap N cp] := Bk.Blk.grown hg0 (by omega) (by exact Bk.sv); replace C := C0; replace G : w.grownBy w7 (some (g)) := World.grownBy.trans (by exact CurB.gv) hg0; have z7 := hg0.size; (try simp only [World.size_alloc, Bk.size_set, World.size_drew, World.drewN] at z7); clear hg0; have HBO := Lib.hid (Rd.of_own hbo); clear hbo; clear cb fb lb; have cb := Bk.Blk.cell bk 0; have fb := Bk.Blk.fro bk 0; have lb := bk.lt)); refine hK.out _ _ ?_ (fun hHeld => ?_); ((try dsimp only); skip); clear hK K
              try simp only [Act.put, List.setIfInBounds_toArray, List.set_cons_zero, List.set_cons_succ]
              first | ((refine Reg.tkB 0 (Reg.get rfl) hHeld ?_)) | (refine wpAnyH_ready (rs := [0]) (by kernel_rfl) (by simp) ?_; refine AllReadyH.cons (Reg.get rfl) (fun K hK => ?_) AllReadyH.nil; clear hHeld; go_simp; (skip); refine hK.out _ _ ?_ (fun hHeld => ?_); ((try dsimp only); skip); clear hK K)
              try simp only [Act.put, List.setIfInBounds_toArray, List.set_cons_zero, List.set_cons_succ]
              first | ((refine Reg.tkB 6 (Reg.get rfl) hHeld ?_)) | (refine wpAnyH_ready (rs := [6]) (by kernel_rfl) (by simp) ?_; refine AllReadyH.cons (Reg.get rfl) (fun K hK => ?_) AllReadyH.nil; clear hHeld; go_simp; ((go_at_call 103; refine (keepS_good Ap N cp b ks st L q d ys _ HGD.out (by omega) (by omega) (by omega) (by first | exact HPI.out.rd | exact HPI.out.rd.drew) (by first | exact HBO.out | exact HBO.out.drew)).mono ?_; rintro x w8 ⟨ks2, hg2, A2, c2, v, rfl, hp, hb0⟩; have HGD2 := Lib.hid hg2; have HPI2 := Lib.hid (RowO.wider hp (show w.heap.size + 2 ≤ _ by first | omega | (simp; omega)) (Nat.le_refl _)); clear hg2 hp; replace r0 : Bk.Blk w8 (w.heap.size) 39 #[.slice none 0 0] := Bk.Blk.under hb0 (by exact Bk.sv); replace bk : Bk.Blk w8 (w.heap.size + 1) 39 #[.slice Ap N cp] := Bk.Blk.under hb0 (by exact Bk.sv); replace C : Cur.Cur w8 (g) A n c bs := Cur.Cur.below (by (repeat (first | with_reducible assumption | with_reducible apply Cur.Cur.alloc | with_reducible apply CurB.cur_drewN | with_reducible apply CurB.cur_drew | ((with_reducible refine CurB.cur_set HAL.out ?_ ?_ ?_ _); (focus (first | omega | (dsimp only; done) | (dsimp only; omega))); (focus (first | omega | (dsimp only; omega))))))) hb0; replace G : w.grownBy w8 (some (g)) := World.grownBy.trans (by exact CurB.gv) (Cur.grown_of_below hb0 _); have z8 := hb0.size; (try simp only [World.size_alloc, Bk.size_set, World.size_drew, World.drewN] at z8); clear hb0; clear cb fb lb; have cb := Bk.Blk.cell bk 0; have fb := Bk.Blk.fro bk 0; have lb := bk.lt)); refine hK.out _ _ ?_ (fun hHeld => ?_); ((try dsimp only); skip); clear hK K)
              try simp only [Act.put, List.setIfInBounds_toArray, List.set_cons_zero, List.set_cons_succ]
              first | refine Reg.tkA 7 (Reg.get rfl) hHeld ?_ | refine Reg.tkB 7 (Reg.get rfl) hHeld ?_
              try simp only [Act.put, List.setIfInBounds_toArray, List.set_cons_zero, List.set_cons_succ]
              first | refine Reg.tkA 8 (Reg.get rfl) hHeld ?_ | refine Reg.tkB 8 (Reg.get rfl) hHeld ?_
              try simp only [Act.put, List.setIfInBounds_toArray, List.set_cons_zero, List.set_cons_succ]
              first | refine Reg.tkA 9 (Reg.get rfl) hHeld ?_ | refine Reg.tkB 9 (Reg.get rfl) hHeld ?_
              try simp only [Act.put, List.setIfInBounds_toArray, List.set_cons_zero, List.set_cons_succ]
              first | ((refine Reg.tkB 10 (Reg.get rfl) hHeld ?_)) | (refine wpAnyH_ready (rs := [10]) (by kernel_rfl) (by simp) ?_; refine AllReadyH.cons (Reg.get rfl) (fun K hK => ?_) AllReadyH.nil; clear hHeld; go_simp; (skip); refine hK.out _ _ ?_ (fun hHeld => ?_); ((try dsimp only); skip); clear hK K)
              try simp only [Act.put, List.setIfInBounds_toArray, List.set_cons_zero, List.set_cons_succ]
              refine wpAnyH_done (by kernel_rfl) ?_ _
              clear cb fb lb
              generalize hW : World.setCell _ _ _ = w9
              replace HPI2 := Lib.hid (show RowO w9 (w.heap.size + 2) w9.heap.size A2 N c2 ks2 from by rw [← hW]; exact row_set HPI2.out (by omega) _)
              replace bk : Bk.Blk w9 (w.heap.size + 1) 39 #[.slice A2 N c2] := (by rw [← hW]; apply Bk.Blk.to; (focus (exact Bk.sv)); rfl)
              replace r0 : Bk.Blk w9 (w.heap.size) 39 #[.slice none 0 0] := (by rw [← hW]; exact Bk.sv)
              replace C : Cur.Cur w9 (g) A n c bs := (by rw [← hW]; (repeat (first | with_reducible assumption | with_reducible apply Cur.Cur.alloc | with_reducible apply CurB.cur_drewN | with_reducible apply CurB.cur_drew | ((with_reducible refine CurB.cur_set HAL.out ?_ ?_ ?_ _); (focus (first | omega | (dsimp only; done) | (dsimp only; omega))); (focus (first | omega | (dsimp only; omega)))))))
              replace G : w.grownBy w9 (some (g)) := (by rw [← hW]; exact CurB.gv)
              have z9 : w9.heap.size = _ := congrArg (fun W : World => W.heap.size) hW.symm
              (try simp only [World.size_alloc, Bk.size_set, World.size_drew, World.drewN] at z9)
              clear hW
              go_wp2_with fail
              go_roundw
              case rel => exact ⟨i - 1, N, b + 1, ks2, A2, c2, by go_num, by omega, by omega, by omega, HGD2.out, HPI2.out, r0, bk, C, G⟩
              case measure => simp [intOf]; omega
        · by_cases h2 : y = 2
          · have e1 : (y == 1) = false := by simpa using h1
            have e2 : (y == 2) = true := by simpa using h2
            clear h0 h1 h2
            have L_bk := Lay.f1 bk
            go_wp2_with fail
            clear L_bk
            have cb : w5.cell? ⟨w.heap.size + 1, 0, none⟩ = some (.slice Ap N cp) := Bk.Blk.cell bk 0
            have fb := Bk.Blk.fro bk 0
            have lb := bk.lt
            refine wp_region_held_drew (S := (fun _ => True)) (by kernel_rfl) ?_ (fun hHeld => ?_)
            · (try dsimp only); skip
            first | refine Reg.tkA 1 (Reg.get rfl) hHeld ?_ | refine Reg.tkB 1 (Reg.get rfl) hHeld ?_
            try simp only [Act.put, List.setIfInBounds_toArray, List.set_cons_zero, List.set_cons_succ]
            first | refine Reg.tkA 2 (Reg.get rfl) hHeld ?_ | refine Reg.tkB 2 (Reg.get rfl) hHeld ?_
            try simp only [Act.put, List.setIfInBounds_toArray, List.set_cons_zero, List.set_cons_succ]
            first | refine Reg.tkA 3 (Reg.get rfl) hHeld ?_ | refine Reg.tkB 3 (Reg.get rfl) hHeld ?_
            try simp only [Act.put, List.setIfInBounds_toArray, List.set_cons_zero, List.set_cons_succ]
            refine wpAnyH_ready (rs := [0, 4]) (by kernel_rfl) (by simp) ?_
            refine (AllReadyH.cons (Reg.get rfl) (fun K hK => ?_) (AllReadyH.cons (Reg.get rfl) (fun K hK => ?_) AllReadyH.nil))
            
            · skip
              clear hHeld; go_simp; (skip); refine hK.out _ _ ?_ (fun hHeld => ?_); ((try dsimp only); skip); clear hK K
              try simp only [Act.put, List.setIfInBounds_toArray, List.set_cons_zero, List.set_cons_succ]
              first | ((refine Reg.tkB 4 (Reg.get rfl) hHeld ?_)) | (refine wpAnyH_ready (rs := [4]) (by kernel_rfl) (by simp) ?_; refine AllReadyH.cons (Reg.get rfl) (fun K hK => ?_) AllReadyH.nil; clear hHeld; go_simp; ((go_at_call 88; refine (l1Below_any A n c bs g _ _ (by (repeat (first | with_reducible assumption | with_reducible apply Cur.Cur.alloc | with_reducible apply CurB.cur_drewN | with_reducible apply CurB.cur_drew | ((with_reducible refine CurB.cur_set HAL.out ?_ ?_ ?_ _); (focus (first | omega | (dsimp only; done) | (dsimp only; omega))); (focus (first | omega | (dsimp only; omega))))))) (by omega) (by omega)).mono ?_; rintro e w6 ⟨m, hm, rfl, C0, hg0⟩; (first | replace HPI := Lib.hid (row_grown HPI.out hg0 (by omega)) | replace HPI := Lib.hid (row_grown (w := w5.drew) HPI.out hg0 (by omega))); replace r0 : Bk.Blk w6 (w.heap.size) 39 #[.slice none 0 0] := Bk.Blk.grown hg0 (by omega) (by exact Bk.sv); replace bk : Bk.Blk w6 (w.heap.size + 1) 39 #[.slice Ap N cp] := Bk.Blk.grown hg0 (by omega) (by exact Bk.sv); replace C := C0; replace G : w.grownBy w6 (some (g)) := World.grownBy.trans (by exact CurB.gv) hg0; have z6 := hg0.size; (try simp only [World.size_alloc, Bk.size_set, World.size_drew, World.drewN] at z6); clear hg0; obtain ⟨m0, m1⟩ := hm; clear cb fb lb; have cb := Bk.Blk.cell bk 0; have fb := Bk.Blk.fro bk 0; have lb := bk.lt)); refine hK.out _ _ ?_ (fun hHeld => ?_); ((try dsimp only); skip); clear hK K)
              try simp only [Act.put, List.setIfInBounds_toArray, List.set_cons_zero, List.set_cons_succ]
              first | ((refine Reg.tkB 5 (Reg.get rfl) hHeld ?_)) | (refine wpAnyH_ready (rs := [5]) (by kernel_rfl) (by simp) ?_; refine AllReadyH.cons (Reg.get rfl) (fun K hK => ?_) AllReadyH.nil; clear hHeld; go_simp; ((go_at_call 104; refine (Drw.l1Bytes_any A n c bs g m _ (by (repeat (first | with_reducible assumption | with_reducible apply Cur.Cur.alloc | with_reducible apply CurB.cur_drewN | with_reducible apply CurB.cur_drew | ((with_reducible refine CurB.cur_set HAL.out ?_ ?_ ?_ _); (focus (first | omega | (dsimp only; done) | (dsimp only; omega))); (focus (first | omega | (dsimp only; omega))))))) (by omega) (by omega)).mono ?_; rintro e w7 ⟨q, ys, L, d, hq, hys, hbo, rfl, C0, hg0⟩; (first | replace HPI := Lib.hid (row_grown HPI.out hg0 (by omega)) | replace HPI := Lib.hid (row_grown (w := w6.drew) HPI.out hg0 (by omega))); replace r0 : Bk.Blk w7 (w.heap.size) 39 #[.slice none 0 0] := Bk.Blk.grown hg0 (by omega) (by exact Bk.sv); replace bk : Bk.Blk w7 (w.heap.size + 1) 39 #[.slice Ap N cp] := Bk.Blk.grown hg0 (by omega) (by exact Bk.sv); replace C := C0; replace G : w.grownBy w7 (some (g)) := World.grownBy.trans (by exact CurB.gv) hg0; have z7 := hg0.size; (try simp only [World.size_alloc, Bk.size_set, World.size_drew, World.drewN] at z7); clear hg0; have HBO := Lib.hid (Rd.of_own hbo); clear hbo; clear cb fb lb; have cb := Bk.Blk.cell bk 0; have fb := Bk.Blk.fro bk 0; have lb := bk.lt)); refine hK.out _ _ ?_ (fun hHeld => ?_); ((try dsimp only); skip); clear hK K)
              try simp only [Act.put, List.setIfInBounds_toArray, List.set_cons_zero, List.set_cons_succ]
              first | ((refine Reg.tkB 6 (Reg.get rfl) hHeld ?_)) | (refine wpAnyH_ready (rs := [6]) (by kernel_rfl) (by simp) ?_; refine AllReadyH.cons (Reg.get rfl) (fun K hK => ?_) AllReadyH.nil; clear hHeld; go_simp; ((go_at_call 103; refine (keepS_good Ap N cp b ks st L q d ys _ HGD.out (by omega) (by omega) (by omega) (by first | exact HPI.out.rd | exact HPI.out.rd.drew) (by first | exact HBO.out | exact HBO.out.drew)).mono ?_; rintro x w8 ⟨ks2, hg2, A2, c2, v, rfl, hp, hb0⟩; have HGD2 := Lib.hid hg2; have HPI2 := Lib.hid (RowO.wider hp (show w.heap.size + 2 ≤ _ by first | omega | (simp; omega)) (Nat.le_refl _)); clear hg2 hp; replace r0 : Bk.Blk w8 (w.heap.size) 39 #[.slice none 0 0] := Bk.Blk.under hb0 (by exact Bk.sv); replace bk : Bk.Blk w8 (w.heap.size + 1) 39 #[.slice Ap N cp] := Bk.Blk.under hb0 (by exact Bk.sv); replace C : Cur.Cur w8 (g) A n c bs := Cur.Cur.below (by (repeat (first | with_reducible assumption | with_reducible apply Cur.Cur.alloc | with_reducible apply CurB.cur_drewN | with_reducible apply CurB.cur_drew | ((with_reducible refine CurB.cur_set HAL.out ?_ ?_ ?_ _); (focus (first | omega | (dsimp only; done) | (dsimp only; omega))); (focus (first | omega | (dsimp only; omega))))))) hb0; replace G : w.grownBy w8 (some (g)) := World.grownBy.trans (by exact CurB.gv) (Cur.grown_of_below hb0 _); have z8 := hb0.size; (try simp only [World.size_alloc, Bk.size_set, World.size_drew, World.drewN] at z8); clear hb0; clear cb fb lb; have cb := Bk.Blk.cell bk 0; have fb := Bk.Blk.fro bk 0; have lb := bk.lt)); refine hK.out _ _ ?_ (fun hHeld => ?_); ((try dsimp only); skip); clear hK K)
              try simp only [Act.put, List.setIfInBounds_toArray, List.set_cons_zero, List.set_cons_succ]
              first | refine Reg.tkA 7 (Reg.get rfl) hHeld ?_ | refine Reg.tkB 7 (Reg.get rfl) hHeld ?_
              try simp only [Act.put, List.setIfInBounds_toArray, List.set_cons_zero, List.set_cons_succ]
              first | refine Reg.tkA 8 (Reg.get rfl) hHeld ?_ | refine Reg.tkB 8 (Reg.get rfl) hHeld ?_
              try simp only [Act.put, List.setIfInBounds_toArray, List.set_cons_zero, List.set_cons_succ]
              first | refine Reg.tkA 9 (Reg.get rfl) hHeld ?_ | refine Reg.tkB 9 (Reg.get rfl) hHeld ?_
              try simp only [Act.put, List.setIfInBounds_toArray, List.set_cons_zero, List.set_cons_succ]
              first | ((refine Reg.tkB 10 (Reg.get rfl) hHeld ?_)) | (refine wpAnyH_ready (rs := [10]) (by kernel_rfl) (by simp) ?_; refine AllReadyH.cons (Reg.get rfl) (fun K hK => ?_) AllReadyH.nil; clear hHeld; go_simp; (skip); refine hK.out _ _ ?_ (fun hHeld => ?_); ((try dsimp only); skip); clear hK K)
              try simp only [Act.put, List.setIfInBounds_toArray, List.set_cons_zero, List.set_cons_succ]
              refine wpAnyH_done (by kernel_rfl) ?_ _
              clear cb fb lb
              generalize hW : World.setCell _ _ _ = w9
              replace HPI2 := Lib.hid (show RowO w9 (w.heap.size + 2) w9.heap.size A2 N c2 ks2 from by rw [← hW]; exact row_set HPI2.out (by omega) _)
              replace bk : Bk.Blk w9 (w.heap.size + 1) 39 #[.slice A2 N c2] := (by rw [← hW]; apply Bk.Blk.to; (focus (exact Bk.sv)); rfl)
              replace r0 : Bk.Blk w9 (w.heap.size) 39 #[.slice none 0 0] := (by rw [← hW]; exact Bk.sv)
              replace C : Cur.Cur w9 (g) A n c bs := (by rw [← hW]; (repeat (first | with_reducible assumption | with_reducible apply Cur.Cur.alloc | with_reducible apply CurB.cur_drewN | with_reducible apply CurB.cur_drew | ((with_reducible refine CurB.cur_set HAL.out ?_ ?_ ?_ _); (focus (first | omega | (dsimp only; done) | (dsimp only; omega))); (focus (first | omega | (dsimp only; omega)))))))
              replace G : w.grownBy w9 (some (g)) := (by rw [← hW]; exact CurB.gv)
              have z9 : w9.heap.size = _ := congrArg (fun W : World => W.heap.size) hW.symm
              (try simp only [World.size_alloc, Bk.size_set, World.size_drew, World.drewN] at z9)
              clear hW
              go_wp2_with fail
              go_roundw
              case rel => exact ⟨i - 1, N, b + 1, ks2, A2, c2, by go_num, by omega, by omega, by omega, HGD2.out, HPI2.out, r0, bk, C, G⟩
              case measure => simp [intOf]; omega
            
            · skip
              clear hHeld; go_simp; ((go_at_call 88; refine (l1Below_any A n c bs g _ _ (by (repeat (first | with_reducible assumption | with_reducible apply Cur.Cur.alloc | with_reducible apply CurB.cur_drewN | with_reducible apply CurB.cur_drew | ((with_reducible refine CurB.cur_set HAL.out ?_ ?_ ?_ _); (focus (first | omega | (dsimp only; done) | (dsimp only; omega))); (focus (first | omega | (dsimp only; omega))))))) (by omega) (by omega)).mono ?_; rintro e w6 ⟨m, hm, rfl, C0, hg0⟩; (first | replace HPI := Lib.hid (row_grown HPI.out hg0 (by omega)) | replace HPI := Lib.hid (row_grown (w := w5.drew) HPI.out hg0 (by omega))); replace r0 : Bk.Blk w6 (w.heap.size) 39 #[.slice none 0 0] := Bk.Blk.grown hg0 (by omega) (by exact Bk.sv); replace bk : Bk.Blk w6 (w.heap.size + 1) 39 #[.slice Ap N cp] := Bk.Blk.grown hg0 (by omega) (by exact Bk.sv); replace C := C0; replace G : w.grownBy w6 (some (g)) := World.grownBy.trans (by exact CurB.gv) hg0; have z6 := hg0.size; (try simp only [World.size_alloc, Bk.size_set, World.size_drew, World.drewN] at z6); clear hg0; obtain ⟨m0, m1⟩ := hm; clear cb fb lb; have cb := Bk.Blk.cell bk 0; have fb := Bk.Blk.fro bk 0; have lb := bk.lt)); refine hK.out _ _ ?_ (fun hHeld => ?_); ((try dsimp only); skip); clear hK K
              try simp only [Act.put, List.setIfInBounds_toArray, List.set_cons_zero, List.set_cons_succ]
              refine wpAnyH_ready (rs := [0, 5]) (by kernel_rfl) (by simp) ?_
              refine (AllReadyH.cons (Reg.get rfl) (fun K hK => ?_) (AllReadyH.cons (Reg.get rfl) (fun K hK => ?_) AllReadyH.nil))
            
              · skip
                clear hHeld; go_simp; (skip); refine hK.out _ _ ?_ (fun hHeld => ?_); ((try dsimp only); skip); clear hK K
                try simp only [Act.put, List.setIfInBounds_toArray, List.set_cons_zero, List.set_cons_succ]
                first | ((refine Reg.tkB 5 (Reg.get rfl) hHeld ?_)) | (refine wpAnyH_ready (rs := [5]) (by kernel_rfl) (by simp) ?_; refine AllReadyH.cons (Reg.get rfl) (fun K hK => ?_) AllReadyH.nil; clear hHeld; go_simp; ((go_at_call 104; refine (Drw.l1Bytes_any A n c bs g m _ (by (repeat (first | with_reducible assumption | with_reducible apply Cur.Cur.alloc | with_reducible apply CurB.cur_drewN | with_reducible apply CurB.cur_drew | ((with_reducible refine CurB.cur_set HAL.out ?_ ?_ ?_ _); (focus (first | omega | (dsimp only; done) | (dsimp only; omega))); (focus (first | omega | (dsimp only; omega))))))) (by omega) (by omega)).mono ?_; rintro e w7 ⟨q, ys, L, d, hq, hys, hbo, rfl, C0, hg0⟩; (first | replace HPI := Lib.hid (row_grown HPI.out hg0 (by omega)) | replace HPI := Lib.hid (row_grown (w := w6.drew) HPI.out hg0 (by omega))); replace r0 : Bk.Blk w7 (w.heap.size) 39 #[.slice none 0 0] := Bk.Blk.grown hg0 (by omega) (by exact Bk.sv); replace bk : Bk.Blk w7 (w.heap.size + 1) 39 #[.slice Ap N cp] := Bk.Blk.grown hg0 (by omega) (by exact Bk.sv); replace C := C0; replace G : w.grownBy w7 (some (g)) := World.grownBy.trans (by exact CurB.gv) hg0; have z7 := hg0.size; (try simp only [World.size_alloc, Bk.size_set, World.size_drew, World.drewN] at z7); clear hg0; have HBO := Lib.hid (Rd.of_own hbo); clear hbo; clear cb fb lb; have cb := Bk.Blk.cell bk 0; have fb := Bk.Blk.fro bk 0; have lb := bk.lt)); refine hK.out _ _ ?_ (fun hHeld => ?_); ((try dsimp only); skip); clear hK K)
                try simp only [Act.put, List.setIfInBounds_toArray, List.set_cons_zero, List.set_cons_succ]
                first | ((refine Reg.tkB 6 (Reg.get rfl) hHeld ?_)) | (refine wpAnyH_ready (rs := [6]) (by kernel_rfl) (by simp) ?_; refine AllReadyH.cons (Reg.get rfl) (fun K hK => ?_) AllReadyH.nil; clear hHeld; go_simp; ((go_at_call 103; refine (keepS_good Ap N cp b ks st L q d ys _ HGD.out (by omega) (by omega) (by omega) (by first | exact HPI.out.rd | exact HPI.out.rd.drew) (by first | exact HBO.out | exact HBO.out.drew)).mono ?_; rintro x w8 ⟨ks2, hg2, A2, c2, v, rfl, hp, hb0⟩; have HGD2 := Lib.hid hg2; have HPI2 := Lib.hid (RowO.wider hp (show w.heap.size + 2 ≤ _ by first | omega | (simp; omega)) (Nat.le_refl _)); clear hg2 hp; replace r0 : Bk.Blk w8 (w.heap.size) 39 #[.slice none 0 0] := Bk.Blk.under hb0 (by exact Bk.sv); replace bk : Bk.Blk w8 (w.heap.size + 1) 39 #[.slice Ap N cp] := Bk.Blk.under hb0 (by exact Bk.sv); replace C : Cur.Cur w8 (g) A n c bs := Cur.Cur.below (by (repeat (first | with_reducible assumption | with_reducible apply Cur.Cur.alloc | with_reducible apply CurB.cur_drewN | with_reducible apply CurB.cur_drew | ((with_reducible refine CurB.cur_set HAL.out ?_ ?_ ?_ _); (focus (first | omega | (dsimp only; done) | (dsimp only; omega))); (focus (first | omega | (dsimp only; omega))))))) hb0; replace G : w.grownBy w8 (some (g)) := World.grownBy.trans (by exact CurB.gv) (Cur.grown_of_below hb0 _); have z8 := hb0.size; (try simp only [World.size_alloc, Bk.size_set, World.size_drew, World.drewN] at z8); clear hb0; clear cb fb lb; have cb := Bk.Blk.cell bk 0; have fb := Bk.Blk.fro bk 0; have lb := bk.lt)); refine hK.out _ _ ?_ (fun hHeld => ?_); ((try dsimp only); skip); clear hK K)
                try simp only [Act.put, List.setIfInBounds_toArray, List.set_cons_zero, List.set_cons_succ]
                first | refine Reg.tkA 7 (Reg.get rfl) hHeld ?_ | refine Reg.tkB 7 (Reg.get rfl) hHeld ?_
                try simp only [Act.put, List.setIfInBounds_toArray, List.set_cons_zero, List.set_cons_succ]
                first | refine Reg.tkA 8 (Reg.get rfl) hHeld ?_ | refine Reg.tkB 8 (Reg.get rfl) hHeld ?_
                try simp only [Act.put, List.setIfInBounds_toArray, List.set_cons_zero, List.set_cons_succ]
                first | refine Reg.tkA 9 (Reg.get rfl) hHeld ?_ | refine Reg.tkB 9 (Reg.get rfl) hHeld ?_
                try simp only [Act.put, List.setIfInBounds_toArray, List.set_cons_zero, List.set_cons_succ]
                first | ((refine Reg.tkB 10 (Reg.get rfl) hHeld ?_)) | (refine wpAnyH_ready (rs := [10]) (by kernel_rfl) (by simp) ?_; refine AllReadyH.cons (Reg.get rfl) (fun K hK => ?_) AllReadyH.nil; clear hHeld; go_simp; (skip); refine hK.out _ _ ?_ (fun hHeld => ?_); ((try dsimp only); skip); clear hK K)
                try simp only [Act.put, List.setIfInBounds_toArray, List.set_cons_zero, List.set_cons_succ]
                refine wpAnyH_done (by kernel_rfl) ?_ _
                clear cb fb lb
                generalize hW : World.setCell _ _ _ = w9
                replace HPI2 := Lib.hid (show RowO w9 (w.heap.size + 2) w9.heap.size A2 N c2 ks2 from by rw [← hW]; exact row_set HPI2.out (by omega) _)
                replace bk : Bk.Blk w9 (w.heap.size + 1) 39 #[.slice A2 N c2] := (by rw [← hW]; apply Bk.Blk.to; (focus (exact Bk.sv)); rfl)
                replace r0 : Bk.Blk w9 (w.heap.size) 39 #[.slice none 0 0] := (by rw [← hW]; exact Bk.sv)
                replace C : Cur.Cur w9 (g) A n c bs := (by rw [← hW]; (repeat (first | with_reducible assumption | with_reducible apply Cur.Cur.alloc | with_reducible apply CurB.cur_drewN | with_reducible apply CurB.cur_drew | ((with_reducible refine CurB.cur_set HAL.out ?_ ?_ ?_ _); (focus (first | omega | (dsimp only; done) | (dsimp only; omega))); (focus (first | omega | (dsimp only; omega)))))))
                replace G : w.grownBy w9 (some (g)) := (by rw [← hW]; exact CurB.gv)
                have z9 : w9.heap.size = _ := congrArg (fun W : World => W.heap.size) hW.symm
                (try simp only [World.size_alloc, Bk.size_set, World.size_drew, World.drewN] at z9)
                clear hW
                go_wp2_with fail
                go_roundw
                case rel => exact ⟨i - 1, N, b + 1, ks2, A2, c2, by go_num, by omega, by omega, by omega, HGD2.out, HPI2.out, r0, bk, C, G⟩
                case measure => simp [intOf]; omega
            
              · skip
                clear hHeld; go_simp; ((go_at_call 104; refine (Drw.l1Bytes_any A n c bs g m _ (by (repeat (first | with_reducible assumption | with_reducible apply Cur.Cur.alloc | with_reducible apply CurB.cur_drewN | with_reducible apply CurB.cur_drew | ((with_reducible refine CurB.cur_set HAL.out ?_ ?_ ?_ _); (focus (first | omega | (dsimp only; done) | (dsimp only; omega))); (focus (first | omega | (dsimp only; omega))))))) (by omega) (by omega)).mono ?_; rintro e w7 ⟨q, ys, L, d, hq, hys, hbo, rfl, C0, hg0⟩; (first | replace HPI := Lib.hid (row_grown HPI.out hg0 (by omega)) | replace HPI := Lib.hid (row_grown (w := w6.drew) HPI.out hg0 (by omega))); replace r0 : Bk.Blk w7 (w.heap.size) 39 #[.slice none 0 0] := Bk.Blk.grown hg0 (by omega) (by exact Bk.sv); replace bk : Bk.Blk w7 (w.heap.size + 1) 39 #[.slice Ap N cp] := Bk.Blk.grown hg0 (by omega) (by exact Bk.sv); replace C := C0; replace G : w.grownBy w7 (some (g)) := World.grownBy.trans (by exact CurB.gv) hg0; have z7 := hg0.size; (try simp only [World.size_alloc, Bk.size_set, World.size_drew, World.drewN] at z7); clear hg0; have HBO := Lib.hid (Rd.of_own hbo); clear hbo; clear cb fb lb; have cb := Bk.Blk.cell bk 0; have fb := Bk.Blk.fro bk 0; have lb := bk.lt)); refine hK.out _ _ ?_ (fun hHeld => ?_); ((try dsimp only); skip); clear hK K
                try simp only [Act.put, List.setIfInBounds_toArray, List.set_cons_zero, List.set_cons_succ]
                first | ((refine Reg.tkB 0 (Reg.get rfl) hHeld ?_)) | (refine wpAnyH_ready (rs := [0]) (by kernel_rfl) (by simp) ?_; refine AllReadyH.cons (Reg.get rfl) (fun K hK => ?_) AllReadyH.nil; clear hHeld; go_simp; (skip); refine hK.out _ _ ?_ (fun hHeld => ?_); ((try dsimp only); skip); clear hK K)
                try simp only [Act.put, List.setIfInBounds_toArray, List.set_cons_zero, List.set_cons_succ]
                first | ((refine Reg.tkB 6 (Reg.get rfl) hHeld ?_)) | (refine wpAnyH_ready (rs := [6]) (by kernel_rfl) (by simp) ?_; refine AllReadyH.cons (Reg.get rfl) (fun K hK => ?_) AllReadyH.nil; clear hHeld; go_simp; ((go_at_call 103; refine (keepS_good Ap N cp b ks st L q d ys _ HGD.out (by omega) (by omega) (by omega) (by first | exact HPI.out.rd | exact HPI.out.rd.drew) (by first | exact HBO.out | exact HBO.out.drew)).mono ?_; rintro x w8 ⟨ks2, hg2, A2, c2, v, rfl, hp, hb0⟩; have HGD2 := Lib.hid hg2; have HPI2 := Lib.hid (RowO.wider hp (show w.heap.size + 2 ≤ _ by first | omega | (simp; omega)) (Nat.le_refl _)); clear hg2 hp; replace r0 : Bk.Blk w8 (w.heap.size) 39 #[.slice none 0 0] := Bk.Blk.under hb0 (by exact Bk.sv); replace bk : Bk.Blk w8 (w.heap.size + 1) 39 #[.slice Ap N cp] := Bk.Blk.under hb0 (by exact Bk.sv); replace C : Cur.Cur w8 (g) A n c bs := Cur.Cur.below (by (repeat (first | with_reducible assumption | with_reducible apply Cur.Cur.alloc | with_reducible apply CurB.cur_drewN | with_reducible apply CurB.cur_drew | ((with_reducible refine CurB.cur_set HAL.out ?_ ?_ ?_ _); (focus (first | omega | (dsimp only; done) | (dsimp only; omega))); (focus (first | omega | (dsimp only; omega))))))) hb0; replace G : w.grownBy w8 (some (g)) := World.grownBy.trans (by exact CurB.gv) (Cur.grown_of_below hb0 _); have z8 := hb0.size; (try simp only [World.size_alloc, Bk.size_set, World.size_drew, World.drewN] at z8); clear hb0; clear cb fb lb; have cb := Bk.Blk.cell bk 0; have fb := Bk.Blk.fro bk 0; have lb := bk.lt)); refine hK.out _ _ ?_ (fun hHeld => ?_); ((try dsimp only); skip); clear hK K)
                try simp only [Act.put, List.setIfInBounds_toArray, List.set_cons_zero, List.set_cons_succ]
                first | refine Reg.tkA 7 (Reg.get rfl) hHeld ?_ | refine Reg.tkB 7 (Reg.get rfl) hHeld ?_
                try simp only [Act.put, List.setIfInBounds_toArray, List.set_cons_zero, List.set_cons_succ]
                first | refine Reg.tkA 8 (Reg.get rfl) hHeld ?_ | refine Reg.tkB 8 (Reg.get rfl) hHeld ?_
                try simp only [Act.put, List.setIfInBounds_toArray, List.set_cons_zero, List.set_cons_succ]
                first | refine Reg.tkA 9 (Reg.get rfl) hHeld ?_ | refine Reg.tkB 9 (Reg.get rfl) hHeld ?_
                try simp only [Act.put, List.setIfInBounds_toArray, List.set_cons_zero, List.set_cons_succ]
                first | ((refine Reg.tkB 10 (Reg.get rfl) hHeld ?_)) | (refine wpAnyH_ready (rs := [10]) (by kernel_rfl) (by simp) ?_; refine AllReadyH.cons (Reg.get rfl) (fun K hK => ?_) AllReadyH.nil; clear hHeld; go_simp; (skip); refine hK.out _ _ ?_ (fun hHeld => ?_); ((try dsimp only); skip); clear hK K)
                try simp only [Act.put, List.setIfInBounds_toArray, List.set_cons_zero, List.set_cons_succ]
                refine wpAnyH_done (by kernel_rfl) ?_ _
                clear cb fb lb
                generalize hW : World.setCell _ _ _ = w9
                replace HPI2 := Lib.hid (show RowO w9 (w.heap.size + 2) w9.heap.size A2 N c2 ks2 from by rw [← hW]; exact row_set HPI2.out (by omega) _)
                replace bk : Bk.Blk w9 (w.heap.size + 1) 39 #[.slice A2 N c2] := (by rw [← hW]; apply Bk.Blk.to; (focus (exact Bk.sv)); rfl)
                replace r0 : Bk.Blk w9 (w.heap.size) 39 #[.slice none 0 0] := (by rw [← hW]; exact Bk.sv)
                replace C : Cur.Cur w9 (g) A n c bs := (by rw [← hW]; (repeat (first | with_reducible assumption | with_reducible apply Cur.Cur.alloc | with_reducible apply CurB.cur_drewN | with_reducible apply CurB.cur_drew | ((with_reducible refine CurB.cur_set HAL.out ?_ ?_ ?_ _); (focus (first | omega | (dsimp only; done) | (dsimp only; omega))); (focus (first | omega | (dsimp only; omega)))))))
                replace G : w.grownBy w9 (some (g)) := (by rw [← hW]; exact CurB.gv)
                have z9 : w9.heap.size = _ := congrArg (fun W : World => W.heap.size) hW.symm
                (try simp only [World.size_alloc, Bk.size_set, World.size_drew, World.drewN] at z9)
                clear hW
                go_wp2_with fail
                go_roundw
                case rel => exact ⟨i - 1, N, b + 1, ks2, A2, c2, by go_num, by omega, by omega, by omega, HGD2.out, HPI2.out, r0, bk, C, G⟩
                case measure => simp [intOf]; omega
          · have e1 : (y == 1) = false := by simpa using h1
            have e2 : (y == 2) = false := by simpa using h2
            by_cases h3 : y = 3
            · have e3 : (y == 3) = true := by simpa using h3
              clear h0 h1 h2 h3
              have L_bk := Lay.f1 bk
              go_wp2_with fail
              clear L_bk
              refine (pollS_good Ap N cp b ks st _ HGD.out (by omega) HPI.out.rd).mono ?_
              rintro x w6 ⟨ks2, hg2, A2, c2, v1, v2, v3, rfl, hp, hb0⟩
              have HGD2 := Lib.hid hg2
              have HPI2 := Lib.hid (RowO.wider hp (show w.heap.size + 2 ≤ _ by omega) (Nat.le_refl _))
              clear hg2 hp
              replace r0 : Bk.Blk w6 (w.heap.size) 39 #[.slice none 0 0] := Bk.Blk.under hb0 (by exact Bk.sv)
              replace bk : Bk.Blk w6 (w.heap.size + 1) 39 #[.slice Ap N cp] := Bk.Blk.under hb0 (by exact Bk.sv)
              replace C : Cur.Cur w6 (g) A n c bs := Cur.Cur.below (by (repeat (first | with_reducible assumption | with_reducible apply Cur.Cur.alloc | with_reducible apply CurB.cur_drewN | with_reducible apply CurB.cur_drew | ((with_reducible refine CurB.cur_set HAL.out ?_ ?_ ?_ _); (focus (first | omega | (dsimp only; done) | (dsimp only; omega))); (focus (first | omega | (dsimp only; omega))))))) hb0
              replace G : w.grownBy w6 (some (g)) := World.grownBy.trans (by exact CurB.gv) (Cur.grown_of_below hb0 _)
              have z6 := hb0.size
              (try simp only [World.size_alloc, Bk.size_set, World.size_drew, World.drewN] at z6)
              clear hb0
              have L_bk := Lay.f1 bk
              go_wp2_with fail
              clear L_bk
              generalize hW : World.alloc _ _ = w7
              replace HPI2 := Lib.hid (show RowO w7 (w.heap.size + 2) w7.heap.size A2 N c2 ks2 from by rw [← hW]; exact row_alloc (row_set HPI2.out (by omega) _) _)
              replace bk : Bk.Blk w7 (w.heap.size + 1) 39 #[.slice A2 N c2] := (by rw [← hW]; apply Bk.Blk.to; (focus (exact Bk.sv)); rfl)
              replace r0 : Bk.Blk w7 (w.heap.size) 39 #[.slice none 0 0] := (by rw [← hW]; exact Bk.sv)
              replace C : Cur.Cur w7 (g) A n c bs := (by rw [← hW]; (repeat (first | with_reducible assumption | with_reducible apply Cur.Cur.alloc | with_reducible apply CurB.cur_drewN | with_reducible apply CurB.cur_drew | ((with_reducible refine CurB.cur_set HAL.out ?_ ?_ ?_ _); (focus (first | omega | (dsimp only; done) | (dsimp only; omega))); (focus (first | omega | (dsimp only; omega)))))))
              replace G : w.grownBy w7 (some (g)) := (by rw [← hW]; exact CurB.gv)
              have z7 : w7.heap.size = _ := congrArg (fun W : World => W.heap.size) hW.symm
              (try simp only [World.size_alloc, Bk.size_set, World.size_drew, World.drewN] at z7)
              clear hW
              go_roundw
              case rel => exact ⟨i - 1, N, b, ks2, A2, c2, by go_num, by omega, by omega, by omega, HGD2.out, HPI2.out, r0, bk, C, G⟩
              case measure => simp [intOf]; omega
            · have e3 : (y == 3) = false := by simpa using h3
              clear h0 h1 h2 h3
              have L_bk := Lay.f1 bk
              go_wp2_with fail
              clear L_bk
              refine (addS_good Ap N cp b ks st _ HGD.out (by omega) HPI.out.rd).mono ?_
              rintro x w6 ⟨N2, ks2, hN2, hg2, ok, A2, c2, rfl, hp, hb0⟩
              have HGD2 := Lib.hid hg2
              have HPI2 := Lib.hid (RowO.wider hp (show w.heap.size + 2 ≤ _ by omega) (Nat.le_refl _))
              clear hg2 hp
              replace r0 : Bk.Blk w6 (w.heap.size) 39 #[.slice none 0 0] := Bk.Blk.under hb0 (by exact Bk.sv)
              replace bk : Bk.Blk w6 (w.heap.size + 1) 39 #[.slice Ap N cp] := Bk.Blk.under hb0 (by exact Bk.sv)
              replace C : Cur.Cur w6 (g) A n c bs := Cur.Cur.below (by (repeat (first | with_reducible assumption | with_reducible apply Cur.Cur.alloc | with_reducible apply CurB.cur_drewN | with_reducible apply CurB.cur_drew | ((with_reducible refine CurB.cur_set HAL.out ?_ ?_ ?_ _); (focus (first | omega | (dsimp only; done) | (dsimp only; omega))); (focus (first | omega | (dsimp only; omega))))))) hb0
              replace G : w.grownBy w6 (some (g)) := World.grownBy.trans (by exact CurB.gv) (Cur.grown_of_below hb0 _)
              have z6 := hb0.size
              (try simp only [World.size_alloc, Bk.size_set, World.size_drew, World.drewN] at z6)
              clear hb0
              have L_bk := Lay.f1 bk
              go_wp2_with fail
              clear L_bk
              generalize hW : World.setCell _ _ _ = w7
              replace HPI2 := Lib.hid (show RowO w7 (w.heap.size + 2) w7.heap.size A2 N2 c2 ks2 from by rw [← hW]; exact row_set HPI2.out (by omega) _)
              replace bk : Bk.Blk w7 (w.heap.size + 1) 39 #[.slice A2 N2 c2] := (by rw [← hW]; apply Bk.Blk.to; (focus (exact Bk.sv)); rfl)
              replace r0 : Bk.Blk w7 (w.heap.size) 39 #[.slice none 0 0] := (by rw [← hW]; exact Bk.sv)
              replace C : Cur.Cur w7 (g) A n c bs := (by rw [← hW]; (repeat (first | with_reducible assumption | with_reducible apply Cur.Cur.alloc | with_reducible apply CurB.cur_drewN | with_reducible apply CurB.cur_drew | ((with_reducible refine CurB.cur_set HAL.out ?_ ?_ ?_ _); (focus (first | omega | (dsimp only; done) | (dsimp only; omega))); (focus (first | omega | (dsimp only; omega)))))))
              replace G : w.grownBy w7 (some (g)) := (by rw [← hW]; exact CurB.gv)
              have z7 : w7.heap.size = _ := congrArg (fun W : World => W.heap.size) hW.symm
              (try simp only [World.size_alloc, Bk.size_set, World.size_drew, World.drewN] at z7)
              clear hW
              refine (setS_good A2 N2 c2 b ks2 st true _ HGD2.out (by omega) HPI2.out.rd).mono ?_
              rintro x w8 ⟨ks3, hg2, A3, c3, F3, m3, d3, rfl, hp, hb0⟩
              have HGD3 := Lib.hid hg2
              have HPI3 := Lib.hid (RowO.wider hp (show w.heap.size + 2 ≤ _ by omega) (Nat.le_refl _))
              clear hg2 hp
              replace r0 : Bk.Blk w8 (w.heap.size) 39 #[.slice none 0 0] := Bk.Blk.under hb0 (by exact Bk.sv)
              replace bk : Bk.Blk w8 (w.heap.size + 1) 39 #[.slice A2 N2 c2] := Bk.Blk.under hb0 (by exact Bk.sv)
              replace C : Cur.Cur w8 (g) A n c bs := Cur.Cur.below (by (repeat (first | with_reducible assumption | with_reducible apply Cur.Cur.alloc | with_reducible apply CurB.cur_drewN | with_reducible apply CurB.cur_drew | ((with_reducible refine CurB.cur_set HAL.out ?_ ?_ ?_ _); (focus (first | omega | (dsimp only; done) | (dsimp only; omega))); (focus (first | omega | (dsimp only; omega))))))) hb0
              replace G : w.grownBy w8 (some (g)) := World.grownBy.trans (by exact CurB.gv) (Cur.grown_of_below hb0 _)
              have z8 := hb0.size
              (try simp only [World.size_alloc, Bk.size_set, World.size_drew, World.drewN] at z8)
              clear hb0
              have L_bk := Lay.f1 bk
              go_wp2_with fail
              clear L_bk
              generalize hW : World.setCell _ _ _ = w9
              replace HPI3 := Lib.hid (show RowO w9 (w.heap.size + 2) w9.heap.size A3 N2 c3 ks3 from by rw [← hW]; exact row_set HPI3.out (by omega) _)
              replace bk : Bk.Blk w9 (w.heap.size + 1) 39 #[.slice A3 N2 c3] := (by rw [← hW]; apply Bk.Blk.to; (focus (exact Bk.sv)); rfl)
              replace r0 : Bk.Blk w9 (w.heap.size) 39 #[.slice none 0 0] := (by rw [← hW]; exact Bk.sv)
              replace C : Cur.Cur w9 (g) A n c bs := (by rw [← hW]; (repeat (first | with_reducible assumption | with_reducible apply Cur.Cur.alloc | with_reducible apply CurB.cur_drewN | with_reducible apply CurB.cur_drew | ((with_reducible refine CurB.cur_set HAL.out ?_ ?_ ?_ _); (focus (first | omega | (dsimp only; done) | (dsimp only; omega))); (focus (first | omega | (dsimp only; omega)))))))
              replace G : w.grownBy w9 (some (g)) := (by rw [← hW]; exact CurB.gv)
              have z9 : w9.heap.size = _ := congrArg (fun W : World => W.heap.size) hW.symm
              (try simp only [World.size_alloc, Bk.size_set, World.size_drew, World.drewN] at z9)
              clear hW
              go_roundw
              case rel => exact ⟨i - 1, N2, b, ks3, A3, c3, by go_num, by omega, by omega, by omega, HGD3.out, HPI3.out, r0, bk, C, G⟩
              case measure => simp [intOf]; omega
    · skip
      have L_bk := Lay.f1 bk
      have L_r0 := Lay.f1 r0
      go_wp2_with fail
      clear L_bk L_r0
      generalize hW : World.setCell _ _ _ = w20
      have HP2 := Lib.hid (show RowO w20 w.heap.size w20.heap.size Ap N cp ks from by rw [← hW]; exact RowO.wider (row_set HPI.out (by omega) _) (by omega) (Nat.le_refl _))
      replace r0 : Bk.Blk w20 (w.heap.size) 39 #[.slice Ap N cp] := (by rw [← hW]; apply Bk.Blk.to; (focus (exact Bk.sv)); rfl)
      replace C : Cur.Cur w20 (g) A n c bs := (by rw [← hW]; (repeat (first | with_reducible assumption | with_reducible apply Cur.Cur.alloc | with_reducible apply CurB.cur_drewN | with_reducible apply CurB.cur_drew | ((with_reducible refine CurB.cur_set HAL.out ?_ ?_ ?_ _); (focus (first | omega | (dsimp only; done) | (dsimp only; omega))); (focus (first | omega | (dsimp only; omega)))))))
      replace G : w.grownBy w20 (some (g)) := (by rw [← hW]; exact CurB.gv)
      have z20 : w20.heap.size = _ := congrArg (fun W : World => W.heap.size) hW.symm
      (try simp only [World.size_alloc, Bk.size_set, World.size_drew, World.drewN] at z20)
      clear hW
      have l_r0 : w.heap.size < w20.heap.size := Bk.Blk.lt r0
      have c_r00 : w20.cell? ⟨w.heap.size, 0, none⟩ = some (.slice Ap N cp) := Bk.Blk.cell r0 0
      go_wp2
      refine bodyPost_ret (v := .agg #[.slice Ap N cp]) (by simp [results, Try.results87, go_sem, c_r00]) rfl (⟨N, ks, Ap, cp, by omega, HGD.out.mono (by omega), rfl, HP2.out, C, G⟩)
end Go.Proofs.Ythdieeaegplnmaa.Pb
