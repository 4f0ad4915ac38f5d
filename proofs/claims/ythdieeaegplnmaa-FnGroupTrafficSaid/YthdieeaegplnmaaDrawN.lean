/- The draw of all that makes a beacon. -/
import Derived.Test.YthdieeaegplnmaaDrawT
import Derived.Test.YthdieeaegplnmaaDrawM
namespace Go.Proofs.Ythdieeaegplnmaa.Pb
open Go.RowKit
open Go.Proofs.Ythdieeaegplnmaa.Num Go.Proofs.Ythdieeaegplnmaa.Mem Go.Proofs.Ythdieeaegplnmaa.Hsh Go.Proofs.Ythdieeaegplnmaa.Sls Go.Proofs.Ythdieeaegplnmaa.Own Go.Proofs.Ythdieeaegplnmaa.SS Go.Proofs.Ythdieeaegplnmaa.Gb Go.Proofs.Ythdieeaegplnmaa.Cur
set_option linter.unusedSimpArgs false
set_option linter.unusedVariables false
theorem six_in {v : Int} (h : v ∈ ([0, 10, 20, 30, 15, -10] : List Int)) : -10 ≤ v ∧ v ≤ 30 := by
  simp at h; omega
theorem l27A2 (A : Option Addr) (n c : Nat) (bs : List Int) (g : Nat) (w : World) (hcur : Cur w g A n c bs) :
    Calls Try.prog 66 #[.pointer (some ⟨g, 0, none⟩)] w fun e w' => ∃ (pe lo : Int) (N : Nat) (xss : List (List Int)) (Ag : Option Addr) (cg : Nat), ((0 ≤ pe ∧ pe ≤ 9) ∧ (-1 ≤ lo ∧ lo ≤ 8) ∧ N ≤ 7 ∧ AllShort xss) ∧ OwnSS w' w.heap.size w'.heap.size Ag N cg xss ∧ e = .returned (.agg #[.int .i64 pe, .slice Ag N cg, .int .i64 lo]) ∧ Cur w' g A n c bs ∧ w.grownBy w' (some g) := l27Any_any A n c bs g w hcur
theorem l26A2 (A : Option Addr) (n c : Nat) (bs : List Int) (g : Nat) (w : World) (hcur : Cur w g A n c bs) :
    Calls Try.prog 67 #[.pointer (some ⟨g, 0, none⟩)] w fun e w' => ∃ (N : Nat) (ks : List Kt) (Ap : Option Addr) (cp : Nat), N ≤ 15 ∧ AllFew ks ∧ PbIn w' w.heap.size w'.heap.size Ap N cp ks ∧ e = .returned (.agg #[.slice Ap N cp]) ∧ Cur w' g A n c bs ∧ w.grownBy w' (some g) := l26Any_any A n c bs g w hcur
/-- two buffers, a sender and a slot -/
def DrewMb (w : World) (e : Ending) (w' : World) : Prop :=
  ∃ (pe lo : Int) (N : Nat) (xss : List (List Int)) (Ag : Option Addr) (cg : Nat) (M : Nat) (ks : List Kt) (Ap : Option Addr) (cp : Nat) (fr sl : Int), ((0 ≤ pe ∧ pe ≤ 9) ∧ (-1 ≤ lo ∧ lo ≤ 8) ∧ N ≤ 7 ∧ AllShort xss) ∧ (M ≤ 15 ∧ AllFew ks) ∧ (-10 ≤ sl ∧ sl ≤ 30) ∧ RdSS w' Ag N cg xss ∧ RdPB w' Ap M cp ks ∧
    e = .returned (.tuple #[.agg #[.int .i64 pe, .slice Ag N cg, .int .i64 lo], .agg #[.slice Ap M cp], .int .i64 fr, .int .i64 sl]) ∧ Below w.heap.size w w'
set_option maxRecDepth 100000 in
set_option maxHeartbeats 16000000 in
theorem drawMb_any (A : Option Addr) (n c : Nat) (bs : List Int) (w : World) (hr : Rd w 1 A n c (bs.map (Value.int .u8))) (hb : AllBytes bs) (hn : n ≤ 2097152) :
    Calls Try.prog 20 #[.slice A n c] w (DrewMb w) := by
  have HAL := Lib.hid (CurB.old_of hr)
  have HR := Lib.hid hr
  have HB := Lib.hid hb
  have HN := Lib.hid hn
  have B : Below w.heap.size w w := Below.refl _ _
  clear hr hb
  go_enter Try.func20, Try.ntmps20
  go_wp2_with fail
  generalize hW : World.alloc _ _ = w1
  have r0 : Bk.Blk w1 (w.heap.size) 27 #[.int .i64 0, .slice none 0 0, .int .i64 0] := (by rw [← hW]; apply Bk.Blk.to; (focus (exact Bk.sv)); rfl)
  have r1 : Bk.Blk w1 (w.heap.size + 1) 39 #[.slice none 0 0] := (by rw [← hW]; apply Bk.Blk.to; (focus (exact Bk.sv)); rfl)
  replace B : Below w.heap.size w w1 := (by rw [← hW]; go_grown)
  have z1 : w1.heap.size = _ := congrArg (fun W : World => W.heap.size) hW.symm
  (try simp only [World.size_alloc, Bk.size_set, World.size_drew, World.drewN] at z1)
  clear hW
  refine (l1New_any A n c bs _ (HR.out.below B) HB.out hn).mono ?_
  rintro e w2 ⟨h, rfl, rfl⟩
  generalize hW : World.alloc _ _ = w2
  have C : Cur.Cur w2 (w.heap.size + 1 + 1) A n c bs := by rw [← hW, ← z1]; exact CurB.cur_newAt rfl (HR.out.below B) HB.out HN.out _
  replace r0 : Bk.Blk w2 (w.heap.size) 27 #[.int .i64 0, .slice none 0 0, .int .i64 0] := (by rw [← hW]; exact Bk.sv)
  replace r1 : Bk.Blk w2 (w.heap.size + 1) 39 #[.slice none 0 0] := (by rw [← hW]; exact Bk.sv)
  replace B : Below w.heap.size w w2 := (by rw [← hW]; go_grown)
  have z2 : w2.heap.size = _ := congrArg (fun W : World => W.heap.size) hW.symm
  (try simp only [World.size_alloc, Bk.size_set, World.size_drew, World.drewN] at z2)
  clear hW
  (try rw [z1])
  go_wp2_with fail
  refine (l27A2 A n c bs _ _ (by (repeat (first | with_reducible assumption | with_reducible apply Cur.Cur.alloc | with_reducible apply CurB.cur_drewN | with_reducible apply CurB.cur_drew | ((with_reducible refine CurB.cur_set HAL.out ?_ ?_ ?_ _); (focus (first | omega | (dsimp only; done) | (dsimp only; omega))); (focus (first | omega | (dsimp only; omega)))))))).mono ?_
  rintro x w3 ⟨pe, lo, N, xss, Ag, cg, hbd, hss, rfl, C0, hg0⟩
  have HBD := Lib.hid hbd
  have HSS := Lib.hid hss
  clear hbd hss
  replace r0 : Bk.Blk w3 (w.heap.size) 27 #[.int .i64 0, .slice none 0 0, .int .i64 0] := Bk.Blk.grown hg0 (by omega) (by exact Bk.sv)
  replace r1 : Bk.Blk w3 (w.heap.size + 1) 39 #[.slice none 0 0] := Bk.Blk.grown hg0 (by omega) (by exact Bk.sv)
  replace C := C0
  replace B : Below w.heap.size w w3 := Bk.below_grown (by go_grown) hg0 (by omega) (by first | omega | (simp [Bk.size_set]; done) | (simp [Bk.size_set]; omega))
  have z3 := hg0.size
  (try simp only [World.size_alloc, Bk.size_set, World.size_drew, World.drewN] at z3)
  clear hg0
  go_wp2_with fail
  generalize hW : World.alloc _ _ = w4
  replace HSS := Lib.hid (HSS.out.keep (w' := w4) fun q _ h2 => by rw [← hW]; exact Below.heap_alloc _ _ q h2)
  have bg : Bk.Blk w4 (w3.heap.size) 27 #[.int .i64 pe, .slice Ag N cg, .int .i64 lo] := (by rw [← hW]; apply Bk.Blk.to; (focus (exact Bk.sv)); rfl)
  replace r0 : Bk.Blk w4 (w.heap.size) 27 #[.int .i64 0, .slice none 0 0, .int .i64 0] := (by rw [← hW]; exact Bk.sv)
  replace r1 : Bk.Blk w4 (w.heap.size + 1) 39 #[.slice none 0 0] := (by rw [← hW]; exact Bk.sv)
  replace C : Cur.Cur w4 (w.heap.size + 1 + 1) A n c bs := (by rw [← hW]; (repeat (first | with_reducible assumption | with_reducible apply Cur.Cur.alloc | with_reducible apply CurB.cur_drewN | with_reducible apply CurB.cur_drew | ((with_reducible refine CurB.cur_set HAL.out ?_ ?_ ?_ _); (focus (first | omega | (dsimp only; done) | (dsimp only; omega))); (focus (first | omega | (dsimp only; omega)))))))
  replace B : Below w.heap.size w w4 := (by rw [← hW]; go_grown)
  have z4 : w4.heap.size = _ := congrArg (fun W : World => W.heap.size) hW.symm
  (try simp only [World.size_alloc, Bk.size_set, World.size_drew, World.drewN] at z4)
  clear hW
  go_wp2_with fail
  refine (l26A2 A n c bs _ _ (by (repeat (first | with_reducible assumption | with_reducible apply Cur.Cur.alloc | with_reducible apply CurB.cur_drewN | with_reducible apply CurB.cur_drew | ((with_reducible refine CurB.cur_set HAL.out ?_ ?_ ?_ _); (focus (first | omega | (dsimp only; done) | (dsimp only; omega))); (focus (first | omega | (dsimp only; omega)))))))).mono ?_
  rintro x w5 ⟨M, ks, Ap, cp, hM, hfw, hpi, rfl, C0, hg0⟩
  have HFW := Lib.hid hfw
  have HPI := Lib.hid hpi
  clear hfw hpi
  replace HSS := Lib.hid (HSS.out.keep (w' := w5) fun q h1 h2 => hg0.block q (by omega) (fun e => by injection e with e; omega))
  replace r0 : Bk.Blk w5 (w.heap.size) 27 #[.int .i64 0, .slice none 0 0, .int .i64 0] := Bk.Blk.grown hg0 (by omega) (by exact Bk.sv)
  replace r1 : Bk.Blk w5 (w.heap.size + 1) 39 #[.slice none 0 0] := Bk.Blk.grown hg0 (by omega) (by exact Bk.sv)
  replace bg : Bk.Blk w5 (w3.heap.size) 27 #[.int .i64 pe, .slice Ag N cg, .int .i64 lo] := Bk.Blk.grown hg0 (by omega) (by exact Bk.sv)
  replace C := C0
  replace B : Below w.heap.size w w5 := Bk.below_grown (by go_grown) hg0 (by omega) (by first | omega | (simp [Bk.size_set]; done) | (simp [Bk.size_set]; omega))
  have z5 := hg0.size
  (try simp only [World.size_alloc, Bk.size_set, World.size_drew, World.drewN] at z5)
  clear hg0
  go_wp2_with fail
  generalize hW : World.alloc _ _ = w6
  replace HSS := Lib.hid (HSS.out.keep (w' := w6) fun q _ h2 => by rw [← hW]; exact Below.heap_alloc _ _ q (by omega))
  replace HPI := Lib.hid (HPI.out.keep (w' := w6) fun q _ h2 => by rw [← hW]; exact Below.heap_alloc _ _ q (by omega))
  have bk : Bk.Blk w6 (w5.heap.size) 39 #[.slice Ap M cp] := (by rw [← hW]; apply Bk.Blk.to; (focus (exact Bk.sv)); rfl)
  replace r0 : Bk.Blk w6 (w.heap.size) 27 #[.int .i64 0, .slice none 0 0, .int .i64 0] := (by rw [← hW]; exact Bk.sv)
  replace r1 : Bk.Blk w6 (w.heap.size + 1) 39 #[.slice none 0 0] := (by rw [← hW]; exact Bk.sv)
  replace bg : Bk.Blk w6 (w3.heap.size) 27 #[.int .i64 pe, .slice Ag N cg, .int .i64 lo] := (by rw [← hW]; exact Bk.sv)
  replace C : Cur.Cur w6 (w.heap.size + 1 + 1) A n c bs := (by rw [← hW]; (repeat (first | with_reducible assumption | with_reducible apply Cur.Cur.alloc | with_reducible apply CurB.cur_drewN | with_reducible apply CurB.cur_drew | ((with_reducible refine CurB.cur_set HAL.out ?_ ?_ ?_ _); (focus (first | omega | (dsimp only; done) | (dsimp only; omega))); (focus (first | omega | (dsimp only; omega)))))))
  replace B : Below w.heap.size w w6 := (by rw [← hW]; go_grown)
  have z6 : w6.heap.size = _ := congrArg (fun W : World => W.heap.size) hW.symm
  (try simp only [World.size_alloc, Bk.size_set, World.size_drew, World.drewN] at z6)
  clear hW
  have L_bg := Lay.f3 bg
  have L_bk := Lay.f1 bk
  refine wp_region_held_drew (S := (fun w' => Bk.Blk w' (w3.heap.size) 27 #[.int .i64 pe, .slice Ag N cg, .int .i64 lo] ∧ Bk.Blk w' (w5.heap.size) 39 #[.slice Ap M cp])) (by kernel_rfl) ?_ (fun hHeld => ?_)
  · (try dsimp only); (refine ⟨?_, ?_⟩ <;> exact Bk.sv)
  first | (refine Reg.tkC 0 ?_ (Reg.get rfl) ?_ hHeld ?_; rotate_left 1; (focus (intro wq hSw; (try dsimp only at hSw); obtain ⟨s_bg, s_bk⟩ := hSw; have L_bg := Lay.c3 s_bg; have L_bk := Lay.c1 s_bk;  go_simp <;> with_reducible rfl))) | (refine Reg.tkB 0 (Reg.get rfl) hHeld ?_)
  try simp only [Act.put, List.setIfInBounds_toArray, List.set_cons_zero, List.set_cons_succ]
  first | (refine Reg.tkC 1 ?_ (Reg.get rfl) ?_ hHeld ?_; rotate_left 1; (focus (intro wq hSw; (try dsimp only at hSw); obtain ⟨s_bg, s_bk⟩ := hSw; have L_bg := Lay.c3 s_bg; have L_bk := Lay.c1 s_bk;  go_simp <;> with_reducible rfl))) | (refine Reg.tkB 1 (Reg.get rfl) hHeld ?_)
  try simp only [Act.put, List.setIfInBounds_toArray, List.set_cons_zero, List.set_cons_succ]
  first | (refine Reg.tkC 2 ?_ (Reg.get rfl) ?_ hHeld ?_; rotate_left 1; (focus (intro wq hSw; (try dsimp only at hSw); obtain ⟨s_bg, s_bk⟩ := hSw; have L_bg := Lay.c3 s_bg; have L_bk := Lay.c1 s_bk;  go_simp <;> with_reducible rfl))) | (refine Reg.tkB 2 (Reg.get rfl) hHeld ?_)
  try simp only [Act.put, List.setIfInBounds_toArray, List.set_cons_zero, List.set_cons_succ]
  first | (refine Reg.tkC 5 ?_ (Reg.get rfl) ?_ hHeld ?_; rotate_left 1; (focus (intro wq hSw; (try dsimp only at hSw); obtain ⟨s_bg, s_bk⟩ := hSw; have L_bg := Lay.c3 s_bg; have L_bk := Lay.c1 s_bk;  go_simp <;> with_reducible rfl))) | (refine Reg.tkB 5 (Reg.get rfl) hHeld ?_)
  try simp only [Act.put, List.setIfInBounds_toArray, List.set_cons_zero, List.set_cons_succ]
  refine wpAnyH_ready (rs := [3, 6]) (by kernel_rfl) (by simp) ?_
  refine (AllReadyH.cons (Reg.get rfl) (fun K hK => ?_) (AllReadyH.cons (Reg.get rfl) (fun K hK => ?_) AllReadyH.nil))
  
  · skip
    clear hHeld; go_simp; ((clear L_bg L_bk; generalize hW : World.alloc _ _ = w7; have R3 := lit_new (sz := 1) (m := 4) (cs := ([0, 1, 15, 16] : List Int).map (Value.int .i64)) hW rfl (by unfold maxLen; omega); (try rw [z9] at R3); (try rw [z6] at R3); (try replace R6 := rd_toA R6 hW); replace HSS := Lib.hid (HSS.out.keep (w' := w7) fun q _ h2 => by rw [← hW]; exact Below.heap_alloc _ _ q (by first | omega | (simp; omega))); replace HPI := Lib.hid (HPI.out.keep (w' := w7) fun q _ h2 => by rw [← hW]; exact Below.heap_alloc _ _ q (by first | omega | (simp; omega))); replace r0 : Bk.Blk w7 (w.heap.size) 27 #[.int .i64 0, .slice none 0 0, .int .i64 0] := (by rw [← hW]; exact Bk.sv); replace r1 : Bk.Blk w7 (w.heap.size + 1) 39 #[.slice none 0 0] := (by rw [← hW]; exact Bk.sv); replace bg : Bk.Blk w7 (w3.heap.size) 27 #[.int .i64 pe, .slice Ag N cg, .int .i64 lo] := (by rw [← hW]; exact Bk.sv); replace bk : Bk.Blk w7 (w5.heap.size) 39 #[.slice Ap M cp] := (by rw [← hW]; exact Bk.sv); replace C : Cur.Cur w7 (w.heap.size + 1 + 1) A n c bs := (by rw [← hW]; (repeat (first | with_reducible assumption | with_reducible apply Cur.Cur.alloc | with_reducible apply CurB.cur_drewN | with_reducible apply CurB.cur_drew | ((with_reducible refine CurB.cur_set HAL.out ?_ ?_ ?_ _); (focus (first | omega | (dsimp only; done) | (dsimp only; omega))); (focus (first | omega | (dsimp only; omega))))))); replace B : Below w.heap.size w w7 := (by rw [← hW]; go_grown); have z7 : w7.heap.size = _ := congrArg (fun W : World => W.heap.size) hW.symm; (try simp only [World.size_alloc, Bk.size_set, World.size_drew, World.drewN] at z7); clear hW; have L_bg := Lay.f3 bg; have L_bk := Lay.f1 bk)); refine hK.out _ _ ?_ (fun hHeld => ?_); ((try dsimp only); (refine ⟨?_, ?_⟩ <;> exact Bk.sv)); clear hK K
    try simp only [Act.put, List.setIfInBounds_toArray, List.set_cons_zero, List.set_cons_succ]
    refine wpAnyH_ready (rs := [4, 6]) (by kernel_rfl) (by simp) ?_
    refine (AllReadyH.cons (Reg.get rfl) (fun K hK => ?_) (AllReadyH.cons (Reg.get rfl) (fun K hK => ?_) AllReadyH.nil))
  
    · skip
      clear hHeld; go_simp; ((go_at_call 68; refine (l1Int_any A n c bs _ _ 4 4 [0, 1, 15, 16] _ (by (repeat (first | with_reducible assumption | with_reducible apply Cur.Cur.alloc | with_reducible apply CurB.cur_drewN | with_reducible apply CurB.cur_drew | ((with_reducible refine CurB.cur_set HAL.out ?_ ?_ ?_ _); (focus (first | omega | (dsimp only; done) | (dsimp only; omega))); (focus (first | omega | (dsimp only; omega))))))) (by exact R3) (fun e => by have := C.lt; simp [blk] at e; omega) (by omega) (by omega)).mono ?_; rintro e w8 ⟨fr, hfr, rfl, C0, hg0⟩; (try (first | replace R6 := rd_gr R6 hg0 (by omega) | replace R6 := rd_gr R6.drew hg0 (by omega))); replace HSS := Lib.hid (HSS.out.keep (w' := w8) fun q h1 h2 => hg0.block q (by first | omega | (simp; omega)) (fun e => by injection e with e; omega)); replace HPI := Lib.hid (HPI.out.keep (w' := w8) fun q h1 h2 => hg0.block q (by first | omega | (simp; omega)) (fun e => by injection e with e; omega)); clear R3 hfr; replace r0 : Bk.Blk w8 (w.heap.size) 27 #[.int .i64 0, .slice none 0 0, .int .i64 0] := Bk.Blk.grown hg0 (by omega) (by exact Bk.sv); replace r1 : Bk.Blk w8 (w.heap.size + 1) 39 #[.slice none 0 0] := Bk.Blk.grown hg0 (by omega) (by exact Bk.sv); replace bg : Bk.Blk w8 (w3.heap.size) 27 #[.int .i64 pe, .slice Ag N cg, .int .i64 lo] := Bk.Blk.grown hg0 (by omega) (by exact Bk.sv); replace bk : Bk.Blk w8 (w5.heap.size) 39 #[.slice Ap M cp] := Bk.Blk.grown hg0 (by omega) (by exact Bk.sv); replace C := C0; replace B : Below w.heap.size w w8 := Bk.below_grown (by go_grown) hg0 (by omega) (by first | omega | (simp [Bk.size_set]; done) | (simp [Bk.size_set]; omega)); have z8 := hg0.size; (try simp only [World.size_alloc, Bk.size_set, World.size_drew, World.drewN] at z8); clear hg0; have L_bg := Lay.f3 bg; have L_bk := Lay.f1 bk)); refine hK.out _ _ ?_ (fun hHeld => ?_); ((try dsimp only); (refine ⟨?_, ?_⟩ <;> exact Bk.sv)); clear hK K
      try simp only [Act.put, List.setIfInBounds_toArray, List.set_cons_zero, List.set_cons_succ]
      first | ((refine Reg.tkB 6 (Reg.get rfl) hHeld ?_)) | (refine wpAnyH_ready (rs := [6]) (by kernel_rfl) (by simp) ?_; refine AllReadyH.cons (Reg.get rfl) (fun K hK => ?_) AllReadyH.nil; clear hHeld; go_simp; ((clear L_bg L_bk; generalize hW : World.alloc _ _ = w9; have R6 := lit_new (sz := 1) (m := 6) (cs := ([0, 10, 20, 30, 15, -10] : List Int).map (Value.int .i64)) hW rfl (by unfold maxLen; omega); (try rw [z7] at R6); (try rw [z6] at R6); (try replace R3 := rd_toA R3 hW); replace HSS := Lib.hid (HSS.out.keep (w' := w9) fun q _ h2 => by rw [← hW]; exact Below.heap_alloc _ _ q (by first | omega | (simp; omega))); replace HPI := Lib.hid (HPI.out.keep (w' := w9) fun q _ h2 => by rw [← hW]; exact Below.heap_alloc _ _ q (by first | omega | (simp; omega))); replace r0 : Bk.Blk w9 (w.heap.size) 27 #[.int .i64 0, .slice none 0 0, .int .i64 0] := (by rw [← hW]; exact Bk.sv); replace r1 : Bk.Blk w9 (w.heap.size + 1) 39 #[.slice none 0 0] := (by rw [← hW]; exact Bk.sv); replace bg : Bk.Blk w9 (w3.heap.size) 27 #[.int .i64 pe, .slice Ag N cg, .int .i64 lo] := (by rw [← hW]; exact Bk.sv); replace bk : Bk.Blk w9 (w5.heap.size) 39 #[.slice Ap M cp] := (by rw [← hW]; exact Bk.sv); replace C : Cur.Cur w9 (w.heap.size + 1 + 1) A n c bs := (by rw [← hW]; (repeat (first | with_reducible assumption | with_reducible apply Cur.Cur.alloc | with_reducible apply CurB.cur_drewN | with_reducible apply CurB.cur_drew | ((with_reducible refine CurB.cur_set HAL.out ?_ ?_ ?_ _); (focus (first | omega | (dsimp only; done) | (dsimp only; omega))); (focus (first | omega | (dsimp only; omega))))))); replace B : Below w.heap.size w w9 := (by rw [← hW]; go_grown); have z9 : w9.heap.size = _ := congrArg (fun W : World => W.heap.size) hW.symm; (try simp only [World.size_alloc, Bk.size_set, World.size_drew, World.drewN] at z9); clear hW; have L_bg := Lay.f3 bg; have L_bk := Lay.f1 bk)); refine hK.out _ _ ?_ (fun hHeld => ?_); ((try dsimp only); (refine ⟨?_, ?_⟩ <;> exact Bk.sv)); clear hK K)
      try simp only [Act.put, List.setIfInBounds_toArray, List.set_cons_zero, List.set_cons_succ]
      first | ((refine Reg.tkB 7 (Reg.get rfl) hHeld ?_)) | (refine wpAnyH_ready (rs := [7]) (by kernel_rfl) (by simp) ?_; refine AllReadyH.cons (Reg.get rfl) (fun K hK => ?_) AllReadyH.nil; clear hHeld; go_simp; ((go_at_call 68; refine (l1Int_any A n c bs _ _ 6 6 [0, 10, 20, 30, 15, -10] _ (by (repeat (first | with_reducible assumption | with_reducible apply Cur.Cur.alloc | with_reducible apply CurB.cur_drewN | with_reducible apply CurB.cur_drew | ((with_reducible refine CurB.cur_set HAL.out ?_ ?_ ?_ _); (focus (first | omega | (dsimp only; done) | (dsimp only; omega))); (focus (first | omega | (dsimp only; omega))))))) (by exact R6) (fun e => by have := C.lt; simp [blk] at e; omega) (by omega) (by omega)).mono ?_; rintro e w10 ⟨sl, hsl, rfl, C0, hg0⟩; have HSL := Lib.hid (six_in hsl); replace HSS := Lib.hid (HSS.out.keep (w' := w10) fun q h1 h2 => hg0.block q (by first | omega | (simp; omega)) (fun e => by injection e with e; omega)); replace HPI := Lib.hid (HPI.out.keep (w' := w10) fun q h1 h2 => hg0.block q (by first | omega | (simp; omega)) (fun e => by injection e with e; omega)); clear R6 hsl; replace r0 : Bk.Blk w10 (w.heap.size) 27 #[.int .i64 0, .slice none 0 0, .int .i64 0] := Bk.Blk.grown hg0 (by omega) (by exact Bk.sv); replace r1 : Bk.Blk w10 (w.heap.size + 1) 39 #[.slice none 0 0] := Bk.Blk.grown hg0 (by omega) (by exact Bk.sv); replace bg : Bk.Blk w10 (w3.heap.size) 27 #[.int .i64 pe, .slice Ag N cg, .int .i64 lo] := Bk.Blk.grown hg0 (by omega) (by exact Bk.sv); replace bk : Bk.Blk w10 (w5.heap.size) 39 #[.slice Ap M cp] := Bk.Blk.grown hg0 (by omega) (by exact Bk.sv); replace C := C0; replace B : Below w.heap.size w w10 := Bk.below_grown (by go_grown) hg0 (by omega) (by first | omega | (simp [Bk.size_set]; done) | (simp [Bk.size_set]; omega)); have z10 := hg0.size; (try simp only [World.size_alloc, Bk.size_set, World.size_drew, World.drewN] at z10); clear hg0; have L_bg := Lay.f3 bg; have L_bk := Lay.f1 bk; have L_r0 := Lay.f3 r0; have L_r1 := Lay.f1 r1)); refine hK.out _ _ ?_ (fun hHeld => ?_); ((try dsimp only); (refine ⟨?_, ?_⟩ <;> exact Bk.sv)); clear hK K)
      try simp only [Act.put, List.setIfInBounds_toArray, List.set_cons_zero, List.set_cons_succ]
      first | ((refine Reg.tkB 8 (Reg.get rfl) hHeld ?_)) | (refine wpAnyH_ready (rs := [8]) (by kernel_rfl) (by simp) ?_; refine AllReadyH.cons (Reg.get rfl) (fun K hK => ?_) AllReadyH.nil; clear hHeld; go_simp; (skip); refine hK.out _ _ ?_ (fun hHeld => ?_); ((try dsimp only); (refine ⟨?_, ?_⟩ <;> exact Bk.sv)); clear hK K)
      try simp only [Act.put, List.setIfInBounds_toArray, List.set_cons_zero, List.set_cons_succ]
      first | ((refine Reg.tkB 9 (Reg.get rfl) hHeld ?_)) | (refine wpAnyH_ready (rs := [9]) (by kernel_rfl) (by simp) ?_; refine AllReadyH.cons (Reg.get rfl) (fun K hK => ?_) AllReadyH.nil; clear hHeld; go_simp; (skip); refine hK.out _ _ ?_ (fun hHeld => ?_); ((try dsimp only); (refine ⟨?_, ?_⟩ <;> exact Bk.sv)); clear hK K)
      try simp only [Act.put, List.setIfInBounds_toArray, List.set_cons_zero, List.set_cons_succ]
      first | (refine Reg.tkC 10 ?_ (Reg.get rfl) ?_ hHeld ?_; rotate_left 1; (focus (intro wq hSw; (try dsimp only at hSw); obtain ⟨s_bg, s_bk⟩ := hSw; have L_bg := Lay.c3 s_bg; have L_bk := Lay.c1 s_bk;  go_simp <;> with_reducible rfl))) | (refine Reg.tkB 10 (Reg.get rfl) hHeld ?_)
      try simp only [Act.put, List.setIfInBounds_toArray, List.set_cons_zero, List.set_cons_succ]
      first | (refine Reg.tkC 11 ?_ (Reg.get rfl) ?_ hHeld ?_; rotate_left 1; (focus (intro wq hSw; (try dsimp only at hSw); obtain ⟨s_bg, s_bk⟩ := hSw; have L_bg := Lay.c3 s_bg; have L_bk := Lay.c1 s_bk;  go_simp <;> with_reducible rfl))) | (refine Reg.tkB 11 (Reg.get rfl) hHeld ?_)
      try simp only [Act.put, List.setIfInBounds_toArray, List.set_cons_zero, List.set_cons_succ]
      refine wpAnyH_done (by kernel_rfl) ?_ _
      (try clear L_bg L_bk L_r0 L_r1)
      generalize hW : World.setCell _ _ _ = w11
      have hk11 := Lib.hid (show ∀ q, w2.heap.size ≤ q → w11.heap[q]? = w10.heap[q]? from fun q hq => by rw [← hW]; (repeat refine (Below.heap_setCell _ _ _ q (by simp; omega)).trans ?_); rfl)
      have HS11 := Lib.hid (HSS.out.keep (w' := w11) fun q h1 _ => hk11.out q (by omega)).rd
      have HP11 := Lib.hid (HPI.out.keep (w' := w11) fun q h1 _ => hk11.out q (by omega)).rd
      replace r0 : Bk.Blk w11 (w.heap.size) 27 #[.int .i64 pe, .slice Ag N cg, .int .i64 lo] := (by rw [← hW]; apply Bk.Blk.to; (focus (exact Bk.sv)); rfl)
      replace r1 : Bk.Blk w11 (w.heap.size + 1) 39 #[.slice Ap M cp] := (by rw [← hW]; apply Bk.Blk.to; (focus (exact Bk.sv)); rfl)
      replace B : Below w.heap.size w w11 := (by rw [← hW]; go_grown)
      have z11 : w11.heap.size = _ := congrArg (fun W : World => W.heap.size) hW.symm
      (try simp only [World.size_alloc, Bk.size_set, World.size_drew, World.drewN] at z11)
      clear hW
      have L_r0 := Lay.c3 r0
      have L_r1 := Lay.c1 r1
      go_wp2
      refine bodyPost_ret (v := .tuple #[.agg #[.int .i64 pe, .slice Ag N cg, .int .i64 lo], .agg #[.slice Ap M cp], .int .i64 fr, .int .i64 sl]) (by simp [results, Try.results20, go_sem, L_r0, L_r1]) rfl (⟨pe, lo, N, xss, Ag, cg, M, ks, Ap, cp, fr, sl, HBD.out, ⟨hM, HFW.out⟩, HSL.out, HS11.out, HP11.out, rfl, B⟩)
  
    · skip
      clear hHeld; go_simp; ((clear L_bg L_bk; generalize hW : World.alloc _ _ = w9; have R6 := lit_new (sz := 1) (m := 6) (cs := ([0, 10, 20, 30, 15, -10] : List Int).map (Value.int .i64)) hW rfl (by unfold maxLen; omega); (try rw [z7] at R6); (try rw [z6] at R6); (try replace R3 := rd_toA R3 hW); replace HSS := Lib.hid (HSS.out.keep (w' := w9) fun q _ h2 => by rw [← hW]; exact Below.heap_alloc _ _ q (by first | omega | (simp; omega))); replace HPI := Lib.hid (HPI.out.keep (w' := w9) fun q _ h2 => by rw [← hW]; exact Below.heap_alloc _ _ q (by first | omega | (simp; omega))); replace r0 : Bk.Blk w9 (w.heap.size) 27 #[.int .i64 0, .slice none 0 0, .int .i64 0] := (by rw [← hW]; exact Bk.sv); replace r1 : Bk.Blk w9 (w.heap.size + 1) 39 #[.slice none 0 0] := (by rw [← hW]; exact Bk.sv); replace bg : Bk.Blk w9 (w3.heap.size) 27 #[.int .i64 pe, .slice Ag N cg, .int .i64 lo] := (by rw [← hW]; exact Bk.sv); replace bk : Bk.Blk w9 (w5.heap.size) 39 #[.slice Ap M cp] := (by rw [← hW]; exact Bk.sv); replace C : Cur.Cur w9 (w.heap.size + 1 + 1) A n c bs := (by rw [← hW]; (repeat (first | with_reducible assumption | with_reducible apply Cur.Cur.alloc | with_reducible apply CurB.cur_drewN | with_reducible apply CurB.cur_drew | ((with_reducible refine CurB.cur_set HAL.out ?_ ?_ ?_ _); (focus (first | omega | (dsimp only; done) | (dsimp only; omega))); (focus (first | omega | (dsimp only; omega))))))); replace B : Below w.heap.size w w9 := (by rw [← hW]; go_grown); have z9 : w9.heap.size = _ := congrArg (fun W : World => W.heap.size) hW.symm; (try simp only [World.size_alloc, Bk.size_set, World.size_drew, World.drewN] at z9); clear hW; have L_bg := Lay.f3 bg; have L_bk := Lay.f1 bk)); refine hK.out _ _ ?_ (fun hHeld => ?_); ((try dsimp only); (refine ⟨?_, ?_⟩ <;> exact Bk.sv)); clear hK K
      try simp only [Act.put, List.setIfInBounds_toArray, List.set_cons_zero, List.set_cons_succ]
      first | ((refine Reg.tkB 4 (Reg.get rfl) hHeld ?_)) | (refine wpAnyH_ready (rs := [4]) (by kernel_rfl) (by simp) ?_; refine AllReadyH.cons (Reg.get rfl) (fun K hK => ?_) AllReadyH.nil; clear hHeld; go_simp; ((go_at_call 68; refine (l1Int_any A n c bs _ _ 4 4 [0, 1, 15, 16] _ (by (repeat (first | with_reducible assumption | with_reducible apply Cur.Cur.alloc | with_reducible apply CurB.cur_drewN | with_reducible apply CurB.cur_drew | ((with_reducible refine CurB.cur_set HAL.out ?_ ?_ ?_ _); (focus (first | omega | (dsimp only; done) | (dsimp only; omega))); (focus (first | omega | (dsimp only; omega))))))) (by exact R3) (fun e => by have := C.lt; simp [blk] at e; omega) (by omega) (by omega)).mono ?_; rintro e w8 ⟨fr, hfr, rfl, C0, hg0⟩; (try (first | replace R6 := rd_gr R6 hg0 (by omega) | replace R6 := rd_gr R6.drew hg0 (by omega))); replace HSS := Lib.hid (HSS.out.keep (w' := w8) fun q h1 h2 => hg0.block q (by first | omega | (simp; omega)) (fun e => by injection e with e; omega)); replace HPI := Lib.hid (HPI.out.keep (w' := w8) fun q h1 h2 => hg0.block q (by first | omega | (simp; omega)) (fun e => by injection e with e; omega)); clear R3 hfr; replace r0 : Bk.Blk w8 (w.heap.size) 27 #[.int .i64 0, .slice none 0 0, .int .i64 0] := Bk.Blk.grown hg0 (by omega) (by exact Bk.sv); replace r1 : Bk.Blk w8 (w.heap.size + 1) 39 #[.slice none 0 0] := Bk.Blk.grown hg0 (by omega) (by exact Bk.sv); replace bg : Bk.Blk w8 (w3.heap.size) 27 #[.int .i64 pe, .slice Ag N cg, .int .i64 lo] := Bk.Blk.grown hg0 (by omega) (by exact Bk.sv); replace bk : Bk.Blk w8 (w5.heap.size) 39 #[.slice Ap M cp] := Bk.Blk.grown hg0 (by omega) (by exact Bk.sv); replace C := C0; replace B : Below w.heap.size w w8 := Bk.below_grown (by go_grown) hg0 (by omega) (by first | omega | (simp [Bk.size_set]; done) | (simp [Bk.size_set]; omega)); have z8 := hg0.size; (try simp only [World.size_alloc, Bk.size_set, World.size_drew, World.drewN] at z8); clear hg0; have L_bg := Lay.f3 bg; have L_bk := Lay.f1 bk)); refine hK.out _ _ ?_ (fun hHeld => ?_); ((try dsimp only); (refine ⟨?_, ?_⟩ <;> exact Bk.sv)); clear hK K)
      try simp only [Act.put, List.setIfInBounds_toArray, List.set_cons_zero, List.set_cons_succ]
      first | ((refine Reg.tkB 7 (Reg.get rfl) hHeld ?_)) | (refine wpAnyH_ready (rs := [7]) (by kernel_rfl) (by simp) ?_; refine AllReadyH.cons (Reg.get rfl) (fun K hK => ?_) AllReadyH.nil; clear hHeld; go_simp; ((go_at_call 68; refine (l1Int_any A n c bs _ _ 6 6 [0, 10, 20, 30, 15, -10] _ (by (repeat (first | with_reducible assumption | with_reducible apply Cur.Cur.alloc | with_reducible apply CurB.cur_drewN | with_reducible apply CurB.cur_drew | ((with_reducible refine CurB.cur_set HAL.out ?_ ?_ ?_ _); (focus (first | omega | (dsimp only; done) | (dsimp only; omega))); (focus (first | omega | (dsimp only; omega))))))) (by exact R6) (fun e => by have := C.lt; simp [blk] at e; omega) (by omega) (by omega)).mono ?_; rintro e w10 ⟨sl, hsl, rfl, C0, hg0⟩; have HSL := Lib.hid (six_in hsl); replace HSS := Lib.hid (HSS.out.keep (w' := w10) fun q h1 h2 => hg0.block q (by first | omega | (simp; omega)) (fun e => by injection e with e; omega)); replace HPI := Lib.hid (HPI.out.keep (w' := w10) fun q h1 h2 => hg0.block q (by first | omega | (simp; omega)) (fun e => by injection e with e; omega)); clear R6 hsl; replace r0 : Bk.Blk w10 (w.heap.size) 27 #[.int .i64 0, .slice none 0 0, .int .i64 0] := Bk.Blk.grown hg0 (by omega) (by exact Bk.sv); replace r1 : Bk.Blk w10 (w.heap.size + 1) 39 #[.slice none 0 0] := Bk.Blk.grown hg0 (by omega) (by exact Bk.sv); replace bg : Bk.Blk w10 (w3.heap.size) 27 #[.int .i64 pe, .slice Ag N cg, .int .i64 lo] := Bk.Blk.grown hg0 (by omega) (by exact Bk.sv); replace bk : Bk.Blk w10 (w5.heap.size) 39 #[.slice Ap M cp] := Bk.Blk.grown hg0 (by omega) (by exact Bk.sv); replace C := C0; replace B : Below w.heap.size w w10 := Bk.below_grown (by go_grown) hg0 (by omega) (by first | omega | (simp [Bk.size_set]; done) | (simp [Bk.size_set]; omega)); have z10 := hg0.size; (try simp only [World.size_alloc, Bk.size_set, World.size_drew, World.drewN] at z10); clear hg0; have L_bg := Lay.f3 bg; have L_bk := Lay.f1 bk; have L_r0 := Lay.f3 r0; have L_r1 := Lay.f1 r1)); refine hK.out _ _ ?_ (fun hHeld => ?_); ((try dsimp only); (refine ⟨?_, ?_⟩ <;> exact Bk.sv)); clear hK K)
      try simp only [Act.put, List.setIfInBounds_toArray, List.set_cons_zero, List.set_cons_succ]
      first | ((refine Reg.tkB 8 (Reg.get rfl) hHeld ?_)) | (refine wpAnyH_ready (rs := [8]) (by kernel_rfl) (by simp) ?_; refine AllReadyH.cons (Reg.get rfl) (fun K hK => ?_) AllReadyH.nil; clear hHeld; go_simp; (skip); refine hK.out _ _ ?_ (fun hHeld => ?_); ((try dsimp only); (refine ⟨?_, ?_⟩ <;> exact Bk.sv)); clear hK K)
      try simp only [Act.put, List.setIfInBounds_toArray, List.set_cons_zero, List.set_cons_succ]
      first | ((refine Reg.tkB 9 (Reg.get rfl) hHeld ?_)) | (refine wpAnyH_ready (rs := [9]) (by kernel_rfl) (by simp) ?_; refine AllReadyH.cons (Reg.get rfl) (fun K hK => ?_) AllReadyH.nil; clear hHeld; go_simp; (skip); refine hK.out _ _ ?_ (fun hHeld => ?_); ((try dsimp only); (refine ⟨?_, ?_⟩ <;> exact Bk.sv)); clear hK K)
      try simp only [Act.put, List.setIfInBounds_toArray, List.set_cons_zero, List.set_cons_succ]
      first | (refine Reg.tkC 10 ?_ (Reg.get rfl) ?_ hHeld ?_; rotate_left 1; (focus (intro wq hSw; (try dsimp only at hSw); obtain ⟨s_bg, s_bk⟩ := hSw; have L_bg := Lay.c3 s_bg; have L_bk := Lay.c1 s_bk;  go_simp <;> with_reducible rfl))) | (refine Reg.tkB 10 (Reg.get rfl) hHeld ?_)
      try simp only [Act.put, List.setIfInBounds_toArray, List.set_cons_zero, List.set_cons_succ]
      first | (refine Reg.tkC 11 ?_ (Reg.get rfl) ?_ hHeld ?_; rotate_left 1; (focus (intro wq hSw; (try dsimp only at hSw); obtain ⟨s_bg, s_bk⟩ := hSw; have L_bg := Lay.c3 s_bg; have L_bk := Lay.c1 s_bk;  go_simp <;> with_reducible rfl))) | (refine Reg.tkB 11 (Reg.get rfl) hHeld ?_)
      try simp only [Act.put, List.setIfInBounds_toArray, List.set_cons_zero, List.set_cons_succ]
      refine wpAnyH_done (by kernel_rfl) ?_ _
      (try clear L_bg L_bk L_r0 L_r1)
      generalize hW : World.setCell _ _ _ = w11
      have hk11 := Lib.hid (show ∀ q, w2.heap.size ≤ q → w11.heap[q]? = w10.heap[q]? from fun q hq => by rw [← hW]; (repeat refine (Below.heap_setCell _ _ _ q (by simp; omega)).trans ?_); rfl)
      have HS11 := Lib.hid (HSS.out.keep (w' := w11) fun q h1 _ => hk11.out q (by omega)).rd
      have HP11 := Lib.hid (HPI.out.keep (w' := w11) fun q h1 _ => hk11.out q (by omega)).rd
      replace r0 : Bk.Blk w11 (w.heap.size) 27 #[.int .i64 pe, .slice Ag N cg, .int .i64 lo] := (by rw [← hW]; apply Bk.Blk.to; (focus (exact Bk.sv)); rfl)
      replace r1 : Bk.Blk w11 (w.heap.size + 1) 39 #[.slice Ap M cp] := (by rw [← hW]; apply Bk.Blk.to; (focus (exact Bk.sv)); rfl)
      replace B : Below w.heap.size w w11 := (by rw [← hW]; go_grown)
      have z11 : w11.heap.size = _ := congrArg (fun W : World => W.heap.size) hW.symm
      (try simp only [World.size_alloc, Bk.size_set, World.size_drew, World.drewN] at z11)
      clear hW
      have L_r0 := Lay.c3 r0
      have L_r1 := Lay.c1 r1
      go_wp2
      refine bodyPost_ret (v := .tuple #[.agg #[.int .i64 pe, .slice Ag N cg, .int .i64 lo], .agg #[.slice Ap M cp], .int .i64 fr, .int .i64 sl]) (by simp [results, Try.results20, go_sem, L_r0, L_r1]) rfl (⟨pe, lo, N, xss, Ag, cg, M, ks, Ap, cp, fr, sl, HBD.out, ⟨hM, HFW.out⟩, HSL.out, HS11.out, HP11.out, rfl, B⟩)
  
  · skip
    clear hHeld; go_simp; ((clear L_bg L_bk; generalize hW : World.alloc _ _ = w9; have R6 := lit_new (sz := 1) (m := 6) (cs := ([0, 10, 20, 30, 15, -10] : List Int).map (Value.int .i64)) hW rfl (by unfold maxLen; omega); (try rw [z7] at R6); (try rw [z6] at R6); (try replace R3 := rd_toA R3 hW); replace HSS := Lib.hid (HSS.out.keep (w' := w9) fun q _ h2 => by rw [← hW]; exact Below.heap_alloc _ _ q (by first | omega | (simp; omega))); replace HPI := Lib.hid (HPI.out.keep (w' := w9) fun q _ h2 => by rw [← hW]; exact Below.heap_alloc _ _ q (by first | omega | (simp; omega))); replace r0 : Bk.Blk w9 (w.heap.size) 27 #[.int .i64 0, .slice none 0 0, .int .i64 0] := (by rw [← hW]; exact Bk.sv); replace r1 : Bk.Blk w9 (w.heap.size + 1) 39 #[.slice none 0 0] := (by rw [← hW]; exact Bk.sv); replace bg : Bk.Blk w9 (w3.heap.size) 27 #[.int .i64 pe, .slice Ag N cg, .int .i64 lo] := (by rw [← hW]; exact Bk.sv); replace bk : Bk.Blk w9 (w5.heap.size) 39 #[.slice Ap M cp] := (by rw [← hW]; exact Bk.sv); replace C : Cur.Cur w9 (w.heap.size + 1 + 1) A n c bs := (by rw [← hW]; (repeat (first | with_reducible assumption | with_reducible apply Cur.Cur.alloc | with_reducible apply CurB.cur_drewN | with_reducible apply CurB.cur_drew | ((with_reducible refine CurB.cur_set HAL.out ?_ ?_ ?_ _); (focus (first | omega | (dsimp only; done) | (dsimp only; omega))); (focus (first | omega | (dsimp only; omega))))))); replace B : Below w.heap.size w w9 := (by rw [← hW]; go_grown); have z9 : w9.heap.size = _ := congrArg (fun W : World => W.heap.size) hW.symm; (try simp only [World.size_alloc, Bk.size_set, World.size_drew, World.drewN] at z9); clear hW; have L_bg := Lay.f3 bg; have L_bk := Lay.f1 bk)); refine hK.out _ _ ?_ (fun hHeld => ?_); ((try dsimp only); (refine ⟨?_, ?_⟩ <;> exact Bk.sv)); clear hK K
    try simp only [Act.put, List.setIfInBounds_toArray, List.set_cons_zero, List.set_cons_succ]
    first | ((refine Reg.tkB 3 (Reg.get rfl) hHeld ?_)) | (refine wpAnyH_ready (rs := [3]) (by kernel_rfl) (by simp) ?_; refine AllReadyH.cons (Reg.get rfl) (fun K hK => ?_) AllReadyH.nil; clear hHeld; go_simp; ((clear L_bg L_bk; generalize hW : World.alloc _ _ = w7; have R3 := lit_new (sz := 1) (m := 4) (cs := ([0, 1, 15, 16] : List Int).map (Value.int .i64)) hW rfl (by unfold maxLen; omega); (try rw [z9] at R3); (try rw [z6] at R3); (try replace R6 := rd_toA R6 hW); replace HSS := Lib.hid (HSS.out.keep (w' := w7) fun q _ h2 => by rw [← hW]; exact Below.heap_alloc _ _ q (by first | omega | (simp; omega))); replace HPI := Lib.hid (HPI.out.keep (w' := w7) fun q _ h2 => by rw [← hW]; exact Below.heap_alloc _ _ q (by first | omega | (simp; omega))); replace r0 : Bk.Blk w7 (w.heap.size) 27 #[.int .i64 0, .slice none 0 0, .int .i64 0] := (by rw [← hW]; exact Bk.sv); replace r1 : Bk.Blk w7 (w.heap.size + 1) 39 #[.slice none 0 0] := (by rw [← hW]; exact Bk.sv); replace bg : Bk.Blk w7 (w3.heap.size) 27 #[.int .i64 pe, .slice Ag N cg, .int .i64 lo] := (by rw [← hW]; exact Bk.sv); replace bk : Bk.Blk w7 (w5.heap.size) 39 #[.slice Ap M cp] := (by rw [← hW]; exact Bk.sv); replace C : Cur.Cur w7 (w.heap.size + 1 + 1) A n c bs := (by rw [← hW]; (repeat (first | with_reducible assumption | with_reducible apply Cur.Cur.alloc | with_reducible apply CurB.cur_drewN | with_reducible apply CurB.cur_drew | ((with_reducible refine CurB.cur_set HAL.out ?_ ?_ ?_ _); (focus (first | omega | (dsimp only; done) | (dsimp only; omega))); (focus (first | omega | (dsimp only; omega))))))); replace B : Below w.heap.size w w7 := (by rw [← hW]; go_grown); have z7 : w7.heap.size = _ := congrArg (fun W : World => W.heap.size) hW.symm; (try simp only [World.size_alloc, Bk.size_set, World.size_drew, World.drewN] at z7); clear hW; have L_bg := Lay.f3 bg; have L_bk := Lay.f1 bk)); refine hK.out _ _ ?_ (fun hHeld => ?_); ((try dsimp only); (refine ⟨?_, ?_⟩ <;> exact Bk.sv)); clear hK K)
    try simp only [Act.put, List.setIfInBounds_toArray, List.set_cons_zero, List.set_cons_succ]
    first | ((refine Reg.tkB 4 (Reg.get rfl) hHeld ?_)) | (refine wpAnyH_ready (rs := [4]) (by kernel_rfl) (by simp) ?_; refine AllReadyH.cons (Reg.get rfl) (fun K hK => ?_) AllReadyH.nil; clear hHeld; go_simp; ((go_at_call 68; refine (l1Int_any A n c bs _ _ 4 4 [0, 1, 15, 16] _ (by (repeat (first | with_reducible assumption | with_reducible apply Cur.Cur.alloc | with_reducible apply CurB.cur_drewN | with_reducible apply CurB.cur_drew | ((with_reducible refine CurB.cur_set HAL.out ?_ ?_ ?_ _); (focus (first | omega | (dsimp only; done) | (dsimp only; omega))); (focus (first | omega | (dsimp only; omega))))))) (by exact R3) (fun e => by have := C.lt; simp [blk] at e; omega) (by omega) (by omega)).mono ?_; rintro e w8 ⟨fr, hfr, rfl, C0, hg0⟩; (try (first | replace R6 := rd_gr R6 hg0 (by omega) | replace R6 := rd_gr R6.drew hg0 (by omega))); replace HSS := Lib.hid (HSS.out.keep (w' := w8) fun q h1 h2 => hg0.block q (by first | omega | (simp; omega)) (fun e => by injection e with e; omega)); replace HPI := Lib.hid (HPI.out.keep (w' := w8) fun q h1 h2 => hg0.block q (by first | omega | (simp; omega)) (fun e => by injection e with e; omega)); clear R3 hfr; replace r0 : Bk.Blk w8 (w.heap.size) 27 #[.int .i64 0, .slice none 0 0, .int .i64 0] := Bk.Blk.grown hg0 (by omega) (by exact Bk.sv); replace r1 : Bk.Blk w8 (w.heap.size + 1) 39 #[.slice none 0 0] := Bk.Blk.grown hg0 (by omega) (by exact Bk.sv); replace bg : Bk.Blk w8 (w3.heap.size) 27 #[.int .i64 pe, .slice Ag N cg, .int .i64 lo] := Bk.Blk.grown hg0 (by omega) (by exact Bk.sv); replace bk : Bk.Blk w8 (w5.heap.size) 39 #[.slice Ap M cp] := Bk.Blk.grown hg0 (by omega) (by exact Bk.sv); replace C := C0; replace B : Below w.heap.size w w8 := Bk.below_grown (by go_grown) hg0 (by omega) (by first | omega | (simp [Bk.size_set]; done) | (simp [Bk.size_set]; omega)); have z8 := hg0.size; (try simp only [World.size_alloc, Bk.size_set, World.size_drew, World.drewN] at z8); clear hg0; have L_bg := Lay.f3 bg; have L_bk := Lay.f1 bk)); refine hK.out _ _ ?_ (fun hHeld => ?_); ((try dsimp only); (refine ⟨?_, ?_⟩ <;> exact Bk.sv)); clear hK K)
    try simp only [Act.put, List.setIfInBounds_toArray, List.set_cons_zero, List.set_cons_succ]
    first | ((refine Reg.tkB 7 (Reg.get rfl) hHeld ?_)) | (refine wpAnyH_ready (rs := [7]) (by kernel_rfl) (by simp) ?_; refine AllReadyH.cons (Reg.get rfl) (fun K hK => ?_) AllReadyH.nil; clear hHeld; go_simp; ((go_at_call 68; refine (l1Int_any A n c bs _ _ 6 6 [0, 10, 20, 30, 15, -10] _ (by (repeat (first | with_reducible assumption | with_reducible apply Cur.Cur.alloc | with_reducible apply CurB.cur_drewN | with_reducible apply CurB.cur_drew | ((with_reducible refine CurB.cur_set HAL.out ?_ ?_ ?_ _); (focus (first | omega | (dsimp only; done) | (dsimp only; omega))); (focus (first | omega | (dsimp only; omega))))))) (by exact R6) (fun e => by have := C.lt; simp [blk] at e; omega) (by omega) (by omega)).mono ?_; rintro e w10 ⟨sl, hsl, rfl, C0, hg0⟩; have HSL := Lib.hid (six_in hsl); replace HSS := Lib.hid (HSS.out.keep (w' := w10) fun q h1 h2 => hg0.block q (by first | omega | (simp; omega)) (fun e => by injection e with e; omega)); replace HPI := Lib.hid (HPI.out.keep (w' := w10) fun q h1 h2 => hg0.block q (by first | omega | (simp; omega)) (fun e => by injection e with e; omega)); clear R6 hsl; replace r0 : Bk.Blk w10 (w.heap.size) 27 #[.int .i64 0, .slice none 0 0, .int .i64 0] := Bk.Blk.grown hg0 (by omega) (by exact Bk.sv); replace r1 : Bk.Blk w10 (w.heap.size + 1) 39 #[.slice none 0 0] := Bk.Blk.grown hg0 (by omega) (by exact Bk.sv); replace bg : Bk.Blk w10 (w3.heap.size) 27 #[.int .i64 pe, .slice Ag N cg, .int .i64 lo] := Bk.Blk.grown hg0 (by omega) (by exact Bk.sv); replace bk : Bk.Blk w10 (w5.heap.size) 39 #[.slice Ap M cp] := Bk.Blk.grown hg0 (by omega) (by exact Bk.sv); replace C := C0; replace B : Below w.heap.size w w10 := Bk.below_grown (by go_grown) hg0 (by omega) (by first | omega | (simp [Bk.size_set]; done) | (simp [Bk.size_set]; omega)); have z10 := hg0.size; (try simp only [World.size_alloc, Bk.size_set, World.size_drew, World.drewN] at z10); clear hg0; have L_bg := Lay.f3 bg; have L_bk := Lay.f1 bk; have L_r0 := Lay.f3 r0; have L_r1 := Lay.f1 r1)); refine hK.out _ _ ?_ (fun hHeld => ?_); ((try dsimp only); (refine ⟨?_, ?_⟩ <;> exact Bk.sv)); clear hK K)
    try simp only [Act.put, List.setIfInBounds_toArray, List.set_cons_zero, List.set_cons_succ]
    first | ((refine Reg.tkB 8 (Reg.get rfl) hHeld ?_)) | (refine wpAnyH_ready (rs := [8]) (by kernel_rfl) (by simp) ?_; refine AllReadyH.cons (Reg.get rfl) (fun K hK => ?_) AllReadyH.nil; clear hHeld; go_simp; (skip); refine hK.out _ _ ?_ (fun hHeld => ?_); ((try dsimp only); (refine ⟨?_, ?_⟩ <;> exact Bk.sv)); clear hK K)
    try simp only [Act.put, List.setIfInBounds_toArray, List.set_cons_zero, List.set_cons_succ]
    first | ((refine Reg.tkB 9 (Reg.get rfl) hHeld ?_)) | (refine wpAnyH_ready (rs := [9]) (by kernel_rfl) (by simp) ?_; refine AllReadyH.cons (Reg.get rfl) (fun K hK => ?_) AllReadyH.nil; clear hHeld; go_simp; (skip); refine hK.out _ _ ?_ (fun hHeld => ?_); ((try dsimp only); (refine ⟨?_, ?_⟩ <;> exact Bk.sv)); clear hK K)
    try simp only [Act.put, List.setIfInBounds_toArray, List.set_cons_zero, List.set_cons_succ]
    first | (refine Reg.tkC 10 ?_ (Reg.get rfl) ?_ hHeld ?_; rotate_left 1; (focus (intro wq hSw; (try dsimp only at hSw); obtain ⟨s_bg, s_bk⟩ := hSw; have L_bg := Lay.c3 s_bg; have L_bk := Lay.c1 s_bk;  go_simp <;> with_reducible rfl))) | (refine Reg.tkB 10 (Reg.get rfl) hHeld ?_)
    try simp only [Act.put, List.setIfInBounds_toArray, List.set_cons_zero, List.set_cons_succ]
    first | (refine Reg.tkC 11 ?_ (Reg.get rfl) ?_ hHeld ?_; rotate_left 1; (focus (intro wq hSw; (try dsimp only at hSw); obtain ⟨s_bg, s_bk⟩ := hSw; have L_bg := Lay.c3 s_bg; have L_bk := Lay.c1 s_bk;  go_simp <;> with_reducible rfl))) | (refine Reg.tkB 11 (Reg.get rfl) hHeld ?_)
    try simp only [Act.put, List.setIfInBounds_toArray, List.set_cons_zero, List.set_cons_succ]
    refine wpAnyH_done (by kernel_rfl) ?_ _
    (try clear L_bg L_bk L_r0 L_r1)
    generalize hW : World.setCell _ _ _ = w11
    have hk11 := Lib.hid (show ∀ q, w2.heap.size ≤ q → w11.heap[q]? = w10.heap[q]? from fun q hq => by rw [← hW]; (repeat refine (Below.heap_setCell _ _ _ q (by simp; omega)).trans ?_); rfl)
    have HS11 := Lib.hid (HSS.out.keep (w' := w11) fun q h1 _ => hk11.out q (by omega)).rd
    have HP11 := Lib.hid (HPI.out.keep (w' := w11) fun q h1 _ => hk11.out q (by omega)).rd
    replace r0 : Bk.Blk w11 (w.heap.size) 27 #[.int .i64 pe, .slice Ag N cg, .int .i64 lo] := (by rw [← hW]; apply Bk.Blk.to; (focus (exact Bk.sv)); rfl)
    replace r1 : Bk.Blk w11 (w.heap.size + 1) 39 #[.slice Ap M cp] := (by rw [← hW]; apply Bk.Blk.to; (focus (exact Bk.sv)); rfl)
    replace B : Below w.heap.size w w11 := (by rw [← hW]; go_grown)
    have z11 : w11.heap.size = _ := congrArg (fun W : World => W.heap.size) hW.symm
    (try simp only [World.size_alloc, Bk.size_set, World.size_drew, World.drewN] at z11)
    clear hW
    have L_r0 := Lay.c3 r0
    have L_r1 := Lay.c1 r1
    go_wp2
    refine bodyPost_ret (v := .tuple #[.agg #[.int .i64 pe, .slice Ag N cg, .int .i64 lo], .agg #[.slice Ap M cp], .int .i64 fr, .int .i64 sl]) (by simp [results, Try.results20, go_sem, L_r0, L_r1]) rfl (⟨pe, lo, N, xss, Ag, cg, M, ks, Ap, cp, fr, sl, HBD.out, ⟨hM, HFW.out⟩, HSL.out, HS11.out, HP11.out, rfl, B⟩)
end Go.Proofs.Ythdieeaegplnmaa.Pb
