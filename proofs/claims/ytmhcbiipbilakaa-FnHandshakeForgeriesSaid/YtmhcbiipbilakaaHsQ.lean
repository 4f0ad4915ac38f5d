/- The draws of the handshake: a message bent, one side and a message. -/
import Derived.Test.YtmhcbiipbilakaaHsO
import Derived.Test.YtmhcbiipbilakaaCurB
import Derived.Test.YtmhcbiipbilakaaReg
import Derived.Test.YtmhcbiipbilakaaLay
namespace Go.Proofs.Ytmhcbiipbilakaa.Hs
open Go.RowKit
open Go.Proofs.Ytmhcbiipbilakaa.Num Go.Proofs.Ytmhcbiipbilakaa.Mem Go.Proofs.Ytmhcbiipbilakaa.Hsh Go.Proofs.Ytmhcbiipbilakaa.Keys Go.Proofs.Ytmhcbiipbilakaa.Hand Go.Proofs.Ytmhcbiipbilakaa.Auth Go.Proofs.Ytmhcbiipbilakaa.Cur
set_option linter.unusedSimpArgs false
set_option linter.unusedVariables false
/-- a message, drawn -/
def DrewM (w : World) (g : Nat) (A : Option Addr) (n c : Nat) (bs : List Int) (e : Ending) (w' : World) : Prop :=
  ∃ m : Msg, m.Ok ∧ e = .returned (.agg #[.int .i64 m.n, .int .i64 m.r, .int .i64 m.c, .int .i64 m.g, .int .i64 m.m]) ∧ Cur w' g A n c bs ∧ w.grownBy w' (some g)
set_option maxHeartbeats 4000000 in
theorem bent_any (A : Option Addr) (n c : Nat) (bs : List Int) (g : Nat) (m : Msg) (w : World) (hcur : Cur w g A n c bs) (hm : m.Ok) :
    Calls Try.prog 52 #[.pointer (some ⟨g, 0, none⟩), .agg #[.int .i64 m.n, .int .i64 m.r, .int .i64 m.c, .int .i64 m.g, .int .i64 m.m]] w (DrewM w g A n c bs) := by
  have HAL := Lib.hid (CurB.old_cur hcur)
  have HM := Lib.hid hm
  have hgl := hcur.lt
  have C := hcur
  have G : w.grownBy w (some g) := World.grownBy.refl _ _
  clear hcur hm
  go_enter Try.func52, Try.ntmps52
  go_wp2_with fail
  refine (l1Below_any A n c bs g _ _ (by (repeat (first | with_reducible assumption | with_reducible apply Cur.Cur.alloc | with_reducible apply CurB.cur_drewN | with_reducible apply CurB.cur_drew | ((with_reducible refine CurB.cur_set HAL.out ?_ ?_ ?_ _); (focus (first | omega | (dsimp only; done) | (dsimp only; omega))); (focus (first | omega | (dsimp only; omega))))))) (by omega) (by omega)).mono ?_
  rintro x w1 ⟨x, hx, rfl, C0, hg0⟩
  have m0 : Bk.Blk w1 (w.heap.size) 29 #[.int .i64 m.n, .int .i64 m.r, .int .i64 m.c, .int .i64 m.g, .int .i64 m.m] := (by apply Bk.Blk.to; (focus (apply Bk.Blk.grown hg0 (by omega); (repeat (first | with_reducible assumption | (with_reducible apply Bk.Blk.newAt; focus (first | (simp [Bk.size_set]; done) | (simp [Bk.size_set]; omega))) | with_reducible apply Bk.Blk.drewN | with_reducible apply Bk.Blk.drew | with_reducible apply Bk.Blk.set_ | (with_reducible apply Bk.Blk.far; focus (dsimp only; first | omega | (simp; omega) | (simp; done))) | with_reducible apply Bk.Blk.alloc)))); rfl)
  have rm : Bk.Blk w1 (w.heap.size + 1) 29 #[.int .i64 0, .int .i64 0, .int .i64 0, .int .i64 0, .int .i64 0] := (by apply Bk.Blk.to; (focus (apply Bk.Blk.grown hg0 (by omega); (repeat (first | with_reducible assumption | (with_reducible apply Bk.Blk.newAt; focus (first | (simp [Bk.size_set]; done) | (simp [Bk.size_set]; omega))) | with_reducible apply Bk.Blk.drewN | with_reducible apply Bk.Blk.drew | with_reducible apply Bk.Blk.set_ | (with_reducible apply Bk.Blk.far; focus (dsimp only; first | omega | (simp; omega) | (simp; done))) | with_reducible apply Bk.Blk.alloc)))); rfl)
  replace C := C0
  replace G : w.grownBy w1 (some (g)) := World.grownBy.trans (by (repeat (first | with_reducible assumption | with_reducible exact World.grownBy.refl _ _ | with_reducible apply CurB.gr_alloc | with_reducible apply CurB.gr_drewN | with_reducible apply CurB.gr_drew | (with_reducible apply CurB.gr_set; focus (first | omega | (dsimp only; done) | (dsimp only; omega)))))) hg0
  have z1 := hg0.size
  (try simp only [World.size_alloc, Bk.size_set, World.size_drew, World.drewN] at z1)
  clear hg0
  clear hx
  by_cases q0 : x = 0
  · have r0 : (x == 0) = true := by simpa using q0
    clear q0
    have L_m0 := Lay.f5 m0
    have L_rm := Lay.f5 rm
    go_wp2
    clear L_m0 L_rm
    generalize hW : World.setCell _ _ _ = w2
    replace rm : Bk.Blk w2 (w.heap.size + 1) 29 #[.int .i64 m.n, .int .i64 m.r, .int .i64 m.c, .int .i64 m.g, .int .i64 (wrap64 (m.m + 1))] := (by rw [← hW]; apply Bk.Blk.to; (focus ((repeat (first | with_reducible assumption | (with_reducible apply Bk.Blk.newAt; focus (first | (simp [Bk.size_set]; done) | (simp [Bk.size_set]; omega))) | with_reducible apply Bk.Blk.drewN | with_reducible apply Bk.Blk.drew | with_reducible apply Bk.Blk.set_ | (with_reducible apply Bk.Blk.far; focus (dsimp only; first | omega | (simp; omega) | (simp; done))) | with_reducible apply Bk.Blk.alloc)))); rfl)
    replace C : Cur.Cur w2 (g) A n c bs := (by rw [← hW]; (repeat (first | with_reducible assumption | with_reducible apply Cur.Cur.alloc | with_reducible apply CurB.cur_drewN | with_reducible apply CurB.cur_drew | ((with_reducible refine CurB.cur_set HAL.out ?_ ?_ ?_ _); (focus (first | omega | (dsimp only; done) | (dsimp only; omega))); (focus (first | omega | (dsimp only; omega)))))))
    replace G : w.grownBy w2 (some (g)) := (by rw [← hW]; (repeat (first | with_reducible assumption | with_reducible exact World.grownBy.refl _ _ | with_reducible apply CurB.gr_alloc | with_reducible apply CurB.gr_drewN | with_reducible apply CurB.gr_drew | (with_reducible apply CurB.gr_set; focus (first | omega | (dsimp only; done) | (dsimp only; omega))))))
    have z2 : w2.heap.size = _ := congrArg (fun W : World => W.heap.size) hW.symm
    (try simp only [World.size_alloc, Bk.size_set, World.size_drew, World.drewN] at z2)
    clear hW
    have L_rm := Lay.c5 rm
    refine bodyPost_ret (v := .agg #[.int .i64 m.n, .int .i64 m.r, .int .i64 m.c, .int .i64 m.g, .int .i64 (wrap64 (m.m + 1))]) (by simp [results, Try.results52, go_sem, L_rm]) rfl (⟨⟨m.n, m.r, m.c, m.g, wrap64 (m.m + 1)⟩, ⟨HM.out.1, HM.out.2.1, HM.out.2.2.1, HM.out.2.2.2.1, wrap_i64 _⟩, rfl, C, G⟩)
  · have r0 : (x == 0) = false := by simpa using q0
    clear q0
    by_cases q1 : x = 1
    · have r1 : (x == 1) = true := by simpa using q1
      clear q1
      go_wp2_with fail
      have L_m0 := Lay.f5 m0
      have L_rm := Lay.f5 rm
      refine wp_region_held_drew (S := (fun _ => True)) (by kernel_rfl) ?_ (fun hHeld => ?_)
      · (try dsimp only); skip
      first | (refine wpAnyH_take (i := 0) (v := ?_) (Reg.get rfl) (by kernel_rfl) (by kernel_rfl) (by kernel_rfl) (fun _ _ _ h => h) (Or.inl ⟨by rfl, ?_⟩) hHeld ?_; rotate_left 1; (focus (intro wq hSw; (try dsimp only at hSw);  go_simp <;> with_reducible rfl))) | (refine wpAnyH_take (i := 0) (v := undef) (Reg.get rfl) (by kernel_rfl) (by kernel_rfl) (by kernel_rfl) (fun _ _ _ h => h) (Or.inr ⟨by rfl, rfl⟩) hHeld ?_)
      try simp only [Act.put, List.setIfInBounds_toArray, List.set_cons_zero, List.set_cons_succ]
      first | (refine wpAnyH_take (i := 2) (v := ?_) (Reg.get rfl) (by kernel_rfl) (by kernel_rfl) (by kernel_rfl) (fun _ _ _ h => h) (Or.inl ⟨by rfl, ?_⟩) hHeld ?_; rotate_left 1; (focus (intro wq hSw; (try dsimp only at hSw);  go_simp <;> with_reducible rfl))) | (refine wpAnyH_take (i := 2) (v := undef) (Reg.get rfl) (by kernel_rfl) (by kernel_rfl) (by kernel_rfl) (fun _ _ _ h => h) (Or.inr ⟨by rfl, rfl⟩) hHeld ?_)
      try simp only [Act.put, List.setIfInBounds_toArray, List.set_cons_zero, List.set_cons_succ]
      refine wpAnyH_ready (rs := [1, 3]) (by kernel_rfl) (by simp) ?_
      refine (AllReadyH.cons (Reg.get rfl) (fun K hK => ?_) (AllReadyH.cons (Reg.get rfl) (fun K hK => ?_) AllReadyH.nil))
      
      · skip
        clear hHeld; go_simp; (skip); refine hK.out _ _ ?_ (fun hHeld => ?_); ((try dsimp only); skip); clear hK K
        try simp only [Act.put, List.setIfInBounds_toArray, List.set_cons_zero, List.set_cons_succ]
        first | ((refine wpAnyH_take (i := 3) (v := undef) (Reg.get rfl) (by kernel_rfl) (by kernel_rfl) (by kernel_rfl) (fun _ _ _ h => h) (Or.inr ⟨by rfl, rfl⟩) hHeld ?_)) | (refine wpAnyH_ready (rs := [3]) (by kernel_rfl) (by simp) ?_; refine AllReadyH.cons (Reg.get rfl) (fun K hK => ?_) AllReadyH.nil; clear hHeld; go_simp; ((go_at_call 49; refine (l1Below_any A n c bs g _ _ (by (repeat (first | with_reducible assumption | with_reducible apply Cur.Cur.alloc | with_reducible apply CurB.cur_drewN | with_reducible apply CurB.cur_drew | ((with_reducible refine CurB.cur_set HAL.out ?_ ?_ ?_ _); (focus (first | omega | (dsimp only; done) | (dsimp only; omega))); (focus (first | omega | (dsimp only; omega))))))) (by omega) (by omega)).mono ?_; rintro e w2 ⟨y, hy, rfl, C0, hg0⟩; clear L_m0 L_rm; replace m0 : Bk.Blk w2 (w.heap.size) 29 #[.int .i64 m.n, .int .i64 m.r, .int .i64 m.c, .int .i64 m.g, .int .i64 m.m] := Bk.Blk.grown hg0 (by omega) (by (repeat (first | with_reducible assumption | (with_reducible apply Bk.Blk.newAt; focus (first | (simp [Bk.size_set]; done) | (simp [Bk.size_set]; omega))) | with_reducible apply Bk.Blk.drewN | with_reducible apply Bk.Blk.drew | with_reducible apply Bk.Blk.set_ | (with_reducible apply Bk.Blk.far; focus (dsimp only; first | omega | (simp; omega) | (simp; done))) | with_reducible apply Bk.Blk.alloc))); replace rm : Bk.Blk w2 (w.heap.size + 1) 29 #[.int .i64 0, .int .i64 0, .int .i64 0, .int .i64 0, .int .i64 0] := Bk.Blk.grown hg0 (by omega) (by (repeat (first | with_reducible assumption | (with_reducible apply Bk.Blk.newAt; focus (first | (simp [Bk.size_set]; done) | (simp [Bk.size_set]; omega))) | with_reducible apply Bk.Blk.drewN | with_reducible apply Bk.Blk.drew | with_reducible apply Bk.Blk.set_ | (with_reducible apply Bk.Blk.far; focus (dsimp only; first | omega | (simp; omega) | (simp; done))) | with_reducible apply Bk.Blk.alloc))); replace C := C0; replace G : w.grownBy w2 (some (g)) := World.grownBy.trans (by (repeat (first | with_reducible assumption | with_reducible exact World.grownBy.refl _ _ | with_reducible apply CurB.gr_alloc | with_reducible apply CurB.gr_drewN | with_reducible apply CurB.gr_drew | (with_reducible apply CurB.gr_set; focus (first | omega | (dsimp only; done) | (dsimp only; omega)))))) hg0; have z2 := hg0.size; (try simp only [World.size_alloc, Bk.size_set, World.size_drew, World.drewN] at z2); clear hg0; have L_m0 := Lay.f5 m0; have L_rm := Lay.f5 rm)); refine hK.out _ _ ?_ (fun hHeld => ?_); ((try dsimp only); skip); clear hK K)
        try simp only [Act.put, List.setIfInBounds_toArray, List.set_cons_zero, List.set_cons_succ]
        first | (refine wpAnyH_take (i := 4) (v := ?_) (Reg.get rfl) (by kernel_rfl) (by kernel_rfl) (by kernel_rfl) (fun _ _ _ h => h) (Or.inl ⟨by rfl, ?_⟩) hHeld ?_; rotate_left 1; (focus (intro wq hSw; (try dsimp only at hSw);  go_simp <;> with_reducible rfl))) | (refine wpAnyH_take (i := 4) (v := undef) (Reg.get rfl) (by kernel_rfl) (by kernel_rfl) (by kernel_rfl) (fun _ _ _ h => h) (Or.inr ⟨by rfl, rfl⟩) hHeld ?_)
        try simp only [Act.put, List.setIfInBounds_toArray, List.set_cons_zero, List.set_cons_succ]
        first | (refine wpAnyH_take (i := 5) (v := ?_) (Reg.get rfl) (by kernel_rfl) (by kernel_rfl) (by kernel_rfl) (fun _ _ _ h => h) (Or.inl ⟨by rfl, ?_⟩) hHeld ?_; rotate_left 1; (focus (intro wq hSw; (try dsimp only at hSw);  go_simp <;> with_reducible rfl))) | (refine wpAnyH_take (i := 5) (v := undef) (Reg.get rfl) (by kernel_rfl) (by kernel_rfl) (by kernel_rfl) (fun _ _ _ h => h) (Or.inr ⟨by rfl, rfl⟩) hHeld ?_)
        try simp only [Act.put, List.setIfInBounds_toArray, List.set_cons_zero, List.set_cons_succ]
        first | (refine wpAnyH_take (i := 6) (v := ?_) (Reg.get rfl) (by kernel_rfl) (by kernel_rfl) (by kernel_rfl) (fun _ _ _ h => h) (Or.inl ⟨by rfl, ?_⟩) hHeld ?_; rotate_left 1; (focus (intro wq hSw; (try dsimp only at hSw);  go_simp <;> with_reducible rfl))) | (refine wpAnyH_take (i := 6) (v := undef) (Reg.get rfl) (by kernel_rfl) (by kernel_rfl) (by kernel_rfl) (fun _ _ _ h => h) (Or.inr ⟨by rfl, rfl⟩) hHeld ?_)
        try simp only [Act.put, List.setIfInBounds_toArray, List.set_cons_zero, List.set_cons_succ]
        first | ((refine wpAnyH_take (i := 7) (v := undef) (Reg.get rfl) (by kernel_rfl) (by kernel_rfl) (by kernel_rfl) (fun _ _ _ h => h) (Or.inr ⟨by rfl, rfl⟩) hHeld ?_)) | (refine wpAnyH_ready (rs := [7]) (by kernel_rfl) (by simp) ?_; refine AllReadyH.cons (Reg.get rfl) (fun K hK => ?_) AllReadyH.nil; clear hHeld; go_simp; (skip); refine hK.out _ _ ?_ (fun hHeld => ?_); ((try dsimp only); skip); clear hK K)
        try simp only [Act.put, List.setIfInBounds_toArray, List.set_cons_zero, List.set_cons_succ]
        refine wpAnyH_done (by kernel_rfl) ?_ _
        clear L_m0 L_rm
        generalize hW : World.setCell _ _ _ = w3
        replace m0 : Bk.Blk w3 (w.heap.size) 29 #[.int .i64 m.n, .int .i64 (IntKind.i64.wrap (IntKind.i64.wrap (m.r + y) - 1)), .int .i64 m.c, .int .i64 m.g, .int .i64 m.m] := (by rw [← hW]; apply Bk.Blk.to; (focus ((repeat (first | with_reducible assumption | (with_reducible apply Bk.Blk.newAt; focus (first | (simp [Bk.size_set]; done) | (simp [Bk.size_set]; omega))) | with_reducible apply Bk.Blk.drewN | with_reducible apply Bk.Blk.drew | with_reducible apply Bk.Blk.set_ | (with_reducible apply Bk.Blk.far; focus (dsimp only; first | omega | (simp; omega) | (simp; done))) | with_reducible apply Bk.Blk.alloc)))); rfl)
        replace rm : Bk.Blk w3 (w.heap.size + 1) 29 #[.int .i64 0, .int .i64 0, .int .i64 0, .int .i64 0, .int .i64 0] := (by rw [← hW]; (repeat (first | with_reducible assumption | (with_reducible apply Bk.Blk.newAt; focus (first | (simp [Bk.size_set]; done) | (simp [Bk.size_set]; omega))) | with_reducible apply Bk.Blk.drewN | with_reducible apply Bk.Blk.drew | with_reducible apply Bk.Blk.set_ | (with_reducible apply Bk.Blk.far; focus (dsimp only; first | omega | (simp; omega) | (simp; done))) | with_reducible apply Bk.Blk.alloc)))
        replace C : Cur.Cur w3 (g) A n c bs := (by rw [← hW]; (repeat (first | with_reducible assumption | with_reducible apply Cur.Cur.alloc | with_reducible apply CurB.cur_drewN | with_reducible apply CurB.cur_drew | ((with_reducible refine CurB.cur_set HAL.out ?_ ?_ ?_ _); (focus (first | omega | (dsimp only; done) | (dsimp only; omega))); (focus (first | omega | (dsimp only; omega)))))))
        replace G : w.grownBy w3 (some (g)) := (by rw [← hW]; (repeat (first | with_reducible assumption | with_reducible exact World.grownBy.refl _ _ | with_reducible apply CurB.gr_alloc | with_reducible apply CurB.gr_drewN | with_reducible apply CurB.gr_drew | (with_reducible apply CurB.gr_set; focus (first | omega | (dsimp only; done) | (dsimp only; omega))))))
        have z3 : w3.heap.size = _ := congrArg (fun W : World => W.heap.size) hW.symm
        (try simp only [World.size_alloc, Bk.size_set, World.size_drew, World.drewN] at z3)
        clear hW
        have L_m0 := Lay.f5 m0
        have L_rm := Lay.f5 rm
        go_wp2
        clear L_m0 L_rm
        generalize hW : World.setCell _ _ _ = w4
        replace rm : Bk.Blk w4 (w.heap.size + 1) 29 #[.int .i64 m.n, .int .i64 (wrap64 (wrap64 (m.r + y) - 1)), .int .i64 m.c, .int .i64 m.g, .int .i64 m.m] := (by rw [← hW]; apply Bk.Blk.to; (focus ((repeat (first | with_reducible assumption | (with_reducible apply Bk.Blk.newAt; focus (first | (simp [Bk.size_set]; done) | (simp [Bk.size_set]; omega))) | with_reducible apply Bk.Blk.drewN | with_reducible apply Bk.Blk.drew | with_reducible apply Bk.Blk.set_ | (with_reducible apply Bk.Blk.far; focus (dsimp only; first | omega | (simp; omega) | (simp; done))) | with_reducible apply Bk.Blk.alloc)))); rfl)
        replace C : Cur.Cur w4 (g) A n c bs := (by rw [← hW]; (repeat (first | with_reducible assumption | with_reducible apply Cur.Cur.alloc | with_reducible apply CurB.cur_drewN | with_reducible apply CurB.cur_drew | ((with_reducible refine CurB.cur_set HAL.out ?_ ?_ ?_ _); (focus (first | omega | (dsimp only; done) | (dsimp only; omega))); (focus (first | omega | (dsimp only; omega)))))))
        replace G : w.grownBy w4 (some (g)) := (by rw [← hW]; (repeat (first | with_reducible assumption | with_reducible exact World.grownBy.refl _ _ | with_reducible apply CurB.gr_alloc | with_reducible apply CurB.gr_drewN | with_reducible apply CurB.gr_drew | (with_reducible apply CurB.gr_set; focus (first | omega | (dsimp only; done) | (dsimp only; omega))))))
        have z4 : w4.heap.size = _ := congrArg (fun W : World => W.heap.size) hW.symm
        (try simp only [World.size_alloc, Bk.size_set, World.size_drew, World.drewN] at z4)
        clear hW
        have L_rm := Lay.c5 rm
        refine bodyPost_ret (v := .agg #[.int .i64 m.n, .int .i64 (wrap64 (wrap64 (m.r + y) - 1)), .int .i64 m.c, .int .i64 m.g, .int .i64 m.m]) (by simp [results, Try.results52, go_sem, L_rm]) rfl (⟨⟨m.n, (wrap64 (wrap64 (m.r + y) - 1)), m.c, m.g, m.m⟩, ⟨HM.out.1, wrap_i64 _, HM.out.2.2.1, HM.out.2.2.2.1, HM.out.2.2.2.2⟩, rfl, C, G⟩)
      
      · skip
        clear hHeld; go_simp; ((go_at_call 49; refine (l1Below_any A n c bs g _ _ (by (repeat (first | with_reducible assumption | with_reducible apply Cur.Cur.alloc | with_reducible apply CurB.cur_drewN | with_reducible apply CurB.cur_drew | ((with_reducible refine CurB.cur_set HAL.out ?_ ?_ ?_ _); (focus (first | omega | (dsimp only; done) | (dsimp only; omega))); (focus (first | omega | (dsimp only; omega))))))) (by omega) (by omega)).mono ?_; rintro e w2 ⟨y, hy, rfl, C0, hg0⟩; clear L_m0 L_rm; replace m0 : Bk.Blk w2 (w.heap.size) 29 #[.int .i64 m.n, .int .i64 m.r, .int .i64 m.c, .int .i64 m.g, .int .i64 m.m] := Bk.Blk.grown hg0 (by omega) (by (repeat (first | with_reducible assumption | (with_reducible apply Bk.Blk.newAt; focus (first | (simp [Bk.size_set]; done) | (simp [Bk.size_set]; omega))) | with_reducible apply Bk.Blk.drewN | with_reducible apply Bk.Blk.drew | with_reducible apply Bk.Blk.set_ | (with_reducible apply Bk.Blk.far; focus (dsimp only; first | omega | (simp; omega) | (simp; done))) | with_reducible apply Bk.Blk.alloc))); replace rm : Bk.Blk w2 (w.heap.size + 1) 29 #[.int .i64 0, .int .i64 0, .int .i64 0, .int .i64 0, .int .i64 0] := Bk.Blk.grown hg0 (by omega) (by (repeat (first | with_reducible assumption | (with_reducible apply Bk.Blk.newAt; focus (first | (simp [Bk.size_set]; done) | (simp [Bk.size_set]; omega))) | with_reducible apply Bk.Blk.drewN | with_reducible apply Bk.Blk.drew | with_reducible apply Bk.Blk.set_ | (with_reducible apply Bk.Blk.far; focus (dsimp only; first | omega | (simp; omega) | (simp; done))) | with_reducible apply Bk.Blk.alloc))); replace C := C0; replace G : w.grownBy w2 (some (g)) := World.grownBy.trans (by (repeat (first | with_reducible assumption | with_reducible exact World.grownBy.refl _ _ | with_reducible apply CurB.gr_alloc | with_reducible apply CurB.gr_drewN | with_reducible apply CurB.gr_drew | (with_reducible apply CurB.gr_set; focus (first | omega | (dsimp only; done) | (dsimp only; omega)))))) hg0; have z2 := hg0.size; (try simp only [World.size_alloc, Bk.size_set, World.size_drew, World.drewN] at z2); clear hg0; have L_m0 := Lay.f5 m0; have L_rm := Lay.f5 rm)); refine hK.out _ _ ?_ (fun hHeld => ?_); ((try dsimp only); skip); clear hK K
        try simp only [Act.put, List.setIfInBounds_toArray, List.set_cons_zero, List.set_cons_succ]
        first | ((refine wpAnyH_take (i := 1) (v := undef) (Reg.get rfl) (by kernel_rfl) (by kernel_rfl) (by kernel_rfl) (fun _ _ _ h => h) (Or.inr ⟨by rfl, rfl⟩) hHeld ?_)) | (refine wpAnyH_ready (rs := [1]) (by kernel_rfl) (by simp) ?_; refine AllReadyH.cons (Reg.get rfl) (fun K hK => ?_) AllReadyH.nil; clear hHeld; go_simp; (skip); refine hK.out _ _ ?_ (fun hHeld => ?_); ((try dsimp only); skip); clear hK K)
        try simp only [Act.put, List.setIfInBounds_toArray, List.set_cons_zero, List.set_cons_succ]
        first | (refine wpAnyH_take (i := 4) (v := ?_) (Reg.get rfl) (by kernel_rfl) (by kernel_rfl) (by kernel_rfl) (fun _ _ _ h => h) (Or.inl ⟨by rfl, ?_⟩) hHeld ?_; rotate_left 1; (focus (intro wq hSw; (try dsimp only at hSw);  go_simp <;> with_reducible rfl))) | (refine wpAnyH_take (i := 4) (v := undef) (Reg.get rfl) (by kernel_rfl) (by kernel_rfl) (by kernel_rfl) (fun _ _ _ h => h) (Or.inr ⟨by rfl, rfl⟩) hHeld ?_)
        try simp only [Act.put, List.setIfInBounds_toArray, List.set_cons_zero, List.set_cons_succ]
        first | (refine wpAnyH_take (i := 5) (v := ?_) (Reg.get rfl) (by kernel_rfl) (by kernel_rfl) (by kernel_rfl) (fun _ _ _ h => h) (Or.inl ⟨by rfl, ?_⟩) hHeld ?_; rotate_left 1; (focus (intro wq hSw; (try dsimp only at hSw);  go_simp <;> with_reducible rfl))) | (refine wpAnyH_take (i := 5) (v := undef) (Reg.get rfl) (by kernel_rfl) (by kernel_rfl) (by kernel_rfl) (fun _ _ _ h => h) (Or.inr ⟨by rfl, rfl⟩) hHeld ?_)
        try simp only [Act.put, List.setIfInBounds_toArray, List.set_cons_zero, List.set_cons_succ]
        first | (refine wpAnyH_take (i := 6) (v := ?_) (Reg.get rfl) (by kernel_rfl) (by kernel_rfl) (by kernel_rfl) (fun _ _ _ h => h) (Or.inl ⟨by rfl, ?_⟩) hHeld ?_; rotate_left 1; (focus (intro wq hSw; (try dsimp only at hSw);  go_simp <;> with_reducible rfl))) | (refine wpAnyH_take (i := 6) (v := undef) (Reg.get rfl) (by kernel_rfl) (by kernel_rfl) (by kernel_rfl) (fun _ _ _ h => h) (Or.inr ⟨by rfl, rfl⟩) hHeld ?_)
        try simp only [Act.put, List.setIfInBounds_toArray, List.set_cons_zero, List.set_cons_succ]
        first | ((refine wpAnyH_take (i := 7) (v := undef) (Reg.get rfl) (by kernel_rfl) (by kernel_rfl) (by kernel_rfl) (fun _ _ _ h => h) (Or.inr ⟨by rfl, rfl⟩) hHeld ?_)) | (refine wpAnyH_ready (rs := [7]) (by kernel_rfl) (by simp) ?_; refine AllReadyH.cons (Reg.get rfl) (fun K hK => ?_) AllReadyH.nil; clear hHeld; go_simp; (skip); refine hK.out _ _ ?_ (fun hHeld => ?_); ((try dsimp only); skip); clear hK K)
        try simp only [Act.put, List.setIfInBounds_toArray, List.set_cons_zero, List.set_cons_succ]
        refine wpAnyH_done (by kernel_rfl) ?_ _
        clear L_m0 L_rm
        generalize hW : World.setCell _ _ _ = w3
        replace m0 : Bk.Blk w3 (w.heap.size) 29 #[.int .i64 m.n, .int .i64 (IntKind.i64.wrap (IntKind.i64.wrap (m.r + y) - 1)), .int .i64 m.c, .int .i64 m.g, .int .i64 m.m] := (by rw [← hW]; apply Bk.Blk.to; (focus ((repeat (first | with_reducible assumption | (with_reducible apply Bk.Blk.newAt; focus (first | (simp [Bk.size_set]; done) | (simp [Bk.size_set]; omega))) | with_reducible apply Bk.Blk.drewN | with_reducible apply Bk.Blk.drew | with_reducible apply Bk.Blk.set_ | (with_reducible apply Bk.Blk.far; focus (dsimp only; first | omega | (simp; omega) | (simp; done))) | with_reducible apply Bk.Blk.alloc)))); rfl)
        replace rm : Bk.Blk w3 (w.heap.size + 1) 29 #[.int .i64 0, .int .i64 0, .int .i64 0, .int .i64 0, .int .i64 0] := (by rw [← hW]; (repeat (first | with_reducible assumption | (with_reducible apply Bk.Blk.newAt; focus (first | (simp [Bk.size_set]; done) | (simp [Bk.size_set]; omega))) | with_reducible apply Bk.Blk.drewN | with_reducible apply Bk.Blk.drew | with_reducible apply Bk.Blk.set_ | (with_reducible apply Bk.Blk.far; focus (dsimp only; first | omega | (simp; omega) | (simp; done))) | with_reducible apply Bk.Blk.alloc)))
        replace C : Cur.Cur w3 (g) A n c bs := (by rw [← hW]; (repeat (first | with_reducible assumption | with_reducible apply Cur.Cur.alloc | with_reducible apply CurB.cur_drewN | with_reducible apply CurB.cur_drew | ((with_reducible refine CurB.cur_set HAL.out ?_ ?_ ?_ _); (focus (first | omega | (dsimp only; done) | (dsimp only; omega))); (focus (first | omega | (dsimp only; omega)))))))
        replace G : w.grownBy w3 (some (g)) := (by rw [← hW]; (repeat (first | with_reducible assumption | with_reducible exact World.grownBy.refl _ _ | with_reducible apply CurB.gr_alloc | with_reducible apply CurB.gr_drewN | with_reducible apply CurB.gr_drew | (with_reducible apply CurB.gr_set; focus (first | omega | (dsimp only; done) | (dsimp only; omega))))))
        have z3 : w3.heap.size = _ := congrArg (fun W : World => W.heap.size) hW.symm
        (try simp only [World.size_alloc, Bk.size_set, World.size_drew, World.drewN] at z3)
        clear hW
        have L_m0 := Lay.f5 m0
        have L_rm := Lay.f5 rm
        go_wp2
        clear L_m0 L_rm
        generalize hW : World.setCell _ _ _ = w4
        replace rm : Bk.Blk w4 (w.heap.size + 1) 29 #[.int .i64 m.n, .int .i64 (wrap64 (wrap64 (m.r + y) - 1)), .int .i64 m.c, .int .i64 m.g, .int .i64 m.m] := (by rw [← hW]; apply Bk.Blk.to; (focus ((repeat (first | with_reducible assumption | (with_reducible apply Bk.Blk.newAt; focus (first | (simp [Bk.size_set]; done) | (simp [Bk.size_set]; omega))) | with_reducible apply Bk.Blk.drewN | with_reducible apply Bk.Blk.drew | with_reducible apply Bk.Blk.set_ | (with_reducible apply Bk.Blk.far; focus (dsimp only; first | omega | (simp; omega) | (simp; done))) | with_reducible apply Bk.Blk.alloc)))); rfl)
        replace C : Cur.Cur w4 (g) A n c bs := (by rw [← hW]; (repeat (first | with_reducible assumption | with_reducible apply Cur.Cur.alloc | with_reducible apply CurB.cur_drewN | with_reducible apply CurB.cur_drew | ((with_reducible refine CurB.cur_set HAL.out ?_ ?_ ?_ _); (focus (first | omega | (dsimp only; done) | (dsimp only; omega))); (focus (first | omega | (dsimp only; omega)))))))
        replace G : w.grownBy w4 (some (g)) := (by rw [← hW]; (repeat (first | with_reducible assumption | with_reducible exact World.grownBy.refl _ _ | with_reducible apply CurB.gr_alloc | with_reducible apply CurB.gr_drewN | with_reducible apply CurB.gr_drew | (with_reducible apply CurB.gr_set; focus (first | omega | (dsimp only; done) | (dsimp only; omega))))))
        have z4 : w4.heap.size = _ := congrArg (fun W : World => W.heap.size) hW.symm
        (try simp only [World.size_alloc, Bk.size_set, World.size_drew, World.drewN] at z4)
        clear hW
        have L_rm := Lay.c5 rm
        refine bodyPost_ret (v := .agg #[.int .i64 m.n, .int .i64 (wrap64 (wrap64 (m.r + y) - 1)), .int .i64 m.c, .int .i64 m.g, .int .i64 m.m]) (by simp [results, Try.results52, go_sem, L_rm]) rfl (⟨⟨m.n, (wrap64 (wrap64 (m.r + y) - 1)), m.c, m.g, m.m⟩, ⟨HM.out.1, wrap_i64 _, HM.out.2.2.1, HM.out.2.2.2.1, HM.out.2.2.2.2⟩, rfl, C, G⟩)
    · have r1 : (x == 1) = false := by simpa using q1
      clear q1
      by_cases q2 : x = 2
      · have r2 : (x == 2) = true := by simpa using q2
        clear q2
        go_wp2_with fail
        refine (l1Below_any A n c bs g _ _ (by (repeat (first | with_reducible assumption | with_reducible apply Cur.Cur.alloc | with_reducible apply CurB.cur_drewN | with_reducible apply CurB.cur_drew | ((with_reducible refine CurB.cur_set HAL.out ?_ ?_ ?_ _); (focus (first | omega | (dsimp only; done) | (dsimp only; omega))); (focus (first | omega | (dsimp only; omega))))))) (by omega) (by omega)).mono ?_
        rintro x w2 ⟨y, hy, rfl, C0, hg0⟩
        replace m0 : Bk.Blk w2 (w.heap.size) 29 #[.int .i64 m.n, .int .i64 m.r, .int .i64 m.c, .int .i64 m.g, .int .i64 m.m] := Bk.Blk.grown hg0 (by omega) (by (repeat (first | with_reducible assumption | (with_reducible apply Bk.Blk.newAt; focus (first | (simp [Bk.size_set]; done) | (simp [Bk.size_set]; omega))) | with_reducible apply Bk.Blk.drewN | with_reducible apply Bk.Blk.drew | with_reducible apply Bk.Blk.set_ | (with_reducible apply Bk.Blk.far; focus (dsimp only; first | omega | (simp; omega) | (simp; done))) | with_reducible apply Bk.Blk.alloc)))
        replace rm : Bk.Blk w2 (w.heap.size + 1) 29 #[.int .i64 0, .int .i64 0, .int .i64 0, .int .i64 0, .int .i64 0] := Bk.Blk.grown hg0 (by omega) (by (repeat (first | with_reducible assumption | (with_reducible apply Bk.Blk.newAt; focus (first | (simp [Bk.size_set]; done) | (simp [Bk.size_set]; omega))) | with_reducible apply Bk.Blk.drewN | with_reducible apply Bk.Blk.drew | with_reducible apply Bk.Blk.set_ | (with_reducible apply Bk.Blk.far; focus (dsimp only; first | omega | (simp; omega) | (simp; done))) | with_reducible apply Bk.Blk.alloc)))
        replace C := C0
        replace G : w.grownBy w2 (some (g)) := World.grownBy.trans (by (repeat (first | with_reducible assumption | with_reducible exact World.grownBy.refl _ _ | with_reducible apply CurB.gr_alloc | with_reducible apply CurB.gr_drewN | with_reducible apply CurB.gr_drew | (with_reducible apply CurB.gr_set; focus (first | omega | (dsimp only; done) | (dsimp only; omega)))))) hg0
        have z2 := hg0.size
        (try simp only [World.size_alloc, Bk.size_set, World.size_drew, World.drewN] at z2)
        clear hg0
        have HY := Lib.hid hy
        clear hy
        have L_m0 := Lay.f5 m0
        have L_rm := Lay.f5 rm
        go_wp2
        clear L_m0 L_rm
        generalize hW : World.setCell _ _ _ = w3
        replace rm : Bk.Blk w3 (w.heap.size + 1) 29 #[.int .i64 y, .int .i64 m.r, .int .i64 m.c, .int .i64 m.g, .int .i64 m.m] := (by rw [← hW]; apply Bk.Blk.to; (focus ((repeat (first | with_reducible assumption | (with_reducible apply Bk.Blk.newAt; focus (first | (simp [Bk.size_set]; done) | (simp [Bk.size_set]; omega))) | with_reducible apply Bk.Blk.drewN | with_reducible apply Bk.Blk.drew | with_reducible apply Bk.Blk.set_ | (with_reducible apply Bk.Blk.far; focus (dsimp only; first | omega | (simp; omega) | (simp; done))) | with_reducible apply Bk.Blk.alloc)))); rfl)
        replace C : Cur.Cur w3 (g) A n c bs := (by rw [← hW]; (repeat (first | with_reducible assumption | with_reducible apply Cur.Cur.alloc | with_reducible apply CurB.cur_drewN | with_reducible apply CurB.cur_drew | ((with_reducible refine CurB.cur_set HAL.out ?_ ?_ ?_ _); (focus (first | omega | (dsimp only; done) | (dsimp only; omega))); (focus (first | omega | (dsimp only; omega)))))))
        replace G : w.grownBy w3 (some (g)) := (by rw [← hW]; (repeat (first | with_reducible assumption | with_reducible exact World.grownBy.refl _ _ | with_reducible apply CurB.gr_alloc | with_reducible apply CurB.gr_drewN | with_reducible apply CurB.gr_drew | (with_reducible apply CurB.gr_set; focus (first | omega | (dsimp only; done) | (dsimp only; omega))))))
        have z3 : w3.heap.size = _ := congrArg (fun W : World => W.heap.size) hW.symm
        (try simp only [World.size_alloc, Bk.size_set, World.size_drew, World.drewN] at z3)
        clear hW
        have L_rm := Lay.c5 rm
        refine bodyPost_ret (v := .agg #[.int .i64 y, .int .i64 m.r, .int .i64 m.c, .int .i64 m.g, .int .i64 m.m]) (by simp [results, Try.results52, go_sem, L_rm]) rfl (⟨⟨y, m.r, m.c, m.g, m.m⟩, ⟨⟨Int.le_trans (by omega) HY.out.1, Int.le_trans (Int.le_of_lt HY.out.2) (by omega)⟩, HM.out.2.1, HM.out.2.2.1, HM.out.2.2.2.1, HM.out.2.2.2.2⟩, rfl, C, G⟩)
      · have r2 : (x == 2) = false := by simpa using q2
        clear q2
        by_cases q3 : x = 3
        · have r3 : (x == 3) = true := by simpa using q3
          clear q3
          have L_m0 := Lay.f5 m0
          have L_rm := Lay.f5 rm
          go_wp2
          clear L_m0 L_rm
          generalize hW : World.setCell _ _ _ = w2
          replace rm : Bk.Blk w2 (w.heap.size + 1) 29 #[.int .i64 m.n, .int .i64 m.r, .int .i64 (wrap64 (m.c + 1)), .int .i64 m.g, .int .i64 m.m] := (by rw [← hW]; apply Bk.Blk.to; (focus ((repeat (first | with_reducible assumption | (with_reducible apply Bk.Blk.newAt; focus (first | (simp [Bk.size_set]; done) | (simp [Bk.size_set]; omega))) | with_reducible apply Bk.Blk.drewN | with_reducible apply Bk.Blk.drew | with_reducible apply Bk.Blk.set_ | (with_reducible apply Bk.Blk.far; focus (dsimp only; first | omega | (simp; omega) | (simp; done))) | with_reducible apply Bk.Blk.alloc)))); rfl)
          replace C : Cur.Cur w2 (g) A n c bs := (by rw [← hW]; (repeat (first | with_reducible assumption | with_reducible apply Cur.Cur.alloc | with_reducible apply CurB.cur_drewN | with_reducible apply CurB.cur_drew | ((with_reducible refine CurB.cur_set HAL.out ?_ ?_ ?_ _); (focus (first | omega | (dsimp only; done) | (dsimp only; omega))); (focus (first | omega | (dsimp only; omega)))))))
          replace G : w.grownBy w2 (some (g)) := (by rw [← hW]; (repeat (first | with_reducible assumption | with_reducible exact World.grownBy.refl _ _ | with_reducible apply CurB.gr_alloc | with_reducible apply CurB.gr_drewN | with_reducible apply CurB.gr_drew | (with_reducible apply CurB.gr_set; focus (first | omega | (dsimp only; done) | (dsimp only; omega))))))
          have z2 : w2.heap.size = _ := congrArg (fun W : World => W.heap.size) hW.symm
          (try simp only [World.size_alloc, Bk.size_set, World.size_drew, World.drewN] at z2)
          clear hW
          have L_rm := Lay.c5 rm
          refine bodyPost_ret (v := .agg #[.int .i64 m.n, .int .i64 m.r, .int .i64 (wrap64 (m.c + 1)), .int .i64 m.g, .int .i64 m.m]) (by simp [results, Try.results52, go_sem, L_rm]) rfl (⟨⟨m.n, m.r, wrap64 (m.c + 1), m.g, m.m⟩, ⟨HM.out.1, HM.out.2.1, wrap_i64 _, HM.out.2.2.2.1, HM.out.2.2.2.2⟩, rfl, C, G⟩)
        · have r3 : (x == 3) = false := by simpa using q3
          clear q3
          have L_m0 := Lay.f5 m0
          have L_rm := Lay.f5 rm
          go_wp2
          clear L_m0 L_rm
          generalize hW : World.setCell _ _ _ = w2
          replace rm : Bk.Blk w2 (w.heap.size + 1) 29 #[.int .i64 m.n, .int .i64 m.r, .int .i64 m.c, .int .i64 m.g, .int .i64 m.m] := (by rw [← hW]; apply Bk.Blk.to; (focus ((repeat (first | with_reducible assumption | (with_reducible apply Bk.Blk.newAt; focus (first | (simp [Bk.size_set]; done) | (simp [Bk.size_set]; omega))) | with_reducible apply Bk.Blk.drewN | with_reducible apply Bk.Blk.drew | with_reducible apply Bk.Blk.set_ | (with_reducible apply Bk.Blk.far; focus (dsimp only; first | omega | (simp; omega) | (simp; done))) | with_reducible apply Bk.Blk.alloc)))); rfl)
          replace C : Cur.Cur w2 (g) A n c bs := (by rw [← hW]; (repeat (first | with_reducible assumption | with_reducible apply Cur.Cur.alloc | with_reducible apply CurB.cur_drewN | with_reducible apply CurB.cur_drew | ((with_reducible refine CurB.cur_set HAL.out ?_ ?_ ?_ _); (focus (first | omega | (dsimp only; done) | (dsimp only; omega))); (focus (first | omega | (dsimp only; omega)))))))
          replace G : w.grownBy w2 (some (g)) := (by rw [← hW]; (repeat (first | with_reducible assumption | with_reducible exact World.grownBy.refl _ _ | with_reducible apply CurB.gr_alloc | with_reducible apply CurB.gr_drewN | with_reducible apply CurB.gr_drew | (with_reducible apply CurB.gr_set; focus (first | omega | (dsimp only; done) | (dsimp only; omega))))))
          have z2 : w2.heap.size = _ := congrArg (fun W : World => W.heap.size) hW.symm
          (try simp only [World.size_alloc, Bk.size_set, World.size_drew, World.drewN] at z2)
          clear hW
          have L_rm := Lay.c5 rm
          refine bodyPost_ret (v := .agg #[.int .i64 m.n, .int .i64 m.r, .int .i64 m.c, .int .i64 m.g, .int .i64 m.m]) (by simp [results, Try.results52, go_sem, L_rm]) rfl (⟨m, HM.out, rfl, C, G⟩)
end Go.Proofs.Ytmhcbiipbilakaa.Hs
