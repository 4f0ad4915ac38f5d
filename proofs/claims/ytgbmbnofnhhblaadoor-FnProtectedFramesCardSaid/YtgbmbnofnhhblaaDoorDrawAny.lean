/- The drawn key state, perhaps spoilt; a key state and a body. -/
import Derived.Test.YtgbmbnofnhhblaaDoorDrawSt
namespace Go.Proofs.YtgbmbnofnhhblaaDoor.Seal
open Go.RowKit
open Go.Proofs.YtgbmbnofnhhblaaDoor.Num Go.Proofs.YtgbmbnofnhhblaaDoor.Mem Go.Proofs.YtgbmbnofnhhblaaDoor.Hsh Go.Proofs.YtgbmbnofnhhblaaDoor.Itoa Go.Proofs.YtgbmbnofnhhblaaDoor.Pass Go.Proofs.YtgbmbnofnhhblaaDoor.Sls Go.Proofs.YtgbmbnofnhhblaaDoor.Own Go.Proofs.YtgbmbnofnhhblaaDoor.Ks Go.Proofs.YtgbmbnofnhhblaaDoor.Cur
set_option linter.unusedSimpArgs false
set_option linter.unusedVariables false
/-- a key state whose row has at most b numbers has been drawn -/
def DrewK2 (b : Nat) (w : World) (g : Nat) (A : Option Addr) (n c : Nat) (bs : List Int) (e : Ending) (w' : World) : Prop :=
  ∃ (ke se re : Int) (q : Nat) (zs : List Int) (L : Option Addr) (d : Nat), q ≤ b ∧ w'.ownsRow w.heap.size 3 1 (.slice L q d) q (zs.map (Value.int .i64)) ∧ e = .returned (.agg #[.int .i64 ke, .int .i64 se, .int .i64 re, .slice L q d]) ∧ Cur w' g A n c bs ∧ w.grownBy w' (some g)
theorem l31State_any2 (A : Option Addr) (n c : Nat) (bs : List Int) (g : Nat) (w : World) (hcur : Cur w g A n c bs) :
    Calls Tryd.prog 66 #[.pointer (some ⟨g, 0, none⟩)] w (DrewK2 16 w g A n c bs) := by
  refine (l31State_any A n c bs g w hcur).mono ?_
  rintro e w' ⟨ke, se, re, q, zs, L, d, hq, rfl, ho, C0, hg0⟩
  exact ⟨ke, se, re, q, zs, L, d, hq, ho, rfl, C0, hg0⟩
theorem rd_threeK {W w' : World} {a b d : Int} {t : TypeId} (hW : W.alloc (.cells #[.int .i64 a, .int .i64 b, .int .i64 d] t) = w') : Rd w' 1 (some ⟨W.heap.size, 0, none⟩) 3 3 (([a, b, d] : List Int).map (Value.int .i64)) := hW ▸ Rd.litAt W (([a, b, d] : List Int).map (Value.int .i64)) t 3 W.heap.size rfl rfl (by unfold maxLen; omega)
theorem own_ne {w : World} {base n b c : Nat} {e t : TypeId} {sz : Nat} {A : Option Addr} {xs : List Value} {cs : Array Value} (h : w.ownsRow base e sz (.slice A n c) n xs) (hb : Bk.Blk w b t cs) (ht : t ≠ e) : some b ≠ blk A := by
  intro hE
  obtain ⟨_, h2⟩ := h
  rcases h2 with h2 | ⟨g, cap, cur, hv, h3, h4, h5⟩
  · obtain ⟨h2, _⟩ := h2
    injection h2 with h2
    subst h2
    simp [blk] at hE
  · injection hv with hv
    subst hv
    simp [blk] at hE
    subst hE
    unfold Bk.Blk at hb
    rw [hb] at h4
    simp only [Option.some.injEq, Obj.cells.injEq] at h4
    exact ht h4.2.1
theorem rd_fiveK {W w' : World} {a b d e f : Int} {t : TypeId} (hW : W.alloc (.cells #[.int .i64 a, .int .i64 b, .int .i64 d, .int .i64 e, .int .i64 f] t) = w') : Rd w' 1 (some ⟨W.heap.size, 0, none⟩) 5 5 (([a, b, d, e, f] : List Int).map (Value.int .i64)) := hW ▸ Rd.litAt W (([a, b, d, e, f] : List Int).map (Value.int .i64)) t 5 W.heap.size rfl rfl (by unfold maxLen; omega)
set_option maxRecDepth 100000 in
set_option maxHeartbeats 16000000 in
theorem l31Any_any (A : Option Addr) (n c : Nat) (bs : List Int) (g : Nat) (w : World) (hcur : Cur w g A n c bs) :
    Calls Tryd.prog 46 #[.pointer (some ⟨g, 0, none⟩)] w (DrewK2 17 w g A n c bs) := by
  obtain ⟨i0, hi, hz0, hzA, hzB⟩ := info_parts intInfo
  have HAL := Lib.hid (CurB.old_cur hcur)
  have hgl := hcur.lt
  have C := hcur
  have G : w.grownBy w (some g) := World.grownBy.refl _ _
  clear hcur
  go_enter Tryd.func46, Tryd.ntmps46
  go_wp2_with fail
  generalize hW : World.alloc _ _ = w1
  have r0 : Bk.Blk w1 (w.heap.size) 27 #[.int .i64 0, .int .i64 0, .int .i64 0, .slice none 0 0] := (by rw [← hW]; apply Bk.Blk.to; (focus ((repeat (first | with_reducible assumption | (with_reducible apply Bk.Blk.newAt; focus (first | (simp [Bk.size_set]; done) | (simp [Bk.size_set]; omega))) | with_reducible apply Bk.Blk.drewN | with_reducible apply Bk.Blk.drew | with_reducible apply Bk.Blk.set_ | (with_reducible apply Bk.Blk.far; focus (dsimp only; first | omega | (simp; omega) | (simp; done))) | with_reducible apply Bk.Blk.alloc)))); rfl)
  replace C : Cur.Cur w1 (g) A n c bs := (by rw [← hW]; (repeat (first | with_reducible assumption | with_reducible apply Cur.Cur.alloc | with_reducible apply CurB.cur_drewN | with_reducible apply CurB.cur_drew | ((with_reducible refine CurB.cur_set HAL.out ?_ ?_ ?_ _); (focus (first | omega | (dsimp only; done) | (dsimp only; omega))); (focus (first | omega | (dsimp only; omega)))))))
  replace G : w.grownBy w1 (some (g)) := (by rw [← hW]; (repeat (first | with_reducible assumption | with_reducible exact World.grownBy.refl _ _ | with_reducible apply CurB.gr_alloc | with_reducible apply CurB.gr_drewN | with_reducible apply CurB.gr_drew | (with_reducible apply CurB.gr_set; focus (first | omega | (dsimp only; done) | (dsimp only; omega))))))
  have z1 : w1.heap.size = _ := congrArg (fun W : World => W.heap.size) hW.symm
  (try simp only [World.size_alloc, Bk.size_set, World.size_drew, World.drewN] at z1)
  clear hW
  go_wp2_with fail
  refine (l31State_any2 A n c bs g _ (by (repeat (first | with_reducible assumption | with_reducible apply Cur.Cur.alloc | with_reducible apply CurB.cur_drewN | with_reducible apply CurB.cur_drew | ((with_reducible refine CurB.cur_set HAL.out ?_ ?_ ?_ _); (focus (first | omega | (dsimp only; done) | (dsimp only; omega))); (focus (first | omega | (dsimp only; omega)))))))).mono ?_
  rintro x w2 ⟨ke, se, re, q, zs, L, d, hq, ho, rfl, C0, hg0⟩
  have HO := ho
  replace r0 : Bk.Blk w2 (w.heap.size) 27 #[.int .i64 0, .int .i64 0, .int .i64 0, .slice none 0 0] := Bk.Blk.grown hg0 (by omega) (by (repeat (first | with_reducible assumption | (with_reducible apply Bk.Blk.newAt; focus (first | (simp [Bk.size_set]; done) | (simp [Bk.size_set]; omega))) | with_reducible apply Bk.Blk.drewN | with_reducible apply Bk.Blk.drew | with_reducible apply Bk.Blk.set_ | (with_reducible apply Bk.Blk.far; focus (dsimp only; first | omega | (simp; omega) | (simp; done))) | with_reducible apply Bk.Blk.alloc)))
  replace C := C0
  replace G : w.grownBy w2 (some (g)) := World.grownBy.trans (by (repeat (first | with_reducible assumption | with_reducible exact World.grownBy.refl _ _ | with_reducible apply CurB.gr_alloc | with_reducible apply CurB.gr_drewN | with_reducible apply CurB.gr_drew | (with_reducible apply CurB.gr_set; focus (first | omega | (dsimp only; done) | (dsimp only; omega)))))) hg0
  have z2 := hg0.size
  (try simp only [World.size_alloc, Bk.size_set, World.size_drew, World.drewN] at z2)
  clear hg0
  clear ho
  go_wp2_with fail
  generalize hW : World.alloc _ _ = w3
  replace HO := own_toE HO hW
  have bk : Bk.Blk w3 (w2.heap.size) 27 #[.int .i64 ke, .int .i64 se, .int .i64 re, .slice L q d] := (by rw [← hW]; apply Bk.Blk.to; (focus ((repeat (first | with_reducible assumption | (with_reducible apply Bk.Blk.newAt; focus (first | (simp [Bk.size_set]; done) | (simp [Bk.size_set]; omega))) | with_reducible apply Bk.Blk.drewN | with_reducible apply Bk.Blk.drew | with_reducible apply Bk.Blk.set_ | (with_reducible apply Bk.Blk.far; focus (dsimp only; first | omega | (simp; omega) | (simp; done))) | with_reducible apply Bk.Blk.alloc)))); rfl)
  replace r0 : Bk.Blk w3 (w.heap.size) 27 #[.int .i64 0, .int .i64 0, .int .i64 0, .slice none 0 0] := (by rw [← hW]; (repeat (first | with_reducible assumption | (with_reducible apply Bk.Blk.newAt; focus (first | (simp [Bk.size_set]; done) | (simp [Bk.size_set]; omega))) | with_reducible apply Bk.Blk.drewN | with_reducible apply Bk.Blk.drew | with_reducible apply Bk.Blk.set_ | (with_reducible apply Bk.Blk.far; focus (dsimp only; first | omega | (simp; omega) | (simp; done))) | with_reducible apply Bk.Blk.alloc)))
  replace C : Cur.Cur w3 (g) A n c bs := (by rw [← hW]; (repeat (first | with_reducible assumption | with_reducible apply Cur.Cur.alloc | with_reducible apply CurB.cur_drewN | with_reducible apply CurB.cur_drew | ((with_reducible refine CurB.cur_set HAL.out ?_ ?_ ?_ _); (focus (first | omega | (dsimp only; done) | (dsimp only; omega))); (focus (first | omega | (dsimp only; omega)))))))
  replace G : w.grownBy w3 (some (g)) := (by rw [← hW]; (repeat (first | with_reducible assumption | with_reducible exact World.grownBy.refl _ _ | with_reducible apply CurB.gr_alloc | with_reducible apply CurB.gr_drewN | with_reducible apply CurB.gr_drew | (with_reducible apply CurB.gr_set; focus (first | omega | (dsimp only; done) | (dsimp only; omega))))))
  have z3 : w3.heap.size = _ := congrArg (fun W : World => W.heap.size) hW.symm
  (try simp only [World.size_alloc, Bk.size_set, World.size_drew, World.drewN] at z3)
  clear hW
  go_wp2_with fail
  refine (l1Below_any A n c bs g _ _ (by (repeat (first | with_reducible assumption | with_reducible apply Cur.Cur.alloc | with_reducible apply CurB.cur_drewN | with_reducible apply CurB.cur_drew | ((with_reducible refine CurB.cur_set HAL.out ?_ ?_ ?_ _); (focus (first | omega | (dsimp only; done) | (dsimp only; omega))); (focus (first | omega | (dsimp only; omega))))))) (by omega) (by omega)).mono ?_
  rintro x w4 ⟨x, hx, rfl, C0, hg0⟩
  replace HO := own_grownK HO hg0 (by omega)
  replace r0 : Bk.Blk w4 (w.heap.size) 27 #[.int .i64 0, .int .i64 0, .int .i64 0, .slice none 0 0] := Bk.Blk.grown hg0 (by omega) (by (repeat (first | with_reducible assumption | (with_reducible apply Bk.Blk.newAt; focus (first | (simp [Bk.size_set]; done) | (simp [Bk.size_set]; omega))) | with_reducible apply Bk.Blk.drewN | with_reducible apply Bk.Blk.drew | with_reducible apply Bk.Blk.set_ | (with_reducible apply Bk.Blk.far; focus (dsimp only; first | omega | (simp; omega) | (simp; done))) | with_reducible apply Bk.Blk.alloc)))
  replace bk : Bk.Blk w4 (w2.heap.size) 27 #[.int .i64 ke, .int .i64 se, .int .i64 re, .slice L q d] := Bk.Blk.grown hg0 (by omega) (by (repeat (first | with_reducible assumption | (with_reducible apply Bk.Blk.newAt; focus (first | (simp [Bk.size_set]; done) | (simp [Bk.size_set]; omega))) | with_reducible apply Bk.Blk.drewN | with_reducible apply Bk.Blk.drew | with_reducible apply Bk.Blk.set_ | (with_reducible apply Bk.Blk.far; focus (dsimp only; first | omega | (simp; omega) | (simp; done))) | with_reducible apply Bk.Blk.alloc)))
  replace C := C0
  replace G : w.grownBy w4 (some (g)) := World.grownBy.trans (by (repeat (first | with_reducible assumption | with_reducible exact World.grownBy.refl _ _ | with_reducible apply CurB.gr_alloc | with_reducible apply CurB.gr_drewN | with_reducible apply CurB.gr_drew | (with_reducible apply CurB.gr_set; focus (first | omega | (dsimp only; done) | (dsimp only; omega)))))) hg0
  have z4 := hg0.size
  (try simp only [World.size_alloc, Bk.size_set, World.size_drew, World.drewN] at z4)
  clear hg0
  clear hx
  have zbk := bk.lt
  by_cases q0 : x = 0
  · skip
    have r0e : (x == 0) = true := by simpa using q0
    clear q0
    go_wp2_with fail
    refine (l1Int_any A n c bs g _ 4 4 [0, -1, 2147483646, 2147483647] _ (by (repeat (first | with_reducible assumption | with_reducible apply Cur.Cur.alloc | with_reducible apply CurB.cur_drewN | with_reducible apply CurB.cur_drew | ((with_reducible refine CurB.cur_set HAL.out ?_ ?_ ?_ _); (focus (first | omega | (dsimp only; done) | (dsimp only; omega))); (focus (first | omega | (dsimp only; omega))))))) (by exact Rd.litAt _ (([0, -1, 2147483646, 2147483647] : List Int).map (Value.int .i64)) _ 4 _ (by simp) rfl (by unfold maxLen; omega)) (fun e => by simp [blk] at e; have := C.lt; omega) (by omega) (by omega)).mono ?_
    rintro x w5 ⟨v, hv, rfl, C0, hg0⟩
    replace HO := own_grownK (own_allocK HO _) hg0 (by omega)
    replace r0 : Bk.Blk w5 (w.heap.size) 27 #[.int .i64 0, .int .i64 0, .int .i64 0, .slice none 0 0] := Bk.Blk.grown hg0 (by omega) (by (repeat (first | with_reducible assumption | (with_reducible apply Bk.Blk.newAt; focus (first | (simp [Bk.size_set]; done) | (simp [Bk.size_set]; omega))) | with_reducible apply Bk.Blk.drewN | with_reducible apply Bk.Blk.drew | with_reducible apply Bk.Blk.set_ | (with_reducible apply Bk.Blk.far; focus (dsimp only; first | omega | (simp; omega) | (simp; done))) | with_reducible apply Bk.Blk.alloc)))
    replace bk : Bk.Blk w5 (w2.heap.size) 27 #[.int .i64 ke, .int .i64 se, .int .i64 re, .slice L q d] := Bk.Blk.grown hg0 (by omega) (by (repeat (first | with_reducible assumption | (with_reducible apply Bk.Blk.newAt; focus (first | (simp [Bk.size_set]; done) | (simp [Bk.size_set]; omega))) | with_reducible apply Bk.Blk.drewN | with_reducible apply Bk.Blk.drew | with_reducible apply Bk.Blk.set_ | (with_reducible apply Bk.Blk.far; focus (dsimp only; first | omega | (simp; omega) | (simp; done))) | with_reducible apply Bk.Blk.alloc)))
    replace C := C0
    replace G : w.grownBy w5 (some (g)) := World.grownBy.trans (by (repeat (first | with_reducible assumption | with_reducible exact World.grownBy.refl _ _ | with_reducible apply CurB.gr_alloc | with_reducible apply CurB.gr_drewN | with_reducible apply CurB.gr_drew | (with_reducible apply CurB.gr_set; focus (first | omega | (dsimp only; done) | (dsimp only; omega)))))) hg0
    have z5 := hg0.size
    (try simp only [World.size_alloc, Bk.size_set, World.size_drew, World.drewN] at z5)
    clear hg0
    clear hv
    have L_bk := Lay.f4 bk
    have L_r0 := Lay.f4 r0
    go_wp2_with fail
    clear L_bk L_r0
    generalize hW : World.setCell _ _ _ = w7
    have HO2 := Lib.hid (show w7.ownsRow w.heap.size 3 1 (.slice L q d) q (zs.map (Value.int .i64)) from by rw [← hW]; exact (own_low HO (by omega) (by repeat (first | with_reducible exact own_farK HO bk (by decide) _ | (with_reducible refine own_set ?_ (by dsimp only; omega) _) | with_reducible refine own_drewE ?_))))
    replace r0 : Bk.Blk w7 (w.heap.size) 27 #[.int .i64 v, .int .i64 se, .int .i64 re, .slice L q d] := (by rw [← hW]; apply Bk.Blk.to; (focus ((repeat (first | with_reducible assumption | (with_reducible apply Bk.Blk.newAt; focus (first | (simp [Bk.size_set]; done) | (simp [Bk.size_set]; omega))) | with_reducible apply Bk.Blk.drewN | with_reducible apply Bk.Blk.drew | with_reducible apply Bk.Blk.set_ | (with_reducible apply Bk.Blk.far; focus (dsimp only; first | omega | (simp; omega) | (simp; done))) | with_reducible apply Bk.Blk.alloc)))); rfl)
    replace C : Cur.Cur w7 (g) A n c bs := (by rw [← hW]; (repeat (first | with_reducible assumption | with_reducible apply Cur.Cur.alloc | with_reducible apply CurB.cur_drewN | with_reducible apply CurB.cur_drew | ((with_reducible refine CurB.cur_set HAL.out ?_ ?_ ?_ _); (focus (first | omega | (dsimp only; done) | (dsimp only; omega))); (focus (first | omega | (dsimp only; omega)))))))
    replace G : w.grownBy w7 (some (g)) := (by rw [← hW]; (repeat (first | with_reducible assumption | with_reducible exact World.grownBy.refl _ _ | with_reducible apply CurB.gr_alloc | with_reducible apply CurB.gr_drewN | with_reducible apply CurB.gr_drew | (with_reducible apply CurB.gr_set; focus (first | omega | (dsimp only; done) | (dsimp only; omega))))))
    have z7 : w7.heap.size = _ := congrArg (fun W : World => W.heap.size) hW.symm
    (try simp only [World.size_alloc, Bk.size_set, World.size_drew, World.drewN] at z7)
    clear hW
    have L_r0 := Lay.c4 r0
    go_wp2
    refine bodyPost_ret (v := .agg #[.int .i64 v, .int .i64 se, .int .i64 re, .slice L q d]) (by simp [results, Tryd.results46, go_sem, L_r0]) rfl (⟨_, _, _, q, zs, L, d, by omega, HO2.out, rfl, C, G⟩)
  · skip
    have r0e : (x == 0) = false := by simpa using q0
    clear q0
    by_cases q1 : x = 1
    · skip
      have r1e : (x == 1) = true := by simpa using q1
      clear q1
      go_wp2_with fail
      refine (l1Int_any A n c bs g _ 3 3 [-1, 1000000, 1000001] _ (by (repeat (first | with_reducible assumption | with_reducible apply Cur.Cur.alloc | with_reducible apply CurB.cur_drewN | with_reducible apply CurB.cur_drew | ((with_reducible refine CurB.cur_set HAL.out ?_ ?_ ?_ _); (focus (first | omega | (dsimp only; done) | (dsimp only; omega))); (focus (first | omega | (dsimp only; omega))))))) (by exact Rd.litAt _ (([-1, 1000000, 1000001] : List Int).map (Value.int .i64)) _ 3 _ (by simp) rfl (by unfold maxLen; omega)) (fun e => by simp [blk] at e; have := C.lt; omega) (by omega) (by omega)).mono ?_
      rintro x w5 ⟨v, hv, rfl, C0, hg0⟩
      replace HO := own_grownK (own_allocK HO _) hg0 (by omega)
      replace r0 : Bk.Blk w5 (w.heap.size) 27 #[.int .i64 0, .int .i64 0, .int .i64 0, .slice none 0 0] := Bk.Blk.grown hg0 (by omega) (by (repeat (first | with_reducible assumption | (with_reducible apply Bk.Blk.newAt; focus (first | (simp [Bk.size_set]; done) | (simp [Bk.size_set]; omega))) | with_reducible apply Bk.Blk.drewN | with_reducible apply Bk.Blk.drew | with_reducible apply Bk.Blk.set_ | (with_reducible apply Bk.Blk.far; focus (dsimp only; first | omega | (simp; omega) | (simp; done))) | with_reducible apply Bk.Blk.alloc)))
      replace bk : Bk.Blk w5 (w2.heap.size) 27 #[.int .i64 ke, .int .i64 se, .int .i64 re, .slice L q d] := Bk.Blk.grown hg0 (by omega) (by (repeat (first | with_reducible assumption | (with_reducible apply Bk.Blk.newAt; focus (first | (simp [Bk.size_set]; done) | (simp [Bk.size_set]; omega))) | with_reducible apply Bk.Blk.drewN | with_reducible apply Bk.Blk.drew | with_reducible apply Bk.Blk.set_ | (with_reducible apply Bk.Blk.far; focus (dsimp only; first | omega | (simp; omega) | (simp; done))) | with_reducible apply Bk.Blk.alloc)))
      replace C := C0
      replace G : w.grownBy w5 (some (g)) := World.grownBy.trans (by (repeat (first | with_reducible assumption | with_reducible exact World.grownBy.refl _ _ | with_reducible apply CurB.gr_alloc | with_reducible apply CurB.gr_drewN | with_reducible apply CurB.gr_drew | (with_reducible apply CurB.gr_set; focus (first | omega | (dsimp only; done) | (dsimp only; omega)))))) hg0
      have z5 := hg0.size
      (try simp only [World.size_alloc, Bk.size_set, World.size_drew, World.drewN] at z5)
      clear hg0
      clear hv
      have L_bk := Lay.f4 bk
      have L_r0 := Lay.f4 r0
      go_wp2_with fail
      clear L_bk L_r0
      generalize hW : World.setCell _ _ _ = w7
      have HO2 := Lib.hid (show w7.ownsRow w.heap.size 3 1 (.slice L q d) q (zs.map (Value.int .i64)) from by rw [← hW]; exact (own_low HO (by omega) (by repeat (first | with_reducible exact own_farK HO bk (by decide) _ | (with_reducible refine own_set ?_ (by dsimp only; omega) _) | with_reducible refine own_drewE ?_))))
      replace r0 : Bk.Blk w7 (w.heap.size) 27 #[.int .i64 ke, .int .i64 v, .int .i64 re, .slice L q d] := (by rw [← hW]; apply Bk.Blk.to; (focus ((repeat (first | with_reducible assumption | (with_reducible apply Bk.Blk.newAt; focus (first | (simp [Bk.size_set]; done) | (simp [Bk.size_set]; omega))) | with_reducible apply Bk.Blk.drewN | with_reducible apply Bk.Blk.drew | with_reducible apply Bk.Blk.set_ | (with_reducible apply Bk.Blk.far; focus (dsimp only; first | omega | (simp; omega) | (simp; done))) | with_reducible apply Bk.Blk.alloc)))); rfl)
      replace C : Cur.Cur w7 (g) A n c bs := (by rw [← hW]; (repeat (first | with_reducible assumption | with_reducible apply Cur.Cur.alloc | with_reducible apply CurB.cur_drewN | with_reducible apply CurB.cur_drew | ((with_reducible refine CurB.cur_set HAL.out ?_ ?_ ?_ _); (focus (first | omega | (dsimp only; done) | (dsimp only; omega))); (focus (first | omega | (dsimp only; omega)))))))
      replace G : w.grownBy w7 (some (g)) := (by rw [← hW]; (repeat (first | with_reducible assumption | with_reducible exact World.grownBy.refl _ _ | with_reducible apply CurB.gr_alloc | with_reducible apply CurB.gr_drewN | with_reducible apply CurB.gr_drew | (with_reducible apply CurB.gr_set; focus (first | omega | (dsimp only; done) | (dsimp only; omega))))))
      have z7 : w7.heap.size = _ := congrArg (fun W : World => W.heap.size) hW.symm
      (try simp only [World.size_alloc, Bk.size_set, World.size_drew, World.drewN] at z7)
      clear hW
      have L_r0 := Lay.c4 r0
      go_wp2
      refine bodyPost_ret (v := .agg #[.int .i64 ke, .int .i64 v, .int .i64 re, .slice L q d]) (by simp [results, Tryd.results46, go_sem, L_r0]) rfl (⟨_, _, _, q, zs, L, d, by omega, HO2.out, rfl, C, G⟩)
    · skip
      have r1e : (x == 1) = false := by simpa using q1
      clear q1
      by_cases q2 : x = 2
      · skip
        have r2e : (x == 2) = true := by simpa using q2
        clear q2
        go_wp2_with fail
        refine (l1Int_any A n c bs g _ 3 3 [-1, 1000000, 1000001] _ (by (repeat (first | with_reducible assumption | with_reducible apply Cur.Cur.alloc | with_reducible apply CurB.cur_drewN | with_reducible apply CurB.cur_drew | ((with_reducible refine CurB.cur_set HAL.out ?_ ?_ ?_ _); (focus (first | omega | (dsimp only; done) | (dsimp only; omega))); (focus (first | omega | (dsimp only; omega))))))) (by exact Rd.litAt _ (([-1, 1000000, 1000001] : List Int).map (Value.int .i64)) _ 3 _ (by simp) rfl (by unfold maxLen; omega)) (fun e => by simp [blk] at e; have := C.lt; omega) (by omega) (by omega)).mono ?_
        rintro x w5 ⟨v, hv, rfl, C0, hg0⟩
        replace HO := own_grownK (own_allocK HO _) hg0 (by omega)
        replace r0 : Bk.Blk w5 (w.heap.size) 27 #[.int .i64 0, .int .i64 0, .int .i64 0, .slice none 0 0] := Bk.Blk.grown hg0 (by omega) (by (repeat (first | with_reducible assumption | (with_reducible apply Bk.Blk.newAt; focus (first | (simp [Bk.size_set]; done) | (simp [Bk.size_set]; omega))) | with_reducible apply Bk.Blk.drewN | with_reducible apply Bk.Blk.drew | with_reducible apply Bk.Blk.set_ | (with_reducible apply Bk.Blk.far; focus (dsimp only; first | omega | (simp; omega) | (simp; done))) | with_reducible apply Bk.Blk.alloc)))
        replace bk : Bk.Blk w5 (w2.heap.size) 27 #[.int .i64 ke, .int .i64 se, .int .i64 re, .slice L q d] := Bk.Blk.grown hg0 (by omega) (by (repeat (first | with_reducible assumption | (with_reducible apply Bk.Blk.newAt; focus (first | (simp [Bk.size_set]; done) | (simp [Bk.size_set]; omega))) | with_reducible apply Bk.Blk.drewN | with_reducible apply Bk.Blk.drew | with_reducible apply Bk.Blk.set_ | (with_reducible apply Bk.Blk.far; focus (dsimp only; first | omega | (simp; omega) | (simp; done))) | with_reducible apply Bk.Blk.alloc)))
        replace C := C0
        replace G : w.grownBy w5 (some (g)) := World.grownBy.trans (by (repeat (first | with_reducible assumption | with_reducible exact World.grownBy.refl _ _ | with_reducible apply CurB.gr_alloc | with_reducible apply CurB.gr_drewN | with_reducible apply CurB.gr_drew | (with_reducible apply CurB.gr_set; focus (first | omega | (dsimp only; done) | (dsimp only; omega)))))) hg0
        have z5 := hg0.size
        (try simp only [World.size_alloc, Bk.size_set, World.size_drew, World.drewN] at z5)
        clear hg0
        clear hv
        have L_bk := Lay.f4 bk
        have L_r0 := Lay.f4 r0
        go_wp2_with fail
        clear L_bk L_r0
        generalize hW : World.setCell _ _ _ = w7
        have HO2 := Lib.hid (show w7.ownsRow w.heap.size 3 1 (.slice L q d) q (zs.map (Value.int .i64)) from by rw [← hW]; exact (own_low HO (by omega) (by repeat (first | with_reducible exact own_farK HO bk (by decide) _ | (with_reducible refine own_set ?_ (by dsimp only; omega) _) | with_reducible refine own_drewE ?_))))
        replace r0 : Bk.Blk w7 (w.heap.size) 27 #[.int .i64 ke, .int .i64 se, .int .i64 v, .slice L q d] := (by rw [← hW]; apply Bk.Blk.to; (focus ((repeat (first | with_reducible assumption | (with_reducible apply Bk.Blk.newAt; focus (first | (simp [Bk.size_set]; done) | (simp [Bk.size_set]; omega))) | with_reducible apply Bk.Blk.drewN | with_reducible apply Bk.Blk.drew | with_reducible apply Bk.Blk.set_ | (with_reducible apply Bk.Blk.far; focus (dsimp only; first | omega | (simp; omega) | (simp; done))) | with_reducible apply Bk.Blk.alloc)))); rfl)
        replace C : Cur.Cur w7 (g) A n c bs := (by rw [← hW]; (repeat (first | with_reducible assumption | with_reducible apply Cur.Cur.alloc | with_reducible apply CurB.cur_drewN | with_reducible apply CurB.cur_drew | ((with_reducible refine CurB.cur_set HAL.out ?_ ?_ ?_ _); (focus (first | omega | (dsimp only; done) | (dsimp only; omega))); (focus (first | omega | (dsimp only; omega)))))))
        replace G : w.grownBy w7 (some (g)) := (by rw [← hW]; (repeat (first | with_reducible assumption | with_reducible exact World.grownBy.refl _ _ | with_reducible apply CurB.gr_alloc | with_reducible apply CurB.gr_drewN | with_reducible apply CurB.gr_drew | (with_reducible apply CurB.gr_set; focus (first | omega | (dsimp only; done) | (dsimp only; omega))))))
        have z7 : w7.heap.size = _ := congrArg (fun W : World => W.heap.size) hW.symm
        (try simp only [World.size_alloc, Bk.size_set, World.size_drew, World.drewN] at z7)
        clear hW
        have L_r0 := Lay.c4 r0
        go_wp2
        refine bodyPost_ret (v := .agg #[.int .i64 ke, .int .i64 se, .int .i64 v, .slice L q d]) (by simp [results, Tryd.results46, go_sem, L_r0]) rfl (⟨_, _, _, q, zs, L, d, by omega, HO2.out, rfl, C, G⟩)
      · skip
        have r2e : (x == 2) = false := by simpa using q2
        clear q2
        by_cases q3 : x = 3
        · skip
          have r3e : (x == 3) = true := by simpa using q3
          clear q3
          go_wp2_with fail
          have L_bk := Lay.f4 bk
          refine wp_region_held_drew (S := (fun _ => True)) (by kernel_rfl) ?_ (fun hHeld => ?_)
          · (try dsimp only); skip
          first | (refine wpAnyH_take (i := 0) (v := ?_) (Reg.get rfl) (by kernel_rfl) (by kernel_rfl) (by kernel_rfl) (fun _ _ _ h => h) (Or.inl ⟨by rfl, ?_⟩) hHeld ?_; rotate_left 1; (focus (intro wq hSw; (try dsimp only at hSw);  go_simp <;> with_reducible rfl))) | (refine wpAnyH_take (i := 0) (v := undef) (Reg.get rfl) (by kernel_rfl) (by kernel_rfl) (by kernel_rfl) (fun _ _ _ h => h) (Or.inr ⟨by rfl, rfl⟩) hHeld ?_)
          try simp only [Act.put, List.setIfInBounds_toArray, List.set_cons_zero, List.set_cons_succ]
          first | (refine wpAnyH_take (i := 2) (v := ?_) (Reg.get rfl) (by kernel_rfl) (by kernel_rfl) (by kernel_rfl) (fun _ _ _ h => h) (Or.inl ⟨by rfl, ?_⟩) hHeld ?_; rotate_left 1; (focus (intro wq hSw; (try dsimp only at hSw);  go_simp <;> with_reducible rfl))) | (refine wpAnyH_take (i := 2) (v := undef) (Reg.get rfl) (by kernel_rfl) (by kernel_rfl) (by kernel_rfl) (fun _ _ _ h => h) (Or.inr ⟨by rfl, rfl⟩) hHeld ?_)
          try simp only [Act.put, List.setIfInBounds_toArray, List.set_cons_zero, List.set_cons_succ]
          first | (refine wpAnyH_take (i := 3) (v := ?_) (Reg.get rfl) (by kernel_rfl) (by kernel_rfl) (by kernel_rfl) (fun _ _ _ h => h) (Or.inl ⟨by rfl, ?_⟩) hHeld ?_; rotate_left 1; (focus (intro wq hSw; (try dsimp only at hSw);  go_simp <;> with_reducible rfl))) | (refine wpAnyH_take (i := 3) (v := undef) (Reg.get rfl) (by kernel_rfl) (by kernel_rfl) (by kernel_rfl) (fun _ _ _ h => h) (Or.inr ⟨by rfl, rfl⟩) hHeld ?_)
          try simp only [Act.put, List.setIfInBounds_toArray, List.set_cons_zero, List.set_cons_succ]
          refine wpAnyH_ready (rs := [1, 4]) (by kernel_rfl) (by simp) ?_
          refine (AllReadyH.cons (Reg.get rfl) (fun K hK => ?_) (AllReadyH.cons (Reg.get rfl) (fun K hK => ?_) AllReadyH.nil))
          
          · skip
            clear hHeld; go_simp; (skip); refine hK.out _ _ ?_ (fun hHeld => ?_); ((try dsimp only); skip); clear hK K
            try simp only [Act.put, List.setIfInBounds_toArray, List.set_cons_zero, List.set_cons_succ]
            first | ((refine wpAnyH_take (i := 4) (v := undef) (Reg.get rfl) (by kernel_rfl) (by kernel_rfl) (by kernel_rfl) (fun _ _ _ h => h) (Or.inr ⟨by rfl, rfl⟩) hHeld ?_)) | (refine wpAnyH_ready (rs := [4]) (by kernel_rfl) (by simp) ?_; refine AllReadyH.cons (Reg.get rfl) (fun K hK => ?_) AllReadyH.nil; clear hHeld; go_simp; (skip); refine hK.out _ _ ?_ (fun hHeld => ?_); ((try dsimp only); skip); clear hK K)
            try simp only [Act.put, List.setIfInBounds_toArray, List.set_cons_zero, List.set_cons_succ]
            first | ((refine wpAnyH_take (i := 5) (v := undef) (Reg.get rfl) (by kernel_rfl) (by kernel_rfl) (by kernel_rfl) (fun _ _ _ h => h) (Or.inr ⟨by rfl, rfl⟩) hHeld ?_)) | (refine wpAnyH_ready (rs := [5]) (by kernel_rfl) (by simp) ?_; refine AllReadyH.cons (Reg.get rfl) (fun K hK => ?_) AllReadyH.nil; clear hHeld; go_simp; ((generalize hW : World.alloc _ _ = w5; have RL := rd_threeK hW; clear L_bk; (first | replace HO := own_toE HO hW | replace HO := own_toE (own_drewE HO) hW); (first | replace r0 := blk_toK r0 hW | replace r0 := blk_toK (blk_drewK r0) hW); (first | replace bk := blk_toK bk hW | replace bk := blk_toK (blk_drewK bk) hW); (first | replace C := cur_toK C hW | replace C := cur_toK (CurB.cur_drew C) hW); (first | replace G := gr_toK G hW | replace G := gr_toK (CurB.gr_drew G) hW); have z5 := size_toE hW; (try simp only [World.size_drew] at z5); have hRb := size_toE hW; clear hW; have L_bk := Lay.f4 bk)); refine hK.out _ _ ?_ (fun hHeld => ?_); ((try dsimp only); skip); clear hK K)
            try simp only [Act.put, List.setIfInBounds_toArray, List.set_cons_zero, List.set_cons_succ]
            first | ((refine wpAnyH_take (i := 6) (v := undef) (Reg.get rfl) (by kernel_rfl) (by kernel_rfl) (by kernel_rfl) (fun _ _ _ h => h) (Or.inr ⟨by rfl, rfl⟩) hHeld ?_)) | (refine wpAnyH_ready (rs := [6]) (by kernel_rfl) (by simp) ?_; refine AllReadyH.cons (Reg.get rfl) (fun K hK => ?_) AllReadyH.nil; clear hHeld; go_simp; ((go_at_call 48; refine (l1Int_any A n c bs g _ 3 3 [ke, 100, 7] _ (by (repeat (first | with_reducible assumption | with_reducible apply Cur.Cur.alloc | with_reducible apply CurB.cur_drewN | with_reducible apply CurB.cur_drew | ((with_reducible refine CurB.cur_set HAL.out ?_ ?_ ?_ _); (focus (first | omega | (dsimp only; done) | (dsimp only; omega))); (focus (first | omega | (dsimp only; omega))))))) (by exact RL) (fun e => by have := C.lt; simp [blk] at e; omega) (by omega) (by omega)).mono ?_; rintro e w6 ⟨v, hv, rfl, C0, hg0⟩; clear RL hv hRb; clear L_bk; (first | replace HO := own_grownK HO hg0 (by omega) | replace HO := own_grownK (own_drewE HO) hg0 (by omega)); (first | replace r0 := blk_drawK hg0 (by omega) r0 | replace r0 := blk_drawK hg0 (by omega) (blk_drewK r0)); (first | replace bk := blk_drawK hg0 (by omega) bk | replace bk := blk_drawK hg0 (by omega) (blk_drewK bk)); replace C := C0; (first | replace G := G.trans hg0 | replace G := (CurB.gr_drew G).trans hg0); have z6 := hg0.size; (try simp only [World.size_drew] at z6); clear hg0; have L_bk := Lay.f4 bk)); refine hK.out _ _ ?_ (fun hHeld => ?_); ((try dsimp only); skip); clear hK K)
            try simp only [Act.put, List.setIfInBounds_toArray, List.set_cons_zero, List.set_cons_succ]
            first | ((refine wpAnyH_take (i := 7) (v := undef) (Reg.get rfl) (by kernel_rfl) (by kernel_rfl) (by kernel_rfl) (fun _ _ _ h => h) (Or.inr ⟨by rfl, rfl⟩) hHeld ?_)) | (refine wpAnyH_ready (rs := [7]) (by kernel_rfl) (by simp) ?_; refine AllReadyH.cons (Reg.get rfl) (fun K hK => ?_) AllReadyH.nil; clear hHeld; go_simp; ((generalize hW : World.alloc _ _ = w7; have re := rd_oneE hW; clear L_bk; (first | replace HO := own_toE HO hW | replace HO := own_toE (own_drewE HO) hW); (first | replace r0 := blk_toK r0 hW | replace r0 := blk_toK (blk_drewK r0) hW); (first | replace bk := blk_toK bk hW | replace bk := blk_toK (blk_drewK bk) hW); (first | replace C := cur_toK C hW | replace C := cur_toK (CurB.cur_drew C) hW); (first | replace G := gr_toK G hW | replace G := gr_toK (CurB.gr_drew G) hW); have z7 := size_toE hW; (try simp only [World.size_drew] at z7); clear hW; have L_bk := Lay.f4 bk)); refine hK.out _ _ ?_ (fun hHeld => ?_); ((try dsimp only); skip); clear hK K)
            try simp only [Act.put, List.setIfInBounds_toArray, List.set_cons_zero, List.set_cons_succ]
            first | ((refine wpAnyH_take (i := 8) (v := undef) (Reg.get rfl) (by kernel_rfl) (by kernel_rfl) (by kernel_rfl) (fun _ _ _ h => h) (Or.inr ⟨by rfl, rfl⟩) hHeld ?_)) | (refine wpAnyH_ready (rs := [8]) (by kernel_rfl) (by simp) ?_; refine AllReadyH.cons (Reg.get rfl) (fun K hK => ?_) AllReadyH.nil; clear hHeld; ((refine App.wp_app _ _ _ 22 rfl w1.heap.size 3 i0 (.int .i64 0) 1 8 Tryd.underlying22 hi hz0 hzA hzB rfl (by decide) _ _ _ _ rfl (by first | exact HO | exact own_drewE HO) _ 1 1 [.int .i64 v] rfl (by first | exact re | exact re.drew) (fun u hu => by simp at hu; subst hu; rfl) (by unfold maxLen; omega) (by omega) (by first | omega | (simp; done) | (simp; omega)) ?_; intro A8 c8 w8 own8 hg8 _; have hP := own_loE HO; clear L_bk; (first | replace r0 := blk_grownM hg8 (own_ne HO r0 (by decide)) r0 | replace r0 := blk_grownM hg8 (own_ne HO r0 (by decide)) r0.drew); (first | replace bk := blk_grownM hg8 (own_ne HO bk (by decide)) bk | replace bk := blk_grownM hg8 (own_ne HO bk (by decide)) bk.drew); have hgA : blk L ≠ some g := (by intro e; have := hP _ e; omega); (first | replace C := cur_grownK hg8 (fun e => hgA e.symm) (fun h0 e => cur_offK C.2.1 HAL.out hP h0 e (by omega)) C | replace C := cur_grownK hg8 (fun e => hgA e.symm) (fun h0 e => cur_offK C.2.1 HAL.out hP h0 e (by omega)) (CurB.cur_drew C)); (first | replace G := gr_rowK G hg8 (fun q e => Nat.le_trans (by omega) (hP q e)) | replace G := gr_rowK (CurB.gr_drew G) hg8 (fun q e => Nat.le_trans (by omega) (hP q e))); have HO8 := own8; clear own8 hP hgA hg8 HO re; have L_bk := Lay.f4 bk)); refine hK.out _ _ ?_ (fun hHeld => ?_); ((try dsimp only); skip); clear hK K)
            try simp only [Act.put, List.setIfInBounds_toArray, List.set_cons_zero, List.set_cons_succ]
            first | (refine wpAnyH_take (i := 9) (v := ?_) (Reg.get rfl) (by kernel_rfl) (by kernel_rfl) (by kernel_rfl) (fun _ _ _ h => h) (Or.inl ⟨by rfl, ?_⟩) hHeld ?_; rotate_left 1; (focus (intro wq hSw; (try dsimp only at hSw);  go_simp <;> with_reducible rfl))) | (refine wpAnyH_take (i := 9) (v := undef) (Reg.get rfl) (by kernel_rfl) (by kernel_rfl) (by kernel_rfl) (fun _ _ _ h => h) (Or.inr ⟨by rfl, rfl⟩) hHeld ?_)
            try simp only [Act.put, List.setIfInBounds_toArray, List.set_cons_zero, List.set_cons_succ]
            first | ((refine wpAnyH_take (i := 10) (v := undef) (Reg.get rfl) (by kernel_rfl) (by kernel_rfl) (by kernel_rfl) (fun _ _ _ h => h) (Or.inr ⟨by rfl, rfl⟩) hHeld ?_)) | (refine wpAnyH_ready (rs := [10]) (by kernel_rfl) (by simp) ?_; refine AllReadyH.cons (Reg.get rfl) (fun K hK => ?_) AllReadyH.nil; clear hHeld; go_simp; (skip); refine hK.out _ _ ?_ (fun hHeld => ?_); ((try dsimp only); skip); clear hK K)
            try simp only [Act.put, List.setIfInBounds_toArray, List.set_cons_zero, List.set_cons_succ]
            refine wpAnyH_done (by kernel_rfl) ?_ _
            (try clear L_bk)
            generalize hW : World.setCell _ _ _ = w9
            replace HO8 := hW ▸ own_farK (o := 3) HO8 bk (by decide) (.slice A8 (q + 1) c8)
            replace HO8 : w9.ownsRow w1.heap.size 3 1 (.slice A8 (q + 1) c8) (q + 1) ((zs ++ [v]).map (Value.int .i64)) := by simpa using HO8
            replace bk : Bk.Blk w9 (w2.heap.size) 27 #[.int .i64 ke, .int .i64 se, .int .i64 re, .slice A8 (q + 1) c8] := (by rw [← hW]; apply Bk.Blk.to; (focus ((repeat (first | with_reducible assumption | (with_reducible apply Bk.Blk.newAt; focus (first | (simp [Bk.size_set]; done) | (simp [Bk.size_set]; omega))) | with_reducible apply Bk.Blk.drewN | with_reducible apply Bk.Blk.drew | with_reducible apply Bk.Blk.set_ | (with_reducible apply Bk.Blk.far; focus (dsimp only; first | omega | (simp; omega) | (simp; done))) | with_reducible apply Bk.Blk.alloc)))); rfl)
            replace r0 : Bk.Blk w9 (w.heap.size) 27 #[.int .i64 0, .int .i64 0, .int .i64 0, .slice none 0 0] := (by rw [← hW]; (repeat (first | with_reducible assumption | (with_reducible apply Bk.Blk.newAt; focus (first | (simp [Bk.size_set]; done) | (simp [Bk.size_set]; omega))) | with_reducible apply Bk.Blk.drewN | with_reducible apply Bk.Blk.drew | with_reducible apply Bk.Blk.set_ | (with_reducible apply Bk.Blk.far; focus (dsimp only; first | omega | (simp; omega) | (simp; done))) | with_reducible apply Bk.Blk.alloc)))
            replace C : Cur.Cur w9 (g) A n c bs := (by rw [← hW]; (repeat (first | with_reducible assumption | with_reducible apply Cur.Cur.alloc | with_reducible apply CurB.cur_drewN | with_reducible apply CurB.cur_drew | ((with_reducible refine CurB.cur_set HAL.out ?_ ?_ ?_ _); (focus (first | omega | (dsimp only; done) | (dsimp only; omega))); (focus (first | omega | (dsimp only; omega)))))))
            replace G : w.grownBy w9 (some (g)) := (by rw [← hW]; (repeat (first | with_reducible assumption | with_reducible exact World.grownBy.refl _ _ | with_reducible apply CurB.gr_alloc | with_reducible apply CurB.gr_drewN | with_reducible apply CurB.gr_drew | (with_reducible apply CurB.gr_set; focus (first | omega | (dsimp only; done) | (dsimp only; omega))))))
            have z9 : w9.heap.size = _ := congrArg (fun W : World => W.heap.size) hW.symm
            (try simp only [World.size_alloc, Bk.size_set, World.size_drew, World.drewN] at z9)
            clear hW
            have L_bk := Lay.f4 bk
            have L_r0 := Lay.f4 r0
            go_wp2_with fail
            clear L_bk L_r0
            generalize hW : World.setCell _ _ _ = w10
            have HO2 := Lib.hid (show w10.ownsRow w.heap.size 3 1 (.slice A8 (q + 1) c8) (q + 1) ((zs ++ [v]).map (Value.int .i64)) from by rw [← hW]; exact (own_low HO8 (by omega) (by repeat (first | with_reducible exact HO8 | (with_reducible refine own_set ?_ (by dsimp only; omega) _) | with_reducible refine own_drewE ?_))))
            replace r0 : Bk.Blk w10 (w.heap.size) 27 #[.int .i64 ke, .int .i64 se, .int .i64 re, .slice A8 (q + 1) c8] := (by rw [← hW]; apply Bk.Blk.to; (focus ((repeat (first | with_reducible assumption | (with_reducible apply Bk.Blk.newAt; focus (first | (simp [Bk.size_set]; done) | (simp [Bk.size_set]; omega))) | with_reducible apply Bk.Blk.drewN | with_reducible apply Bk.Blk.drew | with_reducible apply Bk.Blk.set_ | (with_reducible apply Bk.Blk.far; focus (dsimp only; first | omega | (simp; omega) | (simp; done))) | with_reducible apply Bk.Blk.alloc)))); rfl)
            replace C : Cur.Cur w10 (g) A n c bs := (by rw [← hW]; (repeat (first | with_reducible assumption | with_reducible apply Cur.Cur.alloc | with_reducible apply CurB.cur_drewN | with_reducible apply CurB.cur_drew | ((with_reducible refine CurB.cur_set HAL.out ?_ ?_ ?_ _); (focus (first | omega | (dsimp only; done) | (dsimp only; omega))); (focus (first | omega | (dsimp only; omega)))))))
            replace G : w.grownBy w10 (some (g)) := (by rw [← hW]; (repeat (first | with_reducible assumption | with_reducible exact World.grownBy.refl _ _ | with_reducible apply CurB.gr_alloc | with_reducible apply CurB.gr_drewN | with_reducible apply CurB.gr_drew | (with_reducible apply CurB.gr_set; focus (first | omega | (dsimp only; done) | (dsimp only; omega))))))
            have z10 : w10.heap.size = _ := congrArg (fun W : World => W.heap.size) hW.symm
            (try simp only [World.size_alloc, Bk.size_set, World.size_drew, World.drewN] at z10)
            clear hW
            have L_r0 := Lay.c4 r0
            go_wp2
            refine bodyPost_ret (v := .agg #[.int .i64 ke, .int .i64 se, .int .i64 re, .slice A8 (q + 1) c8]) (by simp [results, Tryd.results46, go_sem, L_r0]) rfl (⟨ke, se, re, q + 1, zs ++ [v], A8, c8, by omega, HO2.out, rfl, C, G⟩)
          
          · skip
            clear hHeld; go_simp; (skip); refine hK.out _ _ ?_ (fun hHeld => ?_); ((try dsimp only); skip); clear hK K
            try simp only [Act.put, List.setIfInBounds_toArray, List.set_cons_zero, List.set_cons_succ]
            refine wpAnyH_ready (rs := [1, 5]) (by kernel_rfl) (by simp) ?_
            refine (AllReadyH.cons (Reg.get rfl) (fun K hK => ?_) (AllReadyH.cons (Reg.get rfl) (fun K hK => ?_) AllReadyH.nil))
          
            · skip
              clear hHeld; go_simp; (skip); refine hK.out _ _ ?_ (fun hHeld => ?_); ((try dsimp only); skip); clear hK K
              try simp only [Act.put, List.setIfInBounds_toArray, List.set_cons_zero, List.set_cons_succ]
              first | ((refine wpAnyH_take (i := 5) (v := undef) (Reg.get rfl) (by kernel_rfl) (by kernel_rfl) (by kernel_rfl) (fun _ _ _ h => h) (Or.inr ⟨by rfl, rfl⟩) hHeld ?_)) | (refine wpAnyH_ready (rs := [5]) (by kernel_rfl) (by simp) ?_; refine AllReadyH.cons (Reg.get rfl) (fun K hK => ?_) AllReadyH.nil; clear hHeld; go_simp; ((generalize hW : World.alloc _ _ = w5; have RL := rd_threeK hW; clear L_bk; (first | replace HO := own_toE HO hW | replace HO := own_toE (own_drewE HO) hW); (first | replace r0 := blk_toK r0 hW | replace r0 := blk_toK (blk_drewK r0) hW); (first | replace bk := blk_toK bk hW | replace bk := blk_toK (blk_drewK bk) hW); (first | replace C := cur_toK C hW | replace C := cur_toK (CurB.cur_drew C) hW); (first | replace G := gr_toK G hW | replace G := gr_toK (CurB.gr_drew G) hW); have z5 := size_toE hW; (try simp only [World.size_drew] at z5); have hRb := size_toE hW; clear hW; have L_bk := Lay.f4 bk)); refine hK.out _ _ ?_ (fun hHeld => ?_); ((try dsimp only); skip); clear hK K)
              try simp only [Act.put, List.setIfInBounds_toArray, List.set_cons_zero, List.set_cons_succ]
              first | ((refine wpAnyH_take (i := 6) (v := undef) (Reg.get rfl) (by kernel_rfl) (by kernel_rfl) (by kernel_rfl) (fun _ _ _ h => h) (Or.inr ⟨by rfl, rfl⟩) hHeld ?_)) | (refine wpAnyH_ready (rs := [6]) (by kernel_rfl) (by simp) ?_; refine AllReadyH.cons (Reg.get rfl) (fun K hK => ?_) AllReadyH.nil; clear hHeld; go_simp; ((go_at_call 48; refine (l1Int_any A n c bs g _ 3 3 [ke, 100, 7] _ (by (repeat (first | with_reducible assumption | with_reducible apply Cur.Cur.alloc | with_reducible apply CurB.cur_drewN | with_reducible apply CurB.cur_drew | ((with_reducible refine CurB.cur_set HAL.out ?_ ?_ ?_ _); (focus (first | omega | (dsimp only; done) | (dsimp only; omega))); (focus (first | omega | (dsimp only; omega))))))) (by exact RL) (fun e => by have := C.lt; simp [blk] at e; omega) (by omega) (by omega)).mono ?_; rintro e w6 ⟨v, hv, rfl, C0, hg0⟩; clear RL hv hRb; clear L_bk; (first | replace HO := own_grownK HO hg0 (by omega) | replace HO := own_grownK (own_drewE HO) hg0 (by omega)); (first | replace r0 := blk_drawK hg0 (by omega) r0 | replace r0 := blk_drawK hg0 (by omega) (blk_drewK r0)); (first | replace bk := blk_drawK hg0 (by omega) bk | replace bk := blk_drawK hg0 (by omega) (blk_drewK bk)); replace C := C0; (first | replace G := G.trans hg0 | replace G := (CurB.gr_drew G).trans hg0); have z6 := hg0.size; (try simp only [World.size_drew] at z6); clear hg0; have L_bk := Lay.f4 bk)); refine hK.out _ _ ?_ (fun hHeld => ?_); ((try dsimp only); skip); clear hK K)
              try simp only [Act.put, List.setIfInBounds_toArray, List.set_cons_zero, List.set_cons_succ]
              first | ((refine wpAnyH_take (i := 7) (v := undef) (Reg.get rfl) (by kernel_rfl) (by kernel_rfl) (by kernel_rfl) (fun _ _ _ h => h) (Or.inr ⟨by rfl, rfl⟩) hHeld ?_)) | (refine wpAnyH_ready (rs := [7]) (by kernel_rfl) (by simp) ?_; refine AllReadyH.cons (Reg.get rfl) (fun K hK => ?_) AllReadyH.nil; clear hHeld; go_simp; ((generalize hW : World.alloc _ _ = w7; have re := rd_oneE hW; clear L_bk; (first | replace HO := own_toE HO hW | replace HO := own_toE (own_drewE HO) hW); (first | replace r0 := blk_toK r0 hW | replace r0 := blk_toK (blk_drewK r0) hW); (first | replace bk := blk_toK bk hW | replace bk := blk_toK (blk_drewK bk) hW); (first | replace C := cur_toK C hW | replace C := cur_toK (CurB.cur_drew C) hW); (first | replace G := gr_toK G hW | replace G := gr_toK (CurB.gr_drew G) hW); have z7 := size_toE hW; (try simp only [World.size_drew] at z7); clear hW; have L_bk := Lay.f4 bk)); refine hK.out _ _ ?_ (fun hHeld => ?_); ((try dsimp only); skip); clear hK K)
              try simp only [Act.put, List.setIfInBounds_toArray, List.set_cons_zero, List.set_cons_succ]
              first | ((refine wpAnyH_take (i := 8) (v := undef) (Reg.get rfl) (by kernel_rfl) (by kernel_rfl) (by kernel_rfl) (fun _ _ _ h => h) (Or.inr ⟨by rfl, rfl⟩) hHeld ?_)) | (refine wpAnyH_ready (rs := [8]) (by kernel_rfl) (by simp) ?_; refine AllReadyH.cons (Reg.get rfl) (fun K hK => ?_) AllReadyH.nil; clear hHeld; ((refine App.wp_app _ _ _ 22 rfl w1.heap.size 3 i0 (.int .i64 0) 1 8 Tryd.underlying22 hi hz0 hzA hzB rfl (by decide) _ _ _ _ rfl (by first | exact HO | exact own_drewE HO) _ 1 1 [.int .i64 v] rfl (by first | exact re | exact re.drew) (fun u hu => by simp at hu; subst hu; rfl) (by unfold maxLen; omega) (by omega) (by first | omega | (simp; done) | (simp; omega)) ?_; intro A8 c8 w8 own8 hg8 _; have hP := own_loE HO; clear L_bk; (first | replace r0 := blk_grownM hg8 (own_ne HO r0 (by decide)) r0 | replace r0 := blk_grownM hg8 (own_ne HO r0 (by decide)) r0.drew); (first | replace bk := blk_grownM hg8 (own_ne HO bk (by decide)) bk | replace bk := blk_grownM hg8 (own_ne HO bk (by decide)) bk.drew); have hgA : blk L ≠ some g := (by intro e; have := hP _ e; omega); (first | replace C := cur_grownK hg8 (fun e => hgA e.symm) (fun h0 e => cur_offK C.2.1 HAL.out hP h0 e (by omega)) C | replace C := cur_grownK hg8 (fun e => hgA e.symm) (fun h0 e => cur_offK C.2.1 HAL.out hP h0 e (by omega)) (CurB.cur_drew C)); (first | replace G := gr_rowK G hg8 (fun q e => Nat.le_trans (by omega) (hP q e)) | replace G := gr_rowK (CurB.gr_drew G) hg8 (fun q e => Nat.le_trans (by omega) (hP q e))); have HO8 := own8; clear own8 hP hgA hg8 HO re; have L_bk := Lay.f4 bk)); refine hK.out _ _ ?_ (fun hHeld => ?_); ((try dsimp only); skip); clear hK K)
              try simp only [Act.put, List.setIfInBounds_toArray, List.set_cons_zero, List.set_cons_succ]
              first | (refine wpAnyH_take (i := 9) (v := ?_) (Reg.get rfl) (by kernel_rfl) (by kernel_rfl) (by kernel_rfl) (fun _ _ _ h => h) (Or.inl ⟨by rfl, ?_⟩) hHeld ?_; rotate_left 1; (focus (intro wq hSw; (try dsimp only at hSw);  go_simp <;> with_reducible rfl))) | (refine wpAnyH_take (i := 9) (v := undef) (Reg.get rfl) (by kernel_rfl) (by kernel_rfl) (by kernel_rfl) (fun _ _ _ h => h) (Or.inr ⟨by rfl, rfl⟩) hHeld ?_)
              try simp only [Act.put, List.setIfInBounds_toArray, List.set_cons_zero, List.set_cons_succ]
              first | ((refine wpAnyH_take (i := 10) (v := undef) (Reg.get rfl) (by kernel_rfl) (by kernel_rfl) (by kernel_rfl) (fun _ _ _ h => h) (Or.inr ⟨by rfl, rfl⟩) hHeld ?_)) | (refine wpAnyH_ready (rs := [10]) (by kernel_rfl) (by simp) ?_; refine AllReadyH.cons (Reg.get rfl) (fun K hK => ?_) AllReadyH.nil; clear hHeld; go_simp; (skip); refine hK.out _ _ ?_ (fun hHeld => ?_); ((try dsimp only); skip); clear hK K)
              try simp only [Act.put, List.setIfInBounds_toArray, List.set_cons_zero, List.set_cons_succ]
              refine wpAnyH_done (by kernel_rfl) ?_ _
              (try clear L_bk)
              generalize hW : World.setCell _ _ _ = w9
              replace HO8 := hW ▸ own_farK (o := 3) HO8 bk (by decide) (.slice A8 (q + 1) c8)
              replace HO8 : w9.ownsRow w1.heap.size 3 1 (.slice A8 (q + 1) c8) (q + 1) ((zs ++ [v]).map (Value.int .i64)) := by simpa using HO8
              replace bk : Bk.Blk w9 (w2.heap.size) 27 #[.int .i64 ke, .int .i64 se, .int .i64 re, .slice A8 (q + 1) c8] := (by rw [← hW]; apply Bk.Blk.to; (focus ((repeat (first | with_reducible assumption | (with_reducible apply Bk.Blk.newAt; focus (first | (simp [Bk.size_set]; done) | (simp [Bk.size_set]; omega))) | with_reducible apply Bk.Blk.drewN | with_reducible apply Bk.Blk.drew | with_reducible apply Bk.Blk.set_ | (with_reducible apply Bk.Blk.far; focus (dsimp only; first | omega | (simp; omega) | (simp; done))) | with_reducible apply Bk.Blk.alloc)))); rfl)
              replace r0 : Bk.Blk w9 (w.heap.size) 27 #[.int .i64 0, .int .i64 0, .int .i64 0, .slice none 0 0] := (by rw [← hW]; (repeat (first | with_reducible assumption | (with_reducible apply Bk.Blk.newAt; focus (first | (simp [Bk.size_set]; done) | (simp [Bk.size_set]; omega))) | with_reducible apply Bk.Blk.drewN | with_reducible apply Bk.Blk.drew | with_reducible apply Bk.Blk.set_ | (with_reducible apply Bk.Blk.far; focus (dsimp only; first | omega | (simp; omega) | (simp; done))) | with_reducible apply Bk.Blk.alloc)))
              replace C : Cur.Cur w9 (g) A n c bs := (by rw [← hW]; (repeat (first | with_reducible assumption | with_reducible apply Cur.Cur.alloc | with_reducible apply CurB.cur_drewN | with_reducible apply CurB.cur_drew | ((with_reducible refine CurB.cur_set HAL.out ?_ ?_ ?_ _); (focus (first | omega | (dsimp only; done) | (dsimp only; omega))); (focus (first | omega | (dsimp only; omega)))))))
              replace G : w.grownBy w9 (some (g)) := (by rw [← hW]; (repeat (first | with_reducible assumption | with_reducible exact World.grownBy.refl _ _ | with_reducible apply CurB.gr_alloc | with_reducible apply CurB.gr_drewN | with_reducible apply CurB.gr_drew | (with_reducible apply CurB.gr_set; focus (first | omega | (dsimp only; done) | (dsimp only; omega))))))
              have z9 : w9.heap.size = _ := congrArg (fun W : World => W.heap.size) hW.symm
              (try simp only [World.size_alloc, Bk.size_set, World.size_drew, World.drewN] at z9)
              clear hW
              have L_bk := Lay.f4 bk
              have L_r0 := Lay.f4 r0
              go_wp2_with fail
              clear L_bk L_r0
              generalize hW : World.setCell _ _ _ = w10
              have HO2 := Lib.hid (show w10.ownsRow w.heap.size 3 1 (.slice A8 (q + 1) c8) (q + 1) ((zs ++ [v]).map (Value.int .i64)) from by rw [← hW]; exact (own_low HO8 (by omega) (by repeat (first | with_reducible exact HO8 | (with_reducible refine own_set ?_ (by dsimp only; omega) _) | with_reducible refine own_drewE ?_))))
              replace r0 : Bk.Blk w10 (w.heap.size) 27 #[.int .i64 ke, .int .i64 se, .int .i64 re, .slice A8 (q + 1) c8] := (by rw [← hW]; apply Bk.Blk.to; (focus ((repeat (first | with_reducible assumption | (with_reducible apply Bk.Blk.newAt; focus (first | (simp [Bk.size_set]; done) | (simp [Bk.size_set]; omega))) | with_reducible apply Bk.Blk.drewN | with_reducible apply Bk.Blk.drew | with_reducible apply Bk.Blk.set_ | (with_reducible apply Bk.Blk.far; focus (dsimp only; first | omega | (simp; omega) | (simp; done))) | with_reducible apply Bk.Blk.alloc)))); rfl)
              replace C : Cur.Cur w10 (g) A n c bs := (by rw [← hW]; (repeat (first | with_reducible assumption | with_reducible apply Cur.Cur.alloc | with_reducible apply CurB.cur_drewN | with_reducible apply CurB.cur_drew | ((with_reducible refine CurB.cur_set HAL.out ?_ ?_ ?_ _); (focus (first | omega | (dsimp only; done) | (dsimp only; omega))); (focus (first | omega | (dsimp only; omega)))))))
              replace G : w.grownBy w10 (some (g)) := (by rw [← hW]; (repeat (first | with_reducible assumption | with_reducible exact World.grownBy.refl _ _ | with_reducible apply CurB.gr_alloc | with_reducible apply CurB.gr_drewN | with_reducible apply CurB.gr_drew | (with_reducible apply CurB.gr_set; focus (first | omega | (dsimp only; done) | (dsimp only; omega))))))
              have z10 : w10.heap.size = _ := congrArg (fun W : World => W.heap.size) hW.symm
              (try simp only [World.size_alloc, Bk.size_set, World.size_drew, World.drewN] at z10)
              clear hW
              have L_r0 := Lay.c4 r0
              go_wp2
              refine bodyPost_ret (v := .agg #[.int .i64 ke, .int .i64 se, .int .i64 re, .slice A8 (q + 1) c8]) (by simp [results, Tryd.results46, go_sem, L_r0]) rfl (⟨ke, se, re, q + 1, zs ++ [v], A8, c8, by omega, HO2.out, rfl, C, G⟩)
          
            · skip
              clear hHeld; go_simp; ((generalize hW : World.alloc _ _ = w5; have RL := rd_threeK hW; clear L_bk; (first | replace HO := own_toE HO hW | replace HO := own_toE (own_drewE HO) hW); (first | replace r0 := blk_toK r0 hW | replace r0 := blk_toK (blk_drewK r0) hW); (first | replace bk := blk_toK bk hW | replace bk := blk_toK (blk_drewK bk) hW); (first | replace C := cur_toK C hW | replace C := cur_toK (CurB.cur_drew C) hW); (first | replace G := gr_toK G hW | replace G := gr_toK (CurB.gr_drew G) hW); have z5 := size_toE hW; (try simp only [World.size_drew] at z5); have hRb := size_toE hW; clear hW; have L_bk := Lay.f4 bk)); refine hK.out _ _ ?_ (fun hHeld => ?_); ((try dsimp only); skip); clear hK K
              try simp only [Act.put, List.setIfInBounds_toArray, List.set_cons_zero, List.set_cons_succ]
              refine wpAnyH_ready (rs := [1, 6]) (by kernel_rfl) (by simp) ?_
              refine (AllReadyH.cons (Reg.get rfl) (fun K hK => ?_) (AllReadyH.cons (Reg.get rfl) (fun K hK => ?_) AllReadyH.nil))
          
              · skip
                clear hHeld; go_simp; (skip); refine hK.out _ _ ?_ (fun hHeld => ?_); ((try dsimp only); skip); clear hK K
                try simp only [Act.put, List.setIfInBounds_toArray, List.set_cons_zero, List.set_cons_succ]
                first | ((refine wpAnyH_take (i := 6) (v := undef) (Reg.get rfl) (by kernel_rfl) (by kernel_rfl) (by kernel_rfl) (fun _ _ _ h => h) (Or.inr ⟨by rfl, rfl⟩) hHeld ?_)) | (refine wpAnyH_ready (rs := [6]) (by kernel_rfl) (by simp) ?_; refine AllReadyH.cons (Reg.get rfl) (fun K hK => ?_) AllReadyH.nil; clear hHeld; go_simp; ((go_at_call 48; refine (l1Int_any A n c bs g _ 3 3 [ke, 100, 7] _ (by (repeat (first | with_reducible assumption | with_reducible apply Cur.Cur.alloc | with_reducible apply CurB.cur_drewN | with_reducible apply CurB.cur_drew | ((with_reducible refine CurB.cur_set HAL.out ?_ ?_ ?_ _); (focus (first | omega | (dsimp only; done) | (dsimp only; omega))); (focus (first | omega | (dsimp only; omega))))))) (by exact RL) (fun e => by have := C.lt; simp [blk] at e; omega) (by omega) (by omega)).mono ?_; rintro e w6 ⟨v, hv, rfl, C0, hg0⟩; clear RL hv hRb; clear L_bk; (first | replace HO := own_grownK HO hg0 (by omega) | replace HO := own_grownK (own_drewE HO) hg0 (by omega)); (first | replace r0 := blk_drawK hg0 (by omega) r0 | replace r0 := blk_drawK hg0 (by omega) (blk_drewK r0)); (first | replace bk := blk_drawK hg0 (by omega) bk | replace bk := blk_drawK hg0 (by omega) (blk_drewK bk)); replace C := C0; (first | replace G := G.trans hg0 | replace G := (CurB.gr_drew G).trans hg0); have z6 := hg0.size; (try simp only [World.size_drew] at z6); clear hg0; have L_bk := Lay.f4 bk)); refine hK.out _ _ ?_ (fun hHeld => ?_); ((try dsimp only); skip); clear hK K)
                try simp only [Act.put, List.setIfInBounds_toArray, List.set_cons_zero, List.set_cons_succ]
                first | ((refine wpAnyH_take (i := 7) (v := undef) (Reg.get rfl) (by kernel_rfl) (by kernel_rfl) (by kernel_rfl) (fun _ _ _ h => h) (Or.inr ⟨by rfl, rfl⟩) hHeld ?_)) | (refine wpAnyH_ready (rs := [7]) (by kernel_rfl) (by simp) ?_; refine AllReadyH.cons (Reg.get rfl) (fun K hK => ?_) AllReadyH.nil; clear hHeld; go_simp; ((generalize hW : World.alloc _ _ = w7; have re := rd_oneE hW; clear L_bk; (first | replace HO := own_toE HO hW | replace HO := own_toE (own_drewE HO) hW); (first | replace r0 := blk_toK r0 hW | replace r0 := blk_toK (blk_drewK r0) hW); (first | replace bk := blk_toK bk hW | replace bk := blk_toK (blk_drewK bk) hW); (first | replace C := cur_toK C hW | replace C := cur_toK (CurB.cur_drew C) hW); (first | replace G := gr_toK G hW | replace G := gr_toK (CurB.gr_drew G) hW); have z7 := size_toE hW; (try simp only [World.size_drew] at z7); clear hW; have L_bk := Lay.f4 bk)); refine hK.out _ _ ?_ (fun hHeld => ?_); ((try dsimp only); skip); clear hK K)
                try simp only [Act.put, List.setIfInBounds_toArray, List.set_cons_zero, List.set_cons_succ]
                first | ((refine wpAnyH_take (i := 8) (v := undef) (Reg.get rfl) (by kernel_rfl) (by kernel_rfl) (by kernel_rfl) (fun _ _ _ h => h) (Or.inr ⟨by rfl, rfl⟩) hHeld ?_)) | (refine wpAnyH_ready (rs := [8]) (by kernel_rfl) (by simp) ?_; refine AllReadyH.cons (Reg.get rfl) (fun K hK => ?_) AllReadyH.nil; clear hHeld; ((refine App.wp_app _ _ _ 22 rfl w1.heap.size 3 i0 (.int .i64 0) 1 8 Tryd.underlying22 hi hz0 hzA hzB rfl (by decide) _ _ _ _ rfl (by first | exact HO | exact own_drewE HO) _ 1 1 [.int .i64 v] rfl (by first | exact re | exact re.drew) (fun u hu => by simp at hu; subst hu; rfl) (by unfold maxLen; omega) (by omega) (by first | omega | (simp; done) | (simp; omega)) ?_; intro A8 c8 w8 own8 hg8 _; have hP := own_loE HO; clear L_bk; (first | replace r0 := blk_grownM hg8 (own_ne HO r0 (by decide)) r0 | replace r0 := blk_grownM hg8 (own_ne HO r0 (by decide)) r0.drew); (first | replace bk := blk_grownM hg8 (own_ne HO bk (by decide)) bk | replace bk := blk_grownM hg8 (own_ne HO bk (by decide)) bk.drew); have hgA : blk L ≠ some g := (by intro e; have := hP _ e; omega); (first | replace C := cur_grownK hg8 (fun e => hgA e.symm) (fun h0 e => cur_offK C.2.1 HAL.out hP h0 e (by omega)) C | replace C := cur_grownK hg8 (fun e => hgA e.symm) (fun h0 e => cur_offK C.2.1 HAL.out hP h0 e (by omega)) (CurB.cur_drew C)); (first | replace G := gr_rowK G hg8 (fun q e => Nat.le_trans (by omega) (hP q e)) | replace G := gr_rowK (CurB.gr_drew G) hg8 (fun q e => Nat.le_trans (by omega) (hP q e))); have HO8 := own8; clear own8 hP hgA hg8 HO re; have L_bk := Lay.f4 bk)); refine hK.out _ _ ?_ (fun hHeld => ?_); ((try dsimp only); skip); clear hK K)
                try simp only [Act.put, List.setIfInBounds_toArray, List.set_cons_zero, List.set_cons_succ]
                first | (refine wpAnyH_take (i := 9) (v := ?_) (Reg.get rfl) (by kernel_rfl) (by kernel_rfl) (by kernel_rfl) (fun _ _ _ h => h) (Or.inl ⟨by rfl, ?_⟩) hHeld ?_; rotate_left 1; (focus (intro wq hSw; (try dsimp only at hSw);  go_simp <;> with_reducible rfl))) | (refine wpAnyH_take (i := 9) (v := undef) (Reg.get rfl) (by kernel_rfl) (by kernel_rfl) (by kernel_rfl) (fun _ _ _ h => h) (Or.inr ⟨by rfl, rfl⟩) hHeld ?_)
                try simp only [Act.put, List.setIfInBounds_toArray, List.set_cons_zero, List.set_cons_succ]
                first | ((refine wpAnyH_take (i := 10) (v := undef) (Reg.get rfl) (by kernel_rfl) (by kernel_rfl) (by kernel_rfl) (fun _ _ _ h => h) (Or.inr ⟨by rfl, rfl⟩) hHeld ?_)) | (refine wpAnyH_ready (rs := [10]) (by kernel_rfl) (by simp) ?_; refine AllReadyH.cons (Reg.get rfl) (fun K hK => ?_) AllReadyH.nil; clear hHeld; go_simp; (skip); refine hK.out _ _ ?_ (fun hHeld => ?_); ((try dsimp only); skip); clear hK K)
                try simp only [Act.put, List.setIfInBounds_toArray, List.set_cons_zero, List.set_cons_succ]
                refine wpAnyH_done (by kernel_rfl) ?_ _
                (try clear L_bk)
                generalize hW : World.setCell _ _ _ = w9
                replace HO8 := hW ▸ own_farK (o := 3) HO8 bk (by decide) (.slice A8 (q + 1) c8)
                replace HO8 : w9.ownsRow w1.heap.size 3 1 (.slice A8 (q + 1) c8) (q + 1) ((zs ++ [v]).map (Value.int .i64)) := by simpa using HO8
                replace bk : Bk.Blk w9 (w2.heap.size) 27 #[.int .i64 ke, .int .i64 se, .int .i64 re, .slice A8 (q + 1) c8] := (by rw [← hW]; apply Bk.Blk.to; (focus ((repeat (first | with_reducible assumption | (with_reducible apply Bk.Blk.newAt; focus (first | (simp [Bk.size_set]; done) | (simp [Bk.size_set]; omega))) | with_reducible apply Bk.Blk.drewN | with_reducible apply Bk.Blk.drew | with_reducible apply Bk.Blk.set_ | (with_reducible apply Bk.Blk.far; focus (dsimp only; first | omega | (simp; omega) | (simp; done))) | with_reducible apply Bk.Blk.alloc)))); rfl)
                replace r0 : Bk.Blk w9 (w.heap.size) 27 #[.int .i64 0, .int .i64 0, .int .i64 0, .slice none 0 0] := (by rw [← hW]; (repeat (first | with_reducible assumption | (with_reducible apply Bk.Blk.newAt; focus (first | (simp [Bk.size_set]; done) | (simp [Bk.size_set]; omega))) | with_reducible apply Bk.Blk.drewN | with_reducible apply Bk.Blk.drew | with_reducible apply Bk.Blk.set_ | (with_reducible apply Bk.Blk.far; focus (dsimp only; first | omega | (simp; omega) | (simp; done))) | with_reducible apply Bk.Blk.alloc)))
                replace C : Cur.Cur w9 (g) A n c bs := (by rw [← hW]; (repeat (first | with_reducible assumption | with_reducible apply Cur.Cur.alloc | with_reducible apply CurB.cur_drewN | with_reducible apply CurB.cur_drew | ((with_reducible refine CurB.cur_set HAL.out ?_ ?_ ?_ _); (focus (first | omega | (dsimp only; done) | (dsimp only; omega))); (focus (first | omega | (dsimp only; omega)))))))
                replace G : w.grownBy w9 (some (g)) := (by rw [← hW]; (repeat (first | with_reducible assumption | with_reducible exact World.grownBy.refl _ _ | with_reducible apply CurB.gr_alloc | with_reducible apply CurB.gr_drewN | with_reducible apply CurB.gr_drew | (with_reducible apply CurB.gr_set; focus (first | omega | (dsimp only; done) | (dsimp only; omega))))))
                have z9 : w9.heap.size = _ := congrArg (fun W : World => W.heap.size) hW.symm
                (try simp only [World.size_alloc, Bk.size_set, World.size_drew, World.drewN] at z9)
                clear hW
                have L_bk := Lay.f4 bk
                have L_r0 := Lay.f4 r0
                go_wp2_with fail
                clear L_bk L_r0
                generalize hW : World.setCell _ _ _ = w10
                have HO2 := Lib.hid (show w10.ownsRow w.heap.size 3 1 (.slice A8 (q + 1) c8) (q + 1) ((zs ++ [v]).map (Value.int .i64)) from by rw [← hW]; exact (own_low HO8 (by omega) (by repeat (first | with_reducible exact HO8 | (with_reducible refine own_set ?_ (by dsimp only; omega) _) | with_reducible refine own_drewE ?_))))
                replace r0 : Bk.Blk w10 (w.heap.size) 27 #[.int .i64 ke, .int .i64 se, .int .i64 re, .slice A8 (q + 1) c8] := (by rw [← hW]; apply Bk.Blk.to; (focus ((repeat (first | with_reducible assumption | (with_reducible apply Bk.Blk.newAt; focus (first | (simp [Bk.size_set]; done) | (simp [Bk.size_set]; omega))) | with_reducible apply Bk.Blk.drewN | with_reducible apply Bk.Blk.drew | with_reducible apply Bk.Blk.set_ | (with_reducible apply Bk.Blk.far; focus (dsimp only; first | omega | (simp; omega) | (simp; done))) | with_reducible apply Bk.Blk.alloc)))); rfl)
                replace C : Cur.Cur w10 (g) A n c bs := (by rw [← hW]; (repeat (first | with_reducible assumption | with_reducible apply Cur.Cur.alloc | with_reducible apply CurB.cur_drewN | with_reducible apply CurB.cur_drew | ((with_reducible refine CurB.cur_set HAL.out ?_ ?_ ?_ _); (focus (first | omega | (dsimp only; done) | (dsimp only; omega))); (focus (first | omega | (dsimp only; omega)))))))
                replace G : w.grownBy w10 (some (g)) := (by rw [← hW]; (repeat (first | with_reducible assumption | with_reducible exact World.grownBy.refl _ _ | with_reducible apply CurB.gr_alloc | with_reducible apply CurB.gr_drewN | with_reducible apply CurB.gr_drew | (with_reducible apply CurB.gr_set; focus (first | omega | (dsimp only; done) | (dsimp only; omega))))))
                have z10 : w10.heap.size = _ := congrArg (fun W : World => W.heap.size) hW.symm
                (try simp only [World.size_alloc, Bk.size_set, World.size_drew, World.drewN] at z10)
                clear hW
                have L_r0 := Lay.c4 r0
                go_wp2
                refine bodyPost_ret (v := .agg #[.int .i64 ke, .int .i64 se, .int .i64 re, .slice A8 (q + 1) c8]) (by simp [results, Tryd.results46, go_sem, L_r0]) rfl (⟨ke, se, re, q + 1, zs ++ [v], A8, c8, by omega, HO2.out, rfl, C, G⟩)
          
              · skip
                clear hHeld; go_simp; ((go_at_call 48; refine (l1Int_any A n c bs g _ 3 3 [ke, 100, 7] _ (by (repeat (first | with_reducible assumption | with_reducible apply Cur.Cur.alloc | with_reducible apply CurB.cur_drewN | with_reducible apply CurB.cur_drew | ((with_reducible refine CurB.cur_set HAL.out ?_ ?_ ?_ _); (focus (first | omega | (dsimp only; done) | (dsimp only; omega))); (focus (first | omega | (dsimp only; omega))))))) (by exact RL) (fun e => by have := C.lt; simp [blk] at e; omega) (by omega) (by omega)).mono ?_; rintro e w6 ⟨v, hv, rfl, C0, hg0⟩; clear RL hv hRb; clear L_bk; (first | replace HO := own_grownK HO hg0 (by omega) | replace HO := own_grownK (own_drewE HO) hg0 (by omega)); (first | replace r0 := blk_drawK hg0 (by omega) r0 | replace r0 := blk_drawK hg0 (by omega) (blk_drewK r0)); (first | replace bk := blk_drawK hg0 (by omega) bk | replace bk := blk_drawK hg0 (by omega) (blk_drewK bk)); replace C := C0; (first | replace G := G.trans hg0 | replace G := (CurB.gr_drew G).trans hg0); have z6 := hg0.size; (try simp only [World.size_drew] at z6); clear hg0; have L_bk := Lay.f4 bk)); refine hK.out _ _ ?_ (fun hHeld => ?_); ((try dsimp only); skip); clear hK K
                try simp only [Act.put, List.setIfInBounds_toArray, List.set_cons_zero, List.set_cons_succ]
                refine wpAnyH_ready (rs := [1, 7]) (by kernel_rfl) (by simp) ?_
                refine (AllReadyH.cons (Reg.get rfl) (fun K hK => ?_) (AllReadyH.cons (Reg.get rfl) (fun K hK => ?_) AllReadyH.nil))
          
                · skip
                  clear hHeld; go_simp; (skip); refine hK.out _ _ ?_ (fun hHeld => ?_); ((try dsimp only); skip); clear hK K
                  try simp only [Act.put, List.setIfInBounds_toArray, List.set_cons_zero, List.set_cons_succ]
                  first | ((refine wpAnyH_take (i := 7) (v := undef) (Reg.get rfl) (by kernel_rfl) (by kernel_rfl) (by kernel_rfl) (fun _ _ _ h => h) (Or.inr ⟨by rfl, rfl⟩) hHeld ?_)) | (refine wpAnyH_ready (rs := [7]) (by kernel_rfl) (by simp) ?_; refine AllReadyH.cons (Reg.get rfl) (fun K hK => ?_) AllReadyH.nil; clear hHeld; go_simp; ((generalize hW : World.alloc _ _ = w7; have re := rd_oneE hW; clear L_bk; (first | replace HO := own_toE HO hW | replace HO := own_toE (own_drewE HO) hW); (first | replace r0 := blk_toK r0 hW | replace r0 := blk_toK (blk_drewK r0) hW); (first | replace bk := blk_toK bk hW | replace bk := blk_toK (blk_drewK bk) hW); (first | replace C := cur_toK C hW | replace C := cur_toK (CurB.cur_drew C) hW); (first | replace G := gr_toK G hW | replace G := gr_toK (CurB.gr_drew G) hW); have z7 := size_toE hW; (try simp only [World.size_drew] at z7); clear hW; have L_bk := Lay.f4 bk)); refine hK.out _ _ ?_ (fun hHeld => ?_); ((try dsimp only); skip); clear hK K)
                  try simp only [Act.put, List.setIfInBounds_toArray, List.set_cons_zero, List.set_cons_succ]
                  first | ((refine wpAnyH_take (i := 8) (v := undef) (Reg.get rfl) (by kernel_rfl) (by kernel_rfl) (by kernel_rfl) (fun _ _ _ h => h) (Or.inr ⟨by rfl, rfl⟩) hHeld ?_)) | (refine wpAnyH_ready (rs := [8]) (by kernel_rfl) (by simp) ?_; refine AllReadyH.cons (Reg.get rfl) (fun K hK => ?_) AllReadyH.nil; clear hHeld; ((refine App.wp_app _ _ _ 22 rfl w1.heap.size 3 i0 (.int .i64 0) 1 8 Tryd.underlying22 hi hz0 hzA hzB rfl (by decide) _ _ _ _ rfl (by first | exact HO | exact own_drewE HO) _ 1 1 [.int .i64 v] rfl (by first | exact re | exact re.drew) (fun u hu => by simp at hu; subst hu; rfl) (by unfold maxLen; omega) (by omega) (by first | omega | (simp; done) | (simp; omega)) ?_; intro A8 c8 w8 own8 hg8 _; have hP := own_loE HO; clear L_bk; (first | replace r0 := blk_grownM hg8 (own_ne HO r0 (by decide)) r0 | replace r0 := blk_grownM hg8 (own_ne HO r0 (by decide)) r0.drew); (first | replace bk := blk_grownM hg8 (own_ne HO bk (by decide)) bk | replace bk := blk_grownM hg8 (own_ne HO bk (by decide)) bk.drew); have hgA : blk L ≠ some g := (by intro e; have := hP _ e; omega); (first | replace C := cur_grownK hg8 (fun e => hgA e.symm) (fun h0 e => cur_offK C.2.1 HAL.out hP h0 e (by omega)) C | replace C := cur_grownK hg8 (fun e => hgA e.symm) (fun h0 e => cur_offK C.2.1 HAL.out hP h0 e (by omega)) (CurB.cur_drew C)); (first | replace G := gr_rowK G hg8 (fun q e => Nat.le_trans (by omega) (hP q e)) | replace G := gr_rowK (CurB.gr_drew G) hg8 (fun q e => Nat.le_trans (by omega) (hP q e))); have HO8 := own8; clear own8 hP hgA hg8 HO re; have L_bk := Lay.f4 bk)); refine hK.out _ _ ?_ (fun hHeld => ?_); ((try dsimp only); skip); clear hK K)
                  try simp only [Act.put, List.setIfInBounds_toArray, List.set_cons_zero, List.set_cons_succ]
                  first | (refine wpAnyH_take (i := 9) (v := ?_) (Reg.get rfl) (by kernel_rfl) (by kernel_rfl) (by kernel_rfl) (fun _ _ _ h => h) (Or.inl ⟨by rfl, ?_⟩) hHeld ?_; rotate_left 1; (focus (intro wq hSw; (try dsimp only at hSw);  go_simp <;> with_reducible rfl))) | (refine wpAnyH_take (i := 9) (v := undef) (Reg.get rfl) (by kernel_rfl) (by kernel_rfl) (by kernel_rfl) (fun _ _ _ h => h) (Or.inr ⟨by rfl, rfl⟩) hHeld ?_)
                  try simp only [Act.put, List.setIfInBounds_toArray, List.set_cons_zero, List.set_cons_succ]
                  first | ((refine wpAnyH_take (i := 10) (v := undef) (Reg.get rfl) (by kernel_rfl) (by kernel_rfl) (by kernel_rfl) (fun _ _ _ h => h) (Or.inr ⟨by rfl, rfl⟩) hHeld ?_)) | (refine wpAnyH_ready (rs := [10]) (by kernel_rfl) (by simp) ?_; refine AllReadyH.cons (Reg.get rfl) (fun K hK => ?_) AllReadyH.nil; clear hHeld; go_simp; (skip); refine hK.out _ _ ?_ (fun hHeld => ?_); ((try dsimp only); skip); clear hK K)
                  try simp only [Act.put, List.setIfInBounds_toArray, List.set_cons_zero, List.set_cons_succ]
                  refine wpAnyH_done (by kernel_rfl) ?_ _
                  (try clear L_bk)
                  generalize hW : World.setCell _ _ _ = w9
                  replace HO8 := hW ▸ own_farK (o := 3) HO8 bk (by decide) (.slice A8 (q + 1) c8)
                  replace HO8 : w9.ownsRow w1.heap.size 3 1 (.slice A8 (q + 1) c8) (q + 1) ((zs ++ [v]).map (Value.int .i64)) := by simpa using HO8
                  replace bk : Bk.Blk w9 (w2.heap.size) 27 #[.int .i64 ke, .int .i64 se, .int .i64 re, .slice A8 (q + 1) c8] := (by rw [← hW]; apply Bk.Blk.to; (focus ((repeat (first | with_reducible assumption | (with_reducible apply Bk.Blk.newAt; focus (first | (simp [Bk.size_set]; done) | (simp [Bk.size_set]; omega))) | with_reducible apply Bk.Blk.drewN | with_reducible apply Bk.Blk.drew | with_reducible apply Bk.Blk.set_ | (with_reducible apply Bk.Blk.far; focus (dsimp only; first | omega | (simp; omega) | (simp; done))) | with_reducible apply Bk.Blk.alloc)))); rfl)
                  replace r0 : Bk.Blk w9 (w.heap.size) 27 #[.int .i64 0, .int .i64 0, .int .i64 0, .slice none 0 0] := (by rw [← hW]; (repeat (first | with_reducible assumption | (with_reducible apply Bk.Blk.newAt; focus (first | (simp [Bk.size_set]; done) | (simp [Bk.size_set]; omega))) | with_reducible apply Bk.Blk.drewN | with_reducible apply Bk.Blk.drew | with_reducible apply Bk.Blk.set_ | (with_reducible apply Bk.Blk.far; focus (dsimp only; first | omega | (simp; omega) | (simp; done))) | with_reducible apply Bk.Blk.alloc)))
                  replace C : Cur.Cur w9 (g) A n c bs := (by rw [← hW]; (repeat (first | with_reducible assumption | with_reducible apply Cur.Cur.alloc | with_reducible apply CurB.cur_drewN | with_reducible apply CurB.cur_drew | ((with_reducible refine CurB.cur_set HAL.out ?_ ?_ ?_ _); (focus (first | omega | (dsimp only; done) | (dsimp only; omega))); (focus (first | omega | (dsimp only; omega)))))))
                  replace G : w.grownBy w9 (some (g)) := (by rw [← hW]; (repeat (first | with_reducible assumption | with_reducible exact World.grownBy.refl _ _ | with_reducible apply CurB.gr_alloc | with_reducible apply CurB.gr_drewN | with_reducible apply CurB.gr_drew | (with_reducible apply CurB.gr_set; focus (first | omega | (dsimp only; done) | (dsimp only; omega))))))
                  have z9 : w9.heap.size = _ := congrArg (fun W : World => W.heap.size) hW.symm
                  (try simp only [World.size_alloc, Bk.size_set, World.size_drew, World.drewN] at z9)
                  clear hW
                  have L_bk := Lay.f4 bk
                  have L_r0 := Lay.f4 r0
                  go_wp2_with fail
                  clear L_bk L_r0
                  generalize hW : World.setCell _ _ _ = w10
                  have HO2 := Lib.hid (show w10.ownsRow w.heap.size 3 1 (.slice A8 (q + 1) c8) (q + 1) ((zs ++ [v]).map (Value.int .i64)) from by rw [← hW]; exact (own_low HO8 (by omega) (by repeat (first | with_reducible exact HO8 | (with_reducible refine own_set ?_ (by dsimp only; omega) _) | with_reducible refine own_drewE ?_))))
                  replace r0 : Bk.Blk w10 (w.heap.size) 27 #[.int .i64 ke, .int .i64 se, .int .i64 re, .slice A8 (q + 1) c8] := (by rw [← hW]; apply Bk.Blk.to; (focus ((repeat (first | with_reducible assumption | (with_reducible apply Bk.Blk.newAt; focus (first | (simp [Bk.size_set]; done) | (simp [Bk.size_set]; omega))) | with_reducible apply Bk.Blk.drewN | with_reducible apply Bk.Blk.drew | with_reducible apply Bk.Blk.set_ | (with_reducible apply Bk.Blk.far; focus (dsimp only; first | omega | (simp; omega) | (simp; done))) | with_reducible apply Bk.Blk.alloc)))); rfl)
                  replace C : Cur.Cur w10 (g) A n c bs := (by rw [← hW]; (repeat (first | with_reducible assumption | with_reducible apply Cur.Cur.alloc | with_reducible apply CurB.cur_drewN | with_reducible apply CurB.cur_drew | ((with_reducible refine CurB.cur_set HAL.out ?_ ?_ ?_ _); (focus (first | omega | (dsimp only; done) | (dsimp only; omega))); (focus (first | omega | (dsimp only; omega)))))))
                  replace G : w.grownBy w10 (some (g)) := (by rw [← hW]; (repeat (first | with_reducible assumption | with_reducible exact World.grownBy.refl _ _ | with_reducible apply CurB.gr_alloc | with_reducible apply CurB.gr_drewN | with_reducible apply CurB.gr_drew | (with_reducible apply CurB.gr_set; focus (first | omega | (dsimp only; done) | (dsimp only; omega))))))
                  have z10 : w10.heap.size = _ := congrArg (fun W : World => W.heap.size) hW.symm
                  (try simp only [World.size_alloc, Bk.size_set, World.size_drew, World.drewN] at z10)
                  clear hW
                  have L_r0 := Lay.c4 r0
                  go_wp2
                  refine bodyPost_ret (v := .agg #[.int .i64 ke, .int .i64 se, .int .i64 re, .slice A8 (q + 1) c8]) (by simp [results, Tryd.results46, go_sem, L_r0]) rfl (⟨ke, se, re, q + 1, zs ++ [v], A8, c8, by omega, HO2.out, rfl, C, G⟩)
          
                · skip
                  clear hHeld; go_simp; ((generalize hW : World.alloc _ _ = w7; have re := rd_oneE hW; clear L_bk; (first | replace HO := own_toE HO hW | replace HO := own_toE (own_drewE HO) hW); (first | replace r0 := blk_toK r0 hW | replace r0 := blk_toK (blk_drewK r0) hW); (first | replace bk := blk_toK bk hW | replace bk := blk_toK (blk_drewK bk) hW); (first | replace C := cur_toK C hW | replace C := cur_toK (CurB.cur_drew C) hW); (first | replace G := gr_toK G hW | replace G := gr_toK (CurB.gr_drew G) hW); have z7 := size_toE hW; (try simp only [World.size_drew] at z7); clear hW; have L_bk := Lay.f4 bk)); refine hK.out _ _ ?_ (fun hHeld => ?_); ((try dsimp only); skip); clear hK K
                  try simp only [Act.put, List.setIfInBounds_toArray, List.set_cons_zero, List.set_cons_succ]
                  first | ((refine wpAnyH_take (i := 1) (v := undef) (Reg.get rfl) (by kernel_rfl) (by kernel_rfl) (by kernel_rfl) (fun _ _ _ h => h) (Or.inr ⟨by rfl, rfl⟩) hHeld ?_)) | (refine wpAnyH_ready (rs := [1]) (by kernel_rfl) (by simp) ?_; refine AllReadyH.cons (Reg.get rfl) (fun K hK => ?_) AllReadyH.nil; clear hHeld; go_simp; (skip); refine hK.out _ _ ?_ (fun hHeld => ?_); ((try dsimp only); skip); clear hK K)
                  try simp only [Act.put, List.setIfInBounds_toArray, List.set_cons_zero, List.set_cons_succ]
                  first | ((refine wpAnyH_take (i := 8) (v := undef) (Reg.get rfl) (by kernel_rfl) (by kernel_rfl) (by kernel_rfl) (fun _ _ _ h => h) (Or.inr ⟨by rfl, rfl⟩) hHeld ?_)) | (refine wpAnyH_ready (rs := [8]) (by kernel_rfl) (by simp) ?_; refine AllReadyH.cons (Reg.get rfl) (fun K hK => ?_) AllReadyH.nil; clear hHeld; ((refine App.wp_app _ _ _ 22 rfl w1.heap.size 3 i0 (.int .i64 0) 1 8 Tryd.underlying22 hi hz0 hzA hzB rfl (by decide) _ _ _ _ rfl (by first | exact HO | exact own_drewE HO) _ 1 1 [.int .i64 v] rfl (by first | exact re | exact re.drew) (fun u hu => by simp at hu; subst hu; rfl) (by unfold maxLen; omega) (by omega) (by first | omega | (simp; done) | (simp; omega)) ?_; intro A8 c8 w8 own8 hg8 _; have hP := own_loE HO; clear L_bk; (first | replace r0 := blk_grownM hg8 (own_ne HO r0 (by decide)) r0 | replace r0 := blk_grownM hg8 (own_ne HO r0 (by decide)) r0.drew); (first | replace bk := blk_grownM hg8 (own_ne HO bk (by decide)) bk | replace bk := blk_grownM hg8 (own_ne HO bk (by decide)) bk.drew); have hgA : blk L ≠ some g := (by intro e; have := hP _ e; omega); (first | replace C := cur_grownK hg8 (fun e => hgA e.symm) (fun h0 e => cur_offK C.2.1 HAL.out hP h0 e (by omega)) C | replace C := cur_grownK hg8 (fun e => hgA e.symm) (fun h0 e => cur_offK C.2.1 HAL.out hP h0 e (by omega)) (CurB.cur_drew C)); (first | replace G := gr_rowK G hg8 (fun q e => Nat.le_trans (by omega) (hP q e)) | replace G := gr_rowK (CurB.gr_drew G) hg8 (fun q e => Nat.le_trans (by omega) (hP q e))); have HO8 := own8; clear own8 hP hgA hg8 HO re; have L_bk := Lay.f4 bk)); refine hK.out _ _ ?_ (fun hHeld => ?_); ((try dsimp only); skip); clear hK K)
                  try simp only [Act.put, List.setIfInBounds_toArray, List.set_cons_zero, List.set_cons_succ]
                  first | (refine wpAnyH_take (i := 9) (v := ?_) (Reg.get rfl) (by kernel_rfl) (by kernel_rfl) (by kernel_rfl) (fun _ _ _ h => h) (Or.inl ⟨by rfl, ?_⟩) hHeld ?_; rotate_left 1; (focus (intro wq hSw; (try dsimp only at hSw);  go_simp <;> with_reducible rfl))) | (refine wpAnyH_take (i := 9) (v := undef) (Reg.get rfl) (by kernel_rfl) (by kernel_rfl) (by kernel_rfl) (fun _ _ _ h => h) (Or.inr ⟨by rfl, rfl⟩) hHeld ?_)
                  try simp only [Act.put, List.setIfInBounds_toArray, List.set_cons_zero, List.set_cons_succ]
                  first | ((refine wpAnyH_take (i := 10) (v := undef) (Reg.get rfl) (by kernel_rfl) (by kernel_rfl) (by kernel_rfl) (fun _ _ _ h => h) (Or.inr ⟨by rfl, rfl⟩) hHeld ?_)) | (refine wpAnyH_ready (rs := [10]) (by kernel_rfl) (by simp) ?_; refine AllReadyH.cons (Reg.get rfl) (fun K hK => ?_) AllReadyH.nil; clear hHeld; go_simp; (skip); refine hK.out _ _ ?_ (fun hHeld => ?_); ((try dsimp only); skip); clear hK K)
                  try simp only [Act.put, List.setIfInBounds_toArray, List.set_cons_zero, List.set_cons_succ]
                  refine wpAnyH_done (by kernel_rfl) ?_ _
                  (try clear L_bk)
                  generalize hW : World.setCell _ _ _ = w9
                  replace HO8 := hW ▸ own_farK (o := 3) HO8 bk (by decide) (.slice A8 (q + 1) c8)
                  replace HO8 : w9.ownsRow w1.heap.size 3 1 (.slice A8 (q + 1) c8) (q + 1) ((zs ++ [v]).map (Value.int .i64)) := by simpa using HO8
                  replace bk : Bk.Blk w9 (w2.heap.size) 27 #[.int .i64 ke, .int .i64 se, .int .i64 re, .slice A8 (q + 1) c8] := (by rw [← hW]; apply Bk.Blk.to; (focus ((repeat (first | with_reducible assumption | (with_reducible apply Bk.Blk.newAt; focus (first | (simp [Bk.size_set]; done) | (simp [Bk.size_set]; omega))) | with_reducible apply Bk.Blk.drewN | with_reducible apply Bk.Blk.drew | with_reducible apply Bk.Blk.set_ | (with_reducible apply Bk.Blk.far; focus (dsimp only; first | omega | (simp; omega) | (simp; done))) | with_reducible apply Bk.Blk.alloc)))); rfl)
                  replace r0 : Bk.Blk w9 (w.heap.size) 27 #[.int .i64 0, .int .i64 0, .int .i64 0, .slice none 0 0] := (by rw [← hW]; (repeat (first | with_reducible assumption | (with_reducible apply Bk.Blk.newAt; focus (first | (simp [Bk.size_set]; done) | (simp [Bk.size_set]; omega))) | with_reducible apply Bk.Blk.drewN | with_reducible apply Bk.Blk.drew | with_reducible apply Bk.Blk.set_ | (with_reducible apply Bk.Blk.far; focus (dsimp only; first | omega | (simp; omega) | (simp; done))) | with_reducible apply Bk.Blk.alloc)))
                  replace C : Cur.Cur w9 (g) A n c bs := (by rw [← hW]; (repeat (first | with_reducible assumption | with_reducible apply Cur.Cur.alloc | with_reducible apply CurB.cur_drewN | with_reducible apply CurB.cur_drew | ((with_reducible refine CurB.cur_set HAL.out ?_ ?_ ?_ _); (focus (first | omega | (dsimp only; done) | (dsimp only; omega))); (focus (first | omega | (dsimp only; omega)))))))
                  replace G : w.grownBy w9 (some (g)) := (by rw [← hW]; (repeat (first | with_reducible assumption | with_reducible exact World.grownBy.refl _ _ | with_reducible apply CurB.gr_alloc | with_reducible apply CurB.gr_drewN | with_reducible apply CurB.gr_drew | (with_reducible apply CurB.gr_set; focus (first | omega | (dsimp only; done) | (dsimp only; omega))))))
                  have z9 : w9.heap.size = _ := congrArg (fun W : World => W.heap.size) hW.symm
                  (try simp only [World.size_alloc, Bk.size_set, World.size_drew, World.drewN] at z9)
                  clear hW
                  have L_bk := Lay.f4 bk
                  have L_r0 := Lay.f4 r0
                  go_wp2_with fail
                  clear L_bk L_r0
                  generalize hW : World.setCell _ _ _ = w10
                  have HO2 := Lib.hid (show w10.ownsRow w.heap.size 3 1 (.slice A8 (q + 1) c8) (q + 1) ((zs ++ [v]).map (Value.int .i64)) from by rw [← hW]; exact (own_low HO8 (by omega) (by repeat (first | with_reducible exact HO8 | (with_reducible refine own_set ?_ (by dsimp only; omega) _) | with_reducible refine own_drewE ?_))))
                  replace r0 : Bk.Blk w10 (w.heap.size) 27 #[.int .i64 ke, .int .i64 se, .int .i64 re, .slice A8 (q + 1) c8] := (by rw [← hW]; apply Bk.Blk.to; (focus ((repeat (first | with_reducible assumption | (with_reducible apply Bk.Blk.newAt; focus (first | (simp [Bk.size_set]; done) | (simp [Bk.size_set]; omega))) | with_reducible apply Bk.Blk.drewN | with_reducible apply Bk.Blk.drew | with_reducible apply Bk.Blk.set_ | (with_reducible apply Bk.Blk.far; focus (dsimp only; first | omega | (simp; omega) | (simp; done))) | with_reducible apply Bk.Blk.alloc)))); rfl)
                  replace C : Cur.Cur w10 (g) A n c bs := (by rw [← hW]; (repeat (first | with_reducible assumption | with_reducible apply Cur.Cur.alloc | with_reducible apply CurB.cur_drewN | with_reducible apply CurB.cur_drew | ((with_reducible refine CurB.cur_set HAL.out ?_ ?_ ?_ _); (focus (first | omega | (dsimp only; done) | (dsimp only; omega))); (focus (first | omega | (dsimp only; omega)))))))
                  replace G : w.grownBy w10 (some (g)) := (by rw [← hW]; (repeat (first | with_reducible assumption | with_reducible exact World.grownBy.refl _ _ | with_reducible apply CurB.gr_alloc | with_reducible apply CurB.gr_drewN | with_reducible apply CurB.gr_drew | (with_reducible apply CurB.gr_set; focus (first | omega | (dsimp only; done) | (dsimp only; omega))))))
                  have z10 : w10.heap.size = _ := congrArg (fun W : World => W.heap.size) hW.symm
                  (try simp only [World.size_alloc, Bk.size_set, World.size_drew, World.drewN] at z10)
                  clear hW
                  have L_r0 := Lay.c4 r0
                  go_wp2
                  refine bodyPost_ret (v := .agg #[.int .i64 ke, .int .i64 se, .int .i64 re, .slice A8 (q + 1) c8]) (by simp [results, Tryd.results46, go_sem, L_r0]) rfl (⟨ke, se, re, q + 1, zs ++ [v], A8, c8, by omega, HO2.out, rfl, C, G⟩)
        · skip
          have r3e : (x == 3) = false := by simpa using q3
          clear q3
          have L_bk := Lay.f4 bk
          have L_r0 := Lay.f4 r0
          go_wp2_with fail
          clear L_bk L_r0
          generalize hW : World.setCell _ _ _ = w7
          have HO2 := Lib.hid (show w7.ownsRow w.heap.size 3 1 (.slice L q d) q (zs.map (Value.int .i64)) from by rw [← hW]; exact (own_low HO (by omega) (by repeat (first | with_reducible exact HO | (with_reducible refine own_set ?_ (by dsimp only; omega) _) | with_reducible refine own_drewE ?_))))
          replace r0 : Bk.Blk w7 (w.heap.size) 27 #[.int .i64 ke, .int .i64 se, .int .i64 re, .slice L q d] := (by rw [← hW]; apply Bk.Blk.to; (focus ((repeat (first | with_reducible assumption | (with_reducible apply Bk.Blk.newAt; focus (first | (simp [Bk.size_set]; done) | (simp [Bk.size_set]; omega))) | with_reducible apply Bk.Blk.drewN | with_reducible apply Bk.Blk.drew | with_reducible apply Bk.Blk.set_ | (with_reducible apply Bk.Blk.far; focus (dsimp only; first | omega | (simp; omega) | (simp; done))) | with_reducible apply Bk.Blk.alloc)))); rfl)
          replace C : Cur.Cur w7 (g) A n c bs := (by rw [← hW]; (repeat (first | with_reducible assumption | with_reducible apply Cur.Cur.alloc | with_reducible apply CurB.cur_drewN | with_reducible apply CurB.cur_drew | ((with_reducible refine CurB.cur_set HAL.out ?_ ?_ ?_ _); (focus (first | omega | (dsimp only; done) | (dsimp only; omega))); (focus (first | omega | (dsimp only; omega)))))))
          replace G : w.grownBy w7 (some (g)) := (by rw [← hW]; (repeat (first | with_reducible assumption | with_reducible exact World.grownBy.refl _ _ | with_reducible apply CurB.gr_alloc | with_reducible apply CurB.gr_drewN | with_reducible apply CurB.gr_drew | (with_reducible apply CurB.gr_set; focus (first | omega | (dsimp only; done) | (dsimp only; omega))))))
          have z7 : w7.heap.size = _ := congrArg (fun W : World => W.heap.size) hW.symm
          (try simp only [World.size_alloc, Bk.size_set, World.size_drew, World.drewN] at z7)
          clear hW
          have L_r0 := Lay.c4 r0
          go_wp2
          refine bodyPost_ret (v := .agg #[.int .i64 ke, .int .i64 se, .int .i64 re, .slice L q d]) (by simp [results, Tryd.results46, go_sem, L_r0]) rfl (⟨ke, se, re, q, zs, L, d, by omega, HO2.out, rfl, C, G⟩)
/-- a key state and a body have been drawn -/
def DrewPf (w : World) (e : Ending) (w' : World) : Prop :=
  ∃ (ke se re : Int) (q : Nat) (zs : List Int) (L : Option Addr) (d : Nat) (m : Nat) (ys : List Int) (M : Option Addr) (md : Nat), q ≤ 17 ∧ m ≤ 256 ∧ AllBytes ys ∧ w'.ownsRow w.heap.size 3 1 (.slice L q d) q (zs.map (Value.int .i64)) ∧ w'.ownsRow w.heap.size 5 1 (.slice M m md) m (ys.map (Value.int .u8)) ∧ e = .returned (.tuple #[.agg #[.int .i64 ke, .int .i64 se, .int .i64 re, .slice L q d], .slice M m md]) ∧ Below w.heap.size w w'
theorem five_in : ∀ x ∈ ([0, 2, 5, 100, 101] : List Int), 0 ≤ x ∧ x ≤ 256 := by decide
set_option maxRecDepth 100000 in
set_option maxHeartbeats 16000000 in
theorem drawPf_any (A : Option Addr) (n c : Nat) (bs : List Int) (w : World) (hr : Rd w 1 A n c (bs.map (Value.int .u8))) (hb : AllBytes bs) (hn : n ≤ 2097152) :
    Calls Tryd.prog 20 #[.slice A n c] w (DrewPf w) := by
  have HAL := Lib.hid (CurB.old_of hr)
  have HR := Lib.hid hr
  have HB := Lib.hid hb
  have HN := Lib.hid hn
  have B : Below w.heap.size w w := Below.refl _ _
  clear hr hb
  go_enter Tryd.func20, Tryd.ntmps20
  go_wp2_with fail
  generalize hW : World.alloc _ _ = w1
  have r0 : Bk.Blk w1 (w.heap.size) 27 #[.int .i64 0, .int .i64 0, .int .i64 0, .slice none 0 0] := (by rw [← hW]; apply Bk.Blk.to; (focus ((repeat (first | with_reducible assumption | (with_reducible apply Bk.Blk.newAt; focus (first | (simp [Bk.size_set]; done) | (simp [Bk.size_set]; omega))) | with_reducible apply Bk.Blk.drewN | with_reducible apply Bk.Blk.drew | with_reducible apply Bk.Blk.set_ | (with_reducible apply Bk.Blk.far; focus (dsimp only; first | omega | (simp; omega) | (simp; done))) | with_reducible apply Bk.Blk.alloc)))); rfl)
  replace B : Below w.heap.size w w1 := (by rw [← hW]; go_grown)
  have z1 : w1.heap.size = _ := congrArg (fun W : World => W.heap.size) hW.symm
  (try simp only [World.size_alloc, Bk.size_set, World.size_drew, World.drewN] at z1)
  clear hW
  refine (l1New_any A n c bs _ (HR.out.below B) HB.out hn).mono ?_
  rintro e w2 ⟨h, rfl, rfl⟩
  generalize hW : World.alloc _ _ = w2
  have C : Cur.Cur w2 (w.heap.size + 1) A n c bs := by rw [← hW, ← z1]; exact CurB.cur_newAt rfl (HR.out.below B) HB.out HN.out _
  replace r0 : Bk.Blk w2 (w.heap.size) 27 #[.int .i64 0, .int .i64 0, .int .i64 0, .slice none 0 0] := (by rw [← hW]; (repeat (first | with_reducible assumption | (with_reducible apply Bk.Blk.newAt; focus (first | (simp [Bk.size_set]; done) | (simp [Bk.size_set]; omega))) | with_reducible apply Bk.Blk.drewN | with_reducible apply Bk.Blk.drew | with_reducible apply Bk.Blk.set_ | (with_reducible apply Bk.Blk.far; focus (dsimp only; first | omega | (simp; omega) | (simp; done))) | with_reducible apply Bk.Blk.alloc)))
  replace B : Below w.heap.size w w2 := (by rw [← hW]; go_grown)
  have z2 : w2.heap.size = _ := congrArg (fun W : World => W.heap.size) hW.symm
  (try simp only [World.size_alloc, Bk.size_set, World.size_drew, World.drewN] at z2)
  clear hW
  (try rw [z1])
  go_wp2_with fail
  refine (l31Any_any A n c bs _ _ (by (repeat (first | with_reducible assumption | with_reducible apply Cur.Cur.alloc | with_reducible apply CurB.cur_drewN | with_reducible apply CurB.cur_drew | ((with_reducible refine CurB.cur_set HAL.out ?_ ?_ ?_ _); (focus (first | omega | (dsimp only; done) | (dsimp only; omega))); (focus (first | omega | (dsimp only; omega)))))))).mono ?_
  rintro x w3 ⟨ke, se, re, q, zs, L, d, hq, ho, rfl, C0, hg0⟩
  have HO := ho
  replace r0 : Bk.Blk w3 (w.heap.size) 27 #[.int .i64 0, .int .i64 0, .int .i64 0, .slice none 0 0] := Bk.Blk.grown hg0 (by omega) (by (repeat (first | with_reducible assumption | (with_reducible apply Bk.Blk.newAt; focus (first | (simp [Bk.size_set]; done) | (simp [Bk.size_set]; omega))) | with_reducible apply Bk.Blk.drewN | with_reducible apply Bk.Blk.drew | with_reducible apply Bk.Blk.set_ | (with_reducible apply Bk.Blk.far; focus (dsimp only; first | omega | (simp; omega) | (simp; done))) | with_reducible apply Bk.Blk.alloc)))
  replace C := C0
  replace B : Below w.heap.size w w3 := Bk.below_grown (by go_grown) hg0 (by omega) (by first | omega | (simp [Bk.size_set]; done) | (simp [Bk.size_set]; omega))
  have z3 := hg0.size
  (try simp only [World.size_alloc, Bk.size_set, World.size_drew, World.drewN] at z3)
  clear hg0
  clear ho
  go_wp2_with fail
  generalize hW : World.alloc _ _ = w4
  replace HO := own_toE HO hW
  have bk : Bk.Blk w4 (w3.heap.size) 27 #[.int .i64 ke, .int .i64 se, .int .i64 re, .slice L q d] := (by rw [← hW]; apply Bk.Blk.to; (focus ((repeat (first | with_reducible assumption | (with_reducible apply Bk.Blk.newAt; focus (first | (simp [Bk.size_set]; done) | (simp [Bk.size_set]; omega))) | with_reducible apply Bk.Blk.drewN | with_reducible apply Bk.Blk.drew | with_reducible apply Bk.Blk.set_ | (with_reducible apply Bk.Blk.far; focus (dsimp only; first | omega | (simp; omega) | (simp; done))) | with_reducible apply Bk.Blk.alloc)))); rfl)
  replace r0 : Bk.Blk w4 (w.heap.size) 27 #[.int .i64 0, .int .i64 0, .int .i64 0, .slice none 0 0] := (by rw [← hW]; (repeat (first | with_reducible assumption | (with_reducible apply Bk.Blk.newAt; focus (first | (simp [Bk.size_set]; done) | (simp [Bk.size_set]; omega))) | with_reducible apply Bk.Blk.drewN | with_reducible apply Bk.Blk.drew | with_reducible apply Bk.Blk.set_ | (with_reducible apply Bk.Blk.far; focus (dsimp only; first | omega | (simp; omega) | (simp; done))) | with_reducible apply Bk.Blk.alloc)))
  replace C : Cur.Cur w4 (w.heap.size + 1) A n c bs := (by rw [← hW]; (repeat (first | with_reducible assumption | with_reducible apply Cur.Cur.alloc | with_reducible apply CurB.cur_drewN | with_reducible apply CurB.cur_drew | ((with_reducible refine CurB.cur_set HAL.out ?_ ?_ ?_ _); (focus (first | omega | (dsimp only; done) | (dsimp only; omega))); (focus (first | omega | (dsimp only; omega)))))))
  replace B : Below w.heap.size w w4 := (by rw [← hW]; go_grown)
  have z4 : w4.heap.size = _ := congrArg (fun W : World => W.heap.size) hW.symm
  (try simp only [World.size_alloc, Bk.size_set, World.size_drew, World.drewN] at z4)
  clear hW
  have zz := Nat.le_of_eq z4
  have zz2 := Nat.le_of_eq z4.symm
  clear z4
  have L_bk := Lay.f4 bk
  have L_r0 := Lay.f4 r0
  refine wp_region_held_drew (S := (fun w' => Bk.Blk w' (w3.heap.size) 27 #[.int .i64 ke, .int .i64 se, .int .i64 re, .slice L q d])) (by kernel_rfl) ?_ (fun hHeld => ?_)
  · (try dsimp only); (repeat (first | with_reducible assumption | (with_reducible apply Bk.Blk.newAt; focus (first | (simp [Bk.size_set]; done) | (simp [Bk.size_set]; omega))) | with_reducible apply Bk.Blk.drewN | with_reducible apply Bk.Blk.drew | with_reducible apply Bk.Blk.set_ | (with_reducible apply Bk.Blk.far; focus (dsimp only; first | omega | (simp; omega) | (simp; done))) | with_reducible apply Bk.Blk.alloc))
  first | (refine wpAnyH_take (i := 0) (v := ?_) (Reg.get rfl) (by kernel_rfl) (by kernel_rfl) (by kernel_rfl) (fun _ _ _ h => h) (Or.inl ⟨by rfl, ?_⟩) hHeld ?_; rotate_left 1; (focus (intro wq hSw; (try dsimp only at hSw); have s_bk := hSw; have L_bk := Lay.c4 s_bk;  go_simp <;> with_reducible rfl))) | (refine wpAnyH_take (i := 0) (v := undef) (Reg.get rfl) (by kernel_rfl) (by kernel_rfl) (by kernel_rfl) (fun _ _ _ h => h) (Or.inr ⟨by rfl, rfl⟩) hHeld ?_)
  try simp only [Act.put, List.setIfInBounds_toArray, List.set_cons_zero, List.set_cons_succ]
  first | (refine wpAnyH_take (i := 1) (v := ?_) (Reg.get rfl) (by kernel_rfl) (by kernel_rfl) (by kernel_rfl) (fun _ _ _ h => h) (Or.inl ⟨by rfl, ?_⟩) hHeld ?_; rotate_left 1; (focus (intro wq hSw; (try dsimp only at hSw); have s_bk := hSw; have L_bk := Lay.c4 s_bk;  go_simp <;> with_reducible rfl))) | (refine wpAnyH_take (i := 1) (v := undef) (Reg.get rfl) (by kernel_rfl) (by kernel_rfl) (by kernel_rfl) (fun _ _ _ h => h) (Or.inr ⟨by rfl, rfl⟩) hHeld ?_)
  try simp only [Act.put, List.setIfInBounds_toArray, List.set_cons_zero, List.set_cons_succ]
  first | (refine wpAnyH_take (i := 2) (v := ?_) (Reg.get rfl) (by kernel_rfl) (by kernel_rfl) (by kernel_rfl) (fun _ _ _ h => h) (Or.inl ⟨by rfl, ?_⟩) hHeld ?_; rotate_left 1; (focus (intro wq hSw; (try dsimp only at hSw); have s_bk := hSw; have L_bk := Lay.c4 s_bk;  go_simp <;> with_reducible rfl))) | (refine wpAnyH_take (i := 2) (v := undef) (Reg.get rfl) (by kernel_rfl) (by kernel_rfl) (by kernel_rfl) (fun _ _ _ h => h) (Or.inr ⟨by rfl, rfl⟩) hHeld ?_)
  try simp only [Act.put, List.setIfInBounds_toArray, List.set_cons_zero, List.set_cons_succ]
  first | ((refine wpAnyH_take (i := 3) (v := undef) (Reg.get rfl) (by kernel_rfl) (by kernel_rfl) (by kernel_rfl) (fun _ _ _ h => h) (Or.inr ⟨by rfl, rfl⟩) hHeld ?_)) | (refine wpAnyH_ready (rs := [3]) (by kernel_rfl) (by simp) ?_; refine AllReadyH.cons (Reg.get rfl) (fun K hK => ?_) AllReadyH.nil; clear hHeld; go_simp; ((generalize hW : World.alloc _ _ = w5; have RL := rd_fiveK hW; have hRb := size_toE hW; (first | replace HO := own_toE HO hW | replace HO := own_toE (own_drewE HO) hW); clear L_bk L_r0; (first | replace r0 := blk_toK r0 hW | replace r0 := blk_toK (blk_drewK r0) hW); (first | replace bk := blk_toK bk hW | replace bk := blk_toK (blk_drewK bk) hW); (first | replace C := cur_toK C hW | replace C := cur_toK (CurB.cur_drew C) hW); replace B : Below w.heap.size w w5 := (by rw [← hW]; go_grown); have z5 := size_toE hW; (try simp only [World.size_drew] at z5); clear hW; have L_bk := Lay.f4 bk; have L_r0 := Lay.f4 r0)); refine hK.out _ _ ?_ (fun hHeld => ?_); ((try dsimp only); (repeat (first | with_reducible assumption | (with_reducible apply Bk.Blk.newAt; focus (first | (simp [Bk.size_set]; done) | (simp [Bk.size_set]; omega))) | with_reducible apply Bk.Blk.drewN | with_reducible apply Bk.Blk.drew | with_reducible apply Bk.Blk.set_ | (with_reducible apply Bk.Blk.far; focus (dsimp only; first | omega | (simp; omega) | (simp; done))) | with_reducible apply Bk.Blk.alloc))); clear hK K)
  try simp only [Act.put, List.setIfInBounds_toArray, List.set_cons_zero, List.set_cons_succ]
  first | ((refine wpAnyH_take (i := 4) (v := undef) (Reg.get rfl) (by kernel_rfl) (by kernel_rfl) (by kernel_rfl) (fun _ _ _ h => h) (Or.inr ⟨by rfl, rfl⟩) hHeld ?_)) | (refine wpAnyH_ready (rs := [4]) (by kernel_rfl) (by simp) ?_; refine AllReadyH.cons (Reg.get rfl) (fun K hK => ?_) AllReadyH.nil; clear hHeld; go_simp; ((go_at_call 48; refine (l1Int_any A n c bs _ _ 5 5 [0, 2, 5, 100, 101] _ (by (repeat (first | with_reducible assumption | with_reducible apply Cur.Cur.alloc | with_reducible apply CurB.cur_drewN | with_reducible apply CurB.cur_drew | ((with_reducible refine CurB.cur_set HAL.out ?_ ?_ ?_ _); (focus (first | omega | (dsimp only; done) | (dsimp only; omega))); (focus (first | omega | (dsimp only; omega))))))) (by exact RL) (fun e => by have := C.lt; simp [blk] at e; omega) (by omega) (by omega)).mono ?_; rintro e w6 ⟨v, hv, rfl, C0, hg0⟩; have hvb := five_in _ hv; clear RL hRb hv; (first | replace HO := own_grownK HO hg0 (by omega) | replace HO := own_grownK (own_drewE HO) hg0 (by omega)); clear L_bk L_r0; replace r0 : Bk.Blk w6 (w.heap.size) 27 #[.int .i64 0, .int .i64 0, .int .i64 0, .slice none 0 0] := Bk.Blk.grown hg0 (by omega) (by (repeat (first | with_reducible assumption | (with_reducible apply Bk.Blk.newAt; focus (first | (simp [Bk.size_set]; done) | (simp [Bk.size_set]; omega))) | with_reducible apply Bk.Blk.drewN | with_reducible apply Bk.Blk.drew | with_reducible apply Bk.Blk.set_ | (with_reducible apply Bk.Blk.far; focus (dsimp only; first | omega | (simp; omega) | (simp; done))) | with_reducible apply Bk.Blk.alloc))); replace bk : Bk.Blk w6 (w3.heap.size) 27 #[.int .i64 ke, .int .i64 se, .int .i64 re, .slice L q d] := Bk.Blk.grown hg0 (by omega) (by (repeat (first | with_reducible assumption | (with_reducible apply Bk.Blk.newAt; focus (first | (simp [Bk.size_set]; done) | (simp [Bk.size_set]; omega))) | with_reducible apply Bk.Blk.drewN | with_reducible apply Bk.Blk.drew | with_reducible apply Bk.Blk.set_ | (with_reducible apply Bk.Blk.far; focus (dsimp only; first | omega | (simp; omega) | (simp; done))) | with_reducible apply Bk.Blk.alloc))); replace C := C0; replace B : Below w.heap.size w w6 := Bk.below_grown (by go_grown) hg0 (by omega) (by first | omega | (simp [Bk.size_set]; done) | (simp [Bk.size_set]; omega)); have z6 := hg0.size; (try simp only [World.size_alloc, Bk.size_set, World.size_drew, World.drewN] at z6); clear hg0; have L_bk := Lay.f4 bk; have L_r0 := Lay.f4 r0)); refine hK.out _ _ ?_ (fun hHeld => ?_); ((try dsimp only); (repeat (first | with_reducible assumption | (with_reducible apply Bk.Blk.newAt; focus (first | (simp [Bk.size_set]; done) | (simp [Bk.size_set]; omega))) | with_reducible apply Bk.Blk.drewN | with_reducible apply Bk.Blk.drew | with_reducible apply Bk.Blk.set_ | (with_reducible apply Bk.Blk.far; focus (dsimp only; first | omega | (simp; omega) | (simp; done))) | with_reducible apply Bk.Blk.alloc))); clear hK K)
  try simp only [Act.put, List.setIfInBounds_toArray, List.set_cons_zero, List.set_cons_succ]
  first | ((refine wpAnyH_take (i := 5) (v := undef) (Reg.get rfl) (by kernel_rfl) (by kernel_rfl) (by kernel_rfl) (fun _ _ _ h => h) (Or.inr ⟨by rfl, rfl⟩) hHeld ?_)) | (refine wpAnyH_ready (rs := [5]) (by kernel_rfl) (by simp) ?_; refine AllReadyH.cons (Reg.get rfl) (fun K hK => ?_) AllReadyH.nil; clear hHeld; go_simp; ((go_at_call 47; refine (l1Bytes_any A n c bs _ v _ (by (repeat (first | with_reducible assumption | with_reducible apply Cur.Cur.alloc | with_reducible apply CurB.cur_drewN | with_reducible apply CurB.cur_drew | ((with_reducible refine CurB.cur_set HAL.out ?_ ?_ ?_ _); (focus (first | omega | (dsimp only; done) | (dsimp only; omega))); (focus (first | omega | (dsimp only; omega))))))) (by omega) (by omega)).mono ?_; rintro e w7 ⟨m, ys, M, md, hm, hys, hbo, rfl, C0, hg0⟩; have HBD := hbo; have HYS := Lib.hid hys; clear hbo hys; (first | replace HO := own_grownK HO hg0 (by omega) | replace HO := own_grownK (own_drewE HO) hg0 (by omega)); clear L_bk L_r0; replace r0 : Bk.Blk w7 (w.heap.size) 27 #[.int .i64 0, .int .i64 0, .int .i64 0, .slice none 0 0] := Bk.Blk.grown hg0 (by omega) (by (repeat (first | with_reducible assumption | (with_reducible apply Bk.Blk.newAt; focus (first | (simp [Bk.size_set]; done) | (simp [Bk.size_set]; omega))) | with_reducible apply Bk.Blk.drewN | with_reducible apply Bk.Blk.drew | with_reducible apply Bk.Blk.set_ | (with_reducible apply Bk.Blk.far; focus (dsimp only; first | omega | (simp; omega) | (simp; done))) | with_reducible apply Bk.Blk.alloc))); replace bk : Bk.Blk w7 (w3.heap.size) 27 #[.int .i64 ke, .int .i64 se, .int .i64 re, .slice L q d] := Bk.Blk.grown hg0 (by omega) (by (repeat (first | with_reducible assumption | (with_reducible apply Bk.Blk.newAt; focus (first | (simp [Bk.size_set]; done) | (simp [Bk.size_set]; omega))) | with_reducible apply Bk.Blk.drewN | with_reducible apply Bk.Blk.drew | with_reducible apply Bk.Blk.set_ | (with_reducible apply Bk.Blk.far; focus (dsimp only; first | omega | (simp; omega) | (simp; done))) | with_reducible apply Bk.Blk.alloc))); replace C := C0; replace B : Below w.heap.size w w7 := Bk.below_grown (by go_grown) hg0 (by omega) (by first | omega | (simp [Bk.size_set]; done) | (simp [Bk.size_set]; omega)); have z7 := hg0.size; (try simp only [World.size_alloc, Bk.size_set, World.size_drew, World.drewN] at z7); clear hg0; have L_bk := Lay.f4 bk; have L_r0 := Lay.f4 r0)); refine hK.out _ _ ?_ (fun hHeld => ?_); ((try dsimp only); (repeat (first | with_reducible assumption | (with_reducible apply Bk.Blk.newAt; focus (first | (simp [Bk.size_set]; done) | (simp [Bk.size_set]; omega))) | with_reducible apply Bk.Blk.drewN | with_reducible apply Bk.Blk.drew | with_reducible apply Bk.Blk.set_ | (with_reducible apply Bk.Blk.far; focus (dsimp only; first | omega | (simp; omega) | (simp; done))) | with_reducible apply Bk.Blk.alloc))); clear hK K)
  try simp only [Act.put, List.setIfInBounds_toArray, List.set_cons_zero, List.set_cons_succ]
  first | ((refine wpAnyH_take (i := 6) (v := undef) (Reg.get rfl) (by kernel_rfl) (by kernel_rfl) (by kernel_rfl) (fun _ _ _ h => h) (Or.inr ⟨by rfl, rfl⟩) hHeld ?_)) | (refine wpAnyH_ready (rs := [6]) (by kernel_rfl) (by simp) ?_; refine AllReadyH.cons (Reg.get rfl) (fun K hK => ?_) AllReadyH.nil; clear hHeld; go_simp; (skip); refine hK.out _ _ ?_ (fun hHeld => ?_); ((try dsimp only); (repeat (first | with_reducible assumption | (with_reducible apply Bk.Blk.newAt; focus (first | (simp [Bk.size_set]; done) | (simp [Bk.size_set]; omega))) | with_reducible apply Bk.Blk.drewN | with_reducible apply Bk.Blk.drew | with_reducible apply Bk.Blk.set_ | (with_reducible apply Bk.Blk.far; focus (dsimp only; first | omega | (simp; omega) | (simp; done))) | with_reducible apply Bk.Blk.alloc))); clear hK K)
  try simp only [Act.put, List.setIfInBounds_toArray, List.set_cons_zero, List.set_cons_succ]
  first | (refine wpAnyH_take (i := 7) (v := ?_) (Reg.get rfl) (by kernel_rfl) (by kernel_rfl) (by kernel_rfl) (fun _ _ _ h => h) (Or.inl ⟨by rfl, ?_⟩) hHeld ?_; rotate_left 1; (focus (intro wq hSw; (try dsimp only at hSw); have s_bk := hSw; have L_bk := Lay.c4 s_bk;  go_simp <;> with_reducible rfl))) | (refine wpAnyH_take (i := 7) (v := undef) (Reg.get rfl) (by kernel_rfl) (by kernel_rfl) (by kernel_rfl) (fun _ _ _ h => h) (Or.inr ⟨by rfl, rfl⟩) hHeld ?_)
  try simp only [Act.put, List.setIfInBounds_toArray, List.set_cons_zero, List.set_cons_succ]
  refine wpAnyH_done (by kernel_rfl) ?_ _
  clear L_bk L_r0
  generalize hW : World.setCell _ _ _ = w8
  have zbk := bk.lt
  have HO2 := Lib.hid (show w8.ownsRow w.heap.size 3 1 (.slice L q d) q (zs.map (Value.int .i64)) from by rw [← hW]; exact (own_low HO (by omega) (by repeat (first | with_reducible exact HO | (with_reducible refine own_set ?_ (by dsimp only; omega) _) | with_reducible refine own_drewE ?_))))
  have HD2 := Lib.hid (show w8.ownsRow w.heap.size 5 1 (.slice M m md) m (ys.map (Value.int .u8)) from by rw [← hW]; exact (own_low HBD (by first | omega | (simp; done) | (simp; omega)) (by repeat (first | with_reducible exact HBD | (with_reducible refine own_set ?_ (by dsimp only; first | omega | (simp; omega)) _) | with_reducible refine own_drewE ?_))))
  replace r0 : Bk.Blk w8 (w.heap.size) 27 #[.int .i64 ke, .int .i64 se, .int .i64 re, .slice L q d] := (by rw [← hW]; apply Bk.Blk.to; (focus ((repeat (first | with_reducible assumption | (with_reducible apply Bk.Blk.newAt; focus (first | (simp [Bk.size_set]; done) | (simp [Bk.size_set]; omega))) | with_reducible apply Bk.Blk.drewN | with_reducible apply Bk.Blk.drew | with_reducible apply Bk.Blk.set_ | (with_reducible apply Bk.Blk.far; focus (dsimp only; first | omega | (simp; omega) | (simp; done))) | with_reducible apply Bk.Blk.alloc)))); rfl)
  replace B : Below w.heap.size w w8 := (by rw [← hW]; go_grown)
  have z8 : w8.heap.size = _ := congrArg (fun W : World => W.heap.size) hW.symm
  (try simp only [World.size_alloc, Bk.size_set, World.size_drew, World.drewN] at z8)
  clear hW
  have L_r0 := Lay.c4 r0
  go_wp2
  refine bodyPost_ret (v := .tuple #[.agg #[.int .i64 ke, .int .i64 se, .int .i64 re, .slice L q d], .slice M m md]) (by simp [results, Tryd.results20, go_sem, L_r0]) rfl (⟨ke, se, re, q, zs, L, d, m, ys, M, md, hq, hm, HYS.out, HO2.out, HD2.out, rfl, (by first | exact B | exact B.drew)⟩)
end Go.Proofs.YtgbmbnofnhhblaaDoor.Seal
