/- Power buffers: the program's comparison of a buffer with itself. -/
import Derived.Test.YthdieeaegplnmaaMkB
import Derived.Test.YthdieeaegplnmaaBaseB
namespace Go.Proofs.Ythdieeaegplnmaa.Pb
open Go.RowKit
open Go.Proofs.Ythdieeaegplnmaa.Num Go.Proofs.Ythdieeaegplnmaa.Mem Go.Proofs.Ythdieeaegplnmaa.Hsh Go.Proofs.Ythdieeaegplnmaa.Sls Go.Proofs.Ythdieeaegplnmaa.Own Go.Proofs.Ythdieeaegplnmaa.SS Go.Proofs.Ythdieeaegplnmaa.Gb
set_option linter.unusedSimpArgs false
set_option linter.unusedVariables false
set_option maxRecDepth 100000 in
set_option maxHeartbeats 8000000 in
theorem eqPb_impl (A : Option Addr) (n c : Nat) (ks : List Kt) (w : World) (hr : RdPB w A n c ks) :
    Calls Try.prog 51 #[.agg #[.slice A n c], .agg #[.slice A n c]] w fun x w' => x = .returned (.bool true) ∧ Below w.heap.size w w' := by
  have hn := hr.n64
  have HR := Lib.hid hr
  have B : Below w.heap.size w w := Below.refl _ _
  clear hr
  go_enter Try.func51, Try.ntmps51
  go_wp2_with fail
  generalize hW : World.alloc _ _ = w1
  have ba : Bk.Blk w1 (w.heap.size) 39 #[.slice A n c] := (by rw [← hW]; apply Bk.Blk.to; (focus (exact Bk.sv)); rfl)
  have bb : Bk.Blk w1 (w.heap.size + 1) 39 #[.slice A n c] := (by rw [← hW]; apply Bk.Blk.to; (focus (exact Bk.sv)); rfl)
  replace B : Below w.heap.size w w1 := (by rw [← hW]; go_grown)
  have z1 : w1.heap.size = _ := congrArg (fun W : World => W.heap.size) hW.symm
  (try simp only [World.size_alloc, Bk.size_set, World.size_drew, World.drewN] at z1)
  clear hW
  have l_ba : w.heap.size < w1.heap.size := Bk.Blk.lt ba
  have c_ba0 : w1.cell? ⟨w.heap.size, 0, none⟩ = some (.slice A n c) := Bk.Blk.cell ba 0
  have f_ba0 : w1.frozen? ⟨w.heap.size, 0, none⟩ = false := Bk.Blk.fro ba 0
  have l_bb : w.heap.size + 1 < w1.heap.size := Bk.Blk.lt bb
  have c_bb0 : w1.cell? ⟨w.heap.size + 1, 0, none⟩ = some (.slice A n c) := Bk.Blk.cell bb 0
  have f_bb0 : w1.frozen? ⟨w.heap.size + 1, 0, none⟩ = false := Bk.Blk.fro bb 0
  go_wp2_with fail
  clear l_ba c_ba0 f_ba0 l_bb c_bb0 f_bb0
  go_loopw [18] (fun v18 wr => ∃ k : Nat, k ≤ n ∧ v18 = .int .i64 (k : Int) ∧ Bk.Blk wr w.heap.size 39 #[.slice A n c] ∧ Bk.Blk wr (w.heap.size + 1) 39 #[.slice A n c] ∧ w1.heap.size ≤ wr.heap.size ∧ Below w.heap.size w wr) (fun v18 _ => n - (intOf v18).toNat)
  case atStart => exact ⟨0, Nat.zero_le _, rfl, ba, bb, Nat.le_refl _, B⟩
  case round =>
    clear ba bb B
    obtain ⟨k, hk, rfl, ba, bb, z3, B⟩ := hrel
    obtain ⟨w3, hw3⟩ : ∃ W, W = wr := ⟨_, rfl⟩
    subst hw3
    by_cases hlt : k < n
    · obtain ⟨g, o, A', n', c', rfl, hg, d0, d1, d2, d3, hrd⟩ := (HR.out.below B).at_ hlt
      have HRD := Lib.hid hrd
      have i0 : (0 : Int) ≤ (k : Int) := by omega
      have i1 : (k : Int) < (n : Int) := by omega
      generalize (nthK ks k).st = st at *
      generalize (nthK ks k).ap = ap at *
      generalize (nthK ks k).lo = lo at *
      generalize (nthK ks k).fs = fs at *
      have ea : (ap != ap) = false := by cases ap <;> rfl
      clear hrd
      go_upto_region 6 with fail
      go_cut [6, 7] (fun v6 v7 wx => ∃ p q : Nat, v6 = .pointer (some ⟨p, 0, none⟩) ∧ v7 = .pointer (some ⟨q, 0, none⟩) ∧ Bk.Blk wx p 95 #[.int .i64 st, .bool ap, .slice A' n' c', .int .i64 lo] ∧ Bk.Blk wx q 95 #[.int .i64 st, .bool ap, .slice A' n' c', .int .i64 lo] ∧ Below w3.heap.size w3 wx)
      case first =>
        have D : Below w3.heap.size w3 w3 := Below.refl _ _
        have KC := Lib.hid (fun (W : World) (h : Below w3.heap.size w3 W) => show (W.cell? ⟨w.heap.size, 0, none⟩ = some (.slice (some ⟨g, o, none⟩) n c) ∧ W.cell? ⟨w.heap.size + 1, 0, none⟩ = some (.slice (some ⟨g, o, none⟩) n c)) ∧ W.cell? ⟨g, o + k * 4, none⟩ = some (.int .i64 st) ∧ W.cell? ⟨g, o + k * 4 + 1, none⟩ = some (.bool ap) ∧ W.cell? ⟨g, o + k * 4 + 2, none⟩ = some (.slice A' n' c') ∧ W.cell? ⟨g, o + k * 4 + 3, none⟩ = some (.int .i64 lo) from ⟨⟨(ba.under h).cell 0, (bb.under h).cell 0⟩, Mem.lift h d0, Mem.lift h d1, Mem.lift h d2, Mem.lift h d3⟩)
        clear d0 d1 d2 d3 ba bb B
        have cb := KC.out _ D
        refine wp_region_held_drew (S := (fun w' => (w'.cell? ⟨w.heap.size, 0, none⟩ = some (.slice (some ⟨g, o, none⟩) n c) ∧ w'.cell? ⟨w.heap.size + 1, 0, none⟩ = some (.slice (some ⟨g, o, none⟩) n c)) ∧ w'.cell? ⟨g, o + k * 4, none⟩ = some (.int .i64 st) ∧ w'.cell? ⟨g, o + k * 4 + 1, none⟩ = some (.bool ap) ∧ w'.cell? ⟨g, o + k * 4 + 2, none⟩ = some (.slice A' n' c') ∧ w'.cell? ⟨g, o + k * 4 + 3, none⟩ = some (.int .i64 lo))) (by kernel_rfl) ?_ (fun hHeld => ?_)
        · (try dsimp only); exact cb
        first | refine Reg.tkA 0 (Reg.get rfl) hHeld ?_ | refine Reg.tkB 0 (Reg.get rfl) hHeld ?_
        try simp only [Act.put, List.setIfInBounds_toArray, List.set_cons_zero, List.set_cons_succ]
        first | refine Reg.tkA 1 (Reg.get rfl) hHeld ?_ | refine Reg.tkB 1 (Reg.get rfl) hHeld ?_
        try simp only [Act.put, List.setIfInBounds_toArray, List.set_cons_zero, List.set_cons_succ]
        first | refine Reg.tkA 2 (Reg.get rfl) hHeld ?_ | refine Reg.tkB 2 (Reg.get rfl) hHeld ?_
        try simp only [Act.put, List.setIfInBounds_toArray, List.set_cons_zero, List.set_cons_succ]
        first | refine Reg.tkA 3 (Reg.get rfl) hHeld ?_ | refine Reg.tkB 3 (Reg.get rfl) hHeld ?_
        try simp only [Act.put, List.setIfInBounds_toArray, List.set_cons_zero, List.set_cons_succ]
        first | refine Reg.tkA 4 (Reg.get rfl) hHeld ?_ | refine Reg.tkB 4 (Reg.get rfl) hHeld ?_
        try simp only [Act.put, List.setIfInBounds_toArray, List.set_cons_zero, List.set_cons_succ]
        first | refine Reg.tkA 5 (Reg.get rfl) hHeld ?_ | refine Reg.tkB 5 (Reg.get rfl) hHeld ?_
        try simp only [Act.put, List.setIfInBounds_toArray, List.set_cons_zero, List.set_cons_succ]
        first | refine Reg.tkA 6 (Reg.get rfl) hHeld ?_ | refine Reg.tkB 6 (Reg.get rfl) hHeld ?_
        try simp only [Act.put, List.setIfInBounds_toArray, List.set_cons_zero, List.set_cons_succ]
        first | refine Reg.tkA 7 (Reg.get rfl) hHeld ?_ | refine Reg.tkB 7 (Reg.get rfl) hHeld ?_
        try simp only [Act.put, List.setIfInBounds_toArray, List.set_cons_zero, List.set_cons_succ]
        first | refine Reg.tkA 8 (Reg.get rfl) hHeld ?_ | refine Reg.tkB 8 (Reg.get rfl) hHeld ?_
        try simp only [Act.put, List.setIfInBounds_toArray, List.set_cons_zero, List.set_cons_succ]
        first | refine Reg.tkA 9 (Reg.get rfl) hHeld ?_ | refine Reg.tkB 9 (Reg.get rfl) hHeld ?_
        try simp only [Act.put, List.setIfInBounds_toArray, List.set_cons_zero, List.set_cons_succ]
        refine wpAnyH_ready (rs := [10, 11]) (by kernel_rfl) (by simp) ?_
        refine (AllReadyH.cons (Reg.get rfl) (fun K hK => ?_) (AllReadyH.cons (Reg.get rfl) (fun K hK => ?_) AllReadyH.nil))
        
        · skip
          clear hHeld; go_simp; ((have zD := D.size; (try have hlt10 := PY.lt); generalize hW : World.alloc _ _ = w10; have PX := blk_newM hW; (try simp only [World.size_drew] at PX); (try simp only [World.size_drew] at hlt10); (try simp only [World.size_drew] at zD); (try (first | replace PY := blk_toM PY hW | replace PY := blk_toM (blk_drewM PY) hW)); replace D : Below w3.heap.size w3 w10 := (by rw [← hW]; go_grown); clear hW; clear cb; have cb := KC.out _ D)); refine hK.out _ _ ?_ (fun hHeld => ?_); ((try dsimp only); exact cb); clear hK K
          try simp only [Act.put, List.setIfInBounds_toArray, List.set_cons_zero, List.set_cons_succ]
          first | ((refine Reg.tkB 11 (Reg.get rfl) hHeld ?_)) | (refine wpAnyH_ready (rs := [11]) (by kernel_rfl) (by simp) ?_; refine AllReadyH.cons (Reg.get rfl) (fun K hK => ?_) AllReadyH.nil; clear hHeld; go_simp; ((have zD := D.size; (try have hlt11 := PX.lt); generalize hW : World.alloc _ _ = w11; have PY := blk_newM hW; (try simp only [World.size_drew] at PY); (try simp only [World.size_drew] at hlt11); (try simp only [World.size_drew] at zD); (try (first | replace PX := blk_toM PX hW | replace PX := blk_toM (blk_drewM PX) hW)); replace D : Below w3.heap.size w3 w11 := (by rw [← hW]; go_grown); clear hW; clear cb; have cb := KC.out _ D)); refine hK.out _ _ ?_ (fun hHeld => ?_); ((try dsimp only); exact cb); clear hK K)
          try simp only [Act.put, List.setIfInBounds_toArray, List.set_cons_zero, List.set_cons_succ]
          first | ((refine Reg.tkB 12 (Reg.get rfl) hHeld ?_)) | (refine wpAnyH_ready (rs := [12]) (by kernel_rfl) (by simp) ?_; refine AllReadyH.cons (Reg.get rfl) (fun K hK => ?_) AllReadyH.nil; clear hHeld; ((refine Sto.wp_store 95 (.tmp 6) (.tmp 25) (by rfl) _ 95 _ [.int .i64 st, .bool ap, .slice A' n' c', .int .i64 lo] (by rfl) (by rfl) (by first | exact PX | exact PX.drew) (by rfl) (by kernel_rfl) (by rfl) ?_; intro w12 hb0 hg0 hs0; (try (first | replace PY := blk_grM hg0 (fun e => by injection e with e; omega) PY | replace PY := blk_grM hg0 (fun e => by injection e with e; omega) PY.drew)); (first | replace D := below_grM D hg0 (by omega) | replace D := below_grM D.drew hg0 (by omega)); replace PX := hb0; clear hb0 hg0 cb; have cb := KC.out _ D)); refine hK.out _ _ ?_ (fun hHeld => ?_); ((try dsimp only); exact cb); clear hK K)
          try simp only [Act.put, List.setIfInBounds_toArray, List.set_cons_zero, List.set_cons_succ]
          first | ((refine Reg.tkB 13 (Reg.get rfl) hHeld ?_)) | (refine wpAnyH_ready (rs := [13]) (by kernel_rfl) (by simp) ?_; refine AllReadyH.cons (Reg.get rfl) (fun K hK => ?_) AllReadyH.nil; clear hHeld; ((refine Sto.wp_store 95 (.tmp 7) (.tmp 30) (by rfl) _ 95 _ [.int .i64 st, .bool ap, .slice A' n' c', .int .i64 lo] (by rfl) (by rfl) (by first | exact PY | exact PY.drew) (by rfl) (by kernel_rfl) (by rfl) ?_; intro w13 hb0 hg0 hs0; (try (first | replace PX := blk_grM hg0 (fun e => by injection e with e; omega) PX | replace PX := blk_grM hg0 (fun e => by injection e with e; omega) PX.drew)); (first | replace D := below_grM D hg0 (by omega) | replace D := below_grM D.drew hg0 (by omega)); replace PY := hb0; clear hb0 hg0 cb; have cb := KC.out _ D)); refine hK.out _ _ ?_ (fun hHeld => ?_); ((try dsimp only); exact cb); clear hK K)
          try simp only [Act.put, List.setIfInBounds_toArray, List.set_cons_zero, List.set_cons_succ]
          refine wpAnyH_done (by kernel_rfl) ?_ _
          go_wp2_with fail
          go_meet
          exact ⟨_, _, rfl, rfl, (by first | exact PX | exact PX.drew), (by first | exact PY | exact PY.drew), (by first | exact D | exact D.drew)⟩
        
        · skip
          clear hHeld; go_simp; ((have zD := D.size; (try have hlt11 := PX.lt); generalize hW : World.alloc _ _ = w11; have PY := blk_newM hW; (try simp only [World.size_drew] at PY); (try simp only [World.size_drew] at hlt11); (try simp only [World.size_drew] at zD); (try (first | replace PX := blk_toM PX hW | replace PX := blk_toM (blk_drewM PX) hW)); replace D : Below w3.heap.size w3 w11 := (by rw [← hW]; go_grown); clear hW; clear cb; have cb := KC.out _ D)); refine hK.out _ _ ?_ (fun hHeld => ?_); ((try dsimp only); exact cb); clear hK K
          try simp only [Act.put, List.setIfInBounds_toArray, List.set_cons_zero, List.set_cons_succ]
          first | ((refine Reg.tkB 10 (Reg.get rfl) hHeld ?_)) | (refine wpAnyH_ready (rs := [10]) (by kernel_rfl) (by simp) ?_; refine AllReadyH.cons (Reg.get rfl) (fun K hK => ?_) AllReadyH.nil; clear hHeld; go_simp; ((have zD := D.size; (try have hlt10 := PY.lt); generalize hW : World.alloc _ _ = w10; have PX := blk_newM hW; (try simp only [World.size_drew] at PX); (try simp only [World.size_drew] at hlt10); (try simp only [World.size_drew] at zD); (try (first | replace PY := blk_toM PY hW | replace PY := blk_toM (blk_drewM PY) hW)); replace D : Below w3.heap.size w3 w10 := (by rw [← hW]; go_grown); clear hW; clear cb; have cb := KC.out _ D)); refine hK.out _ _ ?_ (fun hHeld => ?_); ((try dsimp only); exact cb); clear hK K)
          try simp only [Act.put, List.setIfInBounds_toArray, List.set_cons_zero, List.set_cons_succ]
          first | ((refine Reg.tkB 12 (Reg.get rfl) hHeld ?_)) | (refine wpAnyH_ready (rs := [12]) (by kernel_rfl) (by simp) ?_; refine AllReadyH.cons (Reg.get rfl) (fun K hK => ?_) AllReadyH.nil; clear hHeld; ((refine Sto.wp_store 95 (.tmp 6) (.tmp 25) (by rfl) _ 95 _ [.int .i64 st, .bool ap, .slice A' n' c', .int .i64 lo] (by rfl) (by rfl) (by first | exact PX | exact PX.drew) (by rfl) (by kernel_rfl) (by rfl) ?_; intro w12 hb0 hg0 hs0; (try (first | replace PY := blk_grM hg0 (fun e => by injection e with e; omega) PY | replace PY := blk_grM hg0 (fun e => by injection e with e; omega) PY.drew)); (first | replace D := below_grM D hg0 (by omega) | replace D := below_grM D.drew hg0 (by omega)); replace PX := hb0; clear hb0 hg0 cb; have cb := KC.out _ D)); refine hK.out _ _ ?_ (fun hHeld => ?_); ((try dsimp only); exact cb); clear hK K)
          try simp only [Act.put, List.setIfInBounds_toArray, List.set_cons_zero, List.set_cons_succ]
          first | ((refine Reg.tkB 13 (Reg.get rfl) hHeld ?_)) | (refine wpAnyH_ready (rs := [13]) (by kernel_rfl) (by simp) ?_; refine AllReadyH.cons (Reg.get rfl) (fun K hK => ?_) AllReadyH.nil; clear hHeld; ((refine Sto.wp_store 95 (.tmp 7) (.tmp 30) (by rfl) _ 95 _ [.int .i64 st, .bool ap, .slice A' n' c', .int .i64 lo] (by rfl) (by rfl) (by first | exact PY | exact PY.drew) (by rfl) (by kernel_rfl) (by rfl) ?_; intro w13 hb0 hg0 hs0; (try (first | replace PX := blk_grM hg0 (fun e => by injection e with e; omega) PX | replace PX := blk_grM hg0 (fun e => by injection e with e; omega) PX.drew)); (first | replace D := below_grM D hg0 (by omega) | replace D := below_grM D.drew hg0 (by omega)); replace PY := hb0; clear hb0 hg0 cb; have cb := KC.out _ D)); refine hK.out _ _ ?_ (fun hHeld => ?_); ((try dsimp only); exact cb); clear hK K)
          try simp only [Act.put, List.setIfInBounds_toArray, List.set_cons_zero, List.set_cons_succ]
          refine wpAnyH_done (by kernel_rfl) ?_ _
          go_wp2_with fail
          go_meet
          exact ⟨_, _, rfl, rfl, (by first | exact PX | exact PX.drew), (by first | exact PY | exact PY.drew), (by first | exact D | exact D.drew)⟩
      case rest =>
        clear d0 d1 d2 d3
        obtain ⟨w4, hw4⟩ : ∃ W, W = wc := ⟨_, rfl⟩
        subst hw4
        obtain ⟨p, q, rfl, rfl, px, py, D⟩ := hcut
        replace ba := ba.under D
        replace bb := bb.under D
        replace HRD := Lib.hid (HRD.out.below D)
        have z4 := D.size
        have zp := px.lt
        have zq := py.lt
        replace B : Below w.heap.size w w4 := Below.trans B (D.mono B.size)
        clear D
        have L_px := Lay.f4 px
        have L_py := Lay.f4 py
        go_wp2_with fail
        clear L_px L_py
        refine (eqSS_impl A' n' c' fs A' n' c' fs _ HRD.out HRD.out).mono ?_
        rintro x w5 ⟨rfl, hb0⟩
        rw [decide_eq_true rfl]
        replace ba : Bk.Blk w5 (w.heap.size) 39 #[.slice (some ⟨g, o, none⟩) n c] := Bk.Blk.under hb0 (by exact Bk.sv)
        replace bb : Bk.Blk w5 (w.heap.size + 1) 39 #[.slice (some ⟨g, o, none⟩) n c] := Bk.Blk.under hb0 (by exact Bk.sv)
        replace B : Below w.heap.size w w5 := Below.trans (by go_grown) (hb0.mono (by first | omega | (simp [Bk.size_set]; done) | (simp [Bk.size_set]; omega)))
        have z5 := hb0.size
        (try simp only [World.size_alloc, Bk.size_set, World.size_drew, World.drewN] at z5)
        clear hb0
        clear px py
        go_wp2_with fail
        go_roundw
        case rel => exact ⟨k + 1, by omega, by go_num, ba, bb, by omega, B⟩
        case measure => simp [intOf]; omega
    · obtain rfl : k = n := by omega
      go_wp2
      go_ret
      exact ⟨rfl, B⟩
end Go.Proofs.Ythdieeaegplnmaa.Pb
