/- Power buffers: the reference's KeepFrame that keeps the frame. -/
import Derived.Test.YthdieeaegplnmaaPbSk
namespace Go.Proofs.Ythdieeaegplnmaa.Pb
open Go.RowKit
open Go.Proofs.Ythdieeaegplnmaa.Num Go.Proofs.Ythdieeaegplnmaa.Mem Go.Proofs.Ythdieeaegplnmaa.Hsh Go.Proofs.Ythdieeaegplnmaa.Sls Go.Proofs.Ythdieeaegplnmaa.Own Go.Proofs.Ythdieeaegplnmaa.SS Go.Proofs.Ythdieeaegplnmaa.Gb
set_option linter.unusedSimpArgs false
set_option linter.unusedVariables false
set_option maxRecDepth 100000 in
set_option maxHeartbeats 8000000 in
theorem keepS_keep (A : Option Addr) (n c : Nat) (ks : List Kt) (st : Int) (j : Nat) (B' : Option Addr) (m d : Nat) (bs : List Int) (w : World) (hF : FindR ks st n (j : Int)) (hj : j < n) (ha : (nthK ks j).ap = true) (hfew : (nthK ks j).fs.length < 6) (hm : m ≤ 100) (hbd : Rd w 1 B' m d (bs.map (Value.int .u8))) (hr : RdPB w A n c ks) (hn : n ≤ 1048577) (hs : AllFew ks) :
    Calls Try.prog 103 #[.agg #[.slice A n c], .int .i64 st, .slice B' m d] w (RetSN w n (ks.set j { nthK ks j with fs := (nthK ks j).fs ++ [bs] }) false) := by
  obtain ⟨ip, hip, hp0, hp1, hp2⟩ := info_parts ssInfo
  obtain ⟨iu, hiu, hu0, hu1, hu2⟩ := info_parts uInfo
  obtain ⟨gp, op, A', n', c', rfl, hgp, p0, p1, p2, p3, hrd⟩ := hr.at_ hj
  rw [ha] at p1
  have HP1 := Lib.hid p1
  have HP2 := Lib.hid p2
  have HRN := Lib.hid hrd.1
  have hfew2 := hfew
  clear p0 p1 p2 p3 hrd
  have HR := Lib.hid hr
  have HS := Lib.hid hs
  have HF := Lib.hid hF
  have HBD := Lib.hid hbd
  have B : Below w.heap.size w w := Below.refl _ _
  clear hr hs hF hbd
  go_enter Try.func103, Try.ntmps103
  go_wp2_with fail
  generalize hW : World.alloc _ _ = w1
  have bp : Bk.Blk w1 (w.heap.size) 39 #[.slice (some ⟨gp, op, none⟩) n c] := (by rw [← hW]; apply Bk.Blk.to; (focus (exact Bk.sv)); rfl)
  have r0 : Bk.Blk w1 (w.heap.size + 1) 39 #[.slice none 0 0] := (by rw [← hW]; apply Bk.Blk.to; (focus (exact Bk.sv)); rfl)
  replace B : Below w.heap.size w w1 := (by rw [← hW]; go_grown)
  have z1 : w1.heap.size = _ := congrArg (fun W : World => W.heap.size) hW.symm
  (try simp only [World.size_alloc, Bk.size_set, World.size_drew, World.drewN] at z1)
  clear hW
  refine (copyPb_spec (some ⟨gp, op, none⟩) n c ks _ (HR.out.below B) hn HS.out).mono ?_
  rintro x w2 ⟨A1, c1, rfl, hown, hb0⟩
  obtain ⟨g, rfl, hg1, hg2⟩ := hown.addr (by omega)
  have HO := Lib.hid hown
  clear hown
  replace bp : Bk.Blk w2 (w.heap.size) 39 #[.slice (some ⟨gp, op, none⟩) n c] := Bk.Blk.under hb0 (by exact Bk.sv)
  replace r0 : Bk.Blk w2 (w.heap.size + 1) 39 #[.slice none 0 0] := Bk.Blk.under hb0 (by exact Bk.sv)
  replace B : Below w.heap.size w w2 := Below.trans (by go_grown) (hb0.mono (by first | omega | (simp [Bk.size_set]; done) | (simp [Bk.size_set]; omega)))
  have z2 := hb0.size
  (try simp only [World.size_alloc, Bk.size_set, World.size_drew, World.drewN] at z2)
  clear hb0
  have l_bp : w.heap.size < w2.heap.size := Bk.Blk.lt bp
  have c_bp0 : w2.cell? ⟨w.heap.size, 0, none⟩ = some (.slice (some ⟨gp, op, none⟩) n c) := Bk.Blk.cell bp 0
  have f_bp0 : w2.frozen? ⟨w.heap.size, 0, none⟩ = false := Bk.Blk.fro bp 0
  go_wp2_with fail
  clear l_bp c_bp0 f_bp0
  generalize hW : World.alloc _ _ = w3
  replace HO := Lib.hid (HO.out.below (show Below w2.heap.size w2 w3 from by rw [← hW]; go_grown) (Nat.le_refl _))
  have bo : Bk.Blk w3 (w2.heap.size) 39 #[.slice (some ⟨g, 0, none⟩) n c1] := (by rw [← hW]; apply Bk.Blk.to; (focus (exact Bk.sv)); rfl)
  replace bp : Bk.Blk w3 (w.heap.size) 39 #[.slice (some ⟨gp, op, none⟩) n c] := (by rw [← hW]; exact Bk.sv)
  replace r0 : Bk.Blk w3 (w.heap.size + 1) 39 #[.slice none 0 0] := (by rw [← hW]; exact Bk.sv)
  replace B : Below w.heap.size w w3 := (by rw [← hW]; go_grown)
  have z3 : w3.heap.size = _ := congrArg (fun W : World => W.heap.size) hW.symm
  (try simp only [World.size_alloc, Bk.size_set, World.size_drew, World.drewN] at z3)
  clear hW
  refine (find_spec (some ⟨gp, op, none⟩) n c ks st _ (HR.out.below B)).mono ?_
  rintro x w4 ⟨i, hi, rfl, hb0⟩
  obtain rfl := find_one HF.out hi
  replace HO := Lib.hid (HO.out.below hb0 (by omega))
  clear hi
  replace bo : Bk.Blk w4 (w2.heap.size) 39 #[.slice (some ⟨g, 0, none⟩) n c1] := Bk.Blk.under hb0 (by exact Bk.sv)
  replace bp : Bk.Blk w4 (w.heap.size) 39 #[.slice (some ⟨gp, op, none⟩) n c] := Bk.Blk.under hb0 (by exact Bk.sv)
  replace r0 : Bk.Blk w4 (w.heap.size + 1) 39 #[.slice none 0 0] := Bk.Blk.under hb0 (by exact Bk.sv)
  replace B : Below w.heap.size w w4 := Below.trans (by go_grown) (hb0.mono (by first | omega | (simp [Bk.size_set]; done) | (simp [Bk.size_set]; omega)))
  have z4 := hb0.size
  (try simp only [World.size_alloc, Bk.size_set, World.size_drew, World.drewN] at z4)
  clear hb0
  have zB := B.size
  have hjc : (j : Int) < (n : Int) := by omega
  obtain ⟨X1, n1, x1, a, b, ss, cs, HG, s0, s1, s2, s3, hn1, hls, ha1, ha2, ha3, HP, HI, hXb, hcl⟩ := HO.out.takeFr hj
  rw [ha] at s1
  clear ha
  have HX := Lib.hid hn1
  have HL := Lib.hid hls
  have HXG := Lib.hid (own_ne2 HP HG (by decide))
  have HC2 := Lib.hid s2
  have HCL := Lib.hid hcl
  have HXB := Lib.hid hXb
  have d1 : w4.cell? ⟨g, j * 4 + 1, none⟩ = some (.bool true) := by rw [HG.cellAt _ (by omega), s1]
  have d2 : w4.cell? ⟨g, j * 4 + 2, none⟩ = some (.slice X1 n1 x1) := by rw [HG.cellAt _ (by omega), s2]
  have HO4 := Lib.hid d2
  clear s0 s1 s2 s3 hls hcl hXb
  have hf2 : (n1 : Int) < 6 := by omega
  have hn2 : n1 < 6 := by omega
  have hm2 : (m : Int) ≤ 100 := by omega
  clear hn1 hfew
  have HQ := KeptH.refl w4 (blk X1)
  have p1 := (B.cell (p := ⟨gp, op + j * 4 + 1, none⟩) hgp).trans HP1.out
  have p2 := (B.cell (p := ⟨gp, op + j * 4 + 2, none⟩) hgp).trans HP2.out
  have hn6 : (n' : Int) < 6 := by have := HRN.out; omega
  clear hfew2
  have l_bo : w2.heap.size < w4.heap.size := Bk.Blk.lt bo
  have c_bo0 : w4.cell? ⟨w2.heap.size, 0, none⟩ = some (.slice (some ⟨g, 0, none⟩) n c1) := Bk.Blk.cell bo 0
  have f_bo0 : w4.frozen? ⟨w2.heap.size, 0, none⟩ = false := Bk.Blk.fro bo 0
  have l_bp : w.heap.size < w4.heap.size := Bk.Blk.lt bp
  have c_bp0 : w4.cell? ⟨w.heap.size, 0, none⟩ = some (.slice (some ⟨gp, op, none⟩) n c) := Bk.Blk.cell bp 0
  have f_bp0 : w4.frozen? ⟨w.heap.size, 0, none⟩ = false := Bk.Blk.fro bp 0
  have l_r0 : w.heap.size + 1 < w4.heap.size := Bk.Blk.lt r0
  have c_r00 : w4.cell? ⟨w.heap.size + 1, 0, none⟩ = some (.slice none 0 0) := Bk.Blk.cell r0 0
  have f_r00 : w4.frozen? ⟨w.heap.size + 1, 0, none⟩ = false := Bk.Blk.fro r0 0
  go_wp2_with fail
  clear l_bo c_bo0 f_bo0 l_bp c_bp0 f_bp0 l_r0 c_r00 f_r00
  clear d1 p1 p2 bp
  refine wp_region_held_drew (S := (fun w' => Bk.Blk w' (w2.heap.size) 39 #[.slice (some ⟨g, 0, none⟩) n c1])) (by kernel_rfl) ?_ (fun hHeld => ?_)
  · (try dsimp only); exact Bk.sv
  first | (refine Reg.tkC 0 ?_ (Reg.get rfl) ?_ hHeld ?_; rotate_left 1; (focus (intro wq hSw; (try dsimp only at hSw); have s_bo := hSw; have L_bo := Lay.c1 s_bo;  go_simp <;> with_reducible rfl))) | (refine Reg.tkB 0 (Reg.get rfl) hHeld ?_)
  try simp only [Act.put, List.setIfInBounds_toArray, List.set_cons_zero, List.set_cons_succ]
  first | (refine Reg.tkC 1 ?_ (Reg.get rfl) ?_ hHeld ?_; rotate_left 1; (focus (intro wq hSw; (try dsimp only at hSw); have s_bo := hSw; have L_bo := Lay.c1 s_bo;  go_simp <;> with_reducible rfl))) | (refine Reg.tkB 1 (Reg.get rfl) hHeld ?_)
  try simp only [Act.put, List.setIfInBounds_toArray, List.set_cons_zero, List.set_cons_succ]
  first | (refine Reg.tkC 2 ?_ (Reg.get rfl) ?_ hHeld ?_; rotate_left 1; (focus (intro wq hSw; (try dsimp only at hSw); have s_bo := hSw; have L_bo := Lay.c1 s_bo;  go_simp <;> with_reducible rfl))) | (refine Reg.tkB 2 (Reg.get rfl) hHeld ?_)
  try simp only [Act.put, List.setIfInBounds_toArray, List.set_cons_zero, List.set_cons_succ]
  first | (refine Reg.tkC 3 ?_ (Reg.get rfl) ?_ hHeld ?_; rotate_left 1; (focus (intro wq hSw; (try dsimp only at hSw); have s_bo := hSw; have L_bo := Lay.c1 s_bo;  go_simp <;> with_reducible rfl))) | (refine Reg.tkB 3 (Reg.get rfl) hHeld ?_)
  try simp only [Act.put, List.setIfInBounds_toArray, List.set_cons_zero, List.set_cons_succ]
  first | (refine Reg.tkC 4 ?_ (Reg.get rfl) ?_ hHeld ?_; rotate_left 1; (focus (intro wq hSw; (try dsimp only at hSw); have s_bo := hSw; have L_bo := Lay.c1 s_bo;  go_simp <;> with_reducible rfl))) | (refine Reg.tkB 4 (Reg.get rfl) hHeld ?_)
  try simp only [Act.put, List.setIfInBounds_toArray, List.set_cons_zero, List.set_cons_succ]
  first | (refine Reg.tkC 5 ?_ (Reg.get rfl) ?_ hHeld ?_; rotate_left 1; (focus (intro wq hSw; (try dsimp only at hSw); have s_bo := hSw; have L_bo := Lay.c1 s_bo;  go_simp <;> with_reducible rfl))) | (refine Reg.tkB 5 (Reg.get rfl) hHeld ?_)
  try simp only [Act.put, List.setIfInBounds_toArray, List.set_cons_zero, List.set_cons_succ]
  first | (refine Reg.tkC 6 ?_ (Reg.get rfl) ?_ hHeld ?_; rotate_left 1; (focus (intro wq hSw; (try dsimp only at hSw); have s_bo := hSw; have L_bo := Lay.c1 s_bo;  go_simp <;> with_reducible rfl))) | (refine Reg.tkB 6 (Reg.get rfl) hHeld ?_)
  try simp only [Act.put, List.setIfInBounds_toArray, List.set_cons_zero, List.set_cons_succ]
  first | (refine Reg.tkC 7 ?_ (Reg.get rfl) ?_ hHeld ?_; rotate_left 1; (focus (intro wq hSw; (try dsimp only at hSw); have s_bo := hSw; have L_bo := Lay.c1 s_bo;  go_simp <;> with_reducible rfl))) | (refine Reg.tkB 7 (Reg.get rfl) hHeld ?_)
  try simp only [Act.put, List.setIfInBounds_toArray, List.set_cons_zero, List.set_cons_succ]
  first | (refine Reg.tkC 10 ?_ (Reg.get rfl) ?_ hHeld ?_; rotate_left 1; (focus (intro wq hSw; (try dsimp only at hSw); have s_bo := hSw; have L_bo := Lay.c1 s_bo;  go_simp <;> with_reducible rfl))) | (refine Reg.tkB 10 (Reg.get rfl) hHeld ?_)
  try simp only [Act.put, List.setIfInBounds_toArray, List.set_cons_zero, List.set_cons_succ]
  refine wpAnyH_ready (rs := [8, 9]) (by kernel_rfl) (by simp) ?_
  refine (AllReadyH.cons (Reg.get rfl) (fun K hK => ?_) (AllReadyH.cons (Reg.get rfl) (fun K hK => ?_) AllReadyH.nil))
  
  · skip
    clear hHeld; go_simp; (skip); refine hK.out _ _ ?_ (fun hHeld => ?_); ((try dsimp only); exact Bk.sv); clear hK K
    try simp only [Act.put, List.setIfInBounds_toArray, List.set_cons_zero, List.set_cons_succ]
    first | ((refine Reg.tkB 9 (Reg.get rfl) hHeld ?_)) | (refine wpAnyH_ready (rs := [9]) (by kernel_rfl) (by simp) ?_; refine AllReadyH.cons (Reg.get rfl) (fun K hK => ?_) AllReadyH.nil; clear hHeld; go_simp; ((generalize hW : World.alloc _ _ = w5; (first | replace HP := own_toA HP hW | replace HP := own_toA (own_drewA HP) hW); (first | replace HG := own_toA HG hW | replace HG := own_toA (own_drewA HG) hW); (first | replace HI := in_to HI hW (by first | omega | (simp; done) | (simp; omega)) | replace HI := in_to (in_drewA HI) hW (by first | omega | (simp; done) | (simp; omega))); have H5 := own_freshA (lo := w4.heap.size) (sz := 1) hW (by first | omega | (simp; done) | (simp; omega)); (first | replace HQ := HQ.alloc hW | replace HQ := HQ.drew.alloc hW); clear d2; have d2 : w5.cell? ⟨g, j * 4 + 2, none⟩ = some (.slice X1 n1 x1) := (by rw [HG.cellAt _ (by omega), HC2.out]); have z5 := size_toA hW; (try simp only [World.size_drew] at z5); replace r0 : Bk.Blk w5 (w.heap.size + 1) 39 #[.slice none 0 0] := (by rw [← hW]; exact Bk.sv); replace bo : Bk.Blk w5 (w2.heap.size) 39 #[.slice (some ⟨g, 0, none⟩) n c1] := (by rw [← hW]; exact Bk.sv); replace B : Below w.heap.size w w5 := (by rw [← hW]; go_grown); clear hW)); refine hK.out _ _ ?_ (fun hHeld => ?_); ((try dsimp only); exact Bk.sv); clear hK K)
    try simp only [Act.put, List.setIfInBounds_toArray, List.set_cons_zero, List.set_cons_succ]
    first | ((refine Reg.tkB 11 (Reg.get rfl) hHeld ?_)) | (refine wpAnyH_ready (rs := [11]) (by kernel_rfl) (by simp) ?_; refine AllReadyH.cons (Reg.get rfl) (fun K hK => ?_) AllReadyH.nil; clear hHeld; (((first | refine App.wp_app _ _ _ 25 rfl w4.heap.size 5 iu (.int .u8 0) 1 1 Try.underlying25 hiu hu0 hu1 hu2 rfl (by decide) _ _ _ _ rfl H5 B' m d (bs.map (Value.int .u8)) rfl (HBD.out.below B) (one_ints .u8 _) (by unfold maxLen; omega) (by omega) (by first | omega | (simp; done) | (simp; omega)) ?_ | refine App.wp_app _ _ _ 25 rfl w4.heap.size 5 iu (.int .u8 0) 1 1 Try.underlying25 hiu hu0 hu1 hu2 rfl (by decide) _ _ _ _ rfl (own_drewA H5) B' m d (bs.map (Value.int .u8)) rfl (HBD.out.below B.drew) (one_ints .u8 _) (by unfold maxLen; omega) (by omega) (by first | omega | (simp; done) | (simp; omega)) ?_); intro A5 c5 w55 own5 hg0 _; (try simp only [Nat.zero_add, List.nil_append] at own5 ⊢); (first | replace HP := own_grownK HP H5 (by decide) hg0 | replace HP := own_grownK (own_drewA HP) (own_drewA H5) (by decide) hg0); (first | replace HG := own_grownK HG H5 (by decide) hg0 | replace HG := own_grownK (own_drewA HG) (own_drewA H5) (by decide) hg0); (first | replace HI := in_grownK HI hg0 (own_lo H5) (by first | omega | (simp; done) | (simp; omega)) | replace HI := in_grownK (in_drewA HI) hg0 (own_lo H5) (by first | omega | (simp; done) | (simp; omega))); have hP := own_lo H5; replace HQ : KeptH w4 w55 (blk X1) := ⟨Nat.le_trans HQ.size hg0.size, fun q hq hr => (hg0.block q (Nat.lt_of_lt_of_le hq HQ.size) (fun e => by have := hP q e.symm; omega)).trans (HQ.block q hq hr)⟩; replace bo : Bk.Blk w55 (w2.heap.size) 39 #[.slice (some ⟨g, 0, none⟩) n c1] := blk_grownA hg0 (own_ne H5 (by exact bo) (by decide)) (by exact Bk.sv); replace r0 : Bk.Blk w55 (w.heap.size + 1) 39 #[.slice none 0 0] := blk_grownA hg0 (own_ne H5 (by exact r0) (by decide)) (by exact Bk.sv); replace B : Below w.heap.size w w55 := Mem.below_app (by go_grown) hg0 (by first | omega | (simp; done) | (simp; omega)) (by intro q h; have := hP _ h; omega); clear d2; have d2 : w55.cell? ⟨g, j * 4 + 2, none⟩ = some (.slice X1 n1 x1) := (by rw [HG.cellAt _ (by omega), HC2.out]); have z55 := hg0.size; (try simp only [World.size_drew] at z55); clear hg0 hP H5; have H5 := own_monoA own5 (show b ≤ _ by omega); clear own5)); refine hK.out _ _ ?_ (fun hHeld => ?_); ((try dsimp only); exact Bk.sv); clear hK K)
    try simp only [Act.put, List.setIfInBounds_toArray, List.set_cons_zero, List.set_cons_succ]
    first | ((refine Reg.tkB 12 (Reg.get rfl) hHeld ?_)) | (refine wpAnyH_ready (rs := [12]) (by kernel_rfl) (by simp) ?_; refine AllReadyH.cons (Reg.get rfl) (fun K hK => ?_) AllReadyH.nil; clear hHeld; go_simp; ((generalize hW : World.alloc _ _ = w6; (first | replace HP := own_toA HP hW | replace HP := own_toA (own_drewA HP) hW); (first | replace HG := own_toA HG hW | replace HG := own_toA (own_drewA HG) hW); (first | replace HI := in_to HI hW (by first | omega | (simp; done) | (simp; omega)) | replace HI := in_to (in_drewA HI) hW (by first | omega | (simp; done) | (simp; omega))); (first | replace H5 := own_toA H5 hW | replace H5 := own_toA (own_drewA H5) hW); have re := rd_oneA hW; (first | replace HQ := HQ.alloc hW | replace HQ := HQ.drew.alloc hW); clear d2; have d2 : w6.cell? ⟨g, j * 4 + 2, none⟩ = some (.slice X1 n1 x1) := (by rw [HG.cellAt _ (by omega), HC2.out]); have z6 := size_toA hW; (try simp only [World.size_drew] at z6); replace r0 : Bk.Blk w6 (w.heap.size + 1) 39 #[.slice none 0 0] := (by rw [← hW]; exact Bk.sv); replace bo : Bk.Blk w6 (w2.heap.size) 39 #[.slice (some ⟨g, 0, none⟩) n c1] := (by rw [← hW]; exact Bk.sv); replace B : Below w.heap.size w w6 := (by rw [← hW]; go_grown); clear hW)); refine hK.out _ _ ?_ (fun hHeld => ?_); ((try dsimp only); exact Bk.sv); clear hK K)
    try simp only [Act.put, List.setIfInBounds_toArray, List.set_cons_zero, List.set_cons_succ]
    first | ((refine Reg.tkB 13 (Reg.get rfl) hHeld ?_)) | (refine wpAnyH_ready (rs := [13]) (by kernel_rfl) (by simp) ?_; refine AllReadyH.cons (Reg.get rfl) (fun K hK => ?_) AllReadyH.nil; clear hHeld; ((refine App.wp_app _ _ _ 22 rfl a 25 ip (.slice none 0 0) 1 24 Try.underlying22 hip hp0 hp1 hp2 rfl (by decide) _ _ _ _ rfl (by first | exact HP | exact own_drewA HP) _ 1 1 [.slice A5 m c5] rfl (by first | exact re | exact re.drew) (fun u hu => by simp at hu; subst hu; rfl) (by unfold maxLen; omega) (by omega) (by first | omega | (simp; done) | (simp; omega)) ?_; intro A6 c6 w7 own6 hg0 _; (first | have HS7 := keep_own HX.out HL.out HP HI H5 (by omega) hg0 own6 (by first | omega | (simp; done) | (simp; omega)) | have HS7 := keep_own HX.out HL.out (own_drewA HP) (in_drewA HI) (own_drewA H5) (by omega) hg0 own6 (by first | omega | (simp; done) | (simp; omega))); have hP := own_lo HP; replace bo : Bk.Blk w7 (w2.heap.size) 39 #[.slice (some ⟨g, 0, none⟩) n c1] := blk_grownA hg0 (own_ne HP bo (by decide)) (by exact Bk.sv); replace r0 : Bk.Blk w7 (w.heap.size + 1) 39 #[.slice none 0 0] := blk_grownA hg0 (own_ne HP r0 (by decide)) (by exact Bk.sv); replace B : Below w.heap.size w w7 := Mem.below_app (by go_grown) hg0 (by first | omega | (simp; done) | (simp; omega)) (by intro q h; have := hP _ h; omega); (first | replace HG := own_grownK HG HP (by decide) hg0 | replace HG := own_grownK (own_drewA HG) (own_drewA HP) (by decide) hg0); (first | replace HQ := HQ.grown hg0 | replace HQ := HQ.drew.grown hg0); have z7 := hg0.size; (try simp only [World.size_drew] at z7); clear hg0 own6 hP HI H5 re HP d2; have d2 : w7.cell? ⟨g, j * 4 + 2, none⟩ = some (.slice X1 n1 x1) := (by rw [HG.cellAt _ (by omega), HC2.out]); have hfr : ∀ o, w7.frozen? ⟨g, o, none⟩ = false := (fun o => HG.frozenAt o))); refine hK.out _ _ ?_ (fun hHeld => ?_); ((try dsimp only); exact Bk.sv); clear hK K)
    try simp only [Act.put, List.setIfInBounds_toArray, List.set_cons_zero, List.set_cons_succ]
    first | (refine Reg.tkC 14 ?_ (Reg.get rfl) ?_ hHeld ?_; rotate_left 1; (focus (intro wq hSw; (try dsimp only at hSw); have s_bo := hSw; have L_bo := Lay.c1 s_bo;  go_simp <;> with_reducible rfl))) | (refine Reg.tkB 14 (Reg.get rfl) hHeld ?_)
    try simp only [Act.put, List.setIfInBounds_toArray, List.set_cons_zero, List.set_cons_succ]
    first | (refine Reg.tkC 15 ?_ (Reg.get rfl) ?_ hHeld ?_; rotate_left 1; (focus (intro wq hSw; (try dsimp only at hSw); have s_bo := hSw; have L_bo := Lay.c1 s_bo;  go_simp <;> with_reducible rfl))) | (refine Reg.tkB 15 (Reg.get rfl) hHeld ?_)
    try simp only [Act.put, List.setIfInBounds_toArray, List.set_cons_zero, List.set_cons_succ]
    first | ((refine Reg.tkB 16 (Reg.get rfl) hHeld ?_)) | (refine wpAnyH_ready (rs := [16]) (by kernel_rfl) (by simp) ?_; refine AllReadyH.cons (Reg.get rfl) (fun K hK => ?_) AllReadyH.nil; clear hHeld; go_simp; (skip); refine hK.out _ _ ?_ (fun hHeld => ?_); ((try dsimp only); exact Bk.sv); clear hK K)
    try simp only [Act.put, List.setIfInBounds_toArray, List.set_cons_zero, List.set_cons_succ]
    refine wpAnyH_done (by kernel_rfl) ?_ _
    clear d2 hfr
    generalize hW : World.setCell _ _ _ = w8
    have HE8 := Lib.hid hW
    have HS8 := Lib.hid (show OwnSS w8 a w7.heap.size A6 (n1 + 1) c6 _ from by rw [← hW]; exact ownSS_two HG HS7 (by decide) (by decide) _ _)
    replace bo : Bk.Blk w8 (w2.heap.size) 39 #[.slice (some ⟨g, 0, none⟩) n c1] := (by rw [← hW]; exact Bk.sv)
    replace r0 : Bk.Blk w8 (w.heap.size + 1) 39 #[.slice none 0 0] := (by rw [← hW]; exact Bk.sv)
    replace B : Below w.heap.size w w8 := (by rw [← hW]; go_grown)
    have z8 : w8.heap.size = _ := congrArg (fun W : World => W.heap.size) hW.symm
    (try simp only [World.size_alloc, Bk.size_set, World.size_drew, World.drewN] at z8)
    clear hW
    have HG8 := Lib.hid (RowX.stored ⟨_, HG⟩ HE8.out)
    clear HG HS7
    have l_bo : w2.heap.size < w8.heap.size := Bk.Blk.lt bo
    have c_bo0 : w8.cell? ⟨w2.heap.size, 0, none⟩ = some (.slice (some ⟨g, 0, none⟩) n c1) := Bk.Blk.cell bo 0
    have f_bo0 : w8.frozen? ⟨w2.heap.size, 0, none⟩ = false := Bk.Blk.fro bo 0
    have l_r0 : w.heap.size + 1 < w8.heap.size := Bk.Blk.lt r0
    have c_r00 : w8.cell? ⟨w.heap.size + 1, 0, none⟩ = some (.slice none 0 0) := Bk.Blk.cell r0 0
    have f_r00 : w8.frozen? ⟨w.heap.size + 1, 0, none⟩ = false := Bk.Blk.fro r0 0
    go_wp2_with fail
    clear l_bo c_bo0 f_bo0 l_r0 c_r00 f_r00
    generalize hW : World.setCell _ _ _ = w9
    have hz9 := congrArg (fun W : World => W.heap.size) hW
    simp only [Bk.size_set] at hz9
    have HS9 := Lib.hid (HS8.out.keep (w' := w9) fun q q1 q2 => by rw [← hW]; exact Below.heap_setCell _ _ _ q (by simp; omega))
    have HG9 := Lib.hid (HG8.out.off (by omega) hW)
    have HR9 := Lib.hid (show RowO w9 w.heap.size w9.heap.size (some ⟨g, 0, none⟩) n c1 (ks.set j { nthK ks j with fs := (nthK ks j).fs ++ [bs] }) from HO.out.readSetO hj A6 (n1 + 1) c6 _ (blk X1) (fun q hq => ⟨X1, n1, x1, HO4.out, hq⟩) (fun q q1 q2 hne => by rw [← hW]; refine (Below.heap_setCell _ _ _ q (by simp; omega)).trans ?_; rw [← HE8.out]; exact set_congr _ _ (HQ.block q (by omega) hne)) (by omega) (by omega) (fr_robust HS9.out HG9.out (by omega) (by omega)))
    clear hz9
    replace r0 : Bk.Blk w9 (w.heap.size + 1) 39 #[.slice (some ⟨g, 0, none⟩) n c1] := (by rw [← hW]; apply Bk.Blk.to; (focus (exact Bk.sv)); rfl)
    replace B : Below w.heap.size w w9 := (by rw [← hW]; go_grown)
    have z9 : w9.heap.size = _ := congrArg (fun W : World => W.heap.size) hW.symm
    (try simp only [World.size_alloc, Bk.size_set, World.size_drew, World.drewN] at z9)
    clear hW
    have l_r0 : w.heap.size + 1 < w9.heap.size := Bk.Blk.lt r0
    have c_r00 : w9.cell? ⟨w.heap.size + 1, 0, none⟩ = some (.slice (some ⟨g, 0, none⟩) n c1) := Bk.Blk.cell r0 0
    go_wp2
    refine bodyPost_ret (v := .tuple #[.agg #[.slice (some ⟨g, 0, none⟩) n c1], .bool false]) (by simp [results, Try.results103, go_sem, c_r00]) rfl (⟨_, _, rfl, HR9.out, B⟩)
  
  · skip
    clear hHeld; go_simp; ((generalize hW : World.alloc _ _ = w5; (first | replace HP := own_toA HP hW | replace HP := own_toA (own_drewA HP) hW); (first | replace HG := own_toA HG hW | replace HG := own_toA (own_drewA HG) hW); (first | replace HI := in_to HI hW (by first | omega | (simp; done) | (simp; omega)) | replace HI := in_to (in_drewA HI) hW (by first | omega | (simp; done) | (simp; omega))); have H5 := own_freshA (lo := w4.heap.size) (sz := 1) hW (by first | omega | (simp; done) | (simp; omega)); (first | replace HQ := HQ.alloc hW | replace HQ := HQ.drew.alloc hW); clear d2; have d2 : w5.cell? ⟨g, j * 4 + 2, none⟩ = some (.slice X1 n1 x1) := (by rw [HG.cellAt _ (by omega), HC2.out]); have z5 := size_toA hW; (try simp only [World.size_drew] at z5); replace r0 : Bk.Blk w5 (w.heap.size + 1) 39 #[.slice none 0 0] := (by rw [← hW]; exact Bk.sv); replace bo : Bk.Blk w5 (w2.heap.size) 39 #[.slice (some ⟨g, 0, none⟩) n c1] := (by rw [← hW]; exact Bk.sv); replace B : Below w.heap.size w w5 := (by rw [← hW]; go_grown); clear hW)); refine hK.out _ _ ?_ (fun hHeld => ?_); ((try dsimp only); exact Bk.sv); clear hK K
    try simp only [Act.put, List.setIfInBounds_toArray, List.set_cons_zero, List.set_cons_succ]
    refine wpAnyH_ready (rs := [8, 11]) (by kernel_rfl) (by simp) ?_
    refine (AllReadyH.cons (Reg.get rfl) (fun K hK => ?_) (AllReadyH.cons (Reg.get rfl) (fun K hK => ?_) AllReadyH.nil))
  
    · skip
      clear hHeld; go_simp; (skip); refine hK.out _ _ ?_ (fun hHeld => ?_); ((try dsimp only); exact Bk.sv); clear hK K
      try simp only [Act.put, List.setIfInBounds_toArray, List.set_cons_zero, List.set_cons_succ]
      first | ((refine Reg.tkB 11 (Reg.get rfl) hHeld ?_)) | (refine wpAnyH_ready (rs := [11]) (by kernel_rfl) (by simp) ?_; refine AllReadyH.cons (Reg.get rfl) (fun K hK => ?_) AllReadyH.nil; clear hHeld; (((first | refine App.wp_app _ _ _ 25 rfl w4.heap.size 5 iu (.int .u8 0) 1 1 Try.underlying25 hiu hu0 hu1 hu2 rfl (by decide) _ _ _ _ rfl H5 B' m d (bs.map (Value.int .u8)) rfl (HBD.out.below B) (one_ints .u8 _) (by unfold maxLen; omega) (by omega) (by first | omega | (simp; done) | (simp; omega)) ?_ | refine App.wp_app _ _ _ 25 rfl w4.heap.size 5 iu (.int .u8 0) 1 1 Try.underlying25 hiu hu0 hu1 hu2 rfl (by decide) _ _ _ _ rfl (own_drewA H5) B' m d (bs.map (Value.int .u8)) rfl (HBD.out.below B.drew) (one_ints .u8 _) (by unfold maxLen; omega) (by omega) (by first | omega | (simp; done) | (simp; omega)) ?_); intro A5 c5 w55 own5 hg0 _; (try simp only [Nat.zero_add, List.nil_append] at own5 ⊢); (first | replace HP := own_grownK HP H5 (by decide) hg0 | replace HP := own_grownK (own_drewA HP) (own_drewA H5) (by decide) hg0); (first | replace HG := own_grownK HG H5 (by decide) hg0 | replace HG := own_grownK (own_drewA HG) (own_drewA H5) (by decide) hg0); (first | replace HI := in_grownK HI hg0 (own_lo H5) (by first | omega | (simp; done) | (simp; omega)) | replace HI := in_grownK (in_drewA HI) hg0 (own_lo H5) (by first | omega | (simp; done) | (simp; omega))); have hP := own_lo H5; replace HQ : KeptH w4 w55 (blk X1) := ⟨Nat.le_trans HQ.size hg0.size, fun q hq hr => (hg0.block q (Nat.lt_of_lt_of_le hq HQ.size) (fun e => by have := hP q e.symm; omega)).trans (HQ.block q hq hr)⟩; replace bo : Bk.Blk w55 (w2.heap.size) 39 #[.slice (some ⟨g, 0, none⟩) n c1] := blk_grownA hg0 (own_ne H5 (by exact bo) (by decide)) (by exact Bk.sv); replace r0 : Bk.Blk w55 (w.heap.size + 1) 39 #[.slice none 0 0] := blk_grownA hg0 (own_ne H5 (by exact r0) (by decide)) (by exact Bk.sv); replace B : Below w.heap.size w w55 := Mem.below_app (by go_grown) hg0 (by first | omega | (simp; done) | (simp; omega)) (by intro q h; have := hP _ h; omega); clear d2; have d2 : w55.cell? ⟨g, j * 4 + 2, none⟩ = some (.slice X1 n1 x1) := (by rw [HG.cellAt _ (by omega), HC2.out]); have z55 := hg0.size; (try simp only [World.size_drew] at z55); clear hg0 hP H5; have H5 := own_monoA own5 (show b ≤ _ by omega); clear own5)); refine hK.out _ _ ?_ (fun hHeld => ?_); ((try dsimp only); exact Bk.sv); clear hK K)
      try simp only [Act.put, List.setIfInBounds_toArray, List.set_cons_zero, List.set_cons_succ]
      first | ((refine Reg.tkB 12 (Reg.get rfl) hHeld ?_)) | (refine wpAnyH_ready (rs := [12]) (by kernel_rfl) (by simp) ?_; refine AllReadyH.cons (Reg.get rfl) (fun K hK => ?_) AllReadyH.nil; clear hHeld; go_simp; ((generalize hW : World.alloc _ _ = w6; (first | replace HP := own_toA HP hW | replace HP := own_toA (own_drewA HP) hW); (first | replace HG := own_toA HG hW | replace HG := own_toA (own_drewA HG) hW); (first | replace HI := in_to HI hW (by first | omega | (simp; done) | (simp; omega)) | replace HI := in_to (in_drewA HI) hW (by first | omega | (simp; done) | (simp; omega))); (first | replace H5 := own_toA H5 hW | replace H5 := own_toA (own_drewA H5) hW); have re := rd_oneA hW; (first | replace HQ := HQ.alloc hW | replace HQ := HQ.drew.alloc hW); clear d2; have d2 : w6.cell? ⟨g, j * 4 + 2, none⟩ = some (.slice X1 n1 x1) := (by rw [HG.cellAt _ (by omega), HC2.out]); have z6 := size_toA hW; (try simp only [World.size_drew] at z6); replace r0 : Bk.Blk w6 (w.heap.size + 1) 39 #[.slice none 0 0] := (by rw [← hW]; exact Bk.sv); replace bo : Bk.Blk w6 (w2.heap.size) 39 #[.slice (some ⟨g, 0, none⟩) n c1] := (by rw [← hW]; exact Bk.sv); replace B : Below w.heap.size w w6 := (by rw [← hW]; go_grown); clear hW)); refine hK.out _ _ ?_ (fun hHeld => ?_); ((try dsimp only); exact Bk.sv); clear hK K)
      try simp only [Act.put, List.setIfInBounds_toArray, List.set_cons_zero, List.set_cons_succ]
      first | ((refine Reg.tkB 13 (Reg.get rfl) hHeld ?_)) | (refine wpAnyH_ready (rs := [13]) (by kernel_rfl) (by simp) ?_; refine AllReadyH.cons (Reg.get rfl) (fun K hK => ?_) AllReadyH.nil; clear hHeld; ((refine App.wp_app _ _ _ 22 rfl a 25 ip (.slice none 0 0) 1 24 Try.underlying22 hip hp0 hp1 hp2 rfl (by decide) _ _ _ _ rfl (by first | exact HP | exact own_drewA HP) _ 1 1 [.slice A5 m c5] rfl (by first | exact re | exact re.drew) (fun u hu => by simp at hu; subst hu; rfl) (by unfold maxLen; omega) (by omega) (by first | omega | (simp; done) | (simp; omega)) ?_; intro A6 c6 w7 own6 hg0 _; (first | have HS7 := keep_own HX.out HL.out HP HI H5 (by omega) hg0 own6 (by first | omega | (simp; done) | (simp; omega)) | have HS7 := keep_own HX.out HL.out (own_drewA HP) (in_drewA HI) (own_drewA H5) (by omega) hg0 own6 (by first | omega | (simp; done) | (simp; omega))); have hP := own_lo HP; replace bo : Bk.Blk w7 (w2.heap.size) 39 #[.slice (some ⟨g, 0, none⟩) n c1] := blk_grownA hg0 (own_ne HP bo (by decide)) (by exact Bk.sv); replace r0 : Bk.Blk w7 (w.heap.size + 1) 39 #[.slice none 0 0] := blk_grownA hg0 (own_ne HP r0 (by decide)) (by exact Bk.sv); replace B : Below w.heap.size w w7 := Mem.below_app (by go_grown) hg0 (by first | omega | (simp; done) | (simp; omega)) (by intro q h; have := hP _ h; omega); (first | replace HG := own_grownK HG HP (by decide) hg0 | replace HG := own_grownK (own_drewA HG) (own_drewA HP) (by decide) hg0); (first | replace HQ := HQ.grown hg0 | replace HQ := HQ.drew.grown hg0); have z7 := hg0.size; (try simp only [World.size_drew] at z7); clear hg0 own6 hP HI H5 re HP d2; have d2 : w7.cell? ⟨g, j * 4 + 2, none⟩ = some (.slice X1 n1 x1) := (by rw [HG.cellAt _ (by omega), HC2.out]); have hfr : ∀ o, w7.frozen? ⟨g, o, none⟩ = false := (fun o => HG.frozenAt o))); refine hK.out _ _ ?_ (fun hHeld => ?_); ((try dsimp only); exact Bk.sv); clear hK K)
      try simp only [Act.put, List.setIfInBounds_toArray, List.set_cons_zero, List.set_cons_succ]
      first | (refine Reg.tkC 14 ?_ (Reg.get rfl) ?_ hHeld ?_; rotate_left 1; (focus (intro wq hSw; (try dsimp only at hSw); have s_bo := hSw; have L_bo := Lay.c1 s_bo;  go_simp <;> with_reducible rfl))) | (refine Reg.tkB 14 (Reg.get rfl) hHeld ?_)
      try simp only [Act.put, List.setIfInBounds_toArray, List.set_cons_zero, List.set_cons_succ]
      first | (refine Reg.tkC 15 ?_ (Reg.get rfl) ?_ hHeld ?_; rotate_left 1; (focus (intro wq hSw; (try dsimp only at hSw); have s_bo := hSw; have L_bo := Lay.c1 s_bo;  go_simp <;> with_reducible rfl))) | (refine Reg.tkB 15 (Reg.get rfl) hHeld ?_)
      try simp only [Act.put, List.setIfInBounds_toArray, List.set_cons_zero, List.set_cons_succ]
      first | ((refine Reg.tkB 16 (Reg.get rfl) hHeld ?_)) | (refine wpAnyH_ready (rs := [16]) (by kernel_rfl) (by simp) ?_; refine AllReadyH.cons (Reg.get rfl) (fun K hK => ?_) AllReadyH.nil; clear hHeld; go_simp; (skip); refine hK.out _ _ ?_ (fun hHeld => ?_); ((try dsimp only); exact Bk.sv); clear hK K)
      try simp only [Act.put, List.setIfInBounds_toArray, List.set_cons_zero, List.set_cons_succ]
      refine wpAnyH_done (by kernel_rfl) ?_ _
      clear d2 hfr
      generalize hW : World.setCell _ _ _ = w8
      have HE8 := Lib.hid hW
      have HS8 := Lib.hid (show OwnSS w8 a w7.heap.size A6 (n1 + 1) c6 _ from by rw [← hW]; exact ownSS_two HG HS7 (by decide) (by decide) _ _)
      replace bo : Bk.Blk w8 (w2.heap.size) 39 #[.slice (some ⟨g, 0, none⟩) n c1] := (by rw [← hW]; exact Bk.sv)
      replace r0 : Bk.Blk w8 (w.heap.size + 1) 39 #[.slice none 0 0] := (by rw [← hW]; exact Bk.sv)
      replace B : Below w.heap.size w w8 := (by rw [← hW]; go_grown)
      have z8 : w8.heap.size = _ := congrArg (fun W : World => W.heap.size) hW.symm
      (try simp only [World.size_alloc, Bk.size_set, World.size_drew, World.drewN] at z8)
      clear hW
      have HG8 := Lib.hid (RowX.stored ⟨_, HG⟩ HE8.out)
      clear HG HS7
      have l_bo : w2.heap.size < w8.heap.size := Bk.Blk.lt bo
      have c_bo0 : w8.cell? ⟨w2.heap.size, 0, none⟩ = some (.slice (some ⟨g, 0, none⟩) n c1) := Bk.Blk.cell bo 0
      have f_bo0 : w8.frozen? ⟨w2.heap.size, 0, none⟩ = false := Bk.Blk.fro bo 0
      have l_r0 : w.heap.size + 1 < w8.heap.size := Bk.Blk.lt r0
      have c_r00 : w8.cell? ⟨w.heap.size + 1, 0, none⟩ = some (.slice none 0 0) := Bk.Blk.cell r0 0
      have f_r00 : w8.frozen? ⟨w.heap.size + 1, 0, none⟩ = false := Bk.Blk.fro r0 0
      go_wp2_with fail
      clear l_bo c_bo0 f_bo0 l_r0 c_r00 f_r00
      generalize hW : World.setCell _ _ _ = w9
      have hz9 := congrArg (fun W : World => W.heap.size) hW
      simp only [Bk.size_set] at hz9
      have HS9 := Lib.hid (HS8.out.keep (w' := w9) fun q q1 q2 => by rw [← hW]; exact Below.heap_setCell _ _ _ q (by simp; omega))
      have HG9 := Lib.hid (HG8.out.off (by omega) hW)
      have HR9 := Lib.hid (show RowO w9 w.heap.size w9.heap.size (some ⟨g, 0, none⟩) n c1 (ks.set j { nthK ks j with fs := (nthK ks j).fs ++ [bs] }) from HO.out.readSetO hj A6 (n1 + 1) c6 _ (blk X1) (fun q hq => ⟨X1, n1, x1, HO4.out, hq⟩) (fun q q1 q2 hne => by rw [← hW]; refine (Below.heap_setCell _ _ _ q (by simp; omega)).trans ?_; rw [← HE8.out]; exact set_congr _ _ (HQ.block q (by omega) hne)) (by omega) (by omega) (fr_robust HS9.out HG9.out (by omega) (by omega)))
      clear hz9
      replace r0 : Bk.Blk w9 (w.heap.size + 1) 39 #[.slice (some ⟨g, 0, none⟩) n c1] := (by rw [← hW]; apply Bk.Blk.to; (focus (exact Bk.sv)); rfl)
      replace B : Below w.heap.size w w9 := (by rw [← hW]; go_grown)
      have z9 : w9.heap.size = _ := congrArg (fun W : World => W.heap.size) hW.symm
      (try simp only [World.size_alloc, Bk.size_set, World.size_drew, World.drewN] at z9)
      clear hW
      have l_r0 : w.heap.size + 1 < w9.heap.size := Bk.Blk.lt r0
      have c_r00 : w9.cell? ⟨w.heap.size + 1, 0, none⟩ = some (.slice (some ⟨g, 0, none⟩) n c1) := Bk.Blk.cell r0 0
      go_wp2
      refine bodyPost_ret (v := .tuple #[.agg #[.slice (some ⟨g, 0, none⟩) n c1], .bool false]) (by simp [results, Try.results103, go_sem, c_r00]) rfl (⟨_, _, rfl, HR9.out, B⟩)
  
    · skip
      clear hHeld; (((first | refine App.wp_app _ _ _ 25 rfl w4.heap.size 5 iu (.int .u8 0) 1 1 Try.underlying25 hiu hu0 hu1 hu2 rfl (by decide) _ _ _ _ rfl H5 B' m d (bs.map (Value.int .u8)) rfl (HBD.out.below B) (one_ints .u8 _) (by unfold maxLen; omega) (by omega) (by first | omega | (simp; done) | (simp; omega)) ?_ | refine App.wp_app _ _ _ 25 rfl w4.heap.size 5 iu (.int .u8 0) 1 1 Try.underlying25 hiu hu0 hu1 hu2 rfl (by decide) _ _ _ _ rfl (own_drewA H5) B' m d (bs.map (Value.int .u8)) rfl (HBD.out.below B.drew) (one_ints .u8 _) (by unfold maxLen; omega) (by omega) (by first | omega | (simp; done) | (simp; omega)) ?_); intro A5 c5 w55 own5 hg0 _; (try simp only [Nat.zero_add, List.nil_append] at own5 ⊢); (first | replace HP := own_grownK HP H5 (by decide) hg0 | replace HP := own_grownK (own_drewA HP) (own_drewA H5) (by decide) hg0); (first | replace HG := own_grownK HG H5 (by decide) hg0 | replace HG := own_grownK (own_drewA HG) (own_drewA H5) (by decide) hg0); (first | replace HI := in_grownK HI hg0 (own_lo H5) (by first | omega | (simp; done) | (simp; omega)) | replace HI := in_grownK (in_drewA HI) hg0 (own_lo H5) (by first | omega | (simp; done) | (simp; omega))); have hP := own_lo H5; replace HQ : KeptH w4 w55 (blk X1) := ⟨Nat.le_trans HQ.size hg0.size, fun q hq hr => (hg0.block q (Nat.lt_of_lt_of_le hq HQ.size) (fun e => by have := hP q e.symm; omega)).trans (HQ.block q hq hr)⟩; replace bo : Bk.Blk w55 (w2.heap.size) 39 #[.slice (some ⟨g, 0, none⟩) n c1] := blk_grownA hg0 (own_ne H5 (by exact bo) (by decide)) (by exact Bk.sv); replace r0 : Bk.Blk w55 (w.heap.size + 1) 39 #[.slice none 0 0] := blk_grownA hg0 (own_ne H5 (by exact r0) (by decide)) (by exact Bk.sv); replace B : Below w.heap.size w w55 := Mem.below_app (by go_grown) hg0 (by first | omega | (simp; done) | (simp; omega)) (by intro q h; have := hP _ h; omega); clear d2; have d2 : w55.cell? ⟨g, j * 4 + 2, none⟩ = some (.slice X1 n1 x1) := (by rw [HG.cellAt _ (by omega), HC2.out]); have z55 := hg0.size; (try simp only [World.size_drew] at z55); clear hg0 hP H5; have H5 := own_monoA own5 (show b ≤ _ by omega); clear own5)); refine hK.out _ _ ?_ (fun hHeld => ?_); ((try dsimp only); exact Bk.sv); clear hK K
      try simp only [Act.put, List.setIfInBounds_toArray, List.set_cons_zero, List.set_cons_succ]
      refine wpAnyH_ready (rs := [8, 12]) (by kernel_rfl) (by simp) ?_
      refine (AllReadyH.cons (Reg.get rfl) (fun K hK => ?_) (AllReadyH.cons (Reg.get rfl) (fun K hK => ?_) AllReadyH.nil))
  
      · skip
        clear hHeld; go_simp; (skip); refine hK.out _ _ ?_ (fun hHeld => ?_); ((try dsimp only); exact Bk.sv); clear hK K
        try simp only [Act.put, List.setIfInBounds_toArray, List.set_cons_zero, List.set_cons_succ]
        first | ((refine Reg.tkB 12 (Reg.get rfl) hHeld ?_)) | (refine wpAnyH_ready (rs := [12]) (by kernel_rfl) (by simp) ?_; refine AllReadyH.cons (Reg.get rfl) (fun K hK => ?_) AllReadyH.nil; clear hHeld; go_simp; ((generalize hW : World.alloc _ _ = w6; (first | replace HP := own_toA HP hW | replace HP := own_toA (own_drewA HP) hW); (first | replace HG := own_toA HG hW | replace HG := own_toA (own_drewA HG) hW); (first | replace HI := in_to HI hW (by first | omega | (simp; done) | (simp; omega)) | replace HI := in_to (in_drewA HI) hW (by first | omega | (simp; done) | (simp; omega))); (first | replace H5 := own_toA H5 hW | replace H5 := own_toA (own_drewA H5) hW); have re := rd_oneA hW; (first | replace HQ := HQ.alloc hW | replace HQ := HQ.drew.alloc hW); clear d2; have d2 : w6.cell? ⟨g, j * 4 + 2, none⟩ = some (.slice X1 n1 x1) := (by rw [HG.cellAt _ (by omega), HC2.out]); have z6 := size_toA hW; (try simp only [World.size_drew] at z6); replace r0 : Bk.Blk w6 (w.heap.size + 1) 39 #[.slice none 0 0] := (by rw [← hW]; exact Bk.sv); replace bo : Bk.Blk w6 (w2.heap.size) 39 #[.slice (some ⟨g, 0, none⟩) n c1] := (by rw [← hW]; exact Bk.sv); replace B : Below w.heap.size w w6 := (by rw [← hW]; go_grown); clear hW)); refine hK.out _ _ ?_ (fun hHeld => ?_); ((try dsimp only); exact Bk.sv); clear hK K)
        try simp only [Act.put, List.setIfInBounds_toArray, List.set_cons_zero, List.set_cons_succ]
        first | ((refine Reg.tkB 13 (Reg.get rfl) hHeld ?_)) | (refine wpAnyH_ready (rs := [13]) (by kernel_rfl) (by simp) ?_; refine AllReadyH.cons (Reg.get rfl) (fun K hK => ?_) AllReadyH.nil; clear hHeld; ((refine App.wp_app _ _ _ 22 rfl a 25 ip (.slice none 0 0) 1 24 Try.underlying22 hip hp0 hp1 hp2 rfl (by decide) _ _ _ _ rfl (by first | exact HP | exact own_drewA HP) _ 1 1 [.slice A5 m c5] rfl (by first | exact re | exact re.drew) (fun u hu => by simp at hu; subst hu; rfl) (by unfold maxLen; omega) (by omega) (by first | omega | (simp; done) | (simp; omega)) ?_; intro A6 c6 w7 own6 hg0 _; (first | have HS7 := keep_own HX.out HL.out HP HI H5 (by omega) hg0 own6 (by first | omega | (simp; done) | (simp; omega)) | have HS7 := keep_own HX.out HL.out (own_drewA HP) (in_drewA HI) (own_drewA H5) (by omega) hg0 own6 (by first | omega | (simp; done) | (simp; omega))); have hP := own_lo HP; replace bo : Bk.Blk w7 (w2.heap.size) 39 #[.slice (some ⟨g, 0, none⟩) n c1] := blk_grownA hg0 (own_ne HP bo (by decide)) (by exact Bk.sv); replace r0 : Bk.Blk w7 (w.heap.size + 1) 39 #[.slice none 0 0] := blk_grownA hg0 (own_ne HP r0 (by decide)) (by exact Bk.sv); replace B : Below w.heap.size w w7 := Mem.below_app (by go_grown) hg0 (by first | omega | (simp; done) | (simp; omega)) (by intro q h; have := hP _ h; omega); (first | replace HG := own_grownK HG HP (by decide) hg0 | replace HG := own_grownK (own_drewA HG) (own_drewA HP) (by decide) hg0); (first | replace HQ := HQ.grown hg0 | replace HQ := HQ.drew.grown hg0); have z7 := hg0.size; (try simp only [World.size_drew] at z7); clear hg0 own6 hP HI H5 re HP d2; have d2 : w7.cell? ⟨g, j * 4 + 2, none⟩ = some (.slice X1 n1 x1) := (by rw [HG.cellAt _ (by omega), HC2.out]); have hfr : ∀ o, w7.frozen? ⟨g, o, none⟩ = false := (fun o => HG.frozenAt o))); refine hK.out _ _ ?_ (fun hHeld => ?_); ((try dsimp only); exact Bk.sv); clear hK K)
        try simp only [Act.put, List.setIfInBounds_toArray, List.set_cons_zero, List.set_cons_succ]
        first | (refine Reg.tkC 14 ?_ (Reg.get rfl) ?_ hHeld ?_; rotate_left 1; (focus (intro wq hSw; (try dsimp only at hSw); have s_bo := hSw; have L_bo := Lay.c1 s_bo;  go_simp <;> with_reducible rfl))) | (refine Reg.tkB 14 (Reg.get rfl) hHeld ?_)
        try simp only [Act.put, List.setIfInBounds_toArray, List.set_cons_zero, List.set_cons_succ]
        first | (refine Reg.tkC 15 ?_ (Reg.get rfl) ?_ hHeld ?_; rotate_left 1; (focus (intro wq hSw; (try dsimp only at hSw); have s_bo := hSw; have L_bo := Lay.c1 s_bo;  go_simp <;> with_reducible rfl))) | (refine Reg.tkB 15 (Reg.get rfl) hHeld ?_)
        try simp only [Act.put, List.setIfInBounds_toArray, List.set_cons_zero, List.set_cons_succ]
        first | ((refine Reg.tkB 16 (Reg.get rfl) hHeld ?_)) | (refine wpAnyH_ready (rs := [16]) (by kernel_rfl) (by simp) ?_; refine AllReadyH.cons (Reg.get rfl) (fun K hK => ?_) AllReadyH.nil; clear hHeld; go_simp; (skip); refine hK.out _ _ ?_ (fun hHeld => ?_); ((try dsimp only); exact Bk.sv); clear hK K)
        try simp only [Act.put, List.setIfInBounds_toArray, List.set_cons_zero, List.set_cons_succ]
        refine wpAnyH_done (by kernel_rfl) ?_ _
        clear d2 hfr
        generalize hW : World.setCell _ _ _ = w8
        have HE8 := Lib.hid hW
        have HS8 := Lib.hid (show OwnSS w8 a w7.heap.size A6 (n1 + 1) c6 _ from by rw [← hW]; exact ownSS_two HG HS7 (by decide) (by decide) _ _)
        replace bo : Bk.Blk w8 (w2.heap.size) 39 #[.slice (some ⟨g, 0, none⟩) n c1] := (by rw [← hW]; exact Bk.sv)
        replace r0 : Bk.Blk w8 (w.heap.size + 1) 39 #[.slice none 0 0] := (by rw [← hW]; exact Bk.sv)
        replace B : Below w.heap.size w w8 := (by rw [← hW]; go_grown)
        have z8 : w8.heap.size = _ := congrArg (fun W : World => W.heap.size) hW.symm
        (try simp only [World.size_alloc, Bk.size_set, World.size_drew, World.drewN] at z8)
        clear hW
        have HG8 := Lib.hid (RowX.stored ⟨_, HG⟩ HE8.out)
        clear HG HS7
        have l_bo : w2.heap.size < w8.heap.size := Bk.Blk.lt bo
        have c_bo0 : w8.cell? ⟨w2.heap.size, 0, none⟩ = some (.slice (some ⟨g, 0, none⟩) n c1) := Bk.Blk.cell bo 0
        have f_bo0 : w8.frozen? ⟨w2.heap.size, 0, none⟩ = false := Bk.Blk.fro bo 0
        have l_r0 : w.heap.size + 1 < w8.heap.size := Bk.Blk.lt r0
        have c_r00 : w8.cell? ⟨w.heap.size + 1, 0, none⟩ = some (.slice none 0 0) := Bk.Blk.cell r0 0
        have f_r00 : w8.frozen? ⟨w.heap.size + 1, 0, none⟩ = false := Bk.Blk.fro r0 0
        go_wp2_with fail
        clear l_bo c_bo0 f_bo0 l_r0 c_r00 f_r00
        generalize hW : World.setCell _ _ _ = w9
        have hz9 := congrArg (fun W : World => W.heap.size) hW
        simp only [Bk.size_set] at hz9
        have HS9 := Lib.hid (HS8.out.keep (w' := w9) fun q q1 q2 => by rw [← hW]; exact Below.heap_setCell _ _ _ q (by simp; omega))
        have HG9 := Lib.hid (HG8.out.off (by omega) hW)
        have HR9 := Lib.hid (show RowO w9 w.heap.size w9.heap.size (some ⟨g, 0, none⟩) n c1 (ks.set j { nthK ks j with fs := (nthK ks j).fs ++ [bs] }) from HO.out.readSetO hj A6 (n1 + 1) c6 _ (blk X1) (fun q hq => ⟨X1, n1, x1, HO4.out, hq⟩) (fun q q1 q2 hne => by rw [← hW]; refine (Below.heap_setCell _ _ _ q (by simp; omega)).trans ?_; rw [← HE8.out]; exact set_congr _ _ (HQ.block q (by omega) hne)) (by omega) (by omega) (fr_robust HS9.out HG9.out (by omega) (by omega)))
        clear hz9
        replace r0 : Bk.Blk w9 (w.heap.size + 1) 39 #[.slice (some ⟨g, 0, none⟩) n c1] := (by rw [← hW]; apply Bk.Blk.to; (focus (exact Bk.sv)); rfl)
        replace B : Below w.heap.size w w9 := (by rw [← hW]; go_grown)
        have z9 : w9.heap.size = _ := congrArg (fun W : World => W.heap.size) hW.symm
        (try simp only [World.size_alloc, Bk.size_set, World.size_drew, World.drewN] at z9)
        clear hW
        have l_r0 : w.heap.size + 1 < w9.heap.size := Bk.Blk.lt r0
        have c_r00 : w9.cell? ⟨w.heap.size + 1, 0, none⟩ = some (.slice (some ⟨g, 0, none⟩) n c1) := Bk.Blk.cell r0 0
        go_wp2
        refine bodyPost_ret (v := .tuple #[.agg #[.slice (some ⟨g, 0, none⟩) n c1], .bool false]) (by simp [results, Try.results103, go_sem, c_r00]) rfl (⟨_, _, rfl, HR9.out, B⟩)
  
      · skip
        clear hHeld; go_simp; ((generalize hW : World.alloc _ _ = w6; (first | replace HP := own_toA HP hW | replace HP := own_toA (own_drewA HP) hW); (first | replace HG := own_toA HG hW | replace HG := own_toA (own_drewA HG) hW); (first | replace HI := in_to HI hW (by first | omega | (simp; done) | (simp; omega)) | replace HI := in_to (in_drewA HI) hW (by first | omega | (simp; done) | (simp; omega))); (first | replace H5 := own_toA H5 hW | replace H5 := own_toA (own_drewA H5) hW); have re := rd_oneA hW; (first | replace HQ := HQ.alloc hW | replace HQ := HQ.drew.alloc hW); clear d2; have d2 : w6.cell? ⟨g, j * 4 + 2, none⟩ = some (.slice X1 n1 x1) := (by rw [HG.cellAt _ (by omega), HC2.out]); have z6 := size_toA hW; (try simp only [World.size_drew] at z6); replace r0 : Bk.Blk w6 (w.heap.size + 1) 39 #[.slice none 0 0] := (by rw [← hW]; exact Bk.sv); replace bo : Bk.Blk w6 (w2.heap.size) 39 #[.slice (some ⟨g, 0, none⟩) n c1] := (by rw [← hW]; exact Bk.sv); replace B : Below w.heap.size w w6 := (by rw [← hW]; go_grown); clear hW)); refine hK.out _ _ ?_ (fun hHeld => ?_); ((try dsimp only); exact Bk.sv); clear hK K
        try simp only [Act.put, List.setIfInBounds_toArray, List.set_cons_zero, List.set_cons_succ]
        first | ((refine Reg.tkB 8 (Reg.get rfl) hHeld ?_)) | (refine wpAnyH_ready (rs := [8]) (by kernel_rfl) (by simp) ?_; refine AllReadyH.cons (Reg.get rfl) (fun K hK => ?_) AllReadyH.nil; clear hHeld; go_simp; (skip); refine hK.out _ _ ?_ (fun hHeld => ?_); ((try dsimp only); exact Bk.sv); clear hK K)
        try simp only [Act.put, List.setIfInBounds_toArray, List.set_cons_zero, List.set_cons_succ]
        first | ((refine Reg.tkB 13 (Reg.get rfl) hHeld ?_)) | (refine wpAnyH_ready (rs := [13]) (by kernel_rfl) (by simp) ?_; refine AllReadyH.cons (Reg.get rfl) (fun K hK => ?_) AllReadyH.nil; clear hHeld; ((refine App.wp_app _ _ _ 22 rfl a 25 ip (.slice none 0 0) 1 24 Try.underlying22 hip hp0 hp1 hp2 rfl (by decide) _ _ _ _ rfl (by first | exact HP | exact own_drewA HP) _ 1 1 [.slice A5 m c5] rfl (by first | exact re | exact re.drew) (fun u hu => by simp at hu; subst hu; rfl) (by unfold maxLen; omega) (by omega) (by first | omega | (simp; done) | (simp; omega)) ?_; intro A6 c6 w7 own6 hg0 _; (first | have HS7 := keep_own HX.out HL.out HP HI H5 (by omega) hg0 own6 (by first | omega | (simp; done) | (simp; omega)) | have HS7 := keep_own HX.out HL.out (own_drewA HP) (in_drewA HI) (own_drewA H5) (by omega) hg0 own6 (by first | omega | (simp; done) | (simp; omega))); have hP := own_lo HP; replace bo : Bk.Blk w7 (w2.heap.size) 39 #[.slice (some ⟨g, 0, none⟩) n c1] := blk_grownA hg0 (own_ne HP bo (by decide)) (by exact Bk.sv); replace r0 : Bk.Blk w7 (w.heap.size + 1) 39 #[.slice none 0 0] := blk_grownA hg0 (own_ne HP r0 (by decide)) (by exact Bk.sv); replace B : Below w.heap.size w w7 := Mem.below_app (by go_grown) hg0 (by first | omega | (simp; done) | (simp; omega)) (by intro q h; have := hP _ h; omega); (first | replace HG := own_grownK HG HP (by decide) hg0 | replace HG := own_grownK (own_drewA HG) (own_drewA HP) (by decide) hg0); (first | replace HQ := HQ.grown hg0 | replace HQ := HQ.drew.grown hg0); have z7 := hg0.size; (try simp only [World.size_drew] at z7); clear hg0 own6 hP HI H5 re HP d2; have d2 : w7.cell? ⟨g, j * 4 + 2, none⟩ = some (.slice X1 n1 x1) := (by rw [HG.cellAt _ (by omega), HC2.out]); have hfr : ∀ o, w7.frozen? ⟨g, o, none⟩ = false := (fun o => HG.frozenAt o))); refine hK.out _ _ ?_ (fun hHeld => ?_); ((try dsimp only); exact Bk.sv); clear hK K)
        try simp only [Act.put, List.setIfInBounds_toArray, List.set_cons_zero, List.set_cons_succ]
        first | (refine Reg.tkC 14 ?_ (Reg.get rfl) ?_ hHeld ?_; rotate_left 1; (focus (intro wq hSw; (try dsimp only at hSw); have s_bo := hSw; have L_bo := Lay.c1 s_bo;  go_simp <;> with_reducible rfl))) | (refine Reg.tkB 14 (Reg.get rfl) hHeld ?_)
        try simp only [Act.put, List.setIfInBounds_toArray, List.set_cons_zero, List.set_cons_succ]
        first | (refine Reg.tkC 15 ?_ (Reg.get rfl) ?_ hHeld ?_; rotate_left 1; (focus (intro wq hSw; (try dsimp only at hSw); have s_bo := hSw; have L_bo := Lay.c1 s_bo;  go_simp <;> with_reducible rfl))) | (refine Reg.tkB 15 (Reg.get rfl) hHeld ?_)
        try simp only [Act.put, List.setIfInBounds_toArray, List.set_cons_zero, List.set_cons_succ]
        first | ((refine Reg.tkB 16 (Reg.get rfl) hHeld ?_)) | (refine wpAnyH_ready (rs := [16]) (by kernel_rfl) (by simp) ?_; refine AllReadyH.cons (Reg.get rfl) (fun K hK => ?_) AllReadyH.nil; clear hHeld; go_simp; (skip); refine hK.out _ _ ?_ (fun hHeld => ?_); ((try dsimp only); exact Bk.sv); clear hK K)
        try simp only [Act.put, List.setIfInBounds_toArray, List.set_cons_zero, List.set_cons_succ]
        refine wpAnyH_done (by kernel_rfl) ?_ _
        clear d2 hfr
        generalize hW : World.setCell _ _ _ = w8
        have HE8 := Lib.hid hW
        have HS8 := Lib.hid (show OwnSS w8 a w7.heap.size A6 (n1 + 1) c6 _ from by rw [← hW]; exact ownSS_two HG HS7 (by decide) (by decide) _ _)
        replace bo : Bk.Blk w8 (w2.heap.size) 39 #[.slice (some ⟨g, 0, none⟩) n c1] := (by rw [← hW]; exact Bk.sv)
        replace r0 : Bk.Blk w8 (w.heap.size + 1) 39 #[.slice none 0 0] := (by rw [← hW]; exact Bk.sv)
        replace B : Below w.heap.size w w8 := (by rw [← hW]; go_grown)
        have z8 : w8.heap.size = _ := congrArg (fun W : World => W.heap.size) hW.symm
        (try simp only [World.size_alloc, Bk.size_set, World.size_drew, World.drewN] at z8)
        clear hW
        have HG8 := Lib.hid (RowX.stored ⟨_, HG⟩ HE8.out)
        clear HG HS7
        have l_bo : w2.heap.size < w8.heap.size := Bk.Blk.lt bo
        have c_bo0 : w8.cell? ⟨w2.heap.size, 0, none⟩ = some (.slice (some ⟨g, 0, none⟩) n c1) := Bk.Blk.cell bo 0
        have f_bo0 : w8.frozen? ⟨w2.heap.size, 0, none⟩ = false := Bk.Blk.fro bo 0
        have l_r0 : w.heap.size + 1 < w8.heap.size := Bk.Blk.lt r0
        have c_r00 : w8.cell? ⟨w.heap.size + 1, 0, none⟩ = some (.slice none 0 0) := Bk.Blk.cell r0 0
        have f_r00 : w8.frozen? ⟨w.heap.size + 1, 0, none⟩ = false := Bk.Blk.fro r0 0
        go_wp2_with fail
        clear l_bo c_bo0 f_bo0 l_r0 c_r00 f_r00
        generalize hW : World.setCell _ _ _ = w9
        have hz9 := congrArg (fun W : World => W.heap.size) hW
        simp only [Bk.size_set] at hz9
        have HS9 := Lib.hid (HS8.out.keep (w' := w9) fun q q1 q2 => by rw [← hW]; exact Below.heap_setCell _ _ _ q (by simp; omega))
        have HG9 := Lib.hid (HG8.out.off (by omega) hW)
        have HR9 := Lib.hid (show RowO w9 w.heap.size w9.heap.size (some ⟨g, 0, none⟩) n c1 (ks.set j { nthK ks j with fs := (nthK ks j).fs ++ [bs] }) from HO.out.readSetO hj A6 (n1 + 1) c6 _ (blk X1) (fun q hq => ⟨X1, n1, x1, HO4.out, hq⟩) (fun q q1 q2 hne => by rw [← hW]; refine (Below.heap_setCell _ _ _ q (by simp; omega)).trans ?_; rw [← HE8.out]; exact set_congr _ _ (HQ.block q (by omega) hne)) (by omega) (by omega) (fr_robust HS9.out HG9.out (by omega) (by omega)))
        clear hz9
        replace r0 : Bk.Blk w9 (w.heap.size + 1) 39 #[.slice (some ⟨g, 0, none⟩) n c1] := (by rw [← hW]; apply Bk.Blk.to; (focus (exact Bk.sv)); rfl)
        replace B : Below w.heap.size w w9 := (by rw [← hW]; go_grown)
        have z9 : w9.heap.size = _ := congrArg (fun W : World => W.heap.size) hW.symm
        (try simp only [World.size_alloc, Bk.size_set, World.size_drew, World.drewN] at z9)
        clear hW
        have l_r0 : w.heap.size + 1 < w9.heap.size := Bk.Blk.lt r0
        have c_r00 : w9.cell? ⟨w.heap.size + 1, 0, none⟩ = some (.slice (some ⟨g, 0, none⟩) n c1) := Bk.Blk.cell r0 0
        go_wp2
        refine bodyPost_ret (v := .tuple #[.agg #[.slice (some ⟨g, 0, none⟩) n c1], .bool false]) (by simp [results, Try.results103, go_sem, c_r00]) rfl (⟨_, _, rfl, HR9.out, B⟩)
end Go.Proofs.Ythdieeaegplnmaa.Pb
