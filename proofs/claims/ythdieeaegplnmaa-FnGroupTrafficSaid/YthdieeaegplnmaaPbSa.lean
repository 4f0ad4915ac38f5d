/- Power buffers: the reference's SetAsleep. -/
import Derived.Test.YthdieeaegplnmaaPbO
import Derived.Test.YthdieeaegplnmaaPbS
namespace Go.Proofs.Ythdieeaegplnmaa.Pb
open Go.RowKit
open Go.Proofs.Ythdieeaegplnmaa.Num Go.Proofs.Ythdieeaegplnmaa.Mem Go.Proofs.Ythdieeaegplnmaa.Hsh Go.Proofs.Ythdieeaegplnmaa.Sls Go.Proofs.Ythdieeaegplnmaa.Own Go.Proofs.Ythdieeaegplnmaa.SS Go.Proofs.Ythdieeaegplnmaa.Gb
set_option linter.unusedSimpArgs false
set_option linter.unusedVariables false
theorem setK {W w7 : World} {b o : Nat} {u : Value} (hW : W.setCell ⟨b, o, none⟩ u = w7) : (∀ q k, q ≠ b → w7.cell? ⟨q, k, none⟩ = W.cell? ⟨q, k, none⟩) ∧ (∀ q, q ≠ b → w7.heap[q]? = W.heap[q]?) ∧ w7.heap.size = W.heap.size := by
  subst hW
  have h : ∀ q, q ≠ b → (W.setCell ⟨b, o, none⟩ u).heap[q]? = W.heap[q]? := fun q hq => Below.heap_setCell _ _ _ q (by simpa using hq)
  exact ⟨fun q k hq => World.cell?_of_block (a := ⟨q, k, none⟩) (h q hq), h, Bk.size_set _ _ _⟩
set_option maxRecDepth 100000 in
set_option maxHeartbeats 8000000 in
theorem setS_none (A : Option Addr) (n c : Nat) (ks : List Kt) (st : Int) (b : Bool) (w : World) (hF : FindR ks st n (-1)) (hr : RdPB w A n c ks) (hn : n ≤ 1048577) (hs : AllFew ks) :
    Calls Try.prog 101 #[.agg #[.slice A n c], .int .i64 st, .bool b] w (RetSF w n ks []) := by
  have HR := Lib.hid hr
  have HS := Lib.hid hs
  have HF := Lib.hid hF
  have B : Below w.heap.size w w := Below.refl _ _
  clear hr hs hF
  go_enter Try.func101, Try.ntmps101
  go_wp2_with fail
  generalize hW : World.alloc _ _ = w1
  have bp : Bk.Blk w1 (w.heap.size) 39 #[.slice A n c] := (by rw [← hW]; apply Bk.Blk.to; (focus (exact Bk.sv)); rfl)
  have r0 : Bk.Blk w1 (w.heap.size + 1) 39 #[.slice none 0 0] := (by rw [← hW]; apply Bk.Blk.to; (focus (exact Bk.sv)); rfl)
  replace B : Below w.heap.size w w1 := (by rw [← hW]; go_grown)
  have z1 : w1.heap.size = _ := congrArg (fun W : World => W.heap.size) hW.symm
  (try simp only [World.size_alloc, Bk.size_set, World.size_drew, World.drewN] at z1)
  clear hW
  refine (copyPb_spec A n c ks _ (HR.out.below B) hn HS.out).mono ?_
  rintro x w2 ⟨A1, c1, rfl, hown, hb0⟩
  have HO := Lib.hid hown
  clear hown
  replace bp : Bk.Blk w2 (w.heap.size) 39 #[.slice A n c] := Bk.Blk.under hb0 (by exact Bk.sv)
  replace r0 : Bk.Blk w2 (w.heap.size + 1) 39 #[.slice none 0 0] := Bk.Blk.under hb0 (by exact Bk.sv)
  replace B : Below w.heap.size w w2 := Below.trans (by go_grown) (hb0.mono (by first | omega | (simp [Bk.size_set]; done) | (simp [Bk.size_set]; omega)))
  have z2 := hb0.size
  (try simp only [World.size_alloc, Bk.size_set, World.size_drew, World.drewN] at z2)
  clear hb0
  have l_bp : w.heap.size < w2.heap.size := Bk.Blk.lt bp
  have c_bp0 : w2.cell? ⟨w.heap.size, 0, none⟩ = some (.slice A n c) := Bk.Blk.cell bp 0
  have f_bp0 : w2.frozen? ⟨w.heap.size, 0, none⟩ = false := Bk.Blk.fro bp 0
  go_wp2_with fail
  clear l_bp c_bp0 f_bp0
  generalize hW : World.alloc _ _ = w3
  replace HO := Lib.hid (HO.out.below (show Below w2.heap.size w2 w3 from by rw [← hW]; go_grown) (Nat.le_refl _))
  have bo : Bk.Blk w3 (w2.heap.size) 39 #[.slice A1 n c1] := (by rw [← hW]; apply Bk.Blk.to; (focus (exact Bk.sv)); rfl)
  replace bp : Bk.Blk w3 (w.heap.size) 39 #[.slice A n c] := (by rw [← hW]; exact Bk.sv)
  replace r0 : Bk.Blk w3 (w.heap.size + 1) 39 #[.slice none 0 0] := (by rw [← hW]; exact Bk.sv)
  replace B : Below w.heap.size w w3 := (by rw [← hW]; go_grown)
  have z3 : w3.heap.size = _ := congrArg (fun W : World => W.heap.size) hW.symm
  (try simp only [World.size_alloc, Bk.size_set, World.size_drew, World.drewN] at z3)
  clear hW
  refine (find_spec A n c ks st _ (HR.out.below B)).mono ?_
  rintro x w4 ⟨i, hi, rfl, hb0⟩
  obtain rfl := find_one HF.out hi
  replace HO := Lib.hid (HO.out.below hb0 (by omega))
  clear hi
  replace bo : Bk.Blk w4 (w2.heap.size) 39 #[.slice A1 n c1] := Bk.Blk.under hb0 (by exact Bk.sv)
  replace bp : Bk.Blk w4 (w.heap.size) 39 #[.slice A n c] := Bk.Blk.under hb0 (by exact Bk.sv)
  replace r0 : Bk.Blk w4 (w.heap.size + 1) 39 #[.slice none 0 0] := Bk.Blk.under hb0 (by exact Bk.sv)
  replace B : Below w.heap.size w w4 := Below.trans (by go_grown) (hb0.mono (by first | omega | (simp [Bk.size_set]; done) | (simp [Bk.size_set]; omega)))
  have z4 := hb0.size
  (try simp only [World.size_alloc, Bk.size_set, World.size_drew, World.drewN] at z4)
  clear hb0
  have l_bo : w2.heap.size < w4.heap.size := Bk.Blk.lt bo
  have c_bo0 : w4.cell? ⟨w2.heap.size, 0, none⟩ = some (.slice A1 n c1) := Bk.Blk.cell bo 0
  have f_bo0 : w4.frozen? ⟨w2.heap.size, 0, none⟩ = false := Bk.Blk.fro bo 0
  have l_r0 : w.heap.size + 1 < w4.heap.size := Bk.Blk.lt r0
  have c_r00 : w4.cell? ⟨w.heap.size + 1, 0, none⟩ = some (.slice none 0 0) := Bk.Blk.cell r0 0
  have f_r00 : w4.frozen? ⟨w.heap.size + 1, 0, none⟩ = false := Bk.Blk.fro r0 0
  have zB := B.size
  go_wp2_with fail
  clear l_bo c_bo0 f_bo0 l_r0 c_r00 f_r00
  generalize hW : World.alloc _ _ = w5
  have HO2 := Lib.hid (show OwnPB w5 w1.heap.size w2.heap.size A1 n c1 ks from by rw [← hW]; refine OwnPB.below ?_ (Below.alloc (Below.refl _ _) (Nat.le_refl _) _) (by simp; omega); exact rd_set_far HO.out (by omega) _)
  replace r0 : Bk.Blk w5 (w.heap.size + 1) 39 #[.slice A1 n c1] := (by rw [← hW]; apply Bk.Blk.to; (focus (exact Bk.sv)); rfl)
  replace B : Below w.heap.size w w5 := (by rw [← hW]; go_grown)
  have z5 : w5.heap.size = _ := congrArg (fun W : World => W.heap.size) hW.symm
  (try simp only [World.size_alloc, Bk.size_set, World.size_drew, World.drewN] at z5)
  clear hW
  have l_r0 : w.heap.size + 1 < w5.heap.size := Bk.Blk.lt r0
  have c_r00 : w5.cell? ⟨w.heap.size + 1, 0, none⟩ = some (.slice A1 n c1) := Bk.Blk.cell r0 0
  go_wp2
  refine bodyPost_ret (v := .tuple #[.agg #[.slice A1 n c1], .slice (some ⟨w4.heap.size, 0, none⟩) 0 0]) (by simp [results, Try.results101, go_sem, c_r00]) rfl (⟨_, _, _, _, _, rfl, HO2.out.rowO (by omega) (by omega), rdSS_none _ _, B⟩)
set_option maxRecDepth 100000 in
set_option maxHeartbeats 8000000 in
theorem setS_true (A : Option Addr) (n c : Nat) (ks : List Kt) (st : Int) (j : Nat) (w : World) (hF : FindR ks st n (j : Int)) (hj : j < n) (hr : RdPB w A n c ks) (hn : n ≤ 1048577) (hs : AllFew ks) :
    Calls Try.prog 101 #[.agg #[.slice A n c], .int .i64 st, .bool true] w (RetSF w n (ks.set j { nthK ks j with ap := true }) []) := by
  have HR := Lib.hid hr
  have HS := Lib.hid hs
  have HF := Lib.hid hF
  have B : Below w.heap.size w w := Below.refl _ _
  clear hr hs hF
  go_enter Try.func101, Try.ntmps101
  go_wp2_with fail
  generalize hW : World.alloc _ _ = w1
  have bp : Bk.Blk w1 (w.heap.size) 39 #[.slice A n c] := (by rw [← hW]; apply Bk.Blk.to; (focus (exact Bk.sv)); rfl)
  have r0 : Bk.Blk w1 (w.heap.size + 1) 39 #[.slice none 0 0] := (by rw [← hW]; apply Bk.Blk.to; (focus (exact Bk.sv)); rfl)
  replace B : Below w.heap.size w w1 := (by rw [← hW]; go_grown)
  have z1 : w1.heap.size = _ := congrArg (fun W : World => W.heap.size) hW.symm
  (try simp only [World.size_alloc, Bk.size_set, World.size_drew, World.drewN] at z1)
  clear hW
  refine (copyPb_spec A n c ks _ (HR.out.below B) hn HS.out).mono ?_
  rintro x w2 ⟨A1, c1, rfl, hown, hb0⟩
  obtain ⟨g, rfl, hg1, hg2⟩ := hown.addr (by omega)
  have HO := Lib.hid hown
  clear hown
  replace bp : Bk.Blk w2 (w.heap.size) 39 #[.slice A n c] := Bk.Blk.under hb0 (by exact Bk.sv)
  replace r0 : Bk.Blk w2 (w.heap.size + 1) 39 #[.slice none 0 0] := Bk.Blk.under hb0 (by exact Bk.sv)
  replace B : Below w.heap.size w w2 := Below.trans (by go_grown) (hb0.mono (by first | omega | (simp [Bk.size_set]; done) | (simp [Bk.size_set]; omega)))
  have z2 := hb0.size
  (try simp only [World.size_alloc, Bk.size_set, World.size_drew, World.drewN] at z2)
  clear hb0
  have l_bp : w.heap.size < w2.heap.size := Bk.Blk.lt bp
  have c_bp0 : w2.cell? ⟨w.heap.size, 0, none⟩ = some (.slice A n c) := Bk.Blk.cell bp 0
  have f_bp0 : w2.frozen? ⟨w.heap.size, 0, none⟩ = false := Bk.Blk.fro bp 0
  go_wp2_with fail
  clear l_bp c_bp0 f_bp0
  generalize hW : World.alloc _ _ = w3
  replace HO := Lib.hid (HO.out.below (show Below w2.heap.size w2 w3 from by rw [← hW]; go_grown) (Nat.le_refl _))
  have bo : Bk.Blk w3 (w2.heap.size) 39 #[.slice (some ⟨g, 0, none⟩) n c1] := (by rw [← hW]; apply Bk.Blk.to; (focus (exact Bk.sv)); rfl)
  replace bp : Bk.Blk w3 (w.heap.size) 39 #[.slice A n c] := (by rw [← hW]; exact Bk.sv)
  replace r0 : Bk.Blk w3 (w.heap.size + 1) 39 #[.slice none 0 0] := (by rw [← hW]; exact Bk.sv)
  replace B : Below w.heap.size w w3 := (by rw [← hW]; go_grown)
  have z3 : w3.heap.size = _ := congrArg (fun W : World => W.heap.size) hW.symm
  (try simp only [World.size_alloc, Bk.size_set, World.size_drew, World.drewN] at z3)
  clear hW
  refine (find_spec A n c ks st _ (HR.out.below B)).mono ?_
  rintro x w4 ⟨i, hi, rfl, hb0⟩
  obtain rfl := find_one HF.out hi
  replace HO := Lib.hid (HO.out.below hb0 (by omega))
  clear hi
  replace bo : Bk.Blk w4 (w2.heap.size) 39 #[.slice (some ⟨g, 0, none⟩) n c1] := Bk.Blk.under hb0 (by exact Bk.sv)
  replace bp : Bk.Blk w4 (w.heap.size) 39 #[.slice A n c] := Bk.Blk.under hb0 (by exact Bk.sv)
  replace r0 : Bk.Blk w4 (w.heap.size + 1) 39 #[.slice none 0 0] := Bk.Blk.under hb0 (by exact Bk.sv)
  replace B : Below w.heap.size w w4 := Below.trans (by go_grown) (hb0.mono (by first | omega | (simp [Bk.size_set]; done) | (simp [Bk.size_set]; omega)))
  have z4 := hb0.size
  (try simp only [World.size_alloc, Bk.size_set, World.size_drew, World.drewN] at z4)
  clear hb0
  have l_bo : w2.heap.size < w4.heap.size := Bk.Blk.lt bo
  have c_bo0 : w4.cell? ⟨w2.heap.size, 0, none⟩ = some (.slice (some ⟨g, 0, none⟩) n c1) := Bk.Blk.cell bo 0
  have f_bo0 : w4.frozen? ⟨w2.heap.size, 0, none⟩ = false := Bk.Blk.fro bo 0
  have l_r0 : w.heap.size + 1 < w4.heap.size := Bk.Blk.lt r0
  have c_r00 : w4.cell? ⟨w.heap.size + 1, 0, none⟩ = some (.slice none 0 0) := Bk.Blk.cell r0 0
  have f_r00 : w4.frozen? ⟨w.heap.size + 1, 0, none⟩ = false := Bk.Blk.fro r0 0
  have zB := B.size
  have hjc : (j : Int) < (n : Int) := by omega
  obtain ⟨s, d0, d1, d2, d3, hfr, _⟩ := HO.out.cellsAt hj
  generalize hK : nthK ks j = e at *
  have HK := Lib.hid hK
  clear hK
  go_wp2_with fail
  clear l_bo c_bo0 f_bo0 l_r0 c_r00 f_r00
  generalize hW : World.alloc _ _ = w5
  have HO2 := Lib.hid (show OwnPB w5 w1.heap.size w2.heap.size (some ⟨g, 0, none⟩) n c1 (ks.set j { e with ap := true }) from by rw [← hW, ← HK.out]; refine OwnPB.below ?_ (Below.alloc (Below.refl _ _) (Nat.le_refl _) _) (by simp; omega); exact rd_set_far (HO.out.setAp hj true) (by omega) _)
  replace r0 : Bk.Blk w5 (w.heap.size + 1) 39 #[.slice (some ⟨g, 0, none⟩) n c1] := (by rw [← hW]; apply Bk.Blk.to; (focus (exact Bk.sv)); rfl)
  replace B : Below w.heap.size w w5 := (by rw [← hW]; go_grown)
  have z5 : w5.heap.size = _ := congrArg (fun W : World => W.heap.size) hW.symm
  (try simp only [World.size_alloc, Bk.size_set, World.size_drew, World.drewN] at z5)
  clear hW
  have l_r0 : w.heap.size + 1 < w5.heap.size := Bk.Blk.lt r0
  have c_r00 : w5.cell? ⟨w.heap.size + 1, 0, none⟩ = some (.slice (some ⟨g, 0, none⟩) n c1) := Bk.Blk.cell r0 0
  go_wp2
  refine bodyPost_ret (v := .tuple #[.agg #[.slice (some ⟨g, 0, none⟩) n c1], .slice (some ⟨w4.heap.size, 0, none⟩) 0 0]) (by simp [results, Try.results101, go_sem, c_r00]) rfl (⟨_, _, _, _, _, rfl, HO2.out.rowO (by omega) (by omega), rdSS_none _ _, B⟩)
set_option maxRecDepth 100000 in
set_option maxHeartbeats 8000000 in
theorem setS_false (A : Option Addr) (n c : Nat) (ks : List Kt) (st : Int) (j : Nat) (w : World) (hF : FindR ks st n (j : Int)) (hj : j < n) (hr : RdPB w A n c ks) (hn : n ≤ 1048577) (hs : AllFew ks) :
    Calls Try.prog 101 #[.agg #[.slice A n c], .int .i64 st, .bool false] w (RetSF w n ((ks.set j { nthK ks j with ap := false }).set j { nthK (ks.set j { nthK ks j with ap := false }) j with fs := [] }) (nthK (ks.set j { nthK ks j with ap := false }) j).fs) := by
  obtain ⟨gp, op, A', n', c', rfl, hgp, p0, p1, p2, p3, hrd⟩ := hr.at_ hj
  have HP2C := Lib.hid p2
  have HRD := Lib.hid hrd
  have hn' : n' ≤ 2097152 := by have h1 := (hs j).1; have h2 := hrd.1; omega
  have HSH := Lib.hid (hs j).2
  have HR := Lib.hid hr
  clear p0 p1 p2 p3 hrd
  have HS := Lib.hid hs
  have HF := Lib.hid hF
  have B : Below w.heap.size w w := Below.refl _ _
  clear hr hs hF
  go_enter Try.func101, Try.ntmps101
  go_wp2_with fail
  generalize hW : World.alloc _ _ = w1
  have bp : Bk.Blk w1 (w.heap.size) 39 #[.slice (some ⟨gp, op, none⟩) n c] := (by rw [← hW]; apply Bk.Blk.to; (focus (exact Bk.sv)); rfl)
  have r0 : Bk.Blk w1 (w.heap.size + 1) 39 #[.slice none 0 0] := (by rw [← hW]; apply Bk.Blk.to; (focus (exact Bk.sv)); rfl)
  replace B : Below w.heap.size w w1 := (by rw [← hW]; go_grown)
  have z1 : w1.heap.size = _ := congrArg (fun W : World => W.heap.size) hW.symm
  (try simp only [World.size_alloc, Bk.size_set, World.size_drew, World.drewN] at z1)
  clear hW
  refine (copyPb_spec (some ⟨gp, op, none⟩) n c ks _ (HR.out.below B) hn HS.out).mono ?_
  rintro x w2 ⟨A1, c1, rfl, hown, hb0⟩
  obtain ⟨g, rfl, hg1, hg2⟩ := hown.addr (by omega)
  have HO := Lib.hid hown
  clear hown
  replace bp : Bk.Blk w2 (w.heap.size) 39 #[.slice (some ⟨gp, op, none⟩) n c] := Bk.Blk.under hb0 (by exact Bk.sv)
  replace r0 : Bk.Blk w2 (w.heap.size + 1) 39 #[.slice none 0 0] := Bk.Blk.under hb0 (by exact Bk.sv)
  replace B : Below w.heap.size w w2 := Below.trans (by go_grown) (hb0.mono (by first | omega | (simp [Bk.size_set]; done) | (simp [Bk.size_set]; omega)))
  have z2 := hb0.size
  (try simp only [World.size_alloc, Bk.size_set, World.size_drew, World.drewN] at z2)
  clear hb0
  have l_bp : w.heap.size < w2.heap.size := Bk.Blk.lt bp
  have c_bp0 : w2.cell? ⟨w.heap.size, 0, none⟩ = some (.slice (some ⟨gp, op, none⟩) n c) := Bk.Blk.cell bp 0
  have f_bp0 : w2.frozen? ⟨w.heap.size, 0, none⟩ = false := Bk.Blk.fro bp 0
  go_wp2_with fail
  clear l_bp c_bp0 f_bp0
  generalize hW : World.alloc _ _ = w3
  replace HO := Lib.hid (HO.out.below (show Below w2.heap.size w2 w3 from by rw [← hW]; go_grown) (Nat.le_refl _))
  have bo : Bk.Blk w3 (w2.heap.size) 39 #[.slice (some ⟨g, 0, none⟩) n c1] := (by rw [← hW]; apply Bk.Blk.to; (focus (exact Bk.sv)); rfl)
  replace bp : Bk.Blk w3 (w.heap.size) 39 #[.slice (some ⟨gp, op, none⟩) n c] := (by rw [← hW]; exact Bk.sv)
  replace r0 : Bk.Blk w3 (w.heap.size + 1) 39 #[.slice none 0 0] := (by rw [← hW]; exact Bk.sv)
  replace B : Below w.heap.size w w3 := (by rw [← hW]; go_grown)
  have z3 : w3.heap.size = _ := congrArg (fun W : World => W.heap.size) hW.symm
  (try simp only [World.size_alloc, Bk.size_set, World.size_drew, World.drewN] at z3)
  clear hW
  refine (find_spec (some ⟨gp, op, none⟩) n c ks st _ (HR.out.below B)).mono ?_
  rintro x w4 ⟨i, hi, rfl, hb0⟩
  obtain rfl := find_one HF.out hi
  replace HO := Lib.hid (HO.out.below hb0 (by omega))
  clear hi
  replace bo : Bk.Blk w4 (w2.heap.size) 39 #[.slice (some ⟨g, 0, none⟩) n c1] := Bk.Blk.under hb0 (by exact Bk.sv)
  replace bp : Bk.Blk w4 (w.heap.size) 39 #[.slice (some ⟨gp, op, none⟩) n c] := Bk.Blk.under hb0 (by exact Bk.sv)
  replace r0 : Bk.Blk w4 (w.heap.size + 1) 39 #[.slice none 0 0] := Bk.Blk.under hb0 (by exact Bk.sv)
  replace B : Below w.heap.size w w4 := Below.trans (by go_grown) (hb0.mono (by first | omega | (simp [Bk.size_set]; done) | (simp [Bk.size_set]; omega)))
  have z4 := hb0.size
  (try simp only [World.size_alloc, Bk.size_set, World.size_drew, World.drewN] at z4)
  clear hb0
  have l_bo : w2.heap.size < w4.heap.size := Bk.Blk.lt bo
  have c_bo0 : w4.cell? ⟨w2.heap.size, 0, none⟩ = some (.slice (some ⟨g, 0, none⟩) n c1) := Bk.Blk.cell bo 0
  have f_bo0 : w4.frozen? ⟨w2.heap.size, 0, none⟩ = false := Bk.Blk.fro bo 0
  have l_r0 : w.heap.size + 1 < w4.heap.size := Bk.Blk.lt r0
  have c_r00 : w4.cell? ⟨w.heap.size + 1, 0, none⟩ = some (.slice none 0 0) := Bk.Blk.cell r0 0
  have f_r00 : w4.frozen? ⟨w.heap.size + 1, 0, none⟩ = false := Bk.Blk.fro r0 0
  have zB := B.size
  have hjc : (j : Int) < (n : Int) := by omega
  have HO1 := Lib.hid (HO.out.setAp hj false)
  obtain ⟨s, d0, d1, d2, d3, hfr, _⟩ := HO.out.cellsAt hj
  have HD2 := Lib.hid (show (w4.setCell ⟨g, j * 4 + 1, none⟩ (.bool false)).cell? ⟨g, j * 4 + 2, none⟩ = some (sl s) from Gb.set_next (by omega) d2)
  have HFE := Lib.hid (show (nthK (ks.set j { nthK ks j with ap := false }) j).fs = (nthK ks j).fs by rw [nthK_set (by rw [HR.out.1]; exact hj), if_pos rfl])
  generalize hk : ks.set j { nthK ks j with ap := false } = ks1 at *
  generalize hK : nthK ks j = e at d0 d1 d2 d3
  clear hk hK
  have d2' : w4.cell? ⟨g, j * 4 + 2, none⟩ = some (.slice s.1 s.2.1 s.2.2) := d2
  clear d2
  have hbA : Below (w4.setCell ⟨g, j * 4 + 1, none⟩ (.bool false)).heap.size (w4.setCell ⟨g, j * 4 + 1, none⟩ (.bool false)) ((w4.setCell ⟨g, j * 4 + 1, none⟩ (.bool false)).alloc (.cells #[] 25)) := Below.alloc (Below.refl _ _) (Nat.le_refl _) _
  have HOA := Lib.hid (HO1.out.below hbA (by simp [Bk.size_set]; omega))
  have HDA := Lib.hid ((hbA.cell (p := ⟨g, j * 4 + 2, none⟩) (by simp [Bk.size_set]; omega)).trans HD2.out)
  clear hbA
  obtain ⟨_, _, _, qA, _, hfA, _⟩ := HOA.out.cellsAt hj
  have hgA : g < w4.heap.size := by omega
  go_wp2_with fail
  clear l_bo c_bo0 f_bo0 l_r0 c_r00 f_r00
  generalize hW : World.alloc _ _ = w5
  have hk5 : ∀ q, q ≠ g → q < w4.heap.size → w5.heap[q]? = w4.heap[q]? := fun q hq hlt => by rw [← hW]; refine (Below.heap_alloc _ _ q (by simp only [Bk.size_set]; exact hlt)).trans ?_; exact (Below.heap_setCell _ _ _ q (by simpa using hq)).trans (Below.heap_setCell _ _ _ q (by simpa using hq))
  have hw := Lib.hid (show ∀ q, w1.heap.size ≤ q → q < w2.heap.size → w5.heap[q]? = ((w4.setCell ⟨g, j * 4 + 1, none⟩ (.bool false)).setCell ⟨g, j * 4 + 2, none⟩ (.slice (some ⟨w4.heap.size, 0, none⟩) 0 0)).heap[q]? from fun q q1 q2 => by rw [← hW]; exact Below.heap_alloc _ _ q (by simp [Bk.size_set]; omega))
  have HP5 := Lib.hid (show RowO w5 w1.heap.size w2.heap.size (some ⟨g, 0, none⟩) n c1 _ from HO1.out.readNilO hj (some ⟨w4.heap.size, 0, none⟩) hw.out (Nat.le_refl _) (Nat.le_refl _))
  replace bp : Bk.Blk w5 (w.heap.size) 39 #[.slice (some ⟨gp, op, none⟩) n c] := (by rw [← hW]; exact Bk.sv)
  replace bo : Bk.Blk w5 (w2.heap.size) 39 #[.slice (some ⟨g, 0, none⟩) n c1] := (by rw [← hW]; exact Bk.sv)
  replace r0 : Bk.Blk w5 (w.heap.size + 1) 39 #[.slice none 0 0] := (by rw [← hW]; exact Bk.sv)
  replace B : Below w.heap.size w w5 := (by rw [← hW]; go_grown)
  have z5 : w5.heap.size = _ := congrArg (fun W : World => W.heap.size) hW.symm
  (try simp only [World.size_alloc, Bk.size_set, World.size_drew, World.drewN] at z5)
  clear hW
  have q2 : w5.cell? ⟨gp, op + j * 4 + 2, none⟩ = some (.slice A' n' c') := (B.cell (p := ⟨gp, op + j * 4 + 2, none⟩) hgp).trans HP2C.out
  have hRd := Lib.hid (HRD.out.below B)
  have q0 : w5.cell? ⟨w2.heap.size, 0, none⟩ = some (.slice (some ⟨g, 0, none⟩) n c1) := Bk.Blk.cell bo 0
  have q1 : w5.cell? ⟨w.heap.size, 0, none⟩ = some (.slice (some ⟨gp, op, none⟩) n c) := Bk.Blk.cell bp 0
  have lr := r0.lt
  have cr : w5.cell? ⟨w.heap.size + 1, 0, none⟩ = some (.slice none 0 0) := Bk.Blk.cell r0 0
  have fr : w5.frozen? ⟨w.heap.size + 1, 0, none⟩ = false := Bk.Blk.fro r0 0
  clear hk5 qA hfA d0 d1 d2' d3 hfr HOA HDA hRd bo bp HD2 HO HO1
  go_wp2_with fail
  refine wp_region_held_drew (S := (fun w' => w'.cell? ⟨w2.heap.size, 0, none⟩ = some (.slice (some ⟨g, 0, none⟩) n c1) ∧ w'.cell? ⟨w.heap.size, 0, none⟩ = some (.slice (some ⟨gp, op, none⟩) n c) ∧ w'.cell? ⟨gp, op + j * 4 + 2, none⟩ = some (.slice A' n' c'))) (by kernel_rfl) ?_ (fun hHeld => ?_)
  · (try dsimp only); exact ⟨q0, q1, q2⟩
  first | refine Reg.tkA 0 (Reg.get rfl) hHeld ?_ | refine Reg.tkB 0 (Reg.get rfl) hHeld ?_
  try simp only [Act.put, List.setIfInBounds_toArray, List.set_cons_zero, List.set_cons_succ]
  first | refine Reg.tkA 1 (Reg.get rfl) hHeld ?_ | refine Reg.tkB 1 (Reg.get rfl) hHeld ?_
  try simp only [Act.put, List.setIfInBounds_toArray, List.set_cons_zero, List.set_cons_succ]
  first | refine Reg.tkA 2 (Reg.get rfl) hHeld ?_ | refine Reg.tkB 2 (Reg.get rfl) hHeld ?_
  try simp only [Act.put, List.setIfInBounds_toArray, List.set_cons_zero, List.set_cons_succ]
  first | refine Reg.tkA 3 (Reg.get rfl) hHeld ?_ | refine Reg.tkB 3 (Reg.get rfl) hHeld ?_
  try simp only [Act.put, List.setIfInBounds_toArray, List.set_cons_zero, List.set_cons_succ]
  first | refine Reg.tkA 4 (Reg.get rfl) hHeld ?_ | refine Reg.tkB 4 (Reg.get rfl) hHeld ?_
  try simp only [Act.put, List.setIfInBounds_toArray, List.set_cons_zero, List.set_cons_succ]
  first | refine Reg.tkA 5 (Reg.get rfl) hHeld ?_ | refine Reg.tkB 5 (Reg.get rfl) hHeld ?_
  try simp only [Act.put, List.setIfInBounds_toArray, List.set_cons_zero, List.set_cons_succ]
  first | refine Reg.tkA 6 (Reg.get rfl) hHeld ?_ | refine Reg.tkB 6 (Reg.get rfl) hHeld ?_
  try simp only [Act.put, List.setIfInBounds_toArray, List.set_cons_zero, List.set_cons_succ]
  first | ((refine Reg.tkB 7 (Reg.get rfl) hHeld ?_)) | (refine wpAnyH_ready (rs := [7]) (by kernel_rfl) (by simp) ?_; refine AllReadyH.cons (Reg.get rfl) (fun K hK => ?_) AllReadyH.nil; clear hHeld; go_simp; ((go_at_call 93; refine (frames_spec A' n' c' _ _ (by first | exact HRD.out.below B | exact HRD.out.below B.drew) hn' HSH.out).mono ?_; rintro x w6 ⟨F6, c6, rfl, hF, hb0⟩; have OF := Lib.hid (hF.wider (l2 := w.heap.size + 2) (h2 := w6.heap.size) (by first | omega | (simp; omega)) (Nat.le_refl _)); clear hF; replace q0 := Mem.lift hb0 q0; replace q1 := Mem.lift hb0 q1; replace q2 := Mem.lift hb0 q2; (first | replace r0 := Bk.Blk.under hb0 r0 | replace r0 := Bk.Blk.under hb0 r0.drew); replace HP5 := Lib.hid (HP5.out.keep (w' := w6) fun q _ h2 => hb0.block q (by first | omega | (simp; omega))); replace B : Below w.heap.size w w6 := (by first | exact Below.trans B (hb0.mono (by first | omega | (simp; omega))) | exact Below.trans B.drew (hb0.mono (by first | omega | (simp; omega)))); have z6 := hb0.size; (try simp only [World.size_drew] at z6); clear hb0 cr fr lr; have lr := r0.lt; have fr := Bk.Blk.fro r0 0; have cr := Bk.Blk.cell r0 0)); refine hK.out _ _ ?_ (fun hHeld => ?_); ((try dsimp only); exact ⟨q0, q1, q2⟩); clear hK K)
  try simp only [Act.put, List.setIfInBounds_toArray, List.set_cons_zero, List.set_cons_succ]
  first | ((refine Reg.tkB 8 (Reg.get rfl) hHeld ?_)) | (refine wpAnyH_ready (rs := [8]) (by kernel_rfl) (by simp) ?_; refine AllReadyH.cons (Reg.get rfl) (fun K hK => ?_) AllReadyH.nil; clear hHeld; go_simp; ((generalize hW : World.setCell _ _ _ = w7; have hk7 := setK hW; (try simp only [World.size_drew] at hk7); replace q0 := (hk7.1 _ _ (by omega)).trans q0; replace q1 := (hk7.1 _ _ (by omega)).trans q1; replace q2 := (hk7.1 _ _ (by omega)).trans q2; (try replace OF := Lib.hid (OF.out.keep (w' := w7) fun q h1 _ => hk7.2.1 q (by omega))); replace r0 : Bk.Blk w7 (w.heap.size + 1) 39 #[.slice (some ⟨g, 0, none⟩) n c1] := (by rw [← hW]; apply Bk.Blk.to; (focus exact Bk.sv); rfl); replace HP5 := Lib.hid (HP5.out.keep (w' := w7) fun q h1 _ => hk7.2.1 q (by omega)); replace B : Below w.heap.size w w7 := (by rw [← hW]; go_grown); have z7 := hk7.2.2; clear hW hk7 cr fr lr; have lr := r0.lt; have fr := Bk.Blk.fro r0 0; have cr := Bk.Blk.cell r0 0)); refine hK.out _ _ ?_ (fun hHeld => ?_); ((try dsimp only); exact ⟨q0, q1, q2⟩); clear hK K)
  try simp only [Act.put, List.setIfInBounds_toArray, List.set_cons_zero, List.set_cons_succ]
  first | refine Reg.tkA 9 (Reg.get rfl) hHeld ?_ | refine Reg.tkB 9 (Reg.get rfl) hHeld ?_
  try simp only [Act.put, List.setIfInBounds_toArray, List.set_cons_zero, List.set_cons_succ]
  refine wpAnyH_done (by kernel_rfl) ?_ _
  go_wp2
  refine bodyPost_ret (v := .tuple #[.agg #[.slice (some ⟨g, 0, none⟩) n c1], .slice F6 n' c6]) (by simp [results, Try.results101, go_sem, cr]) rfl ⟨_, _, _, _, _, rfl, (HP5.out.keep (fun _ _ _ => rfl)).wider (by omega) (by first | omega | (simp; omega)), (by rw [HFE.out]; exact OF.out.rd), (by first | exact B | exact B.drew)⟩
end Go.Proofs.Ythdieeaegplnmaa.Pb
