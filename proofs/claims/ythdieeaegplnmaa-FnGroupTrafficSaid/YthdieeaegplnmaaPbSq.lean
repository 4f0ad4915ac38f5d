/- Power buffers: the reference's PollFrame. -/
import Derived.Test.YthdieeaegplnmaaPbSa
namespace Go.Proofs.Ythdieeaegplnmaa.Pb
open Go.RowKit
open Go.Proofs.Ythdieeaegplnmaa.Num Go.Proofs.Ythdieeaegplnmaa.Mem Go.Proofs.Ythdieeaegplnmaa.Hsh Go.Proofs.Ythdieeaegplnmaa.Sls Go.Proofs.Ythdieeaegplnmaa.Own Go.Proofs.Ythdieeaegplnmaa.SS Go.Proofs.Ythdieeaegplnmaa.Gb
set_option linter.unusedSimpArgs false
set_option linter.unusedVariables false
/-- a power buffer in new memory, and three more values -/
def RetPW (w : World) (n : Nat) (ks : List Kt) (x : Ending) (w' : World) : Prop :=
  ∃ A c v1 v2 v3, x = .returned (.tuple #[.agg #[.slice A n c], v1, v2, v3]) ∧ RowO w' w.heap.size w'.heap.size A n c ks ∧ Below w.heap.size w w'
theorem ss_tail3 {w : World} {g o n c : Nat} {Z : Option Addr} {xss : List (List Int)} (hZ : (if c = 1 then some (⟨g, o, none⟩ : Addr) else some ⟨g, o + 1, none⟩) = Z) (h : RdSS w (some ⟨g, o, none⟩) n c xss) (hn : 0 < n) : RdSS w Z (n - 1) (c - 1) xss.tail := by
  obtain ⟨h1, h2, h3, h4⟩ := h
  refine ⟨by simp [h1], by omega, by omega, fun hp => ?_⟩
  obtain ⟨g', o', hA, hc⟩ := h4 hn
  injection hA with hA
  injection hA with e1 e2
  subst e1 e2
  rw [if_neg (by omega)] at hZ
  subst hZ
  refine ⟨g, o + 1, rfl, fun j hj => ?_⟩
  obtain ⟨A', n', c', k1, k2⟩ := hc (j + 1) (by omega)
  refine ⟨A', n', c', ?_, ?_⟩
  · rw [show o + 1 + j = o + (j + 1) by omega]; exact k1
  · rw [show xss.tail.getD j [] = xss.getD (j + 1) [] by cases xss <;> simp [List.getD]]; exact k2
set_option maxRecDepth 100000 in
set_option maxHeartbeats 8000000 in
theorem pollS_none (A : Option Addr) (n c : Nat) (ks : List Kt) (st : Int) (w : World) (hF : FindR ks st n (-1)) (hr : RdPB w A n c ks) (hn : n ≤ 1048577) (hs : AllFew ks) :
    Calls Try.prog 105 #[.agg #[.slice A n c], .int .i64 st] w (RetPW w n ks) := by
  have HR := Lib.hid hr
  have HS := Lib.hid hs
  have HF := Lib.hid hF
  have B : Below w.heap.size w w := Below.refl _ _
  clear hr hs hF
  go_enter Try.func105, Try.ntmps105
  go_wp2_with fail
  generalize hW : World.alloc _ _ = w1
  have bp : Bk.Blk w1 (w.heap.size) 39 #[.slice A n c] := (by rw [← hW]; apply Bk.Blk.to; (focus (exact Bk.sv)); rfl)
  have r0 : Bk.Blk w1 (w.heap.size + 1) 39 #[.slice none 0 0] := (by rw [← hW]; apply Bk.Blk.to; (focus (exact Bk.sv)); rfl)
  replace B : Below w.heap.size w w1 := (by rw [← hW]; go_grown)
  have z1 : w1.heap.size = _ := congrArg (fun W : World => W.heap.size) hW.symm
  (try simp only [World.size_alloc, Bk.size_set, World.size_drew, World.drewN] at z1)
  clear hW
  refine (copyPb_spec A n c ks _ (HR.out.below B) hn HS.out).mono ?_
  rintro x w2 ⟨A1, c1, rfl, hown, hb0⟩
  have HO := Lib.hid hown
  clear hown
  replace bp : Bk.Blk w2 (w.heap.size) 39 #[.slice A n c] := Bk.Blk.under hb0 (by exact Bk.sv)
  replace r0 : Bk.Blk w2 (w.heap.size + 1) 39 #[.slice none 0 0] := Bk.Blk.under hb0 (by exact Bk.sv)
  replace B : Below w.heap.size w w2 := Below.trans (by go_grown) (hb0.mono (by first | omega | (simp [Bk.size_set]; done) | (simp [Bk.size_set]; omega)))
  have z2 := hb0.size
  (try simp only [World.size_alloc, Bk.size_set, World.size_drew, World.drewN] at z2)
  clear hb0
  have l_bp : w.heap.size < w2.heap.size := Bk.Blk.lt bp
  have c_bp0 : w2.cell? ⟨w.heap.size, 0, none⟩ = some (.slice A n c) := Bk.Blk.cell bp 0
  have f_bp0 : w2.frozen? ⟨w.heap.size, 0, none⟩ = false := Bk.Blk.fro bp 0
  go_wp2_with fail
  clear l_bp c_bp0 f_bp0
  generalize hW : World.alloc _ _ = w3
  replace HO := Lib.hid (HO.out.below (show Below w2.heap.size w2 w3 from by rw [← hW]; go_grown) (Nat.le_refl _))
  have bo : Bk.Blk w3 (w2.heap.size) 39 #[.slice A1 n c1] := (by rw [← hW]; apply Bk.Blk.to; (focus (exact Bk.sv)); rfl)
  replace bp : Bk.Blk w3 (w.heap.size) 39 #[.slice A n c] := (by rw [← hW]; exact Bk.sv)
  replace r0 : Bk.Blk w3 (w.heap.size + 1) 39 #[.slice none 0 0] := (by rw [← hW]; exact Bk.sv)
  replace B : Below w.heap.size w w3 := (by rw [← hW]; go_grown)
  have z3 : w3.heap.size = _ := congrArg (fun W : World => W.heap.size) hW.symm
  (try simp only [World.size_alloc, Bk.size_set, World.size_drew, World.drewN] at z3)
  clear hW
  refine (find_spec A n c ks st _ (HR.out.below B)).mono ?_
  rintro x w4 ⟨i, hi, rfl, hb0⟩
  obtain rfl := find_one HF.out hi
  replace HO := Lib.hid (HO.out.below hb0 (by omega))
  clear hi
  replace bo : Bk.Blk w4 (w2.heap.size) 39 #[.slice A1 n c1] := Bk.Blk.under hb0 (by exact Bk.sv)
  replace bp : Bk.Blk w4 (w.heap.size) 39 #[.slice A n c] := Bk.Blk.under hb0 (by exact Bk.sv)
  replace r0 : Bk.Blk w4 (w.heap.size + 1) 39 #[.slice none 0 0] := Bk.Blk.under hb0 (by exact Bk.sv)
  replace B : Below w.heap.size w w4 := Below.trans (by go_grown) (hb0.mono (by first | omega | (simp [Bk.size_set]; done) | (simp [Bk.size_set]; omega)))
  have z4 := hb0.size
  (try simp only [World.size_alloc, Bk.size_set, World.size_drew, World.drewN] at z4)
  clear hb0
  have l_bo : w2.heap.size < w4.heap.size := Bk.Blk.lt bo
  have c_bo0 : w4.cell? ⟨w2.heap.size, 0, none⟩ = some (.slice A1 n c1) := Bk.Blk.cell bo 0
  have f_bo0 : w4.frozen? ⟨w2.heap.size, 0, none⟩ = false := Bk.Blk.fro bo 0
  have l_bp : w.heap.size < w4.heap.size := Bk.Blk.lt bp
  have c_bp0 : w4.cell? ⟨w.heap.size, 0, none⟩ = some (.slice A n c) := Bk.Blk.cell bp 0
  have f_bp0 : w4.frozen? ⟨w.heap.size, 0, none⟩ = false := Bk.Blk.fro bp 0
  have l_r0 : w.heap.size + 1 < w4.heap.size := Bk.Blk.lt r0
  have c_r00 : w4.cell? ⟨w.heap.size + 1, 0, none⟩ = some (.slice none 0 0) := Bk.Blk.cell r0 0
  have f_r00 : w4.frozen? ⟨w.heap.size + 1, 0, none⟩ = false := Bk.Blk.fro r0 0
  have zB := B.size
  go_wp2_with fail
  clear l_bo c_bo0 f_bo0 l_bp c_bp0 f_bp0 l_r0 c_r00 f_r00
  generalize hW : World.alloc _ _ = w5
  have HO2 := Lib.hid (show OwnPB w5 w1.heap.size w2.heap.size A1 n c1 ks from by rw [← hW]; refine OwnPB.below ?_ (Below.alloc (Below.refl _ _) (Nat.le_refl _) _) (by simp; omega); exact rd_set_far HO.out (by omega) _)
  replace r0 : Bk.Blk w5 (w.heap.size + 1) 39 #[.slice A1 n c1] := (by rw [← hW]; apply Bk.Blk.to; (focus (exact Bk.sv)); rfl)
  replace B : Below w.heap.size w w5 := (by rw [← hW]; go_grown)
  have z5 : w5.heap.size = _ := congrArg (fun W : World => W.heap.size) hW.symm
  (try simp only [World.size_alloc, Bk.size_set, World.size_drew, World.drewN] at z5)
  clear hW
  have l_r0 : w.heap.size + 1 < w5.heap.size := Bk.Blk.lt r0
  have c_r00 : w5.cell? ⟨w.heap.size + 1, 0, none⟩ = some (.slice A1 n c1) := Bk.Blk.cell r0 0
  go_wp2
  refine bodyPost_ret (v := .tuple #[.agg #[.slice A1 n c1], .slice (some ⟨w4.heap.size, 0, none⟩) 0 0, .bool false, .bool false]) (by simp [results, Try.results105, go_sem, c_r00]) rfl (⟨_, _, _, _, _, rfl, HO2.out.rowO (by omega) (by omega), B⟩)
set_option maxRecDepth 100000 in
set_option maxHeartbeats 8000000 in
theorem pollS_empty (A : Option Addr) (n c : Nat) (ks : List Kt) (st : Int) (w : World) (j : Nat) (hF : FindR ks st n (j : Int)) (hj : j < n) (h0 : (nthK ks j).fs.length = 0) (hr : RdPB w A n c ks) (hn : n ≤ 1048577) (hs : AllFew ks) :
    Calls Try.prog 105 #[.agg #[.slice A n c], .int .i64 st] w (RetPW w n ks) := by
  obtain ⟨gp, op, A', n', c', rfl, hgp, p0, p1, p2, p3, hrd⟩ := hr.at_ hj
  have HP2 := Lib.hid p2
  obtain rfl : n' = 0 := by have := hrd.1; omega
  clear p0 p1 p2 p3 hrd h0
  have HR := Lib.hid hr
  have HS := Lib.hid hs
  have HF := Lib.hid hF
  have B : Below w.heap.size w w := Below.refl _ _
  clear hr hs hF
  go_enter Try.func105, Try.ntmps105
  go_wp2_with fail
  generalize hW : World.alloc _ _ = w1
  have bp : Bk.Blk w1 (w.heap.size) 39 #[.slice (some ⟨gp, op, none⟩) n c] := (by rw [← hW]; apply Bk.Blk.to; (focus (exact Bk.sv)); rfl)
  have r0 : Bk.Blk w1 (w.heap.size + 1) 39 #[.slice none 0 0] := (by rw [← hW]; apply Bk.Blk.to; (focus (exact Bk.sv)); rfl)
  replace B : Below w.heap.size w w1 := (by rw [← hW]; go_grown)
  have z1 : w1.heap.size = _ := congrArg (fun W : World => W.heap.size) hW.symm
  (try simp only [World.size_alloc, Bk.size_set, World.size_drew, World.drewN] at z1)
  clear hW
  refine (copyPb_spec (some ⟨gp, op, none⟩) n c ks _ (HR.out.below B) hn HS.out).mono ?_
  rintro x w2 ⟨A1, c1, rfl, hown, hb0⟩
  have HO := Lib.hid hown
  clear hown
  replace bp : Bk.Blk w2 (w.heap.size) 39 #[.slice (some ⟨gp, op, none⟩) n c] := Bk.Blk.under hb0 (by exact Bk.sv)
  replace r0 : Bk.Blk w2 (w.heap.size + 1) 39 #[.slice none 0 0] := Bk.Blk.under hb0 (by exact Bk.sv)
  replace B : Below w.heap.size w w2 := Below.trans (by go_grown) (hb0.mono (by first | omega | (simp [Bk.size_set]; done) | (simp [Bk.size_set]; omega)))
  have z2 := hb0.size
  (try simp only [World.size_alloc, Bk.size_set, World.size_drew, World.drewN] at z2)
  clear hb0
  have l_bp : w.heap.size < w2.heap.size := Bk.Blk.lt bp
  have c_bp0 : w2.cell? ⟨w.heap.size, 0, none⟩ = some (.slice (some ⟨gp, op, none⟩) n c) := Bk.Blk.cell bp 0
  have f_bp0 : w2.frozen? ⟨w.heap.size, 0, none⟩ = false := Bk.Blk.fro bp 0
  go_wp2_with fail
  clear l_bp c_bp0 f_bp0
  generalize hW : World.alloc _ _ = w3
  replace HO := Lib.hid (HO.out.below (show Below w2.heap.size w2 w3 from by rw [← hW]; go_grown) (Nat.le_refl _))
  have bo : Bk.Blk w3 (w2.heap.size) 39 #[.slice A1 n c1] := (by rw [← hW]; apply Bk.Blk.to; (focus (exact Bk.sv)); rfl)
  replace bp : Bk.Blk w3 (w.heap.size) 39 #[.slice (some ⟨gp, op, none⟩) n c] := (by rw [← hW]; exact Bk.sv)
  replace r0 : Bk.Blk w3 (w.heap.size + 1) 39 #[.slice none 0 0] := (by rw [← hW]; exact Bk.sv)
  replace B : Below w.heap.size w w3 := (by rw [← hW]; go_grown)
  have z3 : w3.heap.size = _ := congrArg (fun W : World => W.heap.size) hW.symm
  (try simp only [World.size_alloc, Bk.size_set, World.size_drew, World.drewN] at z3)
  clear hW
  refine (find_spec (some ⟨gp, op, none⟩) n c ks st _ (HR.out.below B)).mono ?_
  rintro x w4 ⟨i, hi, rfl, hb0⟩
  obtain rfl := find_one HF.out hi
  replace HO := Lib.hid (HO.out.below hb0 (by omega))
  clear hi
  replace bo : Bk.Blk w4 (w2.heap.size) 39 #[.slice A1 n c1] := Bk.Blk.under hb0 (by exact Bk.sv)
  replace bp : Bk.Blk w4 (w.heap.size) 39 #[.slice (some ⟨gp, op, none⟩) n c] := Bk.Blk.under hb0 (by exact Bk.sv)
  replace r0 : Bk.Blk w4 (w.heap.size + 1) 39 #[.slice none 0 0] := Bk.Blk.under hb0 (by exact Bk.sv)
  replace B : Below w.heap.size w w4 := Below.trans (by go_grown) (hb0.mono (by first | omega | (simp [Bk.size_set]; done) | (simp [Bk.size_set]; omega)))
  have z4 := hb0.size
  (try simp only [World.size_alloc, Bk.size_set, World.size_drew, World.drewN] at z4)
  clear hb0
  have p2 := (B.cell (p := ⟨gp, op + j * 4 + 2, none⟩) hgp).trans HP2.out
  have l_bo : w2.heap.size < w4.heap.size := Bk.Blk.lt bo
  have c_bo0 : w4.cell? ⟨w2.heap.size, 0, none⟩ = some (.slice A1 n c1) := Bk.Blk.cell bo 0
  have f_bo0 : w4.frozen? ⟨w2.heap.size, 0, none⟩ = false := Bk.Blk.fro bo 0
  have l_bp : w.heap.size < w4.heap.size := Bk.Blk.lt bp
  have c_bp0 : w4.cell? ⟨w.heap.size, 0, none⟩ = some (.slice (some ⟨gp, op, none⟩) n c) := Bk.Blk.cell bp 0
  have f_bp0 : w4.frozen? ⟨w.heap.size, 0, none⟩ = false := Bk.Blk.fro bp 0
  have l_r0 : w.heap.size + 1 < w4.heap.size := Bk.Blk.lt r0
  have c_r00 : w4.cell? ⟨w.heap.size + 1, 0, none⟩ = some (.slice none 0 0) := Bk.Blk.cell r0 0
  have f_r00 : w4.frozen? ⟨w.heap.size + 1, 0, none⟩ = false := Bk.Blk.fro r0 0
  have zB := B.size
  go_wp2_with fail
  clear l_bo c_bo0 f_bo0 l_bp c_bp0 f_bp0 l_r0 c_r00 f_r00
  generalize hW : World.alloc _ _ = w5
  have HO2 := Lib.hid (show OwnPB w5 w1.heap.size w2.heap.size A1 n c1 ks from by rw [← hW]; refine OwnPB.below ?_ (Below.alloc (Below.refl _ _) (Nat.le_refl _) _) (by simp; omega); exact rd_set_far HO.out (by omega) _)
  replace r0 : Bk.Blk w5 (w.heap.size + 1) 39 #[.slice A1 n c1] := (by rw [← hW]; apply Bk.Blk.to; (focus (exact Bk.sv)); rfl)
  replace B : Below w.heap.size w w5 := (by rw [← hW]; go_grown)
  have z5 : w5.heap.size = _ := congrArg (fun W : World => W.heap.size) hW.symm
  (try simp only [World.size_alloc, Bk.size_set, World.size_drew, World.drewN] at z5)
  clear hW
  have l_r0 : w.heap.size + 1 < w5.heap.size := Bk.Blk.lt r0
  have c_r00 : w5.cell? ⟨w.heap.size + 1, 0, none⟩ = some (.slice A1 n c1) := Bk.Blk.cell r0 0
  go_wp2
  refine bodyPost_ret (v := .tuple #[.agg #[.slice A1 n c1], .slice (some ⟨w4.heap.size, 0, none⟩) 0 0, .bool false, .bool false]) (by simp [results, Try.results105, go_sem, c_r00]) rfl (⟨_, _, _, _, _, rfl, HO2.out.rowO (by omega) (by omega), B⟩)
set_option maxRecDepth 100000 in
set_option maxHeartbeats 8000000 in
theorem pollS_some (A : Option Addr) (n c : Nat) (ks : List Kt) (st : Int) (w : World) (j : Nat) (hF : FindR ks st n (j : Int)) (hj : j < n) (h0 : 0 < (nthK ks j).fs.length) (hr : RdPB w A n c ks) (hn : n ≤ 1048577) (hs : AllFew ks) :
    Calls Try.prog 105 #[.agg #[.slice A n c], .int .i64 st] w (RetPW w n (ks.set j { nthK ks j with fs := (nthK ks j).fs.tail })) := by
  obtain ⟨iu, hiu, hu0, hu1, hu2⟩ := info_parts uInfo
  obtain ⟨gp, op, A', n', c', rfl, hgp, p0, p1, p2, p3, hrd⟩ := hr.at_ hj
  have HP2 := Lib.hid p2
  have hn0 : 0 < n' := by have := hrd.1; omega
  have hnc : n' ≤ c' := hrd.2.1
  have hn' : n' ≤ 2097152 := by have h1 := (hs j).1; have h2 := hrd.1; omega
  obtain ⟨gx, ox, Y, yn, yc, rfl, hgx, e0, hY⟩ := hrd.at_ hn0
  rw [Nat.add_zero] at e0
  have HE0 := Lib.hid e0
  have hyn : yn ≤ 2097152 := by have h1 := (hs j).2 0; have h2 := len_ints hY; omega
  have HYR := Lib.hid hY
  have HRD := Lib.hid hrd
  have HSH := Lib.hid (show AllShort (nthK ks j).fs.tail from fun i => by have h1 := (hs j).2 (i + 1); rw [show (nthK ks j).fs.tail.getD i [] = (nthK ks j).fs.getD (i + 1) [] by cases (nthK ks j).fs <;> simp [List.getD]]; exact h1)
  have HR := Lib.hid hr
  have HS := Lib.hid hs
  have HF := Lib.hid hF
  have B : Below w.heap.size w w := Below.refl _ _
  generalize hks : ks.set j { nthK ks j with fs := (nthK ks j).fs.tail } = ks2
  have HKS := Lib.hid hks
  clear hr hs hF p0 p1 p2 p3 hrd e0 hY h0 hks
  go_enter Try.func105, Try.ntmps105
  go_wp2_with fail
  generalize hW : World.alloc _ _ = w1
  have bp : Bk.Blk w1 (w.heap.size) 39 #[.slice (some ⟨gp, op, none⟩) n c] := (by rw [← hW]; apply Bk.Blk.to; (focus (exact Bk.sv)); rfl)
  have r0 : Bk.Blk w1 (w.heap.size + 1) 39 #[.slice none 0 0] := (by rw [← hW]; apply Bk.Blk.to; (focus (exact Bk.sv)); rfl)
  replace B : Below w.heap.size w w1 := (by rw [← hW]; go_grown)
  have z1 : w1.heap.size = _ := congrArg (fun W : World => W.heap.size) hW.symm
  (try simp only [World.size_alloc, Bk.size_set, World.size_drew, World.drewN] at z1)
  clear hW
  refine (copyPb_spec (some ⟨gp, op, none⟩) n c ks _ (HR.out.below B) hn HS.out).mono ?_
  rintro x w2 ⟨A1, c1, rfl, hown, hb0⟩
  obtain ⟨g, rfl, hg1, hg2⟩ := hown.addr (by omega)
  have HO := Lib.hid hown
  clear hown
  replace bp : Bk.Blk w2 (w.heap.size) 39 #[.slice (some ⟨gp, op, none⟩) n c] := Bk.Blk.under hb0 (by exact Bk.sv)
  replace r0 : Bk.Blk w2 (w.heap.size + 1) 39 #[.slice none 0 0] := Bk.Blk.under hb0 (by exact Bk.sv)
  replace B : Below w.heap.size w w2 := Below.trans (by go_grown) (hb0.mono (by first | omega | (simp [Bk.size_set]; done) | (simp [Bk.size_set]; omega)))
  have z2 := hb0.size
  (try simp only [World.size_alloc, Bk.size_set, World.size_drew, World.drewN] at z2)
  clear hb0
  have l_bp : w.heap.size < w2.heap.size := Bk.Blk.lt bp
  have c_bp0 : w2.cell? ⟨w.heap.size, 0, none⟩ = some (.slice (some ⟨gp, op, none⟩) n c) := Bk.Blk.cell bp 0
  have f_bp0 : w2.frozen? ⟨w.heap.size, 0, none⟩ = false := Bk.Blk.fro bp 0
  go_wp2_with fail
  clear l_bp c_bp0 f_bp0
  generalize hW : World.alloc _ _ = w3
  replace HO := Lib.hid (HO.out.below (show Below w2.heap.size w2 w3 from by rw [← hW]; go_grown) (Nat.le_refl _))
  have bo : Bk.Blk w3 (w2.heap.size) 39 #[.slice (some ⟨g, 0, none⟩) n c1] := (by rw [← hW]; apply Bk.Blk.to; (focus (exact Bk.sv)); rfl)
  replace bp : Bk.Blk w3 (w.heap.size) 39 #[.slice (some ⟨gp, op, none⟩) n c] := (by rw [← hW]; exact Bk.sv)
  replace r0 : Bk.Blk w3 (w.heap.size + 1) 39 #[.slice none 0 0] := (by rw [← hW]; exact Bk.sv)
  replace B : Below w.heap.size w w3 := (by rw [← hW]; go_grown)
  have z3 : w3.heap.size = _ := congrArg (fun W : World => W.heap.size) hW.symm
  (try simp only [World.size_alloc, Bk.size_set, World.size_drew, World.drewN] at z3)
  clear hW
  refine (find_spec (some ⟨gp, op, none⟩) n c ks st _ (HR.out.below B)).mono ?_
  rintro x w4 ⟨i, hi, rfl, hb0⟩
  obtain rfl := find_one HF.out hi
  replace HO := Lib.hid (HO.out.below hb0 (by omega))
  clear hi
  replace bo : Bk.Blk w4 (w2.heap.size) 39 #[.slice (some ⟨g, 0, none⟩) n c1] := Bk.Blk.under hb0 (by exact Bk.sv)
  replace bp : Bk.Blk w4 (w.heap.size) 39 #[.slice (some ⟨gp, op, none⟩) n c] := Bk.Blk.under hb0 (by exact Bk.sv)
  replace r0 : Bk.Blk w4 (w.heap.size + 1) 39 #[.slice none 0 0] := Bk.Blk.under hb0 (by exact Bk.sv)
  replace B : Below w.heap.size w w4 := Below.trans (by go_grown) (hb0.mono (by first | omega | (simp [Bk.size_set]; done) | (simp [Bk.size_set]; omega)))
  have z4 := hb0.size
  (try simp only [World.size_alloc, Bk.size_set, World.size_drew, World.drewN] at z4)
  clear hb0
  have zB := B.size
  have p2 := (B.cell (p := ⟨gp, op + j * 4 + 2, none⟩) hgp).trans HP2.out
  have e0 := (B.cell (p := ⟨gx, ox, none⟩) hgx).trans HE0.out
  have hjc : (j : Int) < (n : Int) := by omega
  have k0 : ((n' : Int) == 0) = false := by simp; omega
  have k1 : (0 : Int) < (n' : Int) := by omega
  have k2 : (1 : Int) ≤ (n' : Int) := by omega
  have hgp4 : gp < w4.heap.size := by omega
  have hgx4 : gx < w4.heap.size := by omega
  have l_bo : w2.heap.size < w4.heap.size := Bk.Blk.lt bo
  have c_bo0 : w4.cell? ⟨w2.heap.size, 0, none⟩ = some (.slice (some ⟨g, 0, none⟩) n c1) := Bk.Blk.cell bo 0
  have f_bo0 : w4.frozen? ⟨w2.heap.size, 0, none⟩ = false := Bk.Blk.fro bo 0
  have l_bp : w.heap.size < w4.heap.size := Bk.Blk.lt bp
  have c_bp0 : w4.cell? ⟨w.heap.size, 0, none⟩ = some (.slice (some ⟨gp, op, none⟩) n c) := Bk.Blk.cell bp 0
  have f_bp0 : w4.frozen? ⟨w.heap.size, 0, none⟩ = false := Bk.Blk.fro bp 0
  have l_r0 : w.heap.size + 1 < w4.heap.size := Bk.Blk.lt r0
  have c_r00 : w4.cell? ⟨w.heap.size + 1, 0, none⟩ = some (.slice none 0 0) := Bk.Blk.cell r0 0
  have f_r00 : w4.frozen? ⟨w.heap.size + 1, 0, none⟩ = false := Bk.Blk.fro r0 0
  go_wp2_with (at_builtin; refine Bk.stopHere ?_)
  show wpList _ _ _ _ _ _
  clear l_bo c_bo0 f_bo0 l_bp c_bp0 f_bp0 l_r0 c_r00 f_r00
  generalize hW : World.alloc _ _ = w5
  have H5 := own_freshA (lo := w4.heap.size) (sz := 1) hW (Nat.le_refl _)
  replace HO := Lib.hid (HO.out.keep (w' := w5) fun q _ h2 => by rw [← hW]; exact Below.heap_alloc _ _ q (by omega))
  replace bo : Bk.Blk w5 (w2.heap.size) 39 #[.slice (some ⟨g, 0, none⟩) n c1] := (by rw [← hW]; exact Bk.sv)
  replace bp : Bk.Blk w5 (w.heap.size) 39 #[.slice (some ⟨gp, op, none⟩) n c] := (by rw [← hW]; exact Bk.sv)
  replace r0 : Bk.Blk w5 (w.heap.size + 1) 39 #[.slice none 0 0] := (by rw [← hW]; exact Bk.sv)
  replace B : Below w.heap.size w w5 := (by rw [← hW]; go_grown)
  have z5 : w5.heap.size = _ := congrArg (fun W : World => W.heap.size) hW.symm
  (try simp only [World.size_alloc, Bk.size_set, World.size_drew, World.drewN] at z5)
  clear hW
  refine wpl_app _ rfl _ _ 25 rfl w4.heap.size 5 iu (.int .u8 0) 1 1 Try.underlying25 hiu hu0 hu1 hu2 rfl (by decide) _ _ _ _ rfl H5 _ _ _ _ rfl (HYR.out.below B) (one_ints .u8 _) (by unfold maxLen; omega) (by omega) (by omega) ?_
  intro A6 c6 w6 own6 hg6 _
  have hP := own_lo H5
  replace HO := Lib.hid (HO.out.keep (w' := w6) fun q _ h2 => hg6.block q (by omega) (fun e => by have := hP q e.symm; omega))
  replace bo : Bk.Blk w6 (w2.heap.size) 39 #[.slice (some ⟨g, 0, none⟩) n c1] := blk_grownA hg6 (own_ne H5 bo (by decide)) bo
  replace bp : Bk.Blk w6 (w.heap.size) 39 #[.slice (some ⟨gp, op, none⟩) n c] := blk_grownA hg6 (own_ne H5 bp (by decide)) bp
  replace r0 : Bk.Blk w6 (w.heap.size + 1) 39 #[.slice none 0 0] := blk_grownA hg6 (own_ne H5 r0 (by decide)) r0
  replace B : Below w.heap.size w w6 := Mem.below_app B hg6 (by omega) (fun q hq => by have := hP q hq; omega)
  have z6 := hg6.size
  clear own6 hg6 hP H5 p2 e0
  have p2 := (B.cell (p := ⟨gp, op + j * 4 + 2, none⟩) hgp).trans HP2.out
  have l_bo : w2.heap.size < w6.heap.size := Bk.Blk.lt bo
  have c_bo0 : w6.cell? ⟨w2.heap.size, 0, none⟩ = some (.slice (some ⟨g, 0, none⟩) n c1) := Bk.Blk.cell bo 0
  have f_bo0 : w6.frozen? ⟨w2.heap.size, 0, none⟩ = false := Bk.Blk.fro bo 0
  have l_bp : w.heap.size < w6.heap.size := Bk.Blk.lt bp
  have c_bp0 : w6.cell? ⟨w.heap.size, 0, none⟩ = some (.slice (some ⟨gp, op, none⟩) n c) := Bk.Blk.cell bp 0
  have f_bp0 : w6.frozen? ⟨w.heap.size, 0, none⟩ = false := Bk.Blk.fro bp 0
  have l_r0 : w.heap.size + 1 < w6.heap.size := Bk.Blk.lt r0
  have c_r00 : w6.cell? ⟨w.heap.size + 1, 0, none⟩ = some (.slice none 0 0) := Bk.Blk.cell r0 0
  have f_r00 : w6.frozen? ⟨w.heap.size + 1, 0, none⟩ = false := Bk.Blk.fro r0 0
  go_wp2_with fail
  clear l_bo c_bo0 f_bo0 l_bp c_bp0 f_bp0 l_r0 c_r00 f_r00
  have q0 : w6.cell? ⟨w2.heap.size, 0, none⟩ = some (.slice (some ⟨g, 0, none⟩) n c1) := Bk.Blk.cell bo 0
  have q1 : w6.cell? ⟨w.heap.size, 0, none⟩ = some (.slice (some ⟨gp, op, none⟩) n c) := Bk.Blk.cell bp 0
  obtain ⟨Z, hZ⟩ : ∃ Z : Option Addr, (if c' = 1 then some (⟨gx, ox, none⟩ : Addr) else some ⟨gx, ox + 1, none⟩) = Z := ⟨_, rfl⟩
  have HZ := Lib.hid hZ
  clear hZ
  refine wp_region_held_drew (S := (fun w' => w'.cell? ⟨w2.heap.size, 0, none⟩ = some (.slice (some ⟨g, 0, none⟩) n c1) ∧ w'.cell? ⟨w.heap.size, 0, none⟩ = some (.slice (some ⟨gp, op, none⟩) n c) ∧ w'.cell? ⟨gp, op + j * 4 + 2, none⟩ = some (.slice (some ⟨gx, ox, none⟩) n' c'))) (by kernel_rfl) ?_ (fun hHeld => ?_)
  · (try dsimp only); (first | exact ⟨q0, q1, p2⟩ | exact ⟨Gb.set_blk (by omega) q0, Gb.set_blk (by omega) q1, Gb.set_blk (by omega) p2⟩)
  first | refine Reg.tkA 0 (Reg.get rfl) hHeld ?_ | refine Reg.tkB 0 (Reg.get rfl) hHeld ?_
  try simp only [Act.put, List.setIfInBounds_toArray, List.set_cons_zero, List.set_cons_succ]
  first | refine Reg.tkA 1 (Reg.get rfl) hHeld ?_ | refine Reg.tkB 1 (Reg.get rfl) hHeld ?_
  try simp only [Act.put, List.setIfInBounds_toArray, List.set_cons_zero, List.set_cons_succ]
  first | refine Reg.tkA 2 (Reg.get rfl) hHeld ?_ | refine Reg.tkB 2 (Reg.get rfl) hHeld ?_
  try simp only [Act.put, List.setIfInBounds_toArray, List.set_cons_zero, List.set_cons_succ]
  first | refine Reg.tkA 3 (Reg.get rfl) hHeld ?_ | refine Reg.tkB 3 (Reg.get rfl) hHeld ?_
  try simp only [Act.put, List.setIfInBounds_toArray, List.set_cons_zero, List.set_cons_succ]
  first | refine Reg.tkA 4 (Reg.get rfl) hHeld ?_ | refine Reg.tkB 4 (Reg.get rfl) hHeld ?_
  try simp only [Act.put, List.setIfInBounds_toArray, List.set_cons_zero, List.set_cons_succ]
  first | refine Reg.tkA 5 (Reg.get rfl) hHeld ?_ | refine Reg.tkB 5 (Reg.get rfl) hHeld ?_
  try simp only [Act.put, List.setIfInBounds_toArray, List.set_cons_zero, List.set_cons_succ]
  first | refine Reg.tkA 6 (Reg.get rfl) hHeld ?_ | refine Reg.tkB 6 (Reg.get rfl) hHeld ?_
  try simp only [Act.put, List.setIfInBounds_toArray, List.set_cons_zero, List.set_cons_succ]
  first | refine Reg.tkA 7 (Reg.get rfl) hHeld ?_ | refine Reg.tkB 7 (Reg.get rfl) hHeld ?_
  try simp only [Act.put, List.setIfInBounds_toArray, List.set_cons_zero, List.set_cons_succ]
  first | refine Reg.tkA 8 (Reg.get rfl) hHeld ?_ | refine Reg.tkB 8 (Reg.get rfl) hHeld ?_
  try simp only [Act.put, List.setIfInBounds_toArray, List.set_cons_zero, List.set_cons_succ]
  (refine wpAnyH_take (i := 9) (v := .slice Z (n' - 1) (c' - 1)) (Reg.get rfl) (by kernel_rfl) (by kernel_rfl) (by kernel_rfl) (fun _ _ _ h => h) (Or.inl ⟨by rfl, ?_⟩) hHeld ?_; (focus (intro wq hSw; have q0 := hSw.1; have q1 := hSw.2.1; have p2 := hSw.2.2; (rw [← HZ.out]); go_simp <;> rfl)))
  try simp only [Act.put, List.setIfInBounds_toArray, List.set_cons_zero, List.set_cons_succ]
  first | ((refine Reg.tkB 10 (Reg.get rfl) hHeld ?_)) | (refine wpAnyH_ready (rs := [10]) (by kernel_rfl) (by simp) ?_; refine AllReadyH.cons (Reg.get rfl) (fun K hK => ?_) AllReadyH.nil; clear hHeld; go_simp; ((go_at_call 93; refine (frames_spec _ (n' - 1) (c' - 1) (nthK ks j).fs.tail _ (by first | exact ss_tail3 HZ.out (HRD.out.below B) hn0 | exact ss_tail3 HZ.out (HRD.out.below B.drew) hn0) (by omega) HSH.out).mono ?_; rintro x w7 ⟨F7, c7, rfl, hF7, hb0⟩; have OF := Lib.hid (hF7.wider (l2 := w2.heap.size + 1) (h2 := w7.heap.size) (by first | omega | (simp; omega)) (Nat.le_refl _)); clear hF7; replace q0 := Mem.lift hb0 q0; replace q1 := Mem.lift hb0 q1; replace p2 := Mem.lift hb0 p2; (first | replace r0 := Bk.Blk.under hb0 r0 | replace r0 := Bk.Blk.under hb0 r0.drew); replace HO := Lib.hid (HO.out.keep (w' := w7) fun q _ h2 => hb0.block q (by first | omega | (simp; omega))); replace B : Below w.heap.size w w7 := (by first | exact Below.trans B (hb0.mono (by first | omega | (simp; omega))) | exact Below.trans B.drew (hb0.mono (by first | omega | (simp; omega)))); have z7 := hb0.size; (try simp only [World.size_drew] at z7); clear hb0; obtain ⟨s7, _, _, d7, _, hf7, _⟩ := HO.out.cellsAt hj)); refine hK.out _ _ ?_ (fun hHeld => ?_); ((try dsimp only); (first | exact ⟨q0, q1, p2⟩ | exact ⟨Gb.set_blk (by omega) q0, Gb.set_blk (by omega) q1, Gb.set_blk (by omega) p2⟩)); clear hK K)
  try simp only [Act.put, List.setIfInBounds_toArray, List.set_cons_zero, List.set_cons_succ]
  first | refine Reg.tkA 11 (Reg.get rfl) hHeld ?_ | refine Reg.tkB 11 (Reg.get rfl) hHeld ?_
  try simp only [Act.put, List.setIfInBounds_toArray, List.set_cons_zero, List.set_cons_succ]
  first | refine Reg.tkA 12 (Reg.get rfl) hHeld ?_ | refine Reg.tkB 12 (Reg.get rfl) hHeld ?_
  try simp only [Act.put, List.setIfInBounds_toArray, List.set_cons_zero, List.set_cons_succ]
  first | ((refine Reg.tkB 13 (Reg.get rfl) hHeld ?_)) | (refine wpAnyH_ready (rs := [13]) (by kernel_rfl) (by simp) ?_; refine AllReadyH.cons (Reg.get rfl) (fun K hK => ?_) AllReadyH.nil; clear hHeld; go_simp; (skip); refine hK.out _ _ ?_ (fun hHeld => ?_); ((try dsimp only); (first | exact ⟨q0, q1, p2⟩ | exact ⟨Gb.set_blk (by omega) q0, Gb.set_blk (by omega) q1, Gb.set_blk (by omega) p2⟩)); clear hK K)
  try simp only [Act.put, List.setIfInBounds_toArray, List.set_cons_zero, List.set_cons_succ]
  refine wpAnyH_done (by kernel_rfl) ?_ _
  clear bo bp d7 hf7
  generalize hW : World.setCell _ _ _ = w8
  have hk8 : ∀ q : Nat, w8.heap[q]? = (w7.setCell ⟨g, j * 4 + 2, none⟩ (.slice F7 (n' - 1) c7)).heap[q]? := fun q => by rw [← hW]
  have hs8 : w8.heap.size = w7.heap.size := by rw [← hW]; exact Bk.size_set _ _ _
  have OF8 := Lib.hid (OF.out.keep (w' := w8) fun q h1 _ => (hk8 q).trans (Below.heap_setCell w7 ⟨g, j * 4 + 2, none⟩ _ q (by simp; omega)))
  have HX8 := Lib.hid (HO.out.rowX.stored hW)
  have HP8 := Lib.hid (show RowO w8 w1.heap.size w8.heap.size (some ⟨g, 0, none⟩) n c1 ks2 from by rw [← HKS.out]; exact HO.out.readSetO hj F7 (n' - 1) c7 _ none (fun q hq => by cases hq) (fun q h1 h2 _ => hk8 q) (by omega) (by omega) (fr_robust OF8.out HX8.out (by omega) (by omega)))
  replace q0 : w8.cell? ⟨w2.heap.size, 0, none⟩ = some (.slice (some ⟨g, 0, none⟩) n c1) := (World.cell?_of_block (a := ⟨w2.heap.size, 0, none⟩) (hk8 _)).trans (Gb.set_blk (by omega) q0)
  replace q1 : w8.cell? ⟨w.heap.size, 0, none⟩ = some (.slice (some ⟨gp, op, none⟩) n c) := (World.cell?_of_block (a := ⟨w.heap.size, 0, none⟩) (hk8 _)).trans (Gb.set_blk (by omega) q1)
  replace p2 : w8.cell? ⟨gp, op + j * 4 + 2, none⟩ = some (.slice (some ⟨gx, ox, none⟩) n' c') := (World.cell?_of_block (a := ⟨gp, op + j * 4 + 2, none⟩) (hk8 _)).trans (Gb.set_blk (by omega) p2)
  replace r0 : Bk.Blk w8 (w.heap.size + 1) 39 #[.slice none 0 0] := (by rw [← hW]; exact Bk.sv)
  replace B : Below w.heap.size w w8 := (by rw [← hW]; go_grown)
  have z8 : w8.heap.size = _ := congrArg (fun W : World => W.heap.size) hW.symm
  (try simp only [World.size_alloc, Bk.size_set, World.size_drew, World.drewN] at z8)
  clear hW
  clear hk8 hs8 HO OF OF8
  go_wp2_with fail
  have f0 := Bk.Blk.fro r0 0
  have l0 := r0.lt
  have c0 := Bk.Blk.cell r0 0
  generalize hmo : decide ((1 : Int) < (n' : Int)) = mo
  refine wp_region_held_drew (S := (fun w' => w'.cell? ⟨w2.heap.size, 0, none⟩ = some (.slice (some ⟨g, 0, none⟩) n c1) ∧ w'.cell? ⟨w.heap.size, 0, none⟩ = some (.slice (some ⟨gp, op, none⟩) n c) ∧ w'.cell? ⟨gp, op + j * 4 + 2, none⟩ = some (.slice (some ⟨gx, ox, none⟩) n' c'))) (by kernel_rfl) ?_ (fun hHeld => ?_)
  · (try dsimp only); (first | exact ⟨q0, q1, p2⟩ | exact ⟨Gb.set_blk (by omega) q0, Gb.set_blk (by omega) q1, Gb.set_blk (by omega) p2⟩)
  first | refine Reg.tkA 0 (Reg.get rfl) hHeld ?_ | refine Reg.tkB 0 (Reg.get rfl) hHeld ?_
  try simp only [Act.put, List.setIfInBounds_toArray, List.set_cons_zero, List.set_cons_succ]
  first | refine Reg.tkA 1 (Reg.get rfl) hHeld ?_ | refine Reg.tkB 1 (Reg.get rfl) hHeld ?_
  try simp only [Act.put, List.setIfInBounds_toArray, List.set_cons_zero, List.set_cons_succ]
  first | refine Reg.tkA 2 (Reg.get rfl) hHeld ?_ | refine Reg.tkB 2 (Reg.get rfl) hHeld ?_
  try simp only [Act.put, List.setIfInBounds_toArray, List.set_cons_zero, List.set_cons_succ]
  first | refine Reg.tkA 3 (Reg.get rfl) hHeld ?_ | refine Reg.tkB 3 (Reg.get rfl) hHeld ?_
  try simp only [Act.put, List.setIfInBounds_toArray, List.set_cons_zero, List.set_cons_succ]
  first | refine Reg.tkA 4 (Reg.get rfl) hHeld ?_ | refine Reg.tkB 4 (Reg.get rfl) hHeld ?_
  try simp only [Act.put, List.setIfInBounds_toArray, List.set_cons_zero, List.set_cons_succ]
  first | refine Reg.tkA 5 (Reg.get rfl) hHeld ?_ | refine Reg.tkB 5 (Reg.get rfl) hHeld ?_
  try simp only [Act.put, List.setIfInBounds_toArray, List.set_cons_zero, List.set_cons_succ]
  first | refine Reg.tkA 6 (Reg.get rfl) hHeld ?_ | refine Reg.tkB 6 (Reg.get rfl) hHeld ?_
  try simp only [Act.put, List.setIfInBounds_toArray, List.set_cons_zero, List.set_cons_succ]
  first | refine Reg.tkA 7 (Reg.get rfl) hHeld ?_ | refine Reg.tkB 7 (Reg.get rfl) hHeld ?_
  try simp only [Act.put, List.setIfInBounds_toArray, List.set_cons_zero, List.set_cons_succ]
  first | refine Reg.tkA 8 (Reg.get rfl) hHeld ?_ | refine Reg.tkB 8 (Reg.get rfl) hHeld ?_
  try simp only [Act.put, List.setIfInBounds_toArray, List.set_cons_zero, List.set_cons_succ]
  first | refine Reg.tkA 9 (Reg.get rfl) hHeld ?_ | refine Reg.tkB 9 (Reg.get rfl) hHeld ?_
  try simp only [Act.put, List.setIfInBounds_toArray, List.set_cons_zero, List.set_cons_succ]
  first | ((refine Reg.tkB 10 (Reg.get rfl) hHeld ?_)) | (refine wpAnyH_ready (rs := [10]) (by kernel_rfl) (by simp) ?_; refine AllReadyH.cons (Reg.get rfl) (fun K hK => ?_) AllReadyH.nil; clear hHeld; go_simp; (skip); refine hK.out _ _ ?_ (fun hHeld => ?_); ((try dsimp only); (first | exact ⟨q0, q1, p2⟩ | exact ⟨Gb.set_blk (by omega) q0, Gb.set_blk (by omega) q1, Gb.set_blk (by omega) p2⟩)); clear hK K)
  try simp only [Act.put, List.setIfInBounds_toArray, List.set_cons_zero, List.set_cons_succ]
  first | refine Reg.tkA 11 (Reg.get rfl) hHeld ?_ | refine Reg.tkB 11 (Reg.get rfl) hHeld ?_
  try simp only [Act.put, List.setIfInBounds_toArray, List.set_cons_zero, List.set_cons_succ]
  first | refine Reg.tkA 12 (Reg.get rfl) hHeld ?_ | refine Reg.tkB 12 (Reg.get rfl) hHeld ?_
  try simp only [Act.put, List.setIfInBounds_toArray, List.set_cons_zero, List.set_cons_succ]
  first | refine Reg.tkA 13 (Reg.get rfl) hHeld ?_ | refine Reg.tkB 13 (Reg.get rfl) hHeld ?_
  try simp only [Act.put, List.setIfInBounds_toArray, List.set_cons_zero, List.set_cons_succ]
  refine wpAnyH_done (by kernel_rfl) ?_ _
  clear f0 l0 c0
  generalize hW : World.drew _ = w9
  have HP9 := Lib.hid (HP8.out.keep (w' := w9) fun q h1 _ => by rw [← hW]; exact Below.heap_setCell _ _ _ q (by simp; omega))
  have hs9 : w9.heap.size = w8.heap.size := by rw [← hW]; exact Bk.size_set _ _ _
  replace r0 : Bk.Blk w9 (w.heap.size + 1) 39 #[.slice (some ⟨g, 0, none⟩) n c1] := (by rw [← hW]; apply Bk.Blk.to; (focus (exact Bk.sv)); rfl)
  replace B : Below w.heap.size w w9 := (by rw [← hW]; go_grown)
  have z9 : w9.heap.size = _ := congrArg (fun W : World => W.heap.size) hW.symm
  (try simp only [World.size_alloc, Bk.size_set, World.size_drew, World.drewN] at z9)
  clear hW
  have l_r0 : w.heap.size + 1 < w9.heap.size := Bk.Blk.lt r0
  have c_r00 : w9.cell? ⟨w.heap.size + 1, 0, none⟩ = some (.slice (some ⟨g, 0, none⟩) n c1) := Bk.Blk.cell r0 0
  go_wp2
  refine bodyPost_ret (v := .tuple #[.agg #[.slice (some ⟨g, 0, none⟩) n c1], .slice A6 yn c6, .bool mo, .bool true]) (by simp [results, Try.results105, go_sem, c_r00]) rfl (⟨_, _, _, _, _, rfl, HP9.out.wider (by omega) (by omega), B⟩)
end Go.Proofs.Ythdieeaegplnmaa.Pb
