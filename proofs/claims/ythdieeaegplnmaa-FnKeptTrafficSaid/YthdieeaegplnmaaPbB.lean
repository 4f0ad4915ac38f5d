/- Power buffers: the program's SetAsleep that wakes a station. -/
import Derived.Test.YthdieeaegplnmaaPbA
namespace Go.Proofs.Ythdieeaegplnmaa.Pb
open Go.RowKit
open Go.Proofs.Ythdieeaegplnmaa.Num Go.Proofs.Ythdieeaegplnmaa.Mem Go.Proofs.Ythdieeaegplnmaa.Hsh Go.Proofs.Ythdieeaegplnmaa.Sls Go.Proofs.Ythdieeaegplnmaa.Own Go.Proofs.Ythdieeaegplnmaa.SS Go.Proofs.Ythdieeaegplnmaa.Gb
set_option linter.unusedSimpArgs false
set_option linter.unusedVariables false
theorem OwnPB.readNil {w w' : World} {lo hi g n c j : Nat} {ks : List Kt} (h : OwnPB w lo hi (some ⟨g, 0, none⟩) n c ks) (hj : j < n) (X : Option Addr) (hw : ∀ q, lo ≤ q → q < hi → w'.heap[q]? = (w.setCell ⟨g, j * 4 + 2, none⟩ (.slice X 0 0)).heap[q]?) :
    RdPB w' (some ⟨g, 0, none⟩) n c (ks.set j { nthK ks j with fs := [] }) := by
  obtain ⟨h0, cs, es, r, k1, ⟨k2, k3⟩, ⟨k4, k5⟩, k6, k7⟩ := h
  have hst : Own (w.setCell ⟨g, j * 4 + 2, none⟩ (.slice X 0 0)) lo hi 95 4 (some ⟨g, 0, none⟩) n c (cs.set (j * 4 + 2) (.slice X 0 0)) := ⟨(k4.stored _ _).1, k5⟩
  have hr := (hst.keep hw).rd
  refine ⟨by simp [h0], hr.2.1, hr.2.2.1, fun hp => ?_⟩
  obtain ⟨g', o, hA, hc⟩ := hr.2.2.2.2 (by simp [k2]; omega)
  injection hA with hA
  injection hA with e1 e2
  subst e1 e2
  refine ⟨g, 0, rfl, fun i hi' => ?_⟩
  obtain ⟨e0, e1, e2, e3⟩ := k3 i hi'
  have c0 := hc (i * 4) (by simp [k2]; omega)
  have c1 := hc (i * 4 + 1) (by simp [k2]; omega)
  have c2 := hc (i * 4 + 2) (by simp [k2]; omega)
  have c3 := hc (i * 4 + 3) (by simp [k2]; omega)
  rw [cell_set e0, if_neg (show ¬ i * 4 = j * 4 + 2 by omega)] at c0
  rw [cell_set e1, if_neg (show ¬ i * 4 + 1 = j * 4 + 2 by omega)] at c1
  rw [cell_set e2] at c2
  rw [cell_set e3, if_neg (show ¬ i * 4 + 3 = j * 4 + 2 by omega)] at c3
  rw [nthK_set (by omega)]
  simp only [Nat.add_assoc]
  by_cases hij : i = j
  · subst hij
    rw [if_pos rfl] at c2 ⊢
    exact ⟨X, 0, 0, c0, c1, c2, c3, rdSS_none _ _⟩
  · rw [if_neg (show ¬ i * 4 + 2 = j * 4 + 2 by omega)] at c2
    rw [if_neg hij]
    refine ⟨(nth es i).1, (nth es i).2.1, (nth es i).2.2, c0, c1, c2, c3, ?_⟩
    have hs := ownSS_two k4 (k6 i hi').2 (by decide) (by decide) (j * 4 + 2) (.slice X 0 0)
    exact (hs.keep fun q q1 q2 => hw q (by have := (k6 i hi').1; omega) (by have := (k6 i hi').1; omega)).rd
theorem OwnPB.keepFr {w w' : World} {lo hi g n c j : Nat} {ks : List Kt} (h : OwnPB w lo hi (some ⟨g, 0, none⟩) n c ks) (hj : j < n) (o : Nat) (u : Value) (s : Sl) (hc : w.cell? ⟨g, j * 4 + 2, none⟩ = some (sl s)) (hw : ∀ q, lo ≤ q → q < hi → w'.heap[q]? = (w.setCell ⟨g, o, none⟩ u).heap[q]?) :
    RdSS w' s.1 s.2.1 s.2.2 (nthK ks j).fs := by
  obtain ⟨h0, cs, es, r, k1, ⟨k2, k3⟩, ⟨k4, k5⟩, k6, k7⟩ := h
  obtain ⟨e0, e1, e2, e3⟩ := k3 j hj
  have hs := ((ownSS_two k4 (k6 j hj).2 (by decide) (by decide) o u).keep (w' := w') fun q q1 q2 => hw q (by have := (k6 j hj).1; omega) (by have := (k6 j hj).1; omega)).rd
  rw [k4.cellAt _ (by omega), e2] at hc
  injection hc with hc
  unfold sl at hc
  injection hc with a b d
  rw [← a, ← b, ← d]
  exact hs
set_option maxRecDepth 100000 in
set_option maxHeartbeats 8000000 in
theorem setA_false (A : Option Addr) (n c : Nat) (ks : List Kt) (st : Int) (j : Nat) (w : World) (hF : FindR ks st n (j : Int)) (hj : j < n) (hr : RdPB w A n c ks) (hn : n ≤ 1048577) (hs : AllFew ks) :
    Calls Try.prog 46 #[.agg #[.slice A n c], .int .i64 st, .bool false] w (RetPF w n ((ks.set j { nthK ks j with ap := false }).set j { nthK (ks.set j { nthK ks j with ap := false }) j with fs := [] }) (nthK (ks.set j { nthK ks j with ap := false }) j).fs) := by
  have HR := Lib.hid hr
  have HS := Lib.hid hs
  have HF := Lib.hid hF
  have B : Below w.heap.size w w := Below.refl _ _
  clear hr hs hF
  go_enter Try.func46, Try.ntmps46
  go_wp2_with fail
  generalize hW : World.alloc _ _ = w1
  have bp : Bk.Blk w1 (w.heap.size) 39 #[.slice A n c] := (by rw [← hW]; apply Bk.Blk.to; (focus (exact Bk.sv)); rfl)
  have r0 : Bk.Blk w1 (w.heap.size + 1) 39 #[.slice none 0 0] := (by rw [← hW]; apply Bk.Blk.to; (focus (exact Bk.sv)); rfl)
  replace B : Below w.heap.size w w1 := (by rw [← hW]; go_grown)
  have z1 : w1.heap.size = _ := congrArg (fun W : World => W.heap.size) hW.symm
  (try simp only [World.size_alloc, Bk.size_set, World.size_drew, World.drewN] at z1)
  clear hW
  refine (copyPb_any A n c ks _ (HR.out.below B) hn HS.out).mono ?_
  rintro x w2 ⟨A1, c1, rfl, hown, hb0⟩
  obtain ⟨g, rfl, hg1, hg2⟩ := hown.addr (by omega)
  have HO := Lib.hid hown
  clear hown
  replace bp : Bk.Blk w2 (w.heap.size) 39 #[.slice A n c] := Bk.Blk.under hb0 (by exact Bk.sv)
  replace r0 : Bk.Blk w2 (w.heap.size + 1) 39 #[.slice none 0 0] := Bk.Blk.under hb0 (by exact Bk.sv)
  replace B : Below w.heap.size w w2 := Below.trans (by go_grown) (hb0.mono (by first | omega | (simp [Bk.size_set]; done) | (simp [Bk.size_set]; omega)))
  have z2 := hb0.size
  (try simp only [World.size_alloc, Bk.size_set, World.size_drew, World.drewN] at z2)
  clear hb0
  go_wp2_with fail
  generalize hW : World.alloc _ _ = w3
  replace HO := Lib.hid (HO.out.below (show Below w2.heap.size w2 w3 from by rw [← hW]; go_grown) (Nat.le_refl _))
  have bo : Bk.Blk w3 (w2.heap.size) 39 #[.slice (some ⟨g, 0, none⟩) n c1] := (by rw [← hW]; apply Bk.Blk.to; (focus (exact Bk.sv)); rfl)
  replace r0 : Bk.Blk w3 (w.heap.size + 1) 39 #[.slice none 0 0] := (by rw [← hW]; exact Bk.sv)
  replace B : Below w.heap.size w w3 := (by rw [← hW]; go_grown)
  have z3 : w3.heap.size = _ := congrArg (fun W : World => W.heap.size) hW.symm
  (try simp only [World.size_alloc, Bk.size_set, World.size_drew, World.drewN] at z3)
  clear hW
  refine (find_impl (some ⟨g, 0, none⟩) n c1 ks st _ HO.out.rd).mono ?_
  rintro x w4 ⟨i, hi, rfl, hb0⟩
  obtain rfl := find_one HF.out hi
  replace HO := Lib.hid (HO.out.below hb0 (by omega))
  clear hi
  replace bo : Bk.Blk w4 (w2.heap.size) 39 #[.slice (some ⟨g, 0, none⟩) n c1] := Bk.Blk.under hb0 (by exact Bk.sv)
  replace r0 : Bk.Blk w4 (w.heap.size + 1) 39 #[.slice none 0 0] := Bk.Blk.under hb0 (by exact Bk.sv)
  replace B : Below w.heap.size w w4 := Below.trans (by go_grown) (hb0.mono (by first | omega | (simp [Bk.size_set]; done) | (simp [Bk.size_set]; omega)))
  have z4 := hb0.size
  (try simp only [World.size_alloc, Bk.size_set, World.size_drew, World.drewN] at z4)
  clear hb0
  have l_bo : w2.heap.size < w4.heap.size := Bk.Blk.lt bo
  have c_bo0 : w4.cell? ⟨w2.heap.size, 0, none⟩ = some (.slice (some ⟨g, 0, none⟩) n c1) := Bk.Blk.cell bo 0
  have f_bo0 : w4.frozen? ⟨w2.heap.size, 0, none⟩ = false := Bk.Blk.fro bo 0
  have l_r0 : w.heap.size + 1 < w4.heap.size := Bk.Blk.lt r0
  have c_r00 : w4.cell? ⟨w.heap.size + 1, 0, none⟩ = some (.slice none 0 0) := Bk.Blk.cell r0 0
  have f_r00 : w4.frozen? ⟨w.heap.size + 1, 0, none⟩ = false := Bk.Blk.fro r0 0
  have zB := B.size
  have hjc : (j : Int) < (n : Int) := by omega
  have HO1 := Lib.hid (HO.out.setAp hj false)
  obtain ⟨s, d0, d1, d2, d3, hfr, _⟩ := HO.out.cellsAt hj
  have HD2 := Lib.hid (show (w4.setCell ⟨g, j * 4 + 1, none⟩ (.bool false)).cell? ⟨g, j * 4 + 2, none⟩ = some (sl s) from Gb.set_next (by omega) d2)
  generalize hk : ks.set j { nthK ks j with ap := false } = ks1 at *
  generalize hK : nthK ks j = e at d0 d1 d2 d3
  clear hk hK
  have d2' : w4.cell? ⟨g, j * 4 + 2, none⟩ = some (.slice s.1 s.2.1 s.2.2) := d2
  clear d2
  have hbA : Below (w4.setCell ⟨g, j * 4 + 1, none⟩ (.bool false)).heap.size (w4.setCell ⟨g, j * 4 + 1, none⟩ (.bool false)) ((w4.setCell ⟨g, j * 4 + 1, none⟩ (.bool false)).alloc (.cells #[] 25)) := Below.alloc (Below.refl _ _) (Nat.le_refl _) _
  have HOA := Lib.hid (HO1.out.below hbA (by simp [Bk.size_set]; omega))
  have HDA := Lib.hid ((hbA.cell (p := ⟨g, j * 4 + 2, none⟩) (by simp [Bk.size_set]; omega)).trans HD2.out)
  clear hbA
  obtain ⟨_, _, _, qA, _, hfA, _⟩ := HOA.out.cellsAt hj
  have hgA : g < w4.heap.size := by omega
  go_wp2_with fail
  clear l_bo c_bo0 f_bo0 l_r0 c_r00 f_r00
  generalize hW : World.alloc _ _ = w5
  have hw := Lib.hid (show ∀ q, w1.heap.size ≤ q → q < w2.heap.size → w5.heap[q]? = ((w4.setCell ⟨g, j * 4 + 1, none⟩ (.bool false)).setCell ⟨g, j * 4 + 2, none⟩ (.slice (some ⟨w4.heap.size, 0, none⟩) 0 0)).heap[q]? from fun q q1 q2 => by rw [← hW]; exact (Below.heap_alloc _ _ q (by simp [Bk.size_set]; omega)).trans (Below.heap_setCell _ _ _ q (by simp; omega)))
  have hz5 := congrArg (fun W : World => W.heap.size) hW
  simp only [World.size_alloc, Bk.size_set] at hz5
  have HP2 := Lib.hid (show PbIn w5 w.heap.size w5.heap.size (some ⟨g, 0, none⟩) n c1 _ from fun wq hag => HO1.out.readNil hj (some ⟨w4.heap.size, 0, none⟩) (fun q q1 q2 => (hag q (by omega) (by omega)).trans (hw.out q q1 q2)))
  clear hz5
  have HF2 := Lib.hid (HO1.out.keepFr hj _ _ s HD2.out hw.out)
  replace r0 : Bk.Blk w5 (w.heap.size + 1) 39 #[.slice (some ⟨g, 0, none⟩) n c1] := (by rw [← hW]; apply Bk.Blk.to; (focus (exact Bk.sv)); rfl)
  replace B : Below w.heap.size w w5 := (by rw [← hW]; go_grown)
  have z5 : w5.heap.size = _ := congrArg (fun W : World => W.heap.size) hW.symm
  (try simp only [World.size_alloc, Bk.size_set, World.size_drew, World.drewN] at z5)
  clear hW
  have l_r0 : w.heap.size + 1 < w5.heap.size := Bk.Blk.lt r0
  have c_r00 : w5.cell? ⟨w.heap.size + 1, 0, none⟩ = some (.slice (some ⟨g, 0, none⟩) n c1) := Bk.Blk.cell r0 0
  go_wp2
  refine bodyPost_ret (v := .tuple #[.agg #[.slice (some ⟨g, 0, none⟩) n c1], .slice s.1 s.2.1 s.2.2]) (by simp [results, Try.results46, go_sem, c_r00]) rfl (⟨_, _, _, _, _, rfl, HP2.out, HF2.out, B⟩)
end Go.Proofs.Ythdieeaegplnmaa.Pb
