/- Power buffers: the program's SetAsleep. -/
import Derived.Test.YthdieeaegplnmaaPbU
namespace Go.Proofs.Ythdieeaegplnmaa.Pb
open Go.RowKit
open Go.Proofs.Ythdieeaegplnmaa.Num Go.Proofs.Ythdieeaegplnmaa.Mem Go.Proofs.Ythdieeaegplnmaa.Hsh Go.Proofs.Ythdieeaegplnmaa.Sls Go.Proofs.Ythdieeaegplnmaa.Own Go.Proofs.Ythdieeaegplnmaa.SS Go.Proofs.Ythdieeaegplnmaa.Gb
set_option linter.unusedSimpArgs false
set_option linter.unusedVariables false
theorem find_one {ks : List Kt} {st : Int} {n : Nat} {i i2 : Int} (h : FindR ks st n i) (h2 : FindR ks st n i2) : i = i2 := by
  rcases h with ⟨rfl, h⟩ | ⟨j, hj, rfl, he, hl⟩ <;> rcases h2 with ⟨rfl, h2⟩ | ⟨j2, hj2, rfl, he2, hl2⟩
  · rfl
  · exact absurd he2 (h j2 hj2)
  · exact absurd he (h2 j hj)
  · rcases Nat.lt_trichotomy j j2 with h3 | h3 | h3
    · exact absurd he (hl2 j h3)
    · rw [h3]
    · exact absurd he2 (hl j2 h3)
theorem OwnPB.addr {w : World} {lo hi n c : Nat} {A : Option Addr} {ks : List Kt} (h : OwnPB w lo hi A n c ks) (hn : 0 < n) : ∃ g, A = some ⟨g, 0, none⟩ ∧ lo ≤ g ∧ g < hi := by
  obtain ⟨h0, cs, es, r, k1, k2, ⟨hrow, k5⟩, k6⟩ := h
  have hb := (blk_of_own hrow)
  obtain ⟨l1, k4⟩ := hrow
  rcases k4 with ⟨e, _⟩ | ⟨g, cap, cur, hv, h3, h4, h5⟩
  · exfalso
    injection e with e1 e2 e3
    omega
  · injection hv with hv
    subst hv
    exact ⟨g, rfl, (hb g rfl).1, k5 g rfl⟩
/-- the cells of an entry in a row of one's own -/
theorem OwnPB.cellsAt {w : World} {lo hi g n c j : Nat} {ks : List Kt} (h : OwnPB w lo hi (some ⟨g, 0, none⟩) n c ks) (hj : j < n) :
    ∃ s : Sl, w.cell? ⟨g, j * 4, none⟩ = some (.int .i64 (nthK ks j).st) ∧ w.cell? ⟨g, j * 4 + 1, none⟩ = some (.bool (nthK ks j).ap) ∧ w.cell? ⟨g, j * 4 + 2, none⟩ = some (sl s) ∧ w.cell? ⟨g, j * 4 + 3, none⟩ = some (.int .i64 (nthK ks j).lo) ∧ (∀ o, w.frozen? ⟨g, o, none⟩ = false) ∧ RdSS w s.1 s.2.1 s.2.2 (nthK ks j).fs := by
  obtain ⟨h0, cs, es, r, k1, ⟨k2, k3⟩, ⟨k4, k5⟩, k6, k7⟩ := h
  obtain ⟨e0, e1, e2, e3⟩ := k3 j hj
  exact ⟨nth es j, by rw [k4.cellAt _ (by omega), e0], by rw [k4.cellAt _ (by omega), e1], by rw [k4.cellAt _ (by omega), e2], by rw [k4.cellAt _ (by omega), e3], fun o => k4.frozenAt o, (k6 j hj).2.rd⟩
/-- what setting a station asleep or awake makes of the entries, and the frames that go out -/
def SetR (ks : List Kt) (b : Bool) (i : Int) (ks' : List Kt) (fr : List (List Int)) : Prop :=
  (i < 0 ∧ ks' = ks ∧ fr = []) ∨ (0 ≤ i ∧ b = true ∧ ks' = ks.set i.toNat { nthK ks i.toNat with ap := true } ∧ fr = []) ∨
  (0 ≤ i ∧ b = false ∧ ks' = (ks.set i.toNat { nthK ks i.toNat with ap := false }).set i.toNat { nthK (ks.set i.toNat { nthK ks i.toNat with ap := false }) i.toNat with fs := [] } ∧ fr = (nthK ks i.toNat).fs)
/-- a power buffer and frames, both readable -/
def RetPF (w : World) (n : Nat) (ks : List Kt) (fr : List (List Int)) (x : Ending) (w' : World) : Prop :=
  ∃ A c F m d, x = .returned (.tuple #[.agg #[.slice A n c], .slice F m d]) ∧ PbIn w' w.heap.size w'.heap.size A n c ks ∧ RdSS w' F m d fr ∧ Below w.heap.size w w'
/-- a power buffer and a bool -/
def RetPN (w : World) (n : Nat) (ks : List Kt) (b : Bool) (x : Ending) (w' : World) : Prop :=
  ∃ A c, x = .returned (.tuple #[.agg #[.slice A n c], .bool b]) ∧ PbIn w' w.heap.size w'.heap.size A n c ks ∧ Below w.heap.size w w'
theorem rdSS_none (w : World) (A : Option Addr) : RdSS w A 0 0 [] := ⟨rfl, Nat.le_refl _, by omega, fun h => absurd h (by omega)⟩
theorem rd_set_far {w : World} {A : Option Addr} {n c lo b o : Nat} {ks : List Kt} {hi : Nat} (h : OwnPB w lo hi A n c ks) (hb : b < lo) (u : Value) : OwnPB (w.setCell ⟨b, o, none⟩ u) lo hi A n c ks := h.keep fun g h1 _ => Below.heap_setCell _ _ _ g (by simp; omega)
set_option maxRecDepth 100000 in
set_option maxHeartbeats 8000000 in
theorem setA_none (A : Option Addr) (n c : Nat) (ks : List Kt) (st : Int) (b : Bool) (w : World) (hF : FindR ks st n (-1)) (hr : RdPB w A n c ks) (hn : n ≤ 1048577) (hs : AllFew ks) :
    Calls Try.prog 46 #[.agg #[.slice A n c], .int .i64 st, .bool b] w (RetPF w n ks []) := by
  have HR := Lib.hid hr
  have HS := Lib.hid hs
  have HF := Lib.hid hF
  have B : Below w.heap.size w w := Below.refl _ _
  clear hr hs hF
  go_enter Try.func46, Try.ntmps46
  go_wp2_with fail
  generalize hW : World.alloc _ _ = w1
  have bp : Bk.Blk w1 (w.heap.size) 39 #[.slice A n c] := (by rw [← hW]; apply Bk.Blk.to; (focus (exact Bk.sv)); rfl)
  have r0 : Bk.Blk w1 (w.heap.size + 1) 39 #[.slice none 0 0] := (by rw [← hW]; apply Bk.Blk.to; (focus (exact Bk.sv)); rfl)
  replace B : Below w.heap.size w w1 := (by rw [← hW]; go_grown)
  have z1 : w1.heap.size = _ := congrArg (fun W : World => W.heap.size) hW.symm
  (try simp only [World.size_alloc, Bk.size_set, World.size_drew, World.drewN] at z1)
  clear hW
  refine (copyPb_any A n c ks _ (HR.out.below B) hn HS.out).mono ?_
  rintro x w2 ⟨A1, c1, rfl, hown, hb0⟩
  have HO := Lib.hid hown
  clear hown
  replace bp : Bk.Blk w2 (w.heap.size) 39 #[.slice A n c] := Bk.Blk.under hb0 (by exact Bk.sv)
  replace r0 : Bk.Blk w2 (w.heap.size + 1) 39 #[.slice none 0 0] := Bk.Blk.under hb0 (by exact Bk.sv)
  replace B : Below w.heap.size w w2 := Below.trans (by go_grown) (hb0.mono (by first | omega | (simp [Bk.size_set]; done) | (simp [Bk.size_set]; omega)))
  have z2 := hb0.size
  (try simp only [World.size_alloc, Bk.size_set, World.size_drew, World.drewN] at z2)
  clear hb0
  go_wp2_with fail
  generalize hW : World.alloc _ _ = w3
  replace HO := Lib.hid (HO.out.below (show Below w2.heap.size w2 w3 from by rw [← hW]; go_grown) (Nat.le_refl _))
  have bo : Bk.Blk w3 (w2.heap.size) 39 #[.slice A1 n c1] := (by rw [← hW]; apply Bk.Blk.to; (focus (exact Bk.sv)); rfl)
  replace r0 : Bk.Blk w3 (w.heap.size + 1) 39 #[.slice none 0 0] := (by rw [← hW]; exact Bk.sv)
  replace B : Below w.heap.size w w3 := (by rw [← hW]; go_grown)
  have z3 : w3.heap.size = _ := congrArg (fun W : World => W.heap.size) hW.symm
  (try simp only [World.size_alloc, Bk.size_set, World.size_drew, World.drewN] at z3)
  clear hW
  refine (find_impl A1 n c1 ks st _ HO.out.rd).mono ?_
  rintro x w4 ⟨i, hi, rfl, hb0⟩
  obtain rfl := find_one HF.out hi
  replace HO := Lib.hid (HO.out.below hb0 (by omega))
  clear hi
  replace bo : Bk.Blk w4 (w2.heap.size) 39 #[.slice A1 n c1] := Bk.Blk.under hb0 (by exact Bk.sv)
  replace r0 : Bk.Blk w4 (w.heap.size + 1) 39 #[.slice none 0 0] := Bk.Blk.under hb0 (by exact Bk.sv)
  replace B : Below w.heap.size w w4 := Below.trans (by go_grown) (hb0.mono (by first | omega | (simp [Bk.size_set]; done) | (simp [Bk.size_set]; omega)))
  have z4 := hb0.size
  (try simp only [World.size_alloc, Bk.size_set, World.size_drew, World.drewN] at z4)
  clear hb0
  have l_bo : w2.heap.size < w4.heap.size := Bk.Blk.lt bo
  have c_bo0 : w4.cell? ⟨w2.heap.size, 0, none⟩ = some (.slice A1 n c1) := Bk.Blk.cell bo 0
  have f_bo0 : w4.frozen? ⟨w2.heap.size, 0, none⟩ = false := Bk.Blk.fro bo 0
  have l_r0 : w.heap.size + 1 < w4.heap.size := Bk.Blk.lt r0
  have c_r00 : w4.cell? ⟨w.heap.size + 1, 0, none⟩ = some (.slice none 0 0) := Bk.Blk.cell r0 0
  have f_r00 : w4.frozen? ⟨w.heap.size + 1, 0, none⟩ = false := Bk.Blk.fro r0 0
  have zB := B.size
  go_wp2_with fail
  clear l_bo c_bo0 f_bo0 l_r0 c_r00 f_r00
  generalize hW : World.alloc _ _ = w5
  have HO2 := Lib.hid (show OwnPB w5 w1.heap.size w2.heap.size A1 n c1 ks from by rw [← hW]; refine OwnPB.below ?_ (Below.alloc (Below.refl _ _) (Nat.le_refl _) _) (by simp; omega); exact rd_set_far HO.out (by omega) _)
  replace r0 : Bk.Blk w5 (w.heap.size + 1) 39 #[.slice A1 n c1] := (by rw [← hW]; apply Bk.Blk.to; (focus (exact Bk.sv)); rfl)
  replace B : Below w.heap.size w w5 := (by rw [← hW]; go_grown)
  have z5 : w5.heap.size = _ := congrArg (fun W : World => W.heap.size) hW.symm
  (try simp only [World.size_alloc, Bk.size_set, World.size_drew, World.drewN] at z5)
  clear hW
  have l_r0 : w.heap.size + 1 < w5.heap.size := Bk.Blk.lt r0
  have c_r00 : w5.cell? ⟨w.heap.size + 1, 0, none⟩ = some (.slice A1 n c1) := Bk.Blk.cell r0 0
  go_wp2
  refine bodyPost_ret (v := .tuple #[.agg #[.slice A1 n c1], .slice (some ⟨w4.heap.size, 0, none⟩) 0 0]) (by simp [results, Try.results46, go_sem, c_r00]) rfl (⟨_, _, _, _, _, rfl, HO2.out.pbIn (by omega) (by omega), rdSS_none _ _, B⟩)
set_option maxRecDepth 100000 in
set_option maxHeartbeats 8000000 in
theorem setA_true (A : Option Addr) (n c : Nat) (ks : List Kt) (st : Int) (j : Nat) (w : World) (hF : FindR ks st n (j : Int)) (hj : j < n) (hr : RdPB w A n c ks) (hn : n ≤ 1048577) (hs : AllFew ks) :
    Calls Try.prog 46 #[.agg #[.slice A n c], .int .i64 st, .bool true] w (RetPF w n (ks.set j { nthK ks j with ap := true }) []) := by
  have HR := Lib.hid hr
  have HS := Lib.hid hs
  have HF := Lib.hid hF
  have B : Below w.heap.size w w := Below.refl _ _
  clear hr hs hF
  go_enter Try.func46, Try.ntmps46
  go_wp2_with fail
  generalize hW : World.alloc _ _ = w1
  have bp : Bk.Blk w1 (w.heap.size) 39 #[.slice A n c] := (by rw [← hW]; apply Bk.Blk.to; (focus (exact Bk.sv)); rfl)
  have r0 : Bk.Blk w1 (w.heap.size + 1) 39 #[.slice none 0 0] := (by rw [← hW]; apply Bk.Blk.to; (focus (exact Bk.sv)); rfl)
  replace B : Below w.heap.size w w1 := (by rw [← hW]; go_grown)
  have z1 : w1.heap.size = _ := congrArg (fun W : World => W.heap.size) hW.symm
  (try simp only [World.size_alloc, Bk.size_set, World.size_drew, World.drewN] at z1)
  clear hW
  refine (copyPb_any A n c ks _ (HR.out.below B) hn HS.out).mono ?_
  rintro x w2 ⟨A1, c1, rfl, hown, hb0⟩
  obtain ⟨g, rfl, hg1, hg2⟩ := hown.addr (by omega)
  have HO := Lib.hid hown
  clear hown
  replace bp : Bk.Blk w2 (w.heap.size) 39 #[.slice A n c] := Bk.Blk.under hb0 (by exact Bk.sv)
  replace r0 : Bk.Blk w2 (w.heap.size + 1) 39 #[.slice none 0 0] := Bk.Blk.under hb0 (by exact Bk.sv)
  replace B : Below w.heap.size w w2 := Below.trans (by go_grown) (hb0.mono (by first | omega | (simp [Bk.size_set]; done) | (simp [Bk.size_set]; omega)))
  have z2 := hb0.size
  (try simp only [World.size_alloc, Bk.size_set, World.size_drew, World.drewN] at z2)
  clear hb0
  go_wp2_with fail
  generalize hW : World.alloc _ _ = w3
  replace HO := Lib.hid (HO.out.below (show Below w2.heap.size w2 w3 from by rw [← hW]; go_grown) (Nat.le_refl _))
  have bo : Bk.Blk w3 (w2.heap.size) 39 #[.slice (some ⟨g, 0, none⟩) n c1] := (by rw [← hW]; apply Bk.Blk.to; (focus (exact Bk.sv)); rfl)
  replace r0 : Bk.Blk w3 (w.heap.size + 1) 39 #[.slice none 0 0] := (by rw [← hW]; exact Bk.sv)
  replace B : Below w.heap.size w w3 := (by rw [← hW]; go_grown)
  have z3 : w3.heap.size = _ := congrArg (fun W : World => W.heap.size) hW.symm
  (try simp only [World.size_alloc, Bk.size_set, World.size_drew, World.drewN] at z3)
  clear hW
  refine (find_impl (some ⟨g, 0, none⟩) n c1 ks st _ HO.out.rd).mono ?_
  rintro x w4 ⟨i, hi, rfl, hb0⟩
  obtain rfl := find_one HF.out hi
  replace HO := Lib.hid (HO.out.below hb0 (by omega))
  clear hi
  replace bo : Bk.Blk w4 (w2.heap.size) 39 #[.slice (some ⟨g, 0, none⟩) n c1] := Bk.Blk.under hb0 (by exact Bk.sv)
  replace r0 : Bk.Blk w4 (w.heap.size + 1) 39 #[.slice none 0 0] := Bk.Blk.under hb0 (by exact Bk.sv)
  replace B : Below w.heap.size w w4 := Below.trans (by go_grown) (hb0.mono (by first | omega | (simp [Bk.size_set]; done) | (simp [Bk.size_set]; omega)))
  have z4 := hb0.size
  (try simp only [World.size_alloc, Bk.size_set, World.size_drew, World.drewN] at z4)
  clear hb0
  have l_bo : w2.heap.size < w4.heap.size := Bk.Blk.lt bo
  have c_bo0 : w4.cell? ⟨w2.heap.size, 0, none⟩ = some (.slice (some ⟨g, 0, none⟩) n c1) := Bk.Blk.cell bo 0
  have f_bo0 : w4.frozen? ⟨w2.heap.size, 0, none⟩ = false := Bk.Blk.fro bo 0
  have l_r0 : w.heap.size + 1 < w4.heap.size := Bk.Blk.lt r0
  have c_r00 : w4.cell? ⟨w.heap.size + 1, 0, none⟩ = some (.slice none 0 0) := Bk.Blk.cell r0 0
  have f_r00 : w4.frozen? ⟨w.heap.size + 1, 0, none⟩ = false := Bk.Blk.fro r0 0
  have zB := B.size
  have hjc : (j : Int) < (n : Int) := by omega
  obtain ⟨s, d0, d1, d2, d3, hfr, _⟩ := HO.out.cellsAt hj
  generalize hK : nthK ks j = e at *
  have HK := Lib.hid hK
  clear hK
  go_wp2_with fail
  clear l_bo c_bo0 f_bo0 l_r0 c_r00 f_r00
  generalize hW : World.alloc _ _ = w5
  have HO2 := Lib.hid (show OwnPB w5 w1.heap.size w2.heap.size (some ⟨g, 0, none⟩) n c1 (ks.set j { e with ap := true }) from by rw [← hW, ← HK.out]; refine OwnPB.below ?_ (Below.alloc (Below.refl _ _) (Nat.le_refl _) _) (by simp; omega); exact rd_set_far (HO.out.setAp hj true) (by omega) _)
  replace r0 : Bk.Blk w5 (w.heap.size + 1) 39 #[.slice (some ⟨g, 0, none⟩) n c1] := (by rw [← hW]; apply Bk.Blk.to; (focus (exact Bk.sv)); rfl)
  replace B : Below w.heap.size w w5 := (by rw [← hW]; go_grown)
  have z5 : w5.heap.size = _ := congrArg (fun W : World => W.heap.size) hW.symm
  (try simp only [World.size_alloc, Bk.size_set, World.size_drew, World.drewN] at z5)
  clear hW
  have l_r0 : w.heap.size + 1 < w5.heap.size := Bk.Blk.lt r0
  have c_r00 : w5.cell? ⟨w.heap.size + 1, 0, none⟩ = some (.slice (some ⟨g, 0, none⟩) n c1) := Bk.Blk.cell r0 0
  go_wp2
  refine bodyPost_ret (v := .tuple #[.agg #[.slice (some ⟨g, 0, none⟩) n c1], .slice (some ⟨w4.heap.size, 0, none⟩) 0 0]) (by simp [results, Try.results46, go_sem, c_r00]) rfl (⟨_, _, _, _, _, rfl, HO2.out.pbIn (by omega) (by omega), rdSS_none _ _, B⟩)
end Go.Proofs.Ythdieeaegplnmaa.Pb
