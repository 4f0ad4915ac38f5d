/- KeepGroupFrame: what both sides hand back. IN WORK. -/
import Derived.Test.YthdieeaegplnmaaBaseG
namespace Go.Proofs.Ythdieeaegplnmaa.Gb
open Go.RowKit
open Go.Proofs.Ythdieeaegplnmaa.Num Go.Proofs.Ythdieeaegplnmaa.Mem Go.Proofs.Ythdieeaegplnmaa.Hsh Go.Proofs.Ythdieeaegplnmaa.Sls Go.Proofs.Ythdieeaegplnmaa.Own Go.Proofs.Ythdieeaegplnmaa.SS Go.Proofs.Ythdieeaegplnmaa.Bcn
set_option linter.unusedSimpArgs false
set_option linter.unusedVariables false
/-- one more, as the machine counts -/
def more1 (lo : Int) : Int := if lo = 9223372036854775807 then -9223372036854775808 else lo + 1
set_option maxRecDepth 100000 in
set_option maxHeartbeats 4000000 in
theorem keep_no_impl (pe lo : Int) (A : Option Addr) (n c : Nat) (xss : List (List Int)) (B' : Option Addr) (m d : Nat) (w : World) (hv : ¬ validG pe lo xss n) (hr : RdSS w A n c xss) (hn : n ≤ 2097152) (hs : AllShort xss) :
    Calls Try.prog 13 #[.agg #[.int .i64 pe, .slice A n c, .int .i64 lo], .slice B' m d] w (RetGb w pe lo n xss) := by
  have HR := Lib.hid hr
  have HS := Lib.hid hs
  have HV := Lib.hid hv
  clear hr hs hv
  go_enter Try.func13, Try.ntmps13
  go_wp2_with fail
  refine (copyGb_any pe lo A n c xss _ ((HR.out.alloc _).alloc _) hn HS.out).mono ?_
  rintro x w1 ⟨A1, c1, rfl, hown, hb⟩
  obtain ⟨hc, hf⟩ := bcells hb
  have q0 := (hc (w.heap.size) 0 (by simp <;> omega)).trans (show _ = some (.int .i64 pe) from by first | (simp; done) | (simp [World.cell?_alloc_at]; done) | (rw [World.cell?_alloc_old _ _ _ (by simp <;> omega)]; first | (simp; done) | (simp [World.cell?_alloc_at]; done))); have q1 := (hc (w.heap.size) 1 (by simp <;> omega)).trans (show _ = some (.slice A n c) from by first | (simp; done) | (simp [World.cell?_alloc_at]; done) | (rw [World.cell?_alloc_old _ _ _ (by simp <;> omega)]; first | (simp; done) | (simp [World.cell?_alloc_at]; done))); have q2 := (hc (w.heap.size) 2 (by simp <;> omega)).trans (show _ = some (.int .i64 lo) from by first | (simp; done) | (simp [World.cell?_alloc_at]; done) | (rw [World.cell?_alloc_old _ _ _ (by simp <;> omega)]; first | (simp; done) | (simp [World.cell?_alloc_at]; done)))
  have p0 := (hc (w.heap.size + 1) 0 (by simp <;> omega)).trans (show _ = some (.int .i64 0) from by first | (simp; done) | (simp [World.cell?_alloc_at]; done) | (rw [World.cell?_alloc_old _ _ _ (by simp <;> omega)]; first | (simp; done) | (simp [World.cell?_alloc_at]; done))); have p1 := (hc (w.heap.size + 1) 1 (by simp <;> omega)).trans (show _ = some (.slice none 0 0) from by first | (simp; done) | (simp [World.cell?_alloc_at]; done) | (rw [World.cell?_alloc_old _ _ _ (by simp <;> omega)]; first | (simp; done) | (simp [World.cell?_alloc_at]; done))); have p2 := (hc (w.heap.size + 1) 2 (by simp <;> omega)).trans (show _ = some (.int .i64 0) from by first | (simp; done) | (simp [World.cell?_alloc_at]; done) | (rw [World.cell?_alloc_old _ _ _ (by simp <;> omega)]; first | (simp; done) | (simp [World.cell?_alloc_at]; done)))
  have r0 := (hf (w.heap.size + 1) 0 (by simp <;> omega)).trans (show _ = false from by first | (simp; done) | (simp [World.frozen?_alloc_at]; done) | (rw [World.frozen?_alloc_old _ _ _ (by simp <;> omega)]; first | (simp [World.frozen?_alloc_at]; done) | (rw [World.frozen?_alloc_old _ _ _ (by simp <;> omega)]; simp [World.frozen?_alloc_at]; done))); have r1 := (hf (w.heap.size + 1) 1 (by simp <;> omega)).trans (show _ = false from by first | (simp; done) | (simp [World.frozen?_alloc_at]; done) | (rw [World.frozen?_alloc_old _ _ _ (by simp <;> omega)]; first | (simp [World.frozen?_alloc_at]; done) | (rw [World.frozen?_alloc_old _ _ _ (by simp <;> omega)]; simp [World.frozen?_alloc_at]; done))); have r2 := (hf (w.heap.size + 1) 2 (by simp <;> omega)).trans (show _ = false from by first | (simp; done) | (simp [World.frozen?_alloc_at]; done) | (rw [World.frozen?_alloc_old _ _ _ (by simp <;> omega)]; first | (simp [World.frozen?_alloc_at]; done) | (rw [World.frozen?_alloc_old _ _ _ (by simp <;> omega)]; simp [World.frozen?_alloc_at]; done)))
  have hR1 : RdSS w1 A n c xss := ((HR.out.alloc _).alloc _).below hb
  have z0 : w.heap.size + 1 < w1.heap.size := World.block_lt_of_cell? w1 _ p0
  have z00 : w.heap.size < w1.heap.size := World.block_lt_of_cell? w1 _ q0
  have B := (show Below w.heap.size w w1 from Below.trans (by go_grown) (hb.mono (by simp <;> omega)))
  have HO := Lib.hid hown
  clear hb hc hf hown
  go_wp2_with fail
  refine (validGb_impl pe lo A n c xss _ (hR1.alloc _)).mono ?_
  rintro x w2 hsay
  replace hsay := says_false hsay HV.out
  obtain ⟨rfl, hb⟩ := hsay
  obtain ⟨hc, hf⟩ := bcells hb
  replace q0 := (hc _ _ (by simp <;> omega)).trans ((World.cell?_alloc_old _ _ _ (by simp <;> omega)).trans q0); replace q1 := (hc _ _ (by simp <;> omega)).trans ((World.cell?_alloc_old _ _ _ (by simp <;> omega)).trans q1); replace q2 := (hc _ _ (by simp <;> omega)).trans ((World.cell?_alloc_old _ _ _ (by simp <;> omega)).trans q2); replace p0 := (hc _ _ (by simp <;> omega)).trans ((World.cell?_alloc_old _ _ _ (by simp <;> omega)).trans p0); replace p1 := (hc _ _ (by simp <;> omega)).trans ((World.cell?_alloc_old _ _ _ (by simp <;> omega)).trans p1); replace p2 := (hc _ _ (by simp <;> omega)).trans ((World.cell?_alloc_old _ _ _ (by simp <;> omega)).trans p2)
  replace r0 := (hf _ _ (by simp <;> omega)).trans ((World.frozen?_alloc_old _ _ _ (by simp <;> omega)).trans r0); replace r1 := (hf _ _ (by simp <;> omega)).trans ((World.frozen?_alloc_old _ _ _ (by simp <;> omega)).trans r1); replace r2 := (hf _ _ (by simp <;> omega)).trans ((World.frozen?_alloc_old _ _ _ (by simp <;> omega)).trans r2)
  have o0 := (hc (w1.heap.size) 0 (by simp <;> omega)).trans (show _ = some (.int .i64 pe) from by first | (simp; done) | (simp [World.cell?_alloc_at]; done) | (rw [World.cell?_alloc_old _ _ _ (by simp <;> omega)]; first | (simp; done) | (simp [World.cell?_alloc_at]; done))); have o1 := (hc (w1.heap.size) 1 (by simp <;> omega)).trans (show _ = some (.slice A1 n c1) from by first | (simp; done) | (simp [World.cell?_alloc_at]; done) | (rw [World.cell?_alloc_old _ _ _ (by simp <;> omega)]; first | (simp; done) | (simp [World.cell?_alloc_at]; done))); have o2 := (hc (w1.heap.size) 2 (by simp <;> omega)).trans (show _ = some (.int .i64 lo) from by first | (simp; done) | (simp [World.cell?_alloc_at]; done) | (rw [World.cell?_alloc_old _ _ _ (by simp <;> omega)]; first | (simp; done) | (simp [World.cell?_alloc_at]; done)))
  have hb1 : Below w1.heap.size w1 w2 := Below.trans (by go_grown) (hb.mono (by simp <;> omega))
  have HO2 := Lib.hid (HO.out.below hb1 (Nat.le_refl _))
  have z1 := hb1.size
  replace B := stepW B hb1
  clear hb hb1 hc hf hR1 HO
  go_wp2
  obtain ⟨m0, m1, m2⟩ := all3 (.int .i64 pe) (.slice A1 n c1) (.int .i64 lo) p0 p1 p2
  refine bodyPost_ret (v := .agg #[.int .i64 pe, .slice A1 n c1, .int .i64 lo]) (by simp [results, Try.results13, go_sem, m0, m1, m2]) rfl ?_
  refine ⟨_, _, rfl, ?_, ?_⟩
  · exact (own_set3 (b := w.heap.size + 1) HO2.out (by simp) (.int .i64 pe) (.slice A1 n c1) (.int .i64 lo)).wider (by simp <;> omega) (by simp [World.setCell]; omega)
  · exact below_set3 (b := w.heap.size + 1) B (by omega) _ _ _
set_option maxRecDepth 100000 in
set_option maxHeartbeats 4000000 in
theorem keep_full_impl (pe lo : Int) (A : Option Addr) (n c : Nat) (xss : List (List Int)) (B' : Option Addr) (m d : Nat) (w : World) (hv : validG pe lo xss n) (hf : n = 6 ∨ (n < 6 ∧ 100 < m)) (hm : m ≤ 9223372036854775807) (hr : RdSS w A n c xss) (hn : n ≤ 2097152) (hs : AllShort xss) :
    Calls Try.prog 13 #[.agg #[.int .i64 pe, .slice A n c, .int .i64 lo], .slice B' m d] w (RetGb w pe (wrap64 (lo + 1)) n xss) := by
  have HR := Lib.hid hr
  have HS := Lib.hid hs
  have HV := Lib.hid hv
  clear hr hs hv
  have HF := Lib.hid hf
  clear hf
  go_enter Try.func13, Try.ntmps13
  go_wp2_with fail
  refine (copyGb_any pe lo A n c xss _ ((HR.out.alloc _).alloc _) hn HS.out).mono ?_
  rintro x w1 ⟨A1, c1, rfl, hown, hb⟩
  obtain ⟨hc, hf⟩ := bcells hb
  have q0 := (hc (w.heap.size) 0 (by simp <;> omega)).trans (show _ = some (.int .i64 pe) from by first | (simp; done) | (simp [World.cell?_alloc_at]; done) | (rw [World.cell?_alloc_old _ _ _ (by simp <;> omega)]; first | (simp; done) | (simp [World.cell?_alloc_at]; done))); have q1 := (hc (w.heap.size) 1 (by simp <;> omega)).trans (show _ = some (.slice A n c) from by first | (simp; done) | (simp [World.cell?_alloc_at]; done) | (rw [World.cell?_alloc_old _ _ _ (by simp <;> omega)]; first | (simp; done) | (simp [World.cell?_alloc_at]; done))); have q2 := (hc (w.heap.size) 2 (by simp <;> omega)).trans (show _ = some (.int .i64 lo) from by first | (simp; done) | (simp [World.cell?_alloc_at]; done) | (rw [World.cell?_alloc_old _ _ _ (by simp <;> omega)]; first | (simp; done) | (simp [World.cell?_alloc_at]; done)))
  have p0 := (hc (w.heap.size + 1) 0 (by simp <;> omega)).trans (show _ = some (.int .i64 0) from by first | (simp; done) | (simp [World.cell?_alloc_at]; done) | (rw [World.cell?_alloc_old _ _ _ (by simp <;> omega)]; first | (simp; done) | (simp [World.cell?_alloc_at]; done))); have p1 := (hc (w.heap.size + 1) 1 (by simp <;> omega)).trans (show _ = some (.slice none 0 0) from by first | (simp; done) | (simp [World.cell?_alloc_at]; done) | (rw [World.cell?_alloc_old _ _ _ (by simp <;> omega)]; first | (simp; done) | (simp [World.cell?_alloc_at]; done))); have p2 := (hc (w.heap.size + 1) 2 (by simp <;> omega)).trans (show _ = some (.int .i64 0) from by first | (simp; done) | (simp [World.cell?_alloc_at]; done) | (rw [World.cell?_alloc_old _ _ _ (by simp <;> omega)]; first | (simp; done) | (simp [World.cell?_alloc_at]; done)))
  have r0 := (hf (w.heap.size + 1) 0 (by simp <;> omega)).trans (show _ = false from by first | (simp; done) | (simp [World.frozen?_alloc_at]; done) | (rw [World.frozen?_alloc_old _ _ _ (by simp <;> omega)]; first | (simp [World.frozen?_alloc_at]; done) | (rw [World.frozen?_alloc_old _ _ _ (by simp <;> omega)]; simp [World.frozen?_alloc_at]; done))); have r1 := (hf (w.heap.size + 1) 1 (by simp <;> omega)).trans (show _ = false from by first | (simp; done) | (simp [World.frozen?_alloc_at]; done) | (rw [World.frozen?_alloc_old _ _ _ (by simp <;> omega)]; first | (simp [World.frozen?_alloc_at]; done) | (rw [World.frozen?_alloc_old _ _ _ (by simp <;> omega)]; simp [World.frozen?_alloc_at]; done))); have r2 := (hf (w.heap.size + 1) 2 (by simp <;> omega)).trans (show _ = false from by first | (simp; done) | (simp [World.frozen?_alloc_at]; done) | (rw [World.frozen?_alloc_old _ _ _ (by simp <;> omega)]; first | (simp [World.frozen?_alloc_at]; done) | (rw [World.frozen?_alloc_old _ _ _ (by simp <;> omega)]; simp [World.frozen?_alloc_at]; done)))
  have hR1 : RdSS w1 A n c xss := ((HR.out.alloc _).alloc _).below hb
  have z0 : w.heap.size + 1 < w1.heap.size := World.block_lt_of_cell? w1 _ p0
  have z00 : w.heap.size < w1.heap.size := World.block_lt_of_cell? w1 _ q0
  have B := (show Below w.heap.size w w1 from Below.trans (by go_grown) (hb.mono (by simp <;> omega)))
  have HO := Lib.hid hown
  clear hb hc hf hown
  go_wp2_with fail
  refine (validGb_impl pe lo A n c xss _ (hR1.alloc _)).mono ?_
  rintro x w2 hsay
  replace hsay := says_true hsay HV.out
  obtain ⟨rfl, hb⟩ := hsay
  obtain ⟨hc, hf⟩ := bcells hb
  replace q0 := (hc _ _ (by simp <;> omega)).trans ((World.cell?_alloc_old _ _ _ (by simp <;> omega)).trans q0); replace q1 := (hc _ _ (by simp <;> omega)).trans ((World.cell?_alloc_old _ _ _ (by simp <;> omega)).trans q1); replace q2 := (hc _ _ (by simp <;> omega)).trans ((World.cell?_alloc_old _ _ _ (by simp <;> omega)).trans q2); replace p0 := (hc _ _ (by simp <;> omega)).trans ((World.cell?_alloc_old _ _ _ (by simp <;> omega)).trans p0); replace p1 := (hc _ _ (by simp <;> omega)).trans ((World.cell?_alloc_old _ _ _ (by simp <;> omega)).trans p1); replace p2 := (hc _ _ (by simp <;> omega)).trans ((World.cell?_alloc_old _ _ _ (by simp <;> omega)).trans p2)
  replace r0 := (hf _ _ (by simp <;> omega)).trans ((World.frozen?_alloc_old _ _ _ (by simp <;> omega)).trans r0); replace r1 := (hf _ _ (by simp <;> omega)).trans ((World.frozen?_alloc_old _ _ _ (by simp <;> omega)).trans r1); replace r2 := (hf _ _ (by simp <;> omega)).trans ((World.frozen?_alloc_old _ _ _ (by simp <;> omega)).trans r2)
  have o0 := (hc (w1.heap.size) 0 (by simp <;> omega)).trans (show _ = some (.int .i64 pe) from by first | (simp; done) | (simp [World.cell?_alloc_at]; done) | (rw [World.cell?_alloc_old _ _ _ (by simp <;> omega)]; first | (simp; done) | (simp [World.cell?_alloc_at]; done))); have o1 := (hc (w1.heap.size) 1 (by simp <;> omega)).trans (show _ = some (.slice A1 n c1) from by first | (simp; done) | (simp [World.cell?_alloc_at]; done) | (rw [World.cell?_alloc_old _ _ _ (by simp <;> omega)]; first | (simp; done) | (simp [World.cell?_alloc_at]; done))); have o2 := (hc (w1.heap.size) 2 (by simp <;> omega)).trans (show _ = some (.int .i64 lo) from by first | (simp; done) | (simp [World.cell?_alloc_at]; done) | (rw [World.cell?_alloc_old _ _ _ (by simp <;> omega)]; first | (simp; done) | (simp [World.cell?_alloc_at]; done)))
  have hb1 : Below w1.heap.size w1 w2 := Below.trans (by go_grown) (hb.mono (by simp <;> omega))
  have HO2 := Lib.hid (HO.out.below hb1 (Nat.le_refl _))
  have z1 := hb1.size
  replace B := stepW B hb1
  have f0 := (hf (w1.heap.size) 0 (by simp <;> omega)).trans (show _ = false from by first | (simp; done) | (simp [World.frozen?_alloc_at]; done) | (rw [World.frozen?_alloc_old _ _ _ (by simp <;> omega)]; first | (simp [World.frozen?_alloc_at]; done) | (rw [World.frozen?_alloc_old _ _ _ (by simp <;> omega)]; simp [World.frozen?_alloc_at]; done))); have f1 := (hf (w1.heap.size) 1 (by simp <;> omega)).trans (show _ = false from by first | (simp; done) | (simp [World.frozen?_alloc_at]; done) | (rw [World.frozen?_alloc_old _ _ _ (by simp <;> omega)]; first | (simp [World.frozen?_alloc_at]; done) | (rw [World.frozen?_alloc_old _ _ _ (by simp <;> omega)]; simp [World.frozen?_alloc_at]; done))); have f2 := (hf (w1.heap.size) 2 (by simp <;> omega)).trans (show _ = false from by first | (simp; done) | (simp [World.frozen?_alloc_at]; done) | (rw [World.frozen?_alloc_old _ _ _ (by simp <;> omega)]; first | (simp [World.frozen?_alloc_at]; done) | (rw [World.frozen?_alloc_old _ _ _ (by simp <;> omega)]; simp [World.frozen?_alloc_at]; done)))
  have z2 : w.heap.size + 1 < w2.heap.size := World.block_lt_of_cell? w2 _ p0
  have z4 : w1.heap.size ≠ w.heap.size + 1 := by omega
  clear hb hb1 hc hf hR1 HO
  have hF := HF.out
  clear HF
  rcases hF with h6 | ⟨h6, h7⟩
  rotate_left
  have d0 : ((n : Int) == 6) = false := by simpa using (show (n : Int) ≠ 6 by omega)
  rotate_left
  have d1 : ((n : Int) == 6) = true := by simpa using (show (n : Int) = 6 by omega)
  have d2 : (6 : Int) ≤ (n : Int) := by omega
  clear h6
  all_goals
    go_wp2
    obtain ⟨m0, m1, m2⟩ := all3 (.int .i64 pe) (.slice A1 n c1) (.int .i64 (wrap64 (lo + 1))) (set_blk (d := w1.heap.size) (o := 2) (v := .int .i64 (wrap64 (lo + 1))) z4 p0) (set_blk (d := w1.heap.size) (o := 2) (v := .int .i64 (wrap64 (lo + 1))) z4 p1) (set_blk (d := w1.heap.size) (o := 2) (v := .int .i64 (wrap64 (lo + 1))) z4 p2)
    refine bodyPost_ret (v := .agg #[.int .i64 pe, .slice A1 n c1, .int .i64 (wrap64 (lo + 1))]) (by simp [results, Try.results13, go_sem, m0, m1, m2]) rfl ?_
    refine ⟨_, _, rfl, ?_, ?_⟩
    · exact (own_set3 (b := w.heap.size + 1) (own_setH (b := w1.heap.size) (o := 2) HO2.out (Nat.le_refl _) (.int .i64 (wrap64 (lo + 1)))) (by simp) (.int .i64 pe) (.slice A1 n c1) (.int .i64 (wrap64 (lo + 1)))).wider (by simp <;> omega) (by simp [World.setCell]; omega)
    · exact below_set3 (b := w.heap.size + 1) (B.setCell (p := ⟨w1.heap.size, 2, none⟩) (by simp; omega) _) (by omega) _ _ _
set_option maxRecDepth 100000 in
set_option maxHeartbeats 4000000 in
theorem keep_no_spec (pe lo : Int) (A : Option Addr) (n c : Nat) (xss : List (List Int)) (B' : Option Addr) (m d : Nat) (w : World) (hv : ¬ validG pe lo xss n) (hr : RdSS w A n c xss) (hn : n ≤ 2097152) (hs : AllShort xss) :
    Calls Try.prog 10 #[.agg #[.int .i64 pe, .slice A n c, .int .i64 lo], .slice B' m d] w (RetGb w pe lo n xss) := by
  have HR := Lib.hid hr
  have HS := Lib.hid hs
  have HV := Lib.hid hv
  clear hr hs hv
  go_enter Try.func10, Try.ntmps10
  go_wp2_with fail
  refine (copyGb_spec pe lo A n c xss _ ((HR.out.alloc _).alloc _) hn HS.out).mono ?_
  rintro x w1 ⟨A1, c1, rfl, hown, hb⟩
  obtain ⟨hc, hf⟩ := bcells hb
  have q0 := (hc (w.heap.size) 0 (by simp <;> omega)).trans (show _ = some (.int .i64 pe) from by first | (simp; done) | (simp [World.cell?_alloc_at]; done) | (rw [World.cell?_alloc_old _ _ _ (by simp <;> omega)]; first | (simp; done) | (simp [World.cell?_alloc_at]; done))); have q1 := (hc (w.heap.size) 1 (by simp <;> omega)).trans (show _ = some (.slice A n c) from by first | (simp; done) | (simp [World.cell?_alloc_at]; done) | (rw [World.cell?_alloc_old _ _ _ (by simp <;> omega)]; first | (simp; done) | (simp [World.cell?_alloc_at]; done))); have q2 := (hc (w.heap.size) 2 (by simp <;> omega)).trans (show _ = some (.int .i64 lo) from by first | (simp; done) | (simp [World.cell?_alloc_at]; done) | (rw [World.cell?_alloc_old _ _ _ (by simp <;> omega)]; first | (simp; done) | (simp [World.cell?_alloc_at]; done)))
  have p0 := (hc (w.heap.size + 1) 0 (by simp <;> omega)).trans (show _ = some (.int .i64 0) from by first | (simp; done) | (simp [World.cell?_alloc_at]; done) | (rw [World.cell?_alloc_old _ _ _ (by simp <;> omega)]; first | (simp; done) | (simp [World.cell?_alloc_at]; done))); have p1 := (hc (w.heap.size + 1) 1 (by simp <;> omega)).trans (show _ = some (.slice none 0 0) from by first | (simp; done) | (simp [World.cell?_alloc_at]; done) | (rw [World.cell?_alloc_old _ _ _ (by simp <;> omega)]; first | (simp; done) | (simp [World.cell?_alloc_at]; done))); have p2 := (hc (w.heap.size + 1) 2 (by simp <;> omega)).trans (show _ = some (.int .i64 0) from by first | (simp; done) | (simp [World.cell?_alloc_at]; done) | (rw [World.cell?_alloc_old _ _ _ (by simp <;> omega)]; first | (simp; done) | (simp [World.cell?_alloc_at]; done)))
  have r0 := (hf (w.heap.size + 1) 0 (by simp <;> omega)).trans (show _ = false from by first | (simp; done) | (simp [World.frozen?_alloc_at]; done) | (rw [World.frozen?_alloc_old _ _ _ (by simp <;> omega)]; first | (simp [World.frozen?_alloc_at]; done) | (rw [World.frozen?_alloc_old _ _ _ (by simp <;> omega)]; simp [World.frozen?_alloc_at]; done))); have r1 := (hf (w.heap.size + 1) 1 (by simp <;> omega)).trans (show _ = false from by first | (simp; done) | (simp [World.frozen?_alloc_at]; done) | (rw [World.frozen?_alloc_old _ _ _ (by simp <;> omega)]; first | (simp [World.frozen?_alloc_at]; done) | (rw [World.frozen?_alloc_old _ _ _ (by simp <;> omega)]; simp [World.frozen?_alloc_at]; done))); have r2 := (hf (w.heap.size + 1) 2 (by simp <;> omega)).trans (show _ = false from by first | (simp; done) | (simp [World.frozen?_alloc_at]; done) | (rw [World.frozen?_alloc_old _ _ _ (by simp <;> omega)]; first | (simp [World.frozen?_alloc_at]; done) | (rw [World.frozen?_alloc_old _ _ _ (by simp <;> omega)]; simp [World.frozen?_alloc_at]; done)))
  have hR1 : RdSS w1 A n c xss := ((HR.out.alloc _).alloc _).below hb
  have z0 : w.heap.size + 1 < w1.heap.size := World.block_lt_of_cell? w1 _ p0
  have z00 : w.heap.size < w1.heap.size := World.block_lt_of_cell? w1 _ q0
  have B := (show Below w.heap.size w w1 from Below.trans (by go_grown) (hb.mono (by simp <;> omega)))
  have HO := Lib.hid hown
  clear hb hc hf hown
  go_wp2_with fail
  refine (validGb_spec pe lo A n c xss _ (hR1.alloc _)).mono ?_
  rintro x w2 hsay
  replace hsay := says_false hsay HV.out
  obtain ⟨rfl, hb⟩ := hsay
  obtain ⟨hc, hf⟩ := bcells hb
  replace q0 := (hc _ _ (by simp <;> omega)).trans ((World.cell?_alloc_old _ _ _ (by simp <;> omega)).trans q0); replace q1 := (hc _ _ (by simp <;> omega)).trans ((World.cell?_alloc_old _ _ _ (by simp <;> omega)).trans q1); replace q2 := (hc _ _ (by simp <;> omega)).trans ((World.cell?_alloc_old _ _ _ (by simp <;> omega)).trans q2); replace p0 := (hc _ _ (by simp <;> omega)).trans ((World.cell?_alloc_old _ _ _ (by simp <;> omega)).trans p0); replace p1 := (hc _ _ (by simp <;> omega)).trans ((World.cell?_alloc_old _ _ _ (by simp <;> omega)).trans p1); replace p2 := (hc _ _ (by simp <;> omega)).trans ((World.cell?_alloc_old _ _ _ (by simp <;> omega)).trans p2)
  replace r0 := (hf _ _ (by simp <;> omega)).trans ((World.frozen?_alloc_old _ _ _ (by simp <;> omega)).trans r0); replace r1 := (hf _ _ (by simp <;> omega)).trans ((World.frozen?_alloc_old _ _ _ (by simp <;> omega)).trans r1); replace r2 := (hf _ _ (by simp <;> omega)).trans ((World.frozen?_alloc_old _ _ _ (by simp <;> omega)).trans r2)
  have o0 := (hc (w1.heap.size) 0 (by simp <;> omega)).trans (show _ = some (.int .i64 pe) from by first | (simp; done) | (simp [World.cell?_alloc_at]; done) | (rw [World.cell?_alloc_old _ _ _ (by simp <;> omega)]; first | (simp; done) | (simp [World.cell?_alloc_at]; done))); have o1 := (hc (w1.heap.size) 1 (by simp <;> omega)).trans (show _ = some (.slice A1 n c1) from by first | (simp; done) | (simp [World.cell?_alloc_at]; done) | (rw [World.cell?_alloc_old _ _ _ (by simp <;> omega)]; first | (simp; done) | (simp [World.cell?_alloc_at]; done))); have o2 := (hc (w1.heap.size) 2 (by simp <;> omega)).trans (show _ = some (.int .i64 lo) from by first | (simp; done) | (simp [World.cell?_alloc_at]; done) | (rw [World.cell?_alloc_old _ _ _ (by simp <;> omega)]; first | (simp; done) | (simp [World.cell?_alloc_at]; done)))
  have hb1 : Below w1.heap.size w1 w2 := Below.trans (by go_grown) (hb.mono (by simp <;> omega))
  have HO2 := Lib.hid (HO.out.below hb1 (Nat.le_refl _))
  have z1 := hb1.size
  replace B := stepW B hb1
  clear hb hb1 hc hf hR1 HO
  go_wp2
  obtain ⟨m0, m1, m2⟩ := all3 (.int .i64 pe) (.slice A1 n c1) (.int .i64 lo) p0 p1 p2
  refine bodyPost_ret (v := .agg #[.int .i64 pe, .slice A1 n c1, .int .i64 lo]) (by simp [results, Try.results10, go_sem, m0, m1, m2]) rfl ?_
  refine ⟨_, _, rfl, ?_, ?_⟩
  · exact (own_set3 (b := w.heap.size + 1) HO2.out (by simp) (.int .i64 pe) (.slice A1 n c1) (.int .i64 lo)).wider (by simp <;> omega) (by simp [World.setCell]; omega)
  · exact below_set3 (b := w.heap.size + 1) B (by omega) _ _ _
set_option maxRecDepth 100000 in
set_option maxHeartbeats 4000000 in
theorem keep_full_spec (pe lo : Int) (A : Option Addr) (n c : Nat) (xss : List (List Int)) (B' : Option Addr) (m d : Nat) (w : World) (hv : validG pe lo xss n) (hf : n = 6 ∨ (n < 6 ∧ 100 < m)) (hm : m ≤ 9223372036854775807) (hr : RdSS w A n c xss) (hn : n ≤ 2097152) (hs : AllShort xss) :
    Calls Try.prog 10 #[.agg #[.int .i64 pe, .slice A n c, .int .i64 lo], .slice B' m d] w (RetGb w pe (wrap64 (lo + 1)) n xss) := by
  have HR := Lib.hid hr
  have HS := Lib.hid hs
  have HV := Lib.hid hv
  clear hr hs hv
  have HF := Lib.hid hf
  clear hf
  go_enter Try.func10, Try.ntmps10
  go_wp2_with fail
  refine (copyGb_spec pe lo A n c xss _ ((HR.out.alloc _).alloc _) hn HS.out).mono ?_
  rintro x w1 ⟨A1, c1, rfl, hown, hb⟩
  obtain ⟨hc, hf⟩ := bcells hb
  have q0 := (hc (w.heap.size) 0 (by simp <;> omega)).trans (show _ = some (.int .i64 pe) from by first | (simp; done) | (simp [World.cell?_alloc_at]; done) | (rw [World.cell?_alloc_old _ _ _ (by simp <;> omega)]; first | (simp; done) | (simp [World.cell?_alloc_at]; done))); have q1 := (hc (w.heap.size) 1 (by simp <;> omega)).trans (show _ = some (.slice A n c) from by first | (simp; done) | (simp [World.cell?_alloc_at]; done) | (rw [World.cell?_alloc_old _ _ _ (by simp <;> omega)]; first | (simp; done) | (simp [World.cell?_alloc_at]; done))); have q2 := (hc (w.heap.size) 2 (by simp <;> omega)).trans (show _ = some (.int .i64 lo) from by first | (simp; done) | (simp [World.cell?_alloc_at]; done) | (rw [World.cell?_alloc_old _ _ _ (by simp <;> omega)]; first | (simp; done) | (simp [World.cell?_alloc_at]; done)))
  have p0 := (hc (w.heap.size + 1) 0 (by simp <;> omega)).trans (show _ = some (.int .i64 0) from by first | (simp; done) | (simp [World.cell?_alloc_at]; done) | (rw [World.cell?_alloc_old _ _ _ (by simp <;> omega)]; first | (simp; done) | (simp [World.cell?_alloc_at]; done))); have p1 := (hc (w.heap.size + 1) 1 (by simp <;> omega)).trans (show _ = some (.slice none 0 0) from by first | (simp; done) | (simp [World.cell?_alloc_at]; done) | (rw [World.cell?_alloc_old _ _ _ (by simp <;> omega)]; first | (simp; done) | (simp [World.cell?_alloc_at]; done))); have p2 := (hc (w.heap.size + 1) 2 (by simp <;> omega)).trans (show _ = some (.int .i64 0) from by first | (simp; done) | (simp [World.cell?_alloc_at]; done) | (rw [World.cell?_alloc_old _ _ _ (by simp <;> omega)]; first | (simp; done) | (simp [World.cell?_alloc_at]; done)))
  have r0 := (hf (w.heap.size + 1) 0 (by simp <;> omega)).trans (show _ = false from by first | (simp; done) | (simp [World.frozen?_alloc_at]; done) | (rw [World.frozen?_alloc_old _ _ _ (by simp <;> omega)]; first | (simp [World.frozen?_alloc_at]; done) | (rw [World.frozen?_alloc_old _ _ _ (by simp <;> omega)]; simp [World.frozen?_alloc_at]; done))); have r1 := (hf (w.heap.size + 1) 1 (by simp <;> omega)).trans (show _ = false from by first | (simp; done) | (simp [World.frozen?_alloc_at]; done) | (rw [World.frozen?_alloc_old _ _ _ (by simp <;> omega)]; first | (simp [World.frozen?_alloc_at]; done) | (rw [World.frozen?_alloc_old _ _ _ (by simp <;> omega)]; simp [World.frozen?_alloc_at]; done))); have r2 := (hf (w.heap.size + 1) 2 (by simp <;> omega)).trans (show _ = false from by first | (simp; done) | (simp [World.frozen?_alloc_at]; done) | (rw [World.frozen?_alloc_old _ _ _ (by simp <;> omega)]; first | (simp [World.frozen?_alloc_at]; done) | (rw [World.frozen?_alloc_old _ _ _ (by simp <;> omega)]; simp [World.frozen?_alloc_at]; done)))
  have hR1 : RdSS w1 A n c xss := ((HR.out.alloc _).alloc _).below hb
  have z0 : w.heap.size + 1 < w1.heap.size := World.block_lt_of_cell? w1 _ p0
  have z00 : w.heap.size < w1.heap.size := World.block_lt_of_cell? w1 _ q0
  have B := (show Below w.heap.size w w1 from Below.trans (by go_grown) (hb.mono (by simp <;> omega)))
  have HO := Lib.hid hown
  clear hb hc hf hown
  go_wp2_with fail
  refine (validGb_spec pe lo A n c xss _ (hR1.alloc _)).mono ?_
  rintro x w2 hsay
  replace hsay := says_true hsay HV.out
  obtain ⟨rfl, hb⟩ := hsay
  obtain ⟨hc, hf⟩ := bcells hb
  replace q0 := (hc _ _ (by simp <;> omega)).trans ((World.cell?_alloc_old _ _ _ (by simp <;> omega)).trans q0); replace q1 := (hc _ _ (by simp <;> omega)).trans ((World.cell?_alloc_old _ _ _ (by simp <;> omega)).trans q1); replace q2 := (hc _ _ (by simp <;> omega)).trans ((World.cell?_alloc_old _ _ _ (by simp <;> omega)).trans q2); replace p0 := (hc _ _ (by simp <;> omega)).trans ((World.cell?_alloc_old _ _ _ (by simp <;> omega)).trans p0); replace p1 := (hc _ _ (by simp <;> omega)).trans ((World.cell?_alloc_old _ _ _ (by simp <;> omega)).trans p1); replace p2 := (hc _ _ (by simp <;> omega)).trans ((World.cell?_alloc_old _ _ _ (by simp <;> omega)).trans p2)
  replace r0 := (hf _ _ (by simp <;> omega)).trans ((World.frozen?_alloc_old _ _ _ (by simp <;> omega)).trans r0); replace r1 := (hf _ _ (by simp <;> omega)).trans ((World.frozen?_alloc_old _ _ _ (by simp <;> omega)).trans r1); replace r2 := (hf _ _ (by simp <;> omega)).trans ((World.frozen?_alloc_old _ _ _ (by simp <;> omega)).trans r2)
  have o0 := (hc (w1.heap.size) 0 (by simp <;> omega)).trans (show _ = some (.int .i64 pe) from by first | (simp; done) | (simp [World.cell?_alloc_at]; done) | (rw [World.cell?_alloc_old _ _ _ (by simp <;> omega)]; first | (simp; done) | (simp [World.cell?_alloc_at]; done))); have o1 := (hc (w1.heap.size) 1 (by simp <;> omega)).trans (show _ = some (.slice A1 n c1) from by first | (simp; done) | (simp [World.cell?_alloc_at]; done) | (rw [World.cell?_alloc_old _ _ _ (by simp <;> omega)]; first | (simp; done) | (simp [World.cell?_alloc_at]; done))); have o2 := (hc (w1.heap.size) 2 (by simp <;> omega)).trans (show _ = some (.int .i64 lo) from by first | (simp; done) | (simp [World.cell?_alloc_at]; done) | (rw [World.cell?_alloc_old _ _ _ (by simp <;> omega)]; first | (simp; done) | (simp [World.cell?_alloc_at]; done)))
  have hb1 : Below w1.heap.size w1 w2 := Below.trans (by go_grown) (hb.mono (by simp <;> omega))
  have HO2 := Lib.hid (HO.out.below hb1 (Nat.le_refl _))
  have z1 := hb1.size
  replace B := stepW B hb1
  have f0 := (hf (w1.heap.size) 0 (by simp <;> omega)).trans (show _ = false from by first | (simp; done) | (simp [World.frozen?_alloc_at]; done) | (rw [World.frozen?_alloc_old _ _ _ (by simp <;> omega)]; first | (simp [World.frozen?_alloc_at]; done) | (rw [World.frozen?_alloc_old _ _ _ (by simp <;> omega)]; simp [World.frozen?_alloc_at]; done))); have f1 := (hf (w1.heap.size) 1 (by simp <;> omega)).trans (show _ = false from by first | (simp; done) | (simp [World.frozen?_alloc_at]; done) | (rw [World.frozen?_alloc_old _ _ _ (by simp <;> omega)]; first | (simp [World.frozen?_alloc_at]; done) | (rw [World.frozen?_alloc_old _ _ _ (by simp <;> omega)]; simp [World.frozen?_alloc_at]; done))); have f2 := (hf (w1.heap.size) 2 (by simp <;> omega)).trans (show _ = false from by first | (simp; done) | (simp [World.frozen?_alloc_at]; done) | (rw [World.frozen?_alloc_old _ _ _ (by simp <;> omega)]; first | (simp [World.frozen?_alloc_at]; done) | (rw [World.frozen?_alloc_old _ _ _ (by simp <;> omega)]; simp [World.frozen?_alloc_at]; done)))
  have z2 : w.heap.size + 1 < w2.heap.size := World.block_lt_of_cell? w2 _ p0
  have z4 : w1.heap.size ≠ w.heap.size + 1 := by omega
  clear hb hb1 hc hf hR1 HO
  have hF := HF.out
  clear HF
  rcases hF with h6 | ⟨h6, h7⟩
  rotate_left
  have d0 : ((n : Int) == 6) = false := by simpa using (show (n : Int) ≠ 6 by omega)
  rotate_left
  have d1 : ((n : Int) == 6) = true := by simpa using (show (n : Int) = 6 by omega)
  have d2 : (6 : Int) ≤ (n : Int) := by omega
  clear h6
  all_goals
    go_wp2
    obtain ⟨m0, m1, m2⟩ := all3 (.int .i64 pe) (.slice A1 n c1) (.int .i64 (wrap64 (lo + 1))) (set_blk (d := w1.heap.size) (o := 2) (v := .int .i64 (wrap64 (lo + 1))) z4 p0) (set_blk (d := w1.heap.size) (o := 2) (v := .int .i64 (wrap64 (lo + 1))) z4 p1) (set_blk (d := w1.heap.size) (o := 2) (v := .int .i64 (wrap64 (lo + 1))) z4 p2)
    refine bodyPost_ret (v := .agg #[.int .i64 pe, .slice A1 n c1, .int .i64 (wrap64 (lo + 1))]) (by simp [results, Try.results10, go_sem, m0, m1, m2]) rfl ?_
    refine ⟨_, _, rfl, ?_, ?_⟩
    · exact (own_set3 (b := w.heap.size + 1) (own_setH (b := w1.heap.size) (o := 2) HO2.out (Nat.le_refl _) (.int .i64 (wrap64 (lo + 1)))) (by simp) (.int .i64 pe) (.slice A1 n c1) (.int .i64 (wrap64 (lo + 1)))).wider (by simp <;> omega) (by simp [World.setCell]; omega)
    · exact below_set3 (b := w.heap.size + 1) (B.setCell (p := ⟨w1.heap.size, 2, none⟩) (by simp; omega) _) (by omega) _ _ _
end Go.Proofs.Ythdieeaegplnmaa.Gb
