/- ReleaseGroup of the reference. -/
import Derived.Test.YtfjheaobojebhaaRel
import Derived.Test.YtfjheaobojebhaaReg
namespace Go.Proofs.Ytfjheaobojebhaa.Gb
open Go.RowKit
open Go.Proofs.Ytfjheaobojebhaa.Num Go.Proofs.Ytfjheaobojebhaa.Mem Go.Proofs.Ytfjheaobojebhaa.Hsh Go.Proofs.Ytfjheaobojebhaa.Sls Go.Proofs.Ytfjheaobojebhaa.Own Go.Proofs.Ytfjheaobojebhaa.SS Go.Proofs.Ytfjheaobojebhaa.Bcn
set_option linter.unusedSimpArgs false
set_option linter.unusedVariables false
set_option maxHeartbeats 4000000 in
theorem rel_spec (pe lo s : Int) (A : Option Addr) (n c : Nat) (xss : List (List Int)) (gn : Nat) (gs : List (List Int)) (ln : Nat) (ls : List (List Int)) (w : World) (hgl : Goes pe lo s xss n gn gs ln ls) (hr : RdSS w A n c xss) (hn : n ≤ 2097152) (hs : AllShort xss) (hsl : -9223372036854775808 ≤ s ∧ s ≤ 9223372036854775807) :
    Calls Try.prog 36 #[.agg #[.int .i64 pe, .slice A n c, .int .i64 lo], .int .i64 s] w (RelS w pe lo gn gs ln ls) := by
  have HR := Lib.hid hr
  have HS := Lib.hid hs
  clear hr hs
  have HD := Lib.hid (fun w => dtim_spec s pe w hsl)
  rcases hgl with ⟨⟨hv, hd⟩, rfl, rfl, rfl, rfl⟩ | ⟨hne, rfl, rfl, rfl, rfl⟩
  · have HV := Lib.hid hv
    rw [hd] at HD
    clear hv hd
    go_enter Try.func36, Try.ntmps36
    go_wp2_with fail
    refine (copyGb_spec pe lo A n c xss _ ((HR.out.alloc _).alloc _) hn HS.out).mono ?_
    rintro x w1 ⟨A1, c1, rfl, hown, hb⟩
    obtain ⟨hc, hf⟩ := bcells hb
    have q0 := (hc (w.heap.size) 0 (by simp <;> omega)).trans (show _ = some (.int .i64 pe) from by first | (simp; done) | (simp [World.cell?_alloc_at]; done) | (rw [World.cell?_alloc_old _ _ _ (by simp <;> omega)]; first | (simp; done) | (simp [World.cell?_alloc_at]; done))); have q1 := (hc (w.heap.size) 1 (by simp <;> omega)).trans (show _ = some (.slice A n c) from by first | (simp; done) | (simp [World.cell?_alloc_at]; done) | (rw [World.cell?_alloc_old _ _ _ (by simp <;> omega)]; first | (simp; done) | (simp [World.cell?_alloc_at]; done))); have q2 := (hc (w.heap.size) 2 (by simp <;> omega)).trans (show _ = some (.int .i64 lo) from by first | (simp; done) | (simp [World.cell?_alloc_at]; done) | (rw [World.cell?_alloc_old _ _ _ (by simp <;> omega)]; first | (simp; done) | (simp [World.cell?_alloc_at]; done)))
    have p0 := (hc (w.heap.size + 1) 0 (by simp <;> omega)).trans (show _ = some (.int .i64 0) from by first | (simp; done) | (simp [World.cell?_alloc_at]; done) | (rw [World.cell?_alloc_old _ _ _ (by simp <;> omega)]; first | (simp; done) | (simp [World.cell?_alloc_at]; done))); have p1 := (hc (w.heap.size + 1) 1 (by simp <;> omega)).trans (show _ = some (.slice none 0 0) from by first | (simp; done) | (simp [World.cell?_alloc_at]; done) | (rw [World.cell?_alloc_old _ _ _ (by simp <;> omega)]; first | (simp; done) | (simp [World.cell?_alloc_at]; done))); have p2 := (hc (w.heap.size + 1) 2 (by simp <;> omega)).trans (show _ = some (.int .i64 0) from by first | (simp; done) | (simp [World.cell?_alloc_at]; done) | (rw [World.cell?_alloc_old _ _ _ (by simp <;> omega)]; first | (simp; done) | (simp [World.cell?_alloc_at]; done)))
    have r0 := (hf (w.heap.size + 1) 0 (by simp <;> omega)).trans (show _ = false from by first | (simp; done) | (simp [World.frozen?_alloc_at]; done) | (rw [World.frozen?_alloc_old _ _ _ (by simp <;> omega)]; first | (simp [World.frozen?_alloc_at]; done) | (rw [World.frozen?_alloc_old _ _ _ (by simp <;> omega)]; simp [World.frozen?_alloc_at]; done))); have r1 := (hf (w.heap.size + 1) 1 (by simp <;> omega)).trans (show _ = false from by first | (simp; done) | (simp [World.frozen?_alloc_at]; done) | (rw [World.frozen?_alloc_old _ _ _ (by simp <;> omega)]; first | (simp [World.frozen?_alloc_at]; done) | (rw [World.frozen?_alloc_old _ _ _ (by simp <;> omega)]; simp [World.frozen?_alloc_at]; done))); have r2 := (hf (w.heap.size + 1) 2 (by simp <;> omega)).trans (show _ = false from by first | (simp; done) | (simp [World.frozen?_alloc_at]; done) | (rw [World.frozen?_alloc_old _ _ _ (by simp <;> omega)]; first | (simp [World.frozen?_alloc_at]; done) | (rw [World.frozen?_alloc_old _ _ _ (by simp <;> omega)]; simp [World.frozen?_alloc_at]; done)))
    have hR1 : RdSS w1 A n c xss := ((HR.out.alloc _).alloc _).below hb
    have z0 : w.heap.size + 1 < w1.heap.size := World.block_lt_of_cell? w1 _ p0
    have z00 : w.heap.size < w1.heap.size := World.block_lt_of_cell? w1 _ q0
    have B := (show Below w.heap.size w w1 from Below.trans (by go_grown) (hb.mono (by simp <;> omega)))
    have HO := Lib.hid hown
    clear hb hc hf hown
    go_wp2_with fail
    refine (validGb_spec pe lo A n c xss _ (hR1.alloc _)).mono ?_
    rintro x w2 hsay
    obtain ⟨rfl, hb⟩ := says_true hsay HV.out
    clear hsay
    obtain ⟨hc, hf⟩ := bcells hb
    replace q0 := (hc _ _ (by simp <;> omega)).trans ((World.cell?_alloc_old _ _ _ (by simp <;> omega)).trans q0); replace q1 := (hc _ _ (by simp <;> omega)).trans ((World.cell?_alloc_old _ _ _ (by simp <;> omega)).trans q1); replace q2 := (hc _ _ (by simp <;> omega)).trans ((World.cell?_alloc_old _ _ _ (by simp <;> omega)).trans q2); replace p0 := (hc _ _ (by simp <;> omega)).trans ((World.cell?_alloc_old _ _ _ (by simp <;> omega)).trans p0); replace p1 := (hc _ _ (by simp <;> omega)).trans ((World.cell?_alloc_old _ _ _ (by simp <;> omega)).trans p1); replace p2 := (hc _ _ (by simp <;> omega)).trans ((World.cell?_alloc_old _ _ _ (by simp <;> omega)).trans p2)
    replace r0 := (hf _ _ (by simp <;> omega)).trans ((World.frozen?_alloc_old _ _ _ (by simp <;> omega)).trans r0); replace r1 := (hf _ _ (by simp <;> omega)).trans ((World.frozen?_alloc_old _ _ _ (by simp <;> omega)).trans r1); replace r2 := (hf _ _ (by simp <;> omega)).trans ((World.frozen?_alloc_old _ _ _ (by simp <;> omega)).trans r2)
    have o0 := (hc (w1.heap.size) 0 (by simp <;> omega)).trans (show _ = some (.int .i64 pe) from by first | (simp; done) | (simp [World.cell?_alloc_at]; done) | (rw [World.cell?_alloc_old _ _ _ (by simp <;> omega)]; first | (simp; done) | (simp [World.cell?_alloc_at]; done))); have o1 := (hc (w1.heap.size) 1 (by simp <;> omega)).trans (show _ = some (.slice A1 n c1) from by first | (simp; done) | (simp [World.cell?_alloc_at]; done) | (rw [World.cell?_alloc_old _ _ _ (by simp <;> omega)]; first | (simp; done) | (simp [World.cell?_alloc_at]; done))); have o2 := (hc (w1.heap.size) 2 (by simp <;> omega)).trans (show _ = some (.int .i64 lo) from by first | (simp; done) | (simp [World.cell?_alloc_at]; done) | (rw [World.cell?_alloc_old _ _ _ (by simp <;> omega)]; first | (simp; done) | (simp [World.cell?_alloc_at]; done)))
    have f0 := (hf (w1.heap.size) 0 (by simp <;> omega)).trans (show _ = false from by first | (simp; done) | (simp [World.frozen?_alloc_at]; done) | (rw [World.frozen?_alloc_old _ _ _ (by simp <;> omega)]; first | (simp [World.frozen?_alloc_at]; done) | (rw [World.frozen?_alloc_old _ _ _ (by simp <;> omega)]; simp [World.frozen?_alloc_at]; done))); have f1 := (hf (w1.heap.size) 1 (by simp <;> omega)).trans (show _ = false from by first | (simp; done) | (simp [World.frozen?_alloc_at]; done) | (rw [World.frozen?_alloc_old _ _ _ (by simp <;> omega)]; first | (simp [World.frozen?_alloc_at]; done) | (rw [World.frozen?_alloc_old _ _ _ (by simp <;> omega)]; simp [World.frozen?_alloc_at]; done))); have f2 := (hf (w1.heap.size) 2 (by simp <;> omega)).trans (show _ = false from by first | (simp; done) | (simp [World.frozen?_alloc_at]; done) | (rw [World.frozen?_alloc_old _ _ _ (by simp <;> omega)]; first | (simp [World.frozen?_alloc_at]; done) | (rw [World.frozen?_alloc_old _ _ _ (by simp <;> omega)]; simp [World.frozen?_alloc_at]; done)))
    have z1 : w1.heap.size < w2.heap.size := World.block_lt_of_cell? w2 _ o0
    have z2 : w.heap.size + 1 < w2.heap.size := World.block_lt_of_cell? w2 _ p0
    have z3 : w.heap.size < w2.heap.size := World.block_lt_of_cell? w2 _ q0
    have hb1 : Below w1.heap.size w1 w2 := Below.trans (by go_grown) (hb.mono (by simp <;> omega))
    have HO2 := Lib.hid (HO.out.below hb1 (Nat.le_refl _))
    replace B := stepW B hb1
    clear hb hb1 hc hf hR1 HO
    go_wp2_with (first | (go_at_call 44; refine (HD.out _).mono ?_; rintro x w' ⟨rfl, rfl⟩))
    have z4 : w1.heap.size ≠ w.heap.size + 1 := by omega
    have z5 : w1.heap.size ≠ w.heap.size := by omega
    obtain ⟨w3, hW⟩ : ∃ W, W = (w2.setCell ⟨w1.heap.size, 1, none⟩ (.slice (some ⟨w2.heap.size, 0, none⟩) 0 0)).alloc (.cells #[] 22) := ⟨_, rfl⟩
    have hl : ∀ {b o : Nat} {v : Value}, (w2.setCell ⟨w1.heap.size, 1, none⟩ (.slice (some ⟨w2.heap.size, 0, none⟩) 0 0)).cell? ⟨b, o, none⟩ = some v → w3.cell? ⟨b, o, none⟩ = some v := fun h => by rw [hW]; exact (World.cell?_alloc_old _ _ _ (Nat.ne_of_lt (World.block_lt_of_cell? _ _ h))).trans h
    have hfr : ∀ o, w2.frozen? ⟨w.heap.size + 1, o, none⟩ = false → w3.frozen? ⟨w.heap.size + 1, o, none⟩ = false := fun o h => by rw [hW, World.frozen?_alloc_old _ _ _ (by simp [World.setCell]; omega)]; simpa using h
    replace q0 := hl (set_blk z5 q0)
    replace q1 := hl (set_blk z5 q1)
    replace q2 := hl (set_blk z5 q2)
    replace p0 := hl (set_blk z4 p0)
    replace p1 := hl (set_blk z4 p1)
    replace p2 := hl (set_blk z4 p2)
    replace r0 := hfr _ r0
    replace r1 := hfr _ r1
    replace r2 := hfr _ r2
    replace o1 := hl (set_same (v := .slice (some ⟨w2.heap.size, 0, none⟩) 0 0) o1)
    replace o0 := hl (set_next (o := 1) (v := .slice (some ⟨w2.heap.size, 0, none⟩) 0 0) (by omega) o0)
    replace o2 := hl (set_next (o := 1) (v := .slice (some ⟨w2.heap.size, 0, none⟩) 0 0) (by omega) o2)
    have hb3 : Below w.heap.size w w3 := by rw [hW]; exact (B.setCell (p := ⟨w1.heap.size, 1, none⟩) (by simp; omega) _).alloc (by simp [World.setCell]; omega) _
    have HB3 := Lib.hid hb3
    have HR3 := Lib.hid (HR.out.below hb3)
    have HW := Lib.hid hW
    clear B hl hfr hb3 f0 f1 f2 HO2 hW
    rw [← HW.out]
    clear HW
    refine wp_region_held_drew (S := (fun w' => w'.cell? ⟨w.heap.size, 1, none⟩ = some (.slice A n c) ∧ w'.cell? ⟨w1.heap.size, 0, none⟩ = some (.int .i64 pe) ∧ w'.cell? ⟨w1.heap.size, 1, none⟩ = some (.slice (some ⟨w2.heap.size, 0, none⟩) 0 0) ∧ w'.cell? ⟨w1.heap.size, 2, none⟩ = some (.int .i64 lo))) (by kernel_rfl) ?_ (fun hHeld => ?_)
    · (try dsimp only); first | exact ⟨q1, o0, o1, o2⟩ | exact ⟨set_blk (by omega) (set_blk (by omega) (set_blk (by omega) q1)), set_blk (by omega) (set_blk (by omega) (set_blk (by omega) o0)), set_blk (by omega) (set_blk (by omega) (set_blk (by omega) o1)), set_blk (by omega) (set_blk (by omega) (set_blk (by omega) o2))⟩
    first | (refine wpAnyH_take (i := 0) (v := ?_) (Reg.get rfl) (by kernel_rfl) (by kernel_rfl) (by kernel_rfl) (fun _ _ _ h => h) (Or.inl ⟨by rfl, ?_⟩) hHeld ?_; rotate_left 1; (focus (intro w hSw; (try dsimp only at hSw); go_simp <;> with_reducible rfl))) | (refine wpAnyH_take (i := 0) (v := undef) (Reg.get rfl) (by kernel_rfl) (by kernel_rfl) (by kernel_rfl) (fun _ _ _ h => h) (Or.inr ⟨by rfl, rfl⟩) hHeld ?_)
    try simp only [Act.put, List.setIfInBounds_toArray, List.set_cons_zero, List.set_cons_succ]
    first | (refine wpAnyH_take (i := 1) (v := ?_) (Reg.get rfl) (by kernel_rfl) (by kernel_rfl) (by kernel_rfl) (fun _ _ _ h => h) (Or.inl ⟨by rfl, ?_⟩) hHeld ?_; rotate_left 1; (focus (intro w hSw; (try dsimp only at hSw); go_simp <;> with_reducible rfl))) | (refine wpAnyH_take (i := 1) (v := undef) (Reg.get rfl) (by kernel_rfl) (by kernel_rfl) (by kernel_rfl) (fun _ _ _ h => h) (Or.inr ⟨by rfl, rfl⟩) hHeld ?_)
    try simp only [Act.put, List.setIfInBounds_toArray, List.set_cons_zero, List.set_cons_succ]
    first | (refine wpAnyH_take (i := 2) (v := ?_) (Reg.get rfl) (by kernel_rfl) (by kernel_rfl) (by kernel_rfl) (fun _ _ _ h => h) (Or.inl ⟨by rfl, ?_⟩) hHeld ?_; rotate_left 1; (focus (intro w hSw; (try dsimp only at hSw); go_simp <;> with_reducible rfl))) | (refine wpAnyH_take (i := 2) (v := undef) (Reg.get rfl) (by kernel_rfl) (by kernel_rfl) (by kernel_rfl) (fun _ _ _ h => h) (Or.inr ⟨by rfl, rfl⟩) hHeld ?_)
    try simp only [Act.put, List.setIfInBounds_toArray, List.set_cons_zero, List.set_cons_succ]
    first | ((refine wpAnyH_take (i := 3) (v := undef) (Reg.get rfl) (by kernel_rfl) (by kernel_rfl) (by kernel_rfl) (fun _ _ _ h => h) (Or.inr ⟨by rfl, rfl⟩) hHeld ?_)) | (refine wpAnyH_ready (rs := [3]) (by kernel_rfl) (by simp) ?_; refine AllReadyH.cons (Reg.get rfl) (fun K hK => ?_) AllReadyH.nil; clear hHeld; go_simp; ((go_at_call 83; refine (frames_spec A n c xss _ (HR3.out.drewN 1) hn HS.out).mono ?_; rintro x w4 ⟨A4, c4, rfl, hown, hb⟩; obtain ⟨hc, hf⟩ := bcells hb; have y0 := World.block_lt_of_cell? _ _ p0; replace r0 := (hf _ _ y0).trans r0; replace r1 := (hf _ _ y0).trans r1; replace r2 := (hf _ _ y0).trans r2; replace q1 := Mem.lift hb q1; replace o0 := Mem.lift hb o0; replace o1 := Mem.lift hb o1; replace o2 := Mem.lift hb o2; replace p0 := Mem.lift hb p0; replace p1 := Mem.lift hb p1; replace p2 := Mem.lift hb p2; have y1 : w.heap.size + 1 < w3.heap.size := y0; have HM := Lib.hid (all3 (.int .i64 pe) (.slice (some ⟨w2.heap.size, 0, none⟩) 0 0) (.int .i64 lo) p0 p1 p2); have HO := Lib.hid (own_set3 (b := w.heap.size + 1) hown y1 (.int .i64 pe) (.slice (some ⟨w2.heap.size, 0, none⟩) 0 0) (.int .i64 lo)); have HB := Lib.hid (below_set3 (b := w.heap.size + 1) (show Below w.heap.size w w4 from Below.trans (Sls.below_drewN HB3.out 1) (hb.mono (by simp; omega))) (by omega) (.int .i64 pe) (.slice (some ⟨w2.heap.size, 0, none⟩) 0 0) (.int .i64 lo)); clear hown hb hc hf y0)); refine hK.out _ _ ?_ (fun hHeld => ?_); ((try dsimp only); first | exact ⟨q1, o0, o1, o2⟩ | exact ⟨set_blk (by omega) (set_blk (by omega) (set_blk (by omega) q1)), set_blk (by omega) (set_blk (by omega) (set_blk (by omega) o0)), set_blk (by omega) (set_blk (by omega) (set_blk (by omega) o1)), set_blk (by omega) (set_blk (by omega) (set_blk (by omega) o2))⟩); clear hK K)
    try simp only [Act.put, List.setIfInBounds_toArray, List.set_cons_zero, List.set_cons_succ]
    first | ((refine wpAnyH_take (i := 4) (v := undef) (Reg.get rfl) (by kernel_rfl) (by kernel_rfl) (by kernel_rfl) (fun _ _ _ h => h) (Or.inr ⟨by rfl, rfl⟩) hHeld ?_)) | (refine wpAnyH_ready (rs := [4]) (by kernel_rfl) (by simp) ?_; refine AllReadyH.cons (Reg.get rfl) (fun K hK => ?_) AllReadyH.nil; clear hHeld; go_simp; (skip); refine hK.out _ _ ?_ (fun hHeld => ?_); ((try dsimp only); first | exact ⟨q1, o0, o1, o2⟩ | exact ⟨set_blk (by omega) (set_blk (by omega) (set_blk (by omega) q1)), set_blk (by omega) (set_blk (by omega) (set_blk (by omega) o0)), set_blk (by omega) (set_blk (by omega) (set_blk (by omega) o1)), set_blk (by omega) (set_blk (by omega) (set_blk (by omega) o2))⟩); clear hK K)
    try simp only [Act.put, List.setIfInBounds_toArray, List.set_cons_zero, List.set_cons_succ]
    first | (refine wpAnyH_take (i := 5) (v := ?_) (Reg.get rfl) (by kernel_rfl) (by kernel_rfl) (by kernel_rfl) (fun _ _ _ h => h) (Or.inl ⟨by rfl, ?_⟩) hHeld ?_; rotate_left 1; (focus (intro w hSw; (try dsimp only at hSw); go_simp <;> with_reducible rfl))) | (refine wpAnyH_take (i := 5) (v := undef) (Reg.get rfl) (by kernel_rfl) (by kernel_rfl) (by kernel_rfl) (fun _ _ _ h => h) (Or.inr ⟨by rfl, rfl⟩) hHeld ?_)
    try simp only [Act.put, List.setIfInBounds_toArray, List.set_cons_zero, List.set_cons_succ]
    refine wpAnyH_done (by kernel_rfl) ?_ _
    go_wp2
    obtain ⟨m0, m1, m2⟩ := HM.out
    refine bodyPost_ret (v := .tuple #[.agg #[.int .i64 pe, .slice (some ⟨w2.heap.size, 0, none⟩) 0 0, .int .i64 lo], .slice A4 n c4]) (by simp [results, Try.results36, go_sem, m0, m1, m2]) rfl ?_
    exact ⟨_, _, _, _, rfl, rdNil _ _, HO.out.rd, HB.out⟩
  · have hE : (¬ validG pe lo xss n) ∨ (validG pe lo xss n ∧ (dcount s pe != 0) = true) := by
      by_cases h : validG pe lo xss n
      · exact .inr ⟨h, by simpa using fun e => hne ⟨h, e⟩⟩
      · exact .inl h
    generalize dcount s pe = dc at *
    rcases hE with hV | ⟨hV, hdc⟩
    all_goals
      have HV := Lib.hid hV
      clear hV hne
      go_enter Try.func36, Try.ntmps36
      go_wp2_with fail
      refine (copyGb_spec pe lo A n c xss _ ((HR.out.alloc _).alloc _) hn HS.out).mono ?_
      rintro x w1 ⟨A1, c1, rfl, hown, hb⟩
      obtain ⟨hc, hf⟩ := bcells hb
      have q0 := (hc (w.heap.size) 0 (by simp <;> omega)).trans (show _ = some (.int .i64 pe) from by first | (simp; done) | (simp [World.cell?_alloc_at]; done) | (rw [World.cell?_alloc_old _ _ _ (by simp <;> omega)]; first | (simp; done) | (simp [World.cell?_alloc_at]; done))); have q1 := (hc (w.heap.size) 1 (by simp <;> omega)).trans (show _ = some (.slice A n c) from by first | (simp; done) | (simp [World.cell?_alloc_at]; done) | (rw [World.cell?_alloc_old _ _ _ (by simp <;> omega)]; first | (simp; done) | (simp [World.cell?_alloc_at]; done))); have q2 := (hc (w.heap.size) 2 (by simp <;> omega)).trans (show _ = some (.int .i64 lo) from by first | (simp; done) | (simp [World.cell?_alloc_at]; done) | (rw [World.cell?_alloc_old _ _ _ (by simp <;> omega)]; first | (simp; done) | (simp [World.cell?_alloc_at]; done)))
      have p0 := (hc (w.heap.size + 1) 0 (by simp <;> omega)).trans (show _ = some (.int .i64 0) from by first | (simp; done) | (simp [World.cell?_alloc_at]; done) | (rw [World.cell?_alloc_old _ _ _ (by simp <;> omega)]; first | (simp; done) | (simp [World.cell?_alloc_at]; done))); have p1 := (hc (w.heap.size + 1) 1 (by simp <;> omega)).trans (show _ = some (.slice none 0 0) from by first | (simp; done) | (simp [World.cell?_alloc_at]; done) | (rw [World.cell?_alloc_old _ _ _ (by simp <;> omega)]; first | (simp; done) | (simp [World.cell?_alloc_at]; done))); have p2 := (hc (w.heap.size + 1) 2 (by simp <;> omega)).trans (show _ = some (.int .i64 0) from by first | (simp; done) | (simp [World.cell?_alloc_at]; done) | (rw [World.cell?_alloc_old _ _ _ (by simp <;> omega)]; first | (simp; done) | (simp [World.cell?_alloc_at]; done)))
      have r0 := (hf (w.heap.size + 1) 0 (by simp <;> omega)).trans (show _ = false from by first | (simp; done) | (simp [World.frozen?_alloc_at]; done) | (rw [World.frozen?_alloc_old _ _ _ (by simp <;> omega)]; first | (simp [World.frozen?_alloc_at]; done) | (rw [World.frozen?_alloc_old _ _ _ (by simp <;> omega)]; simp [World.frozen?_alloc_at]; done))); have r1 := (hf (w.heap.size + 1) 1 (by simp <;> omega)).trans (show _ = false from by first | (simp; done) | (simp [World.frozen?_alloc_at]; done) | (rw [World.frozen?_alloc_old _ _ _ (by simp <;> omega)]; first | (simp [World.frozen?_alloc_at]; done) | (rw [World.frozen?_alloc_old _ _ _ (by simp <;> omega)]; simp [World.frozen?_alloc_at]; done))); have r2 := (hf (w.heap.size + 1) 2 (by simp <;> omega)).trans (show _ = false from by first | (simp; done) | (simp [World.frozen?_alloc_at]; done) | (rw [World.frozen?_alloc_old _ _ _ (by simp <;> omega)]; first | (simp [World.frozen?_alloc_at]; done) | (rw [World.frozen?_alloc_old _ _ _ (by simp <;> omega)]; simp [World.frozen?_alloc_at]; done)))
      have hR1 : RdSS w1 A n c xss := ((HR.out.alloc _).alloc _).below hb
      have z0 : w.heap.size + 1 < w1.heap.size := World.block_lt_of_cell? w1 _ p0
      have z00 : w.heap.size < w1.heap.size := World.block_lt_of_cell? w1 _ q0
      have B := (show Below w.heap.size w w1 from Below.trans (by go_grown) (hb.mono (by simp <;> omega)))
      have HO := Lib.hid hown
      clear hb hc hf hown
      go_wp2_with fail
      refine (validGb_spec pe lo A n c xss _ (hR1.alloc _)).mono ?_
      rintro x w2 hsay
      first
        | (replace hsay := says_true hsay HV.out)
        | (replace hsay := says_false hsay HV.out)
      obtain ⟨rfl, hb⟩ := hsay
      obtain ⟨hc, hf⟩ := bcells hb
      replace q0 := (hc _ _ (by simp <;> omega)).trans ((World.cell?_alloc_old _ _ _ (by simp <;> omega)).trans q0); replace q1 := (hc _ _ (by simp <;> omega)).trans ((World.cell?_alloc_old _ _ _ (by simp <;> omega)).trans q1); replace q2 := (hc _ _ (by simp <;> omega)).trans ((World.cell?_alloc_old _ _ _ (by simp <;> omega)).trans q2); replace p0 := (hc _ _ (by simp <;> omega)).trans ((World.cell?_alloc_old _ _ _ (by simp <;> omega)).trans p0); replace p1 := (hc _ _ (by simp <;> omega)).trans ((World.cell?_alloc_old _ _ _ (by simp <;> omega)).trans p1); replace p2 := (hc _ _ (by simp <;> omega)).trans ((World.cell?_alloc_old _ _ _ (by simp <;> omega)).trans p2)
      replace r0 := (hf _ _ (by simp <;> omega)).trans ((World.frozen?_alloc_old _ _ _ (by simp <;> omega)).trans r0); replace r1 := (hf _ _ (by simp <;> omega)).trans ((World.frozen?_alloc_old _ _ _ (by simp <;> omega)).trans r1); replace r2 := (hf _ _ (by simp <;> omega)).trans ((World.frozen?_alloc_old _ _ _ (by simp <;> omega)).trans r2)
      have o0 := (hc (w1.heap.size) 0 (by simp <;> omega)).trans (show _ = some (.int .i64 pe) from by first | (simp; done) | (simp [World.cell?_alloc_at]; done) | (rw [World.cell?_alloc_old _ _ _ (by simp <;> omega)]; first | (simp; done) | (simp [World.cell?_alloc_at]; done))); have o1 := (hc (w1.heap.size) 1 (by simp <;> omega)).trans (show _ = some (.slice A1 n c1) from by first | (simp; done) | (simp [World.cell?_alloc_at]; done) | (rw [World.cell?_alloc_old _ _ _ (by simp <;> omega)]; first | (simp; done) | (simp [World.cell?_alloc_at]; done))); have o2 := (hc (w1.heap.size) 2 (by simp <;> omega)).trans (show _ = some (.int .i64 lo) from by first | (simp; done) | (simp [World.cell?_alloc_at]; done) | (rw [World.cell?_alloc_old _ _ _ (by simp <;> omega)]; first | (simp; done) | (simp [World.cell?_alloc_at]; done)))
      have z1 : w1.heap.size < w2.heap.size := World.block_lt_of_cell? w2 _ o0
      have z2 : w.heap.size + 1 < w2.heap.size := World.block_lt_of_cell? w2 _ p0
      have z3 : w.heap.size < w2.heap.size := World.block_lt_of_cell? w2 _ q0
      have hb1 : Below w1.heap.size w1 w2 := Below.trans (by go_grown) (hb.mono (by simp <;> omega))
      have HO2 := Lib.hid (HO.out.below hb1 (Nat.le_refl _))
      replace B := stepW B hb1
      clear hb hb1 hc hf hR1 HO
      go_wp2_with (first | (go_at_call 44; refine (HD.out _).mono ?_; rintro x w' ⟨rfl, rfl⟩))
      obtain ⟨m0, m1, m2⟩ := all3 (.int .i64 pe) (.slice A1 n c1) (.int .i64 lo) p0 p1 p2
      have n0 := (World.cell?_alloc_old _ (.cells #[] 22) _ (Nat.ne_of_lt (World.block_lt_of_cell? _ _ m0))).trans m0
      have n1 := (World.cell?_alloc_old _ (.cells #[] 22) _ (Nat.ne_of_lt (World.block_lt_of_cell? _ _ m1))).trans m1
      have n2 := (World.cell?_alloc_old _ (.cells #[] 22) _ (Nat.ne_of_lt (World.block_lt_of_cell? _ _ m2))).trans m2
      refine bodyPost_ret (v := .tuple #[.agg #[.int .i64 pe, .slice A1 n c1, .int .i64 lo], .slice (some ⟨w2.heap.size, 0, none⟩) 0 0]) (by simp [results, Try.results36, go_sem, n0, n1, n2]) rfl ?_
      refine ⟨_, _, _, _, rfl, ?_, rdNil _ _, ?_⟩
      · exact OwnSS.rd (own_alloc (own_set3 (b := w.heap.size + 1) HO2.out (by simp) (.int .i64 pe) (.slice A1 n c1) (.int .i64 lo)) _ (by simp [World.setCell]; omega))
      · exact (below_set3 (b := w.heap.size + 1) B (by omega) _ _ _).alloc (by simp [World.setCell]; omega) _
end Go.Proofs.Ytfjheaobojebhaa.Gb
