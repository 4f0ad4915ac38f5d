/- Contract of the best entry of a scan (the program). -/
import Derived.Test.YtikolopdkjocgaaScore
import Derived.Test.YtikolopdkjocgaaReg
namespace Go.Proofs.Ytikolopdkjocgaa.Scn
open Go.RowKit
open Go.Proofs.Ytikolopdkjocgaa.Num Go.Proofs.Ytikolopdkjocgaa.Mem
set_option linter.unusedSimpArgs false
set_option maxHeartbeats 1000000 in
theorem best_impl (A : Option Addr) (n c : Nat) (zs : List Int) (now win : Int) (w : World) (hr : Rd w 4 A n c (zs.map (Value.int .i64))) :
    Calls Try.prog 24 #[.slice A n c, .int .i64 now, .int .i64 win] w fun x w' => x = .returned (.int .i64 (bestM zs (wrap64 (now - win)) n)) ∧ Below w.heap.size w w' := by
  have HR := Lib.hid hr
  have hn : n ≤ 9223372036854775807 := by have h1 := hr.2.1; have h2 := hr.2.2.1; unfold maxLen at h2; omega
  clear hr
  go_enter Try.func24, Try.ntmps24
  go_wp2
  go_loopw [7, 12] (fun v7 v8 wr => ∃ k : Nat, k ≤ n ∧ v7 = .int .i64 (bestM zs (wrap64 (now - win)) k) ∧ v8 = .int .i64 (k : Int) ∧ Below w.heap.size w wr) (fun _ v8 _ => n - (intOf v8).toNat)
  case atStart => exact ⟨0, Nat.zero_le _, rfl, rfl, Below.refl _ _⟩
  case round =>
    obtain ⟨k, hk, rfl, rfl, hbr⟩ := hrel
    by_cases hlt : k < n
    · obtain ⟨g, o, rfl, hg, c0, c1, c2, c3⟩ := ent_at (HR.out.below hbr) hlt
      have HL := Lib.hid (HR.out.below hbr)
      have HS := Lib.hid (cons_any (fld zs k 0) (fld zs k 1) (fld zs k 2) (fld zs k 3) now win)
      have HS2 := Lib.hid (score_impl (fld zs k 0) (fld zs k 1) (fld zs k 2) (fld zs k 3))
      have hbd := bestM_bd zs (wrap64 (now - win)) k
      have HU := Lib.hid (bestM_yes (zs := zs) (t := wrap64 (now - win)) (k := k))
      have HV := Lib.hid (bestM_no (zs := zs) (t := wrap64 (now - win)) (k := k))
      have HE := Lib.hid (show entScore zs k = scoreM (fld zs k 1) (fld zs k 2) from rfl)
      have HC := Lib.hid (show entCons zs (wrap64 (now - win)) k = consB (fld zs k 1) (fld zs k 2) (fld zs k 3) (wrap64 (now - win)) from rfl)
      generalize bestM zs (wrap64 (now - win)) k = m at *
      generalize fld zs k 0 = f0 at *
      generalize fld zs k 1 = f1 at *
      generalize fld zs k 2 = f2 at *
      generalize fld zs k 3 = f3 at *
      generalize scoreM f1 f2 = sc at *
      generalize consB f1 f2 f3 (wrap64 (now - win)) = cb at *
      obtain ⟨w0, hW⟩ : ∃ W, W = wr.alloc (.cells #[.int .i64 f0, .int .i64 f1, .int .i64 f2, .int .i64 f3] 30) := ⟨_, rfl⟩
      have q0 : w0.cell? ⟨wr.heap.size, 0, none⟩ = some (.int .i64 f0) := by rw [hW]; simp [World.cell?_alloc_at]
      have q1 : w0.cell? ⟨wr.heap.size, 1, none⟩ = some (.int .i64 f1) := by rw [hW]; simp [World.cell?_alloc_at]
      have q2 : w0.cell? ⟨wr.heap.size, 2, none⟩ = some (.int .i64 f2) := by rw [hW]; simp [World.cell?_alloc_at]
      have q3 : w0.cell? ⟨wr.heap.size, 3, none⟩ = some (.int .i64 f3) := by rw [hW]; simp [World.cell?_alloc_at]
      have hb0 : Below wr.heap.size wr w0 := by rw [hW]; exact (Below.refl _ _).alloc (Nat.le_refl _) _
      have HB := Lib.hid (stepB hbr hb0 hbr.size)
      have HW := Lib.hid hW
      clear hW
      cases cb with
      | false =>
        have HF := Lib.hid (HV.out (fun h => by have := h.1; rw [HC.out] at this; cases this))
        clear HU HV HC HE
        go_wp2
        rw [← HW.out]
        clear HW hb0 hbr
        have hbr := HB.out
        clear HB c0 c1 c2 c3
        refine wp_region_held_drew (S := (fun w' => w'.cell? ⟨wr.heap.size, 0, none⟩ = some (.int .i64 f0) ∧ w'.cell? ⟨wr.heap.size, 1, none⟩ = some (.int .i64 f1) ∧ w'.cell? ⟨wr.heap.size, 2, none⟩ = some (.int .i64 f2) ∧ w'.cell? ⟨wr.heap.size, 3, none⟩ = some (.int .i64 f3))) (by kernel_rfl) ?_ (fun hHeld => ?_)
        · (try dsimp only); (first | exact ⟨q0, q1, q2, q3⟩ | go_keep)
        first | (refine wpAnyH_take (i := 0) (v := ?_) (Reg.get rfl) (by kernel_rfl) (by kernel_rfl) (by kernel_rfl) (fun _ _ _ h => h) (Or.inl ⟨by rfl, ?_⟩) hHeld ?_; rotate_left 1; (focus (intro wq hSw; (try dsimp only at hSw);  go_simp <;> with_reducible rfl))) | (refine wpAnyH_take (i := 0) (v := undef) (Reg.get rfl) (by kernel_rfl) (by kernel_rfl) (by kernel_rfl) (fun _ _ _ h => h) (Or.inr ⟨by rfl, rfl⟩) hHeld ?_)
        try simp only [Act.put, List.setIfInBounds_toArray, List.set_cons_zero, List.set_cons_succ]
        first | (refine wpAnyH_take (i := 1) (v := ?_) (Reg.get rfl) (by kernel_rfl) (by kernel_rfl) (by kernel_rfl) (fun _ _ _ h => h) (Or.inl ⟨by rfl, ?_⟩) hHeld ?_; rotate_left 1; (focus (intro wq hSw; (try dsimp only at hSw);  go_simp <;> with_reducible rfl))) | (refine wpAnyH_take (i := 1) (v := undef) (Reg.get rfl) (by kernel_rfl) (by kernel_rfl) (by kernel_rfl) (fun _ _ _ h => h) (Or.inr ⟨by rfl, rfl⟩) hHeld ?_)
        try simp only [Act.put, List.setIfInBounds_toArray, List.set_cons_zero, List.set_cons_succ]
        first | (refine wpAnyH_take (i := 2) (v := ?_) (Reg.get rfl) (by kernel_rfl) (by kernel_rfl) (by kernel_rfl) (fun _ _ _ h => h) (Or.inl ⟨by rfl, ?_⟩) hHeld ?_; rotate_left 1; (focus (intro wq hSw; (try dsimp only at hSw);  go_simp <;> with_reducible rfl))) | (refine wpAnyH_take (i := 2) (v := undef) (Reg.get rfl) (by kernel_rfl) (by kernel_rfl) (by kernel_rfl) (fun _ _ _ h => h) (Or.inr ⟨by rfl, rfl⟩) hHeld ?_)
        try simp only [Act.put, List.setIfInBounds_toArray, List.set_cons_zero, List.set_cons_succ]
        first | ((refine wpAnyH_take (i := 3) (v := undef) (Reg.get rfl) (by kernel_rfl) (by kernel_rfl) (by kernel_rfl) (fun _ _ _ h => h) (Or.inr ⟨by rfl, rfl⟩) hHeld ?_)) | (refine wpAnyH_ready (rs := [3]) (by kernel_rfl) (by simp) ?_; refine AllReadyH.cons (Reg.get rfl) (fun K hK => ?_) AllReadyH.nil; clear hHeld; go_simp; (first | (((with_reducible (go_at_call 25; refine (HS.out _).mono ?_)); rintro x wn ⟨rfl, hb⟩; replace q0 := Mem.lift hb q0; replace q1 := Mem.lift hb q1; replace q2 := Mem.lift hb q2; replace q3 := Mem.lift hb q3; (first | (replace hbr := stepB hbr hb hbr.size) | (replace hbr := stepB (below_drewN hbr _) hb hbr.size) | (replace hbr := stepB hbr.drew hb hbr.size)); clear hb))); refine hK.out _ _ ?_ (fun hHeld => ?_); ((try dsimp only); (first | exact ⟨q0, q1, q2, q3⟩ | go_keep)); clear hK K)
        try simp only [Act.put, List.setIfInBounds_toArray, List.set_cons_zero, List.set_cons_succ]
        first | (refine wpAnyH_take (i := 4) (v := ?_) (Reg.get rfl) (by kernel_rfl) (by kernel_rfl) (by kernel_rfl) (fun _ _ _ h => h) (Or.inl ⟨by rfl, ?_⟩) hHeld ?_; rotate_left 1; (focus (intro wq hSw; (try dsimp only at hSw);  go_simp <;> with_reducible rfl))) | (refine wpAnyH_take (i := 4) (v := undef) (Reg.get rfl) (by kernel_rfl) (by kernel_rfl) (by kernel_rfl) (fun _ _ _ h => h) (Or.inr ⟨by rfl, rfl⟩) hHeld ?_)
        try simp only [Act.put, List.setIfInBounds_toArray, List.set_cons_zero, List.set_cons_succ]
        first | (refine wpAnyH_take (i := 5) (v := ?_) (Reg.get rfl) (by kernel_rfl) (by kernel_rfl) (by kernel_rfl) (fun _ _ _ h => h) (Or.inl ⟨by rfl, ?_⟩) hHeld ?_; rotate_left 1; (focus (intro wq hSw; (try dsimp only at hSw);  go_simp <;> with_reducible rfl))) | (refine wpAnyH_take (i := 5) (v := undef) (Reg.get rfl) (by kernel_rfl) (by kernel_rfl) (by kernel_rfl) (fun _ _ _ h => h) (Or.inr ⟨by rfl, rfl⟩) hHeld ?_)
        try simp only [Act.put, List.setIfInBounds_toArray, List.set_cons_zero, List.set_cons_succ]
        first | (refine wpAnyH_take (i := 6) (v := ?_) (Reg.get rfl) (by kernel_rfl) (by kernel_rfl) (by kernel_rfl) (fun _ _ _ h => h) (Or.inl ⟨by rfl, ?_⟩) hHeld ?_; rotate_left 1; (focus (intro wq hSw; (try dsimp only at hSw);  go_simp <;> with_reducible rfl))) | (refine wpAnyH_take (i := 6) (v := undef) (Reg.get rfl) (by kernel_rfl) (by kernel_rfl) (by kernel_rfl) (fun _ _ _ h => h) (Or.inr ⟨by rfl, rfl⟩) hHeld ?_)
        try simp only [Act.put, List.setIfInBounds_toArray, List.set_cons_zero, List.set_cons_succ]
        first | (refine wpAnyH_take (i := 7) (v := ?_) (Reg.get rfl) (by kernel_rfl) (by kernel_rfl) (by kernel_rfl) (fun _ _ _ h => h) (Or.inl ⟨by rfl, ?_⟩) hHeld ?_; rotate_left 1; (focus (intro wq hSw; (try dsimp only at hSw);  go_simp <;> with_reducible rfl))) | (refine wpAnyH_take (i := 7) (v := undef) (Reg.get rfl) (by kernel_rfl) (by kernel_rfl) (by kernel_rfl) (fun _ _ _ h => h) (Or.inr ⟨by rfl, rfl⟩) hHeld ?_)
        try simp only [Act.put, List.setIfInBounds_toArray, List.set_cons_zero, List.set_cons_succ]
        first | (refine wpAnyH_take (i := 8) (v := ?_) (Reg.get rfl) (by kernel_rfl) (by kernel_rfl) (by kernel_rfl) (fun _ _ _ h => h) (Or.inl ⟨by rfl, ?_⟩) hHeld ?_; rotate_left 1; (focus (intro wq hSw; (try dsimp only at hSw);  go_simp <;> with_reducible rfl))) | (refine wpAnyH_take (i := 8) (v := undef) (Reg.get rfl) (by kernel_rfl) (by kernel_rfl) (by kernel_rfl) (fun _ _ _ h => h) (Or.inr ⟨by rfl, rfl⟩) hHeld ?_)
        try simp only [Act.put, List.setIfInBounds_toArray, List.set_cons_zero, List.set_cons_succ]
        first | (refine wpAnyH_take (i := 10) (v := ?_) (Reg.get rfl) (by kernel_rfl) (by kernel_rfl) (by kernel_rfl) (fun _ _ _ h => h) (Or.inl ⟨by rfl, ?_⟩) hHeld ?_; rotate_left 1; (focus (intro wq hSw; (try dsimp only at hSw);  go_simp <;> with_reducible rfl))) | (refine wpAnyH_take (i := 10) (v := undef) (Reg.get rfl) (by kernel_rfl) (by kernel_rfl) (by kernel_rfl) (fun _ _ _ h => h) (Or.inr ⟨by rfl, rfl⟩) hHeld ?_)
        try simp only [Act.put, List.setIfInBounds_toArray, List.set_cons_zero, List.set_cons_succ]
        first | (refine wpAnyH_take (i := 11) (v := ?_) (Reg.get rfl) (by kernel_rfl) (by kernel_rfl) (by kernel_rfl) (fun _ _ _ h => h) (Or.inl ⟨by rfl, ?_⟩) hHeld ?_; rotate_left 1; (focus (intro wq hSw; (try dsimp only at hSw);  go_simp <;> with_reducible rfl))) | (refine wpAnyH_take (i := 11) (v := undef) (Reg.get rfl) (by kernel_rfl) (by kernel_rfl) (by kernel_rfl) (fun _ _ _ h => h) (Or.inr ⟨by rfl, rfl⟩) hHeld ?_)
        try simp only [Act.put, List.setIfInBounds_toArray, List.set_cons_zero, List.set_cons_succ]
        first | (refine wpAnyH_take (i := 12) (v := ?_) (Reg.get rfl) (by kernel_rfl) (by kernel_rfl) (by kernel_rfl) (fun _ _ _ h => h) (Or.inl ⟨by rfl, ?_⟩) hHeld ?_; rotate_left 1; (focus (intro wq hSw; (try dsimp only at hSw);  go_simp <;> with_reducible rfl))) | (refine wpAnyH_take (i := 12) (v := undef) (Reg.get rfl) (by kernel_rfl) (by kernel_rfl) (by kernel_rfl) (fun _ _ _ h => h) (Or.inr ⟨by rfl, rfl⟩) hHeld ?_)
        try simp only [Act.put, List.setIfInBounds_toArray, List.set_cons_zero, List.set_cons_succ]
        first | (refine wpAnyH_take (i := 13) (v := ?_) (Reg.get rfl) (by kernel_rfl) (by kernel_rfl) (by kernel_rfl) (fun _ _ _ h => h) (Or.inl ⟨by rfl, ?_⟩) hHeld ?_; rotate_left 1; (focus (intro wq hSw; (try dsimp only at hSw);  go_simp <;> with_reducible rfl))) | (refine wpAnyH_take (i := 13) (v := undef) (Reg.get rfl) (by kernel_rfl) (by kernel_rfl) (by kernel_rfl) (fun _ _ _ h => h) (Or.inr ⟨by rfl, rfl⟩) hHeld ?_)
        try simp only [Act.put, List.setIfInBounds_toArray, List.set_cons_zero, List.set_cons_succ]
        first | ((refine wpAnyH_take (i := 9) (v := undef) (Reg.get rfl) (by kernel_rfl) (by kernel_rfl) (by kernel_rfl) (fun _ _ _ h => h) (Or.inr ⟨by rfl, rfl⟩) hHeld ?_)) | (refine wpAnyH_ready (rs := [9]) (by kernel_rfl) (by simp) ?_; refine AllReadyH.cons (Reg.get rfl) (fun K hK => ?_) AllReadyH.nil; clear hHeld; go_simp; (first | (((with_reducible (go_at_call 25; refine (HS.out _).mono ?_)); rintro x wn ⟨rfl, hb⟩; replace q0 := Mem.lift hb q0; replace q1 := Mem.lift hb q1; replace q2 := Mem.lift hb q2; replace q3 := Mem.lift hb q3; (first | (replace hbr := stepB hbr hb hbr.size) | (replace hbr := stepB (below_drewN hbr _) hb hbr.size) | (replace hbr := stepB hbr.drew hb hbr.size)); clear hb))); refine hK.out _ _ ?_ (fun hHeld => ?_); ((try dsimp only); (first | exact ⟨q0, q1, q2, q3⟩ | go_keep)); clear hK K)
        try simp only [Act.put, List.setIfInBounds_toArray, List.set_cons_zero, List.set_cons_succ]
        first | ((refine wpAnyH_take (i := 14) (v := undef) (Reg.get rfl) (by kernel_rfl) (by kernel_rfl) (by kernel_rfl) (fun _ _ _ h => h) (Or.inr ⟨by rfl, rfl⟩) hHeld ?_)) | (refine wpAnyH_ready (rs := [14]) (by kernel_rfl) (by simp) ?_; refine AllReadyH.cons (Reg.get rfl) (fun K hK => ?_) AllReadyH.nil; clear hHeld; go_simp; (first | (((with_reducible (go_at_call 25; refine (HS.out _).mono ?_)); rintro x wn ⟨rfl, hb⟩; replace q0 := Mem.lift hb q0; replace q1 := Mem.lift hb q1; replace q2 := Mem.lift hb q2; replace q3 := Mem.lift hb q3; (first | (replace hbr := stepB hbr hb hbr.size) | (replace hbr := stepB (below_drewN hbr _) hb hbr.size) | (replace hbr := stepB hbr.drew hb hbr.size)); clear hb))); refine hK.out _ _ ?_ (fun hHeld => ?_); ((try dsimp only); (first | exact ⟨q0, q1, q2, q3⟩ | go_keep)); clear hK K)
        try simp only [Act.put, List.setIfInBounds_toArray, List.set_cons_zero, List.set_cons_succ]
        first | (refine wpAnyH_take (i := 15) (v := ?_) (Reg.get rfl) (by kernel_rfl) (by kernel_rfl) (by kernel_rfl) (fun _ _ _ h => h) (Or.inl ⟨by rfl, ?_⟩) hHeld ?_; rotate_left 1; (focus (intro wq hSw; (try dsimp only at hSw);  go_simp <;> with_reducible rfl))) | (refine wpAnyH_take (i := 15) (v := undef) (Reg.get rfl) (by kernel_rfl) (by kernel_rfl) (by kernel_rfl) (fun _ _ _ h => h) (Or.inr ⟨by rfl, rfl⟩) hHeld ?_)
        try simp only [Act.put, List.setIfInBounds_toArray, List.set_cons_zero, List.set_cons_succ]
        first | (refine wpAnyH_take (i := 16) (v := ?_) (Reg.get rfl) (by kernel_rfl) (by kernel_rfl) (by kernel_rfl) (fun _ _ _ h => h) (Or.inl ⟨by rfl, ?_⟩) hHeld ?_; rotate_left 1; (focus (intro wq hSw; (try dsimp only at hSw);  go_simp <;> with_reducible rfl))) | (refine wpAnyH_take (i := 16) (v := undef) (Reg.get rfl) (by kernel_rfl) (by kernel_rfl) (by kernel_rfl) (fun _ _ _ h => h) (Or.inr ⟨by rfl, rfl⟩) hHeld ?_)
        try simp only [Act.put, List.setIfInBounds_toArray, List.set_cons_zero, List.set_cons_succ]
        first | (refine wpAnyH_take (i := 17) (v := ?_) (Reg.get rfl) (by kernel_rfl) (by kernel_rfl) (by kernel_rfl) (fun _ _ _ h => h) (Or.inl ⟨by rfl, ?_⟩) hHeld ?_; rotate_left 1; (focus (intro wq hSw; (try dsimp only at hSw);  go_simp <;> with_reducible rfl))) | (refine wpAnyH_take (i := 17) (v := undef) (Reg.get rfl) (by kernel_rfl) (by kernel_rfl) (by kernel_rfl) (fun _ _ _ h => h) (Or.inr ⟨by rfl, rfl⟩) hHeld ?_)
        try simp only [Act.put, List.setIfInBounds_toArray, List.set_cons_zero, List.set_cons_succ]
        refine wpAnyH_done (by kernel_rfl) ?_ _
        all_goals
          go_wp2
          go_roundw
          case rel => exact ⟨k + 1, by omega, by rw [HF.out], by go_num, by first | exact hbr | exact hbr.drew | exact below_drewN hbr _⟩
          case measure => simp [intOf]; omega
      | true =>
        by_cases h3 : m < 0
        · have HF := Lib.hid (HU.out ⟨HC.out, .inl h3⟩)
          clear HU HV HC HE
          go_wp2
          rw [← HW.out]
          clear HW hb0 hbr
          have hbr := HB.out
          clear HB c0 c1 c2 c3
          refine wp_region_held_drew (S := (fun w' => w'.cell? ⟨wr.heap.size, 0, none⟩ = some (.int .i64 f0) ∧ w'.cell? ⟨wr.heap.size, 1, none⟩ = some (.int .i64 f1) ∧ w'.cell? ⟨wr.heap.size, 2, none⟩ = some (.int .i64 f2) ∧ w'.cell? ⟨wr.heap.size, 3, none⟩ = some (.int .i64 f3))) (by kernel_rfl) ?_ (fun hHeld => ?_)
          · (try dsimp only); (first | exact ⟨q0, q1, q2, q3⟩ | go_keep)
          first | (refine wpAnyH_take (i := 0) (v := ?_) (Reg.get rfl) (by kernel_rfl) (by kernel_rfl) (by kernel_rfl) (fun _ _ _ h => h) (Or.inl ⟨by rfl, ?_⟩) hHeld ?_; rotate_left 1; (focus (intro wq hSw; (try dsimp only at hSw);  go_simp <;> with_reducible rfl))) | (refine wpAnyH_take (i := 0) (v := undef) (Reg.get rfl) (by kernel_rfl) (by kernel_rfl) (by kernel_rfl) (fun _ _ _ h => h) (Or.inr ⟨by rfl, rfl⟩) hHeld ?_)
          try simp only [Act.put, List.setIfInBounds_toArray, List.set_cons_zero, List.set_cons_succ]
          first | (refine wpAnyH_take (i := 1) (v := ?_) (Reg.get rfl) (by kernel_rfl) (by kernel_rfl) (by kernel_rfl) (fun _ _ _ h => h) (Or.inl ⟨by rfl, ?_⟩) hHeld ?_; rotate_left 1; (focus (intro wq hSw; (try dsimp only at hSw);  go_simp <;> with_reducible rfl))) | (refine wpAnyH_take (i := 1) (v := undef) (Reg.get rfl) (by kernel_rfl) (by kernel_rfl) (by kernel_rfl) (fun _ _ _ h => h) (Or.inr ⟨by rfl, rfl⟩) hHeld ?_)
          try simp only [Act.put, List.setIfInBounds_toArray, List.set_cons_zero, List.set_cons_succ]
          first | (refine wpAnyH_take (i := 2) (v := ?_) (Reg.get rfl) (by kernel_rfl) (by kernel_rfl) (by kernel_rfl) (fun _ _ _ h => h) (Or.inl ⟨by rfl, ?_⟩) hHeld ?_; rotate_left 1; (focus (intro wq hSw; (try dsimp only at hSw);  go_simp <;> with_reducible rfl))) | (refine wpAnyH_take (i := 2) (v := undef) (Reg.get rfl) (by kernel_rfl) (by kernel_rfl) (by kernel_rfl) (fun _ _ _ h => h) (Or.inr ⟨by rfl, rfl⟩) hHeld ?_)
          try simp only [Act.put, List.setIfInBounds_toArray, List.set_cons_zero, List.set_cons_succ]
          first | ((refine wpAnyH_take (i := 3) (v := undef) (Reg.get rfl) (by kernel_rfl) (by kernel_rfl) (by kernel_rfl) (fun _ _ _ h => h) (Or.inr ⟨by rfl, rfl⟩) hHeld ?_)) | (refine wpAnyH_ready (rs := [3]) (by kernel_rfl) (by simp) ?_; refine AllReadyH.cons (Reg.get rfl) (fun K hK => ?_) AllReadyH.nil; clear hHeld; go_simp; (first | (((with_reducible (go_at_call 25; refine (HS.out _).mono ?_)); rintro x wn ⟨rfl, hb⟩; replace q0 := Mem.lift hb q0; replace q1 := Mem.lift hb q1; replace q2 := Mem.lift hb q2; replace q3 := Mem.lift hb q3; (first | (replace hbr := stepB hbr hb hbr.size) | (replace hbr := stepB (below_drewN hbr _) hb hbr.size) | (replace hbr := stepB hbr.drew hb hbr.size)); clear hb))); refine hK.out _ _ ?_ (fun hHeld => ?_); ((try dsimp only); (first | exact ⟨q0, q1, q2, q3⟩ | go_keep)); clear hK K)
          try simp only [Act.put, List.setIfInBounds_toArray, List.set_cons_zero, List.set_cons_succ]
          first | (refine wpAnyH_take (i := 4) (v := ?_) (Reg.get rfl) (by kernel_rfl) (by kernel_rfl) (by kernel_rfl) (fun _ _ _ h => h) (Or.inl ⟨by rfl, ?_⟩) hHeld ?_; rotate_left 1; (focus (intro wq hSw; (try dsimp only at hSw);  go_simp <;> with_reducible rfl))) | (refine wpAnyH_take (i := 4) (v := undef) (Reg.get rfl) (by kernel_rfl) (by kernel_rfl) (by kernel_rfl) (fun _ _ _ h => h) (Or.inr ⟨by rfl, rfl⟩) hHeld ?_)
          try simp only [Act.put, List.setIfInBounds_toArray, List.set_cons_zero, List.set_cons_succ]
          first | (refine wpAnyH_take (i := 5) (v := ?_) (Reg.get rfl) (by kernel_rfl) (by kernel_rfl) (by kernel_rfl) (fun _ _ _ h => h) (Or.inl ⟨by rfl, ?_⟩) hHeld ?_; rotate_left 1; (focus (intro wq hSw; (try dsimp only at hSw);  go_simp <;> with_reducible rfl))) | (refine wpAnyH_take (i := 5) (v := undef) (Reg.get rfl) (by kernel_rfl) (by kernel_rfl) (by kernel_rfl) (fun _ _ _ h => h) (Or.inr ⟨by rfl, rfl⟩) hHeld ?_)
          try simp only [Act.put, List.setIfInBounds_toArray, List.set_cons_zero, List.set_cons_succ]
          first | (refine wpAnyH_take (i := 6) (v := ?_) (Reg.get rfl) (by kernel_rfl) (by kernel_rfl) (by kernel_rfl) (fun _ _ _ h => h) (Or.inl ⟨by rfl, ?_⟩) hHeld ?_; rotate_left 1; (focus (intro wq hSw; (try dsimp only at hSw);  go_simp <;> with_reducible rfl))) | (refine wpAnyH_take (i := 6) (v := undef) (Reg.get rfl) (by kernel_rfl) (by kernel_rfl) (by kernel_rfl) (fun _ _ _ h => h) (Or.inr ⟨by rfl, rfl⟩) hHeld ?_)
          try simp only [Act.put, List.setIfInBounds_toArray, List.set_cons_zero, List.set_cons_succ]
          first | (refine wpAnyH_take (i := 7) (v := ?_) (Reg.get rfl) (by kernel_rfl) (by kernel_rfl) (by kernel_rfl) (fun _ _ _ h => h) (Or.inl ⟨by rfl, ?_⟩) hHeld ?_; rotate_left 1; (focus (intro wq hSw; (try dsimp only at hSw);  go_simp <;> with_reducible rfl))) | (refine wpAnyH_take (i := 7) (v := undef) (Reg.get rfl) (by kernel_rfl) (by kernel_rfl) (by kernel_rfl) (fun _ _ _ h => h) (Or.inr ⟨by rfl, rfl⟩) hHeld ?_)
          try simp only [Act.put, List.setIfInBounds_toArray, List.set_cons_zero, List.set_cons_succ]
          first | (refine wpAnyH_take (i := 8) (v := ?_) (Reg.get rfl) (by kernel_rfl) (by kernel_rfl) (by kernel_rfl) (fun _ _ _ h => h) (Or.inl ⟨by rfl, ?_⟩) hHeld ?_; rotate_left 1; (focus (intro wq hSw; (try dsimp only at hSw);  go_simp <;> with_reducible rfl))) | (refine wpAnyH_take (i := 8) (v := undef) (Reg.get rfl) (by kernel_rfl) (by kernel_rfl) (by kernel_rfl) (fun _ _ _ h => h) (Or.inr ⟨by rfl, rfl⟩) hHeld ?_)
          try simp only [Act.put, List.setIfInBounds_toArray, List.set_cons_zero, List.set_cons_succ]
          first | (refine wpAnyH_take (i := 10) (v := ?_) (Reg.get rfl) (by kernel_rfl) (by kernel_rfl) (by kernel_rfl) (fun _ _ _ h => h) (Or.inl ⟨by rfl, ?_⟩) hHeld ?_; rotate_left 1; (focus (intro wq hSw; (try dsimp only at hSw);  go_simp <;> with_reducible rfl))) | (refine wpAnyH_take (i := 10) (v := undef) (Reg.get rfl) (by kernel_rfl) (by kernel_rfl) (by kernel_rfl) (fun _ _ _ h => h) (Or.inr ⟨by rfl, rfl⟩) hHeld ?_)
          try simp only [Act.put, List.setIfInBounds_toArray, List.set_cons_zero, List.set_cons_succ]
          first | (refine wpAnyH_take (i := 11) (v := ?_) (Reg.get rfl) (by kernel_rfl) (by kernel_rfl) (by kernel_rfl) (fun _ _ _ h => h) (Or.inl ⟨by rfl, ?_⟩) hHeld ?_; rotate_left 1; (focus (intro wq hSw; (try dsimp only at hSw);  go_simp <;> with_reducible rfl))) | (refine wpAnyH_take (i := 11) (v := undef) (Reg.get rfl) (by kernel_rfl) (by kernel_rfl) (by kernel_rfl) (fun _ _ _ h => h) (Or.inr ⟨by rfl, rfl⟩) hHeld ?_)
          try simp only [Act.put, List.setIfInBounds_toArray, List.set_cons_zero, List.set_cons_succ]
          first | (refine wpAnyH_take (i := 12) (v := ?_) (Reg.get rfl) (by kernel_rfl) (by kernel_rfl) (by kernel_rfl) (fun _ _ _ h => h) (Or.inl ⟨by rfl, ?_⟩) hHeld ?_; rotate_left 1; (focus (intro wq hSw; (try dsimp only at hSw);  go_simp <;> with_reducible rfl))) | (refine wpAnyH_take (i := 12) (v := undef) (Reg.get rfl) (by kernel_rfl) (by kernel_rfl) (by kernel_rfl) (fun _ _ _ h => h) (Or.inr ⟨by rfl, rfl⟩) hHeld ?_)
          try simp only [Act.put, List.setIfInBounds_toArray, List.set_cons_zero, List.set_cons_succ]
          first | (refine wpAnyH_take (i := 13) (v := ?_) (Reg.get rfl) (by kernel_rfl) (by kernel_rfl) (by kernel_rfl) (fun _ _ _ h => h) (Or.inl ⟨by rfl, ?_⟩) hHeld ?_; rotate_left 1; (focus (intro wq hSw; (try dsimp only at hSw);  go_simp <;> with_reducible rfl))) | (refine wpAnyH_take (i := 13) (v := undef) (Reg.get rfl) (by kernel_rfl) (by kernel_rfl) (by kernel_rfl) (fun _ _ _ h => h) (Or.inr ⟨by rfl, rfl⟩) hHeld ?_)
          try simp only [Act.put, List.setIfInBounds_toArray, List.set_cons_zero, List.set_cons_succ]
          first | ((refine wpAnyH_take (i := 9) (v := undef) (Reg.get rfl) (by kernel_rfl) (by kernel_rfl) (by kernel_rfl) (fun _ _ _ h => h) (Or.inr ⟨by rfl, rfl⟩) hHeld ?_)) | (refine wpAnyH_ready (rs := [9]) (by kernel_rfl) (by simp) ?_; refine AllReadyH.cons (Reg.get rfl) (fun K hK => ?_) AllReadyH.nil; clear hHeld; go_simp; (first | (((with_reducible (go_at_call 25; refine (HS.out _).mono ?_)); rintro x wn ⟨rfl, hb⟩; replace q0 := Mem.lift hb q0; replace q1 := Mem.lift hb q1; replace q2 := Mem.lift hb q2; replace q3 := Mem.lift hb q3; (first | (replace hbr := stepB hbr hb hbr.size) | (replace hbr := stepB (below_drewN hbr _) hb hbr.size) | (replace hbr := stepB hbr.drew hb hbr.size)); clear hb))); refine hK.out _ _ ?_ (fun hHeld => ?_); ((try dsimp only); (first | exact ⟨q0, q1, q2, q3⟩ | go_keep)); clear hK K)
          try simp only [Act.put, List.setIfInBounds_toArray, List.set_cons_zero, List.set_cons_succ]
          first | ((refine wpAnyH_take (i := 14) (v := undef) (Reg.get rfl) (by kernel_rfl) (by kernel_rfl) (by kernel_rfl) (fun _ _ _ h => h) (Or.inr ⟨by rfl, rfl⟩) hHeld ?_)) | (refine wpAnyH_ready (rs := [14]) (by kernel_rfl) (by simp) ?_; refine AllReadyH.cons (Reg.get rfl) (fun K hK => ?_) AllReadyH.nil; clear hHeld; go_simp; (first | (((with_reducible (go_at_call 25; refine (HS.out _).mono ?_)); rintro x wn ⟨rfl, hb⟩; replace q0 := Mem.lift hb q0; replace q1 := Mem.lift hb q1; replace q2 := Mem.lift hb q2; replace q3 := Mem.lift hb q3; (first | (replace hbr := stepB hbr hb hbr.size) | (replace hbr := stepB (below_drewN hbr _) hb hbr.size) | (replace hbr := stepB hbr.drew hb hbr.size)); clear hb))); refine hK.out _ _ ?_ (fun hHeld => ?_); ((try dsimp only); (first | exact ⟨q0, q1, q2, q3⟩ | go_keep)); clear hK K)
          try simp only [Act.put, List.setIfInBounds_toArray, List.set_cons_zero, List.set_cons_succ]
          first | (refine wpAnyH_take (i := 15) (v := ?_) (Reg.get rfl) (by kernel_rfl) (by kernel_rfl) (by kernel_rfl) (fun _ _ _ h => h) (Or.inl ⟨by rfl, ?_⟩) hHeld ?_; rotate_left 1; (focus (intro wq hSw; (try dsimp only at hSw);  go_simp <;> with_reducible rfl))) | (refine wpAnyH_take (i := 15) (v := undef) (Reg.get rfl) (by kernel_rfl) (by kernel_rfl) (by kernel_rfl) (fun _ _ _ h => h) (Or.inr ⟨by rfl, rfl⟩) hHeld ?_)
          try simp only [Act.put, List.setIfInBounds_toArray, List.set_cons_zero, List.set_cons_succ]
          first | (refine wpAnyH_take (i := 16) (v := ?_) (Reg.get rfl) (by kernel_rfl) (by kernel_rfl) (by kernel_rfl) (fun _ _ _ h => h) (Or.inl ⟨by rfl, ?_⟩) hHeld ?_; rotate_left 1; (focus (intro wq hSw; (try dsimp only at hSw);  go_simp <;> with_reducible rfl))) | (refine wpAnyH_take (i := 16) (v := undef) (Reg.get rfl) (by kernel_rfl) (by kernel_rfl) (by kernel_rfl) (fun _ _ _ h => h) (Or.inr ⟨by rfl, rfl⟩) hHeld ?_)
          try simp only [Act.put, List.setIfInBounds_toArray, List.set_cons_zero, List.set_cons_succ]
          first | (refine wpAnyH_take (i := 17) (v := ?_) (Reg.get rfl) (by kernel_rfl) (by kernel_rfl) (by kernel_rfl) (fun _ _ _ h => h) (Or.inl ⟨by rfl, ?_⟩) hHeld ?_; rotate_left 1; (focus (intro wq hSw; (try dsimp only at hSw);  go_simp <;> with_reducible rfl))) | (refine wpAnyH_take (i := 17) (v := undef) (Reg.get rfl) (by kernel_rfl) (by kernel_rfl) (by kernel_rfl) (fun _ _ _ h => h) (Or.inr ⟨by rfl, rfl⟩) hHeld ?_)
          try simp only [Act.put, List.setIfInBounds_toArray, List.set_cons_zero, List.set_cons_succ]
          refine wpAnyH_done (by kernel_rfl) ?_ _
          all_goals
            go_wp2
            go_roundw
            case rel => exact ⟨k + 1, by omega, by rw [HF.out], by go_num, by first | exact hbr | exact hbr.drew | exact below_drewN hbr _⟩
            case measure => simp [intOf]; omega
        · obtain ⟨b, rfl⟩ := Int.eq_ofNat_of_zero_le (show 0 ≤ m by omega)
          obtain ⟨g', o', hgo, _, d0, d1, d2, d3⟩ := ent_at HL.out (k := b) (by omega)
          simp only [Option.some.injEq, Addr.mk.injEq, and_true] at hgo
          obtain ⟨rfl, rfl⟩ := hgo
          have i0 : (0 : Int) ≤ (b : Int) := by omega
          have i1 : (b : Int) < (n : Int) := by omega
          have HG := Lib.hid (show entScore zs b = scoreM (fld zs b 1) (fld zs b 2) from rfl)
          have HZ := Lib.hid (score_impl (fld zs b 0) (fld zs b 1) (fld zs b 2) (fld zs b 3))
          generalize fld zs b 0 = e0 at *
          generalize fld zs b 1 = e1 at *
          generalize fld zs b 2 = e2 at *
          generalize fld zs b 3 = e3 at *
          generalize scoreM e1 e2 = bs at *
          replace d0 := Mem.lift hb0 d0; replace d1 := Mem.lift hb0 d1; replace d2 := Mem.lift hb0 d2; replace d3 := Mem.lift hb0 d3
          by_cases h4 : bs < sc
          all_goals
            have HF := Lib.hid (by first
              | exact HU.out ⟨HC.out, .inr (by rw [Int.toNat_natCast, HE.out, HG.out]; exact h4)⟩
              | exact HV.out (fun h => by have := h.2; rw [Int.toNat_natCast, HE.out, HG.out] at this; omega))
            clear HU HV HC HE HG
            go_wp2
            rw [← HW.out]
            clear HW hb0 hbr
            have hbr := HB.out
            clear HB c0 c1 c2 c3
            refine wp_region_held_drew (S := (fun w' => w'.cell? ⟨wr.heap.size, 0, none⟩ = some (.int .i64 f0) ∧ w'.cell? ⟨wr.heap.size, 1, none⟩ = some (.int .i64 f1) ∧ w'.cell? ⟨wr.heap.size, 2, none⟩ = some (.int .i64 f2) ∧ w'.cell? ⟨wr.heap.size, 3, none⟩ = some (.int .i64 f3) ∧ w'.cell? ⟨g, o + b * 4, none⟩ = some (.int .i64 e0) ∧ w'.cell? ⟨g, o + b * 4 + 1, none⟩ = some (.int .i64 e1) ∧ w'.cell? ⟨g, o + b * 4 + 2, none⟩ = some (.int .i64 e2) ∧ w'.cell? ⟨g, o + b * 4 + 3, none⟩ = some (.int .i64 e3))) (by kernel_rfl) ?_ (fun hHeld => ?_)
            · (try dsimp only); (first | exact ⟨q0, q1, q2, q3, d0, d1, d2, d3⟩ | go_keep)
            first | (refine wpAnyH_take (i := 0) (v := ?_) (Reg.get rfl) (by kernel_rfl) (by kernel_rfl) (by kernel_rfl) (fun _ _ _ h => h) (Or.inl ⟨by rfl, ?_⟩) hHeld ?_; rotate_left 1; (focus (intro wq hSw; (try dsimp only at hSw);  go_simp <;> with_reducible rfl))) | (refine wpAnyH_take (i := 0) (v := undef) (Reg.get rfl) (by kernel_rfl) (by kernel_rfl) (by kernel_rfl) (fun _ _ _ h => h) (Or.inr ⟨by rfl, rfl⟩) hHeld ?_)
            try simp only [Act.put, List.setIfInBounds_toArray, List.set_cons_zero, List.set_cons_succ]
            first | (refine wpAnyH_take (i := 1) (v := ?_) (Reg.get rfl) (by kernel_rfl) (by kernel_rfl) (by kernel_rfl) (fun _ _ _ h => h) (Or.inl ⟨by rfl, ?_⟩) hHeld ?_; rotate_left 1; (focus (intro wq hSw; (try dsimp only at hSw);  go_simp <;> with_reducible rfl))) | (refine wpAnyH_take (i := 1) (v := undef) (Reg.get rfl) (by kernel_rfl) (by kernel_rfl) (by kernel_rfl) (fun _ _ _ h => h) (Or.inr ⟨by rfl, rfl⟩) hHeld ?_)
            try simp only [Act.put, List.setIfInBounds_toArray, List.set_cons_zero, List.set_cons_succ]
            first | (refine wpAnyH_take (i := 2) (v := ?_) (Reg.get rfl) (by kernel_rfl) (by kernel_rfl) (by kernel_rfl) (fun _ _ _ h => h) (Or.inl ⟨by rfl, ?_⟩) hHeld ?_; rotate_left 1; (focus (intro wq hSw; (try dsimp only at hSw);  go_simp <;> with_reducible rfl))) | (refine wpAnyH_take (i := 2) (v := undef) (Reg.get rfl) (by kernel_rfl) (by kernel_rfl) (by kernel_rfl) (fun _ _ _ h => h) (Or.inr ⟨by rfl, rfl⟩) hHeld ?_)
            try simp only [Act.put, List.setIfInBounds_toArray, List.set_cons_zero, List.set_cons_succ]
            first | ((refine wpAnyH_take (i := 3) (v := undef) (Reg.get rfl) (by kernel_rfl) (by kernel_rfl) (by kernel_rfl) (fun _ _ _ h => h) (Or.inr ⟨by rfl, rfl⟩) hHeld ?_)) | (refine wpAnyH_ready (rs := [3]) (by kernel_rfl) (by simp) ?_; refine AllReadyH.cons (Reg.get rfl) (fun K hK => ?_) AllReadyH.nil; clear hHeld; go_simp; (first | (((with_reducible (go_at_call 25; refine (HS.out _).mono ?_)); rintro x wn ⟨rfl, hb⟩; replace q0 := Mem.lift hb q0; replace q1 := Mem.lift hb q1; replace q2 := Mem.lift hb q2; replace q3 := Mem.lift hb q3; replace d0 := Mem.lift hb d0; replace d1 := Mem.lift hb d1; replace d2 := Mem.lift hb d2; replace d3 := Mem.lift hb d3; (first | (replace hbr := stepB hbr hb hbr.size) | (replace hbr := stepB (below_drewN hbr _) hb hbr.size) | (replace hbr := stepB hbr.drew hb hbr.size)); clear hb)) | (((with_reducible (go_at_call 10; refine (HS2.out _).mono ?_)); rintro x wn ⟨rfl, hb⟩; replace q0 := Mem.lift hb q0; replace q1 := Mem.lift hb q1; replace q2 := Mem.lift hb q2; replace q3 := Mem.lift hb q3; replace d0 := Mem.lift hb d0; replace d1 := Mem.lift hb d1; replace d2 := Mem.lift hb d2; replace d3 := Mem.lift hb d3; (first | (replace hbr := stepB hbr hb hbr.size) | (replace hbr := stepB (below_drewN hbr _) hb hbr.size) | (replace hbr := stepB hbr.drew hb hbr.size)); clear hb)) | (((with_reducible (go_at_call 10; refine (HZ.out _).mono ?_)); rintro x wn ⟨rfl, hb⟩; replace q0 := Mem.lift hb q0; replace q1 := Mem.lift hb q1; replace q2 := Mem.lift hb q2; replace q3 := Mem.lift hb q3; replace d0 := Mem.lift hb d0; replace d1 := Mem.lift hb d1; replace d2 := Mem.lift hb d2; replace d3 := Mem.lift hb d3; (first | (replace hbr := stepB hbr hb hbr.size) | (replace hbr := stepB (below_drewN hbr _) hb hbr.size) | (replace hbr := stepB hbr.drew hb hbr.size)); clear hb))); refine hK.out _ _ ?_ (fun hHeld => ?_); ((try dsimp only); (first | exact ⟨q0, q1, q2, q3, d0, d1, d2, d3⟩ | go_keep)); clear hK K)
            try simp only [Act.put, List.setIfInBounds_toArray, List.set_cons_zero, List.set_cons_succ]
            first | (refine wpAnyH_take (i := 4) (v := ?_) (Reg.get rfl) (by kernel_rfl) (by kernel_rfl) (by kernel_rfl) (fun _ _ _ h => h) (Or.inl ⟨by rfl, ?_⟩) hHeld ?_; rotate_left 1; (focus (intro wq hSw; (try dsimp only at hSw);  go_simp <;> with_reducible rfl))) | (refine wpAnyH_take (i := 4) (v := undef) (Reg.get rfl) (by kernel_rfl) (by kernel_rfl) (by kernel_rfl) (fun _ _ _ h => h) (Or.inr ⟨by rfl, rfl⟩) hHeld ?_)
            try simp only [Act.put, List.setIfInBounds_toArray, List.set_cons_zero, List.set_cons_succ]
            first | (refine wpAnyH_take (i := 5) (v := ?_) (Reg.get rfl) (by kernel_rfl) (by kernel_rfl) (by kernel_rfl) (fun _ _ _ h => h) (Or.inl ⟨by rfl, ?_⟩) hHeld ?_; rotate_left 1; (focus (intro wq hSw; (try dsimp only at hSw);  go_simp <;> with_reducible rfl))) | (refine wpAnyH_take (i := 5) (v := undef) (Reg.get rfl) (by kernel_rfl) (by kernel_rfl) (by kernel_rfl) (fun _ _ _ h => h) (Or.inr ⟨by rfl, rfl⟩) hHeld ?_)
            try simp only [Act.put, List.setIfInBounds_toArray, List.set_cons_zero, List.set_cons_succ]
            first | (refine wpAnyH_take (i := 6) (v := ?_) (Reg.get rfl) (by kernel_rfl) (by kernel_rfl) (by kernel_rfl) (fun _ _ _ h => h) (Or.inl ⟨by rfl, ?_⟩) hHeld ?_; rotate_left 1; (focus (intro wq hSw; (try dsimp only at hSw);  go_simp <;> with_reducible rfl))) | (refine wpAnyH_take (i := 6) (v := undef) (Reg.get rfl) (by kernel_rfl) (by kernel_rfl) (by kernel_rfl) (fun _ _ _ h => h) (Or.inr ⟨by rfl, rfl⟩) hHeld ?_)
            try simp only [Act.put, List.setIfInBounds_toArray, List.set_cons_zero, List.set_cons_succ]
            first | (refine wpAnyH_take (i := 7) (v := ?_) (Reg.get rfl) (by kernel_rfl) (by kernel_rfl) (by kernel_rfl) (fun _ _ _ h => h) (Or.inl ⟨by rfl, ?_⟩) hHeld ?_; rotate_left 1; (focus (intro wq hSw; (try dsimp only at hSw);  go_simp <;> with_reducible rfl))) | (refine wpAnyH_take (i := 7) (v := undef) (Reg.get rfl) (by kernel_rfl) (by kernel_rfl) (by kernel_rfl) (fun _ _ _ h => h) (Or.inr ⟨by rfl, rfl⟩) hHeld ?_)
            try simp only [Act.put, List.setIfInBounds_toArray, List.set_cons_zero, List.set_cons_succ]
            first | (refine wpAnyH_take (i := 8) (v := ?_) (Reg.get rfl) (by kernel_rfl) (by kernel_rfl) (by kernel_rfl) (fun _ _ _ h => h) (Or.inl ⟨by rfl, ?_⟩) hHeld ?_; rotate_left 1; (focus (intro wq hSw; (try dsimp only at hSw);  go_simp <;> with_reducible rfl))) | (refine wpAnyH_take (i := 8) (v := undef) (Reg.get rfl) (by kernel_rfl) (by kernel_rfl) (by kernel_rfl) (fun _ _ _ h => h) (Or.inr ⟨by rfl, rfl⟩) hHeld ?_)
            try simp only [Act.put, List.setIfInBounds_toArray, List.set_cons_zero, List.set_cons_succ]
            first | (refine wpAnyH_take (i := 10) (v := ?_) (Reg.get rfl) (by kernel_rfl) (by kernel_rfl) (by kernel_rfl) (fun _ _ _ h => h) (Or.inl ⟨by rfl, ?_⟩) hHeld ?_; rotate_left 1; (focus (intro wq hSw; (try dsimp only at hSw);  go_simp <;> with_reducible rfl))) | (refine wpAnyH_take (i := 10) (v := undef) (Reg.get rfl) (by kernel_rfl) (by kernel_rfl) (by kernel_rfl) (fun _ _ _ h => h) (Or.inr ⟨by rfl, rfl⟩) hHeld ?_)
            try simp only [Act.put, List.setIfInBounds_toArray, List.set_cons_zero, List.set_cons_succ]
            first | (refine wpAnyH_take (i := 11) (v := ?_) (Reg.get rfl) (by kernel_rfl) (by kernel_rfl) (by kernel_rfl) (fun _ _ _ h => h) (Or.inl ⟨by rfl, ?_⟩) hHeld ?_; rotate_left 1; (focus (intro wq hSw; (try dsimp only at hSw);  go_simp <;> with_reducible rfl))) | (refine wpAnyH_take (i := 11) (v := undef) (Reg.get rfl) (by kernel_rfl) (by kernel_rfl) (by kernel_rfl) (fun _ _ _ h => h) (Or.inr ⟨by rfl, rfl⟩) hHeld ?_)
            try simp only [Act.put, List.setIfInBounds_toArray, List.set_cons_zero, List.set_cons_succ]
            first | (refine wpAnyH_take (i := 12) (v := ?_) (Reg.get rfl) (by kernel_rfl) (by kernel_rfl) (by kernel_rfl) (fun _ _ _ h => h) (Or.inl ⟨by rfl, ?_⟩) hHeld ?_; rotate_left 1; (focus (intro wq hSw; (try dsimp only at hSw);  go_simp <;> with_reducible rfl))) | (refine wpAnyH_take (i := 12) (v := undef) (Reg.get rfl) (by kernel_rfl) (by kernel_rfl) (by kernel_rfl) (fun _ _ _ h => h) (Or.inr ⟨by rfl, rfl⟩) hHeld ?_)
            try simp only [Act.put, List.setIfInBounds_toArray, List.set_cons_zero, List.set_cons_succ]
            first | (refine wpAnyH_take (i := 13) (v := ?_) (Reg.get rfl) (by kernel_rfl) (by kernel_rfl) (by kernel_rfl) (fun _ _ _ h => h) (Or.inl ⟨by rfl, ?_⟩) hHeld ?_; rotate_left 1; (focus (intro wq hSw; (try dsimp only at hSw);  go_simp <;> with_reducible rfl))) | (refine wpAnyH_take (i := 13) (v := undef) (Reg.get rfl) (by kernel_rfl) (by kernel_rfl) (by kernel_rfl) (fun _ _ _ h => h) (Or.inr ⟨by rfl, rfl⟩) hHeld ?_)
            try simp only [Act.put, List.setIfInBounds_toArray, List.set_cons_zero, List.set_cons_succ]
            first | ((refine wpAnyH_take (i := 9) (v := undef) (Reg.get rfl) (by kernel_rfl) (by kernel_rfl) (by kernel_rfl) (fun _ _ _ h => h) (Or.inr ⟨by rfl, rfl⟩) hHeld ?_)) | (refine wpAnyH_ready (rs := [9]) (by kernel_rfl) (by simp) ?_; refine AllReadyH.cons (Reg.get rfl) (fun K hK => ?_) AllReadyH.nil; clear hHeld; go_simp; (first | (((with_reducible (go_at_call 25; refine (HS.out _).mono ?_)); rintro x wn ⟨rfl, hb⟩; replace q0 := Mem.lift hb q0; replace q1 := Mem.lift hb q1; replace q2 := Mem.lift hb q2; replace q3 := Mem.lift hb q3; replace d0 := Mem.lift hb d0; replace d1 := Mem.lift hb d1; replace d2 := Mem.lift hb d2; replace d3 := Mem.lift hb d3; (first | (replace hbr := stepB hbr hb hbr.size) | (replace hbr := stepB (below_drewN hbr _) hb hbr.size) | (replace hbr := stepB hbr.drew hb hbr.size)); clear hb)) | (((with_reducible (go_at_call 10; refine (HS2.out _).mono ?_)); rintro x wn ⟨rfl, hb⟩; replace q0 := Mem.lift hb q0; replace q1 := Mem.lift hb q1; replace q2 := Mem.lift hb q2; replace q3 := Mem.lift hb q3; replace d0 := Mem.lift hb d0; replace d1 := Mem.lift hb d1; replace d2 := Mem.lift hb d2; replace d3 := Mem.lift hb d3; (first | (replace hbr := stepB hbr hb hbr.size) | (replace hbr := stepB (below_drewN hbr _) hb hbr.size) | (replace hbr := stepB hbr.drew hb hbr.size)); clear hb)) | (((with_reducible (go_at_call 10; refine (HZ.out _).mono ?_)); rintro x wn ⟨rfl, hb⟩; replace q0 := Mem.lift hb q0; replace q1 := Mem.lift hb q1; replace q2 := Mem.lift hb q2; replace q3 := Mem.lift hb q3; replace d0 := Mem.lift hb d0; replace d1 := Mem.lift hb d1; replace d2 := Mem.lift hb d2; replace d3 := Mem.lift hb d3; (first | (replace hbr := stepB hbr hb hbr.size) | (replace hbr := stepB (below_drewN hbr _) hb hbr.size) | (replace hbr := stepB hbr.drew hb hbr.size)); clear hb))); refine hK.out _ _ ?_ (fun hHeld => ?_); ((try dsimp only); (first | exact ⟨q0, q1, q2, q3, d0, d1, d2, d3⟩ | go_keep)); clear hK K)
            try simp only [Act.put, List.setIfInBounds_toArray, List.set_cons_zero, List.set_cons_succ]
            first | ((refine wpAnyH_take (i := 14) (v := undef) (Reg.get rfl) (by kernel_rfl) (by kernel_rfl) (by kernel_rfl) (fun _ _ _ h => h) (Or.inr ⟨by rfl, rfl⟩) hHeld ?_)) | (refine wpAnyH_ready (rs := [14]) (by kernel_rfl) (by simp) ?_; refine AllReadyH.cons (Reg.get rfl) (fun K hK => ?_) AllReadyH.nil; clear hHeld; go_simp; (first | (((with_reducible (go_at_call 25; refine (HS.out _).mono ?_)); rintro x wn ⟨rfl, hb⟩; replace q0 := Mem.lift hb q0; replace q1 := Mem.lift hb q1; replace q2 := Mem.lift hb q2; replace q3 := Mem.lift hb q3; replace d0 := Mem.lift hb d0; replace d1 := Mem.lift hb d1; replace d2 := Mem.lift hb d2; replace d3 := Mem.lift hb d3; (first | (replace hbr := stepB hbr hb hbr.size) | (replace hbr := stepB (below_drewN hbr _) hb hbr.size) | (replace hbr := stepB hbr.drew hb hbr.size)); clear hb)) | (((with_reducible (go_at_call 10; refine (HS2.out _).mono ?_)); rintro x wn ⟨rfl, hb⟩; replace q0 := Mem.lift hb q0; replace q1 := Mem.lift hb q1; replace q2 := Mem.lift hb q2; replace q3 := Mem.lift hb q3; replace d0 := Mem.lift hb d0; replace d1 := Mem.lift hb d1; replace d2 := Mem.lift hb d2; replace d3 := Mem.lift hb d3; (first | (replace hbr := stepB hbr hb hbr.size) | (replace hbr := stepB (below_drewN hbr _) hb hbr.size) | (replace hbr := stepB hbr.drew hb hbr.size)); clear hb)) | (((with_reducible (go_at_call 10; refine (HZ.out _).mono ?_)); rintro x wn ⟨rfl, hb⟩; replace q0 := Mem.lift hb q0; replace q1 := Mem.lift hb q1; replace q2 := Mem.lift hb q2; replace q3 := Mem.lift hb q3; replace d0 := Mem.lift hb d0; replace d1 := Mem.lift hb d1; replace d2 := Mem.lift hb d2; replace d3 := Mem.lift hb d3; (first | (replace hbr := stepB hbr hb hbr.size) | (replace hbr := stepB (below_drewN hbr _) hb hbr.size) | (replace hbr := stepB hbr.drew hb hbr.size)); clear hb))); refine hK.out _ _ ?_ (fun hHeld => ?_); ((try dsimp only); (first | exact ⟨q0, q1, q2, q3, d0, d1, d2, d3⟩ | go_keep)); clear hK K)
            try simp only [Act.put, List.setIfInBounds_toArray, List.set_cons_zero, List.set_cons_succ]
            first | (refine wpAnyH_take (i := 15) (v := ?_) (Reg.get rfl) (by kernel_rfl) (by kernel_rfl) (by kernel_rfl) (fun _ _ _ h => h) (Or.inl ⟨by rfl, ?_⟩) hHeld ?_; rotate_left 1; (focus (intro wq hSw; (try dsimp only at hSw);  go_simp <;> with_reducible rfl))) | (refine wpAnyH_take (i := 15) (v := undef) (Reg.get rfl) (by kernel_rfl) (by kernel_rfl) (by kernel_rfl) (fun _ _ _ h => h) (Or.inr ⟨by rfl, rfl⟩) hHeld ?_)
            try simp only [Act.put, List.setIfInBounds_toArray, List.set_cons_zero, List.set_cons_succ]
            first | (refine wpAnyH_take (i := 16) (v := ?_) (Reg.get rfl) (by kernel_rfl) (by kernel_rfl) (by kernel_rfl) (fun _ _ _ h => h) (Or.inl ⟨by rfl, ?_⟩) hHeld ?_; rotate_left 1; (focus (intro wq hSw; (try dsimp only at hSw);  go_simp <;> with_reducible rfl))) | (refine wpAnyH_take (i := 16) (v := undef) (Reg.get rfl) (by kernel_rfl) (by kernel_rfl) (by kernel_rfl) (fun _ _ _ h => h) (Or.inr ⟨by rfl, rfl⟩) hHeld ?_)
            try simp only [Act.put, List.setIfInBounds_toArray, List.set_cons_zero, List.set_cons_succ]
            first | (refine wpAnyH_take (i := 17) (v := ?_) (Reg.get rfl) (by kernel_rfl) (by kernel_rfl) (by kernel_rfl) (fun _ _ _ h => h) (Or.inl ⟨by rfl, ?_⟩) hHeld ?_; rotate_left 1; (focus (intro wq hSw; (try dsimp only at hSw);  go_simp <;> with_reducible rfl))) | (refine wpAnyH_take (i := 17) (v := undef) (Reg.get rfl) (by kernel_rfl) (by kernel_rfl) (by kernel_rfl) (fun _ _ _ h => h) (Or.inr ⟨by rfl, rfl⟩) hHeld ?_)
            try simp only [Act.put, List.setIfInBounds_toArray, List.set_cons_zero, List.set_cons_succ]
            refine wpAnyH_done (by kernel_rfl) ?_ _
            all_goals
              go_wp2
              go_roundw
              case rel => exact ⟨k + 1, by omega, by rw [HF.out], by go_num, by first | exact hbr | exact hbr.drew | exact below_drewN hbr _⟩
              case measure => simp [intOf]; omega
    · obtain rfl : k = n := by omega
      go_wp2
      go_ret
      exact ⟨rfl, hbr⟩
end Go.Proofs.Ytikolopdkjocgaa.Scn
