/- Contracts of RunExchange, of the program. -/
import Derived.Test.YtbiipcgiionhpaaExch5
namespace Go.Proofs.Ytbiipcgiionhpaa.Exch
open Go.RowKit
open Go.Proofs.Ytbiipcgiionhpaa.Num Go.Proofs.Ytbiipcgiionhpaa.Mem Go.Proofs.Ytbiipcgiionhpaa.Hsh Go.Proofs.Ytbiipcgiionhpaa.Grp

theorem runLen_impl (A : Option Addr) (n c : Nat) (pa pb : Int) (w : World) (h : ¬ n = 4) : Calls Try.prog 17 #[.int .i64 pa, .int .i64 pb, .slice A n c] w fun x w' => x = .returned (.tuple #[.int .i64 0, .int .i64 0]) ∧ w = w' := by
  have h4 : ((n : Int) == 4) = false := by rw [beq_eq_false_iff_ne]; omega
  have h5 : ((n : Int) != 4) = true := by rw [bne_iff_ne]; omega
  go_enter Try.func17, Try.ntmps17
  go_wp2
  go_ret2
  exact ⟨rfl, rfl⟩
set_option maxRecDepth 100000 in
set_option maxHeartbeats 1000000 in
theorem run_impl (g o c : Nat) (pa pb s0 s1 s2 s3 : Int) (w : World) (c0 : w.cell? ⟨g, o, none⟩ = some (.int .i64 s0)) (c1 : w.cell? ⟨g, o + 1, none⟩ = some (.int .i64 s1)) (c2 : w.cell? ⟨g, o + 2, none⟩ = some (.int .i64 s2)) (c3 : w.cell? ⟨g, o + 3, none⟩ = some (.int .i64 s3)) :
    Calls Try.prog 17 #[.int .i64 pa, .int .i64 pb, .slice (some ⟨g, o, none⟩) 4 c] w (Ran pa pb s0 s1 s2 s3 w) := by
  have z0 : g < w.heap.size := World.block_lt_of_cell? _ _ c0
  have n0 : ¬ w.heap.size = g := by omega
  have n1 : ¬ g = w.heap.size := by omega
  have B : Below w.heap.size w w := Below.refl _ _
  have q0 := c0
  have q1 := c1
  go_enter Try.func17, Try.ntmps17
  go_upto_region 3 with fail
  go_cut [8, 9] (fun s8 s9 wx => At2 w.heap.size wx s8 (ncS pa s0 s1) (ncE pa s0 s1) ∧ s9 = .bool (ncB pa s0 s1) ∧ Below w.heap.size w wx)
  case first =>
    go_region_held3 (fun w' => w'.cell? ⟨g, o, none⟩ = some (.int .i64 s0) ∧ w'.cell? ⟨g, o + 1, none⟩ = some (.int .i64 s1)) (first | exact ⟨q0, q1⟩ | go_keep) (first | (go_at_call 13; refine (newCommit_impl _ _ _ _).mono ?_; rintro x wn ⟨rfl, hb0⟩; (first | (replace B := Mem.stepW B hb0) | (replace B := Mem.stepW B.drew hb0) | (replace B := Mem.stepW (B.alloc B.size _) hb0) | (replace B := Mem.stepW (B.drew.alloc B.size _) hb0) | (replace B := Mem.stepW ((B.alloc B.size _).drew) hb0)); have q0 := Mem.lift B c0; have q1 := Mem.lift B c1; obtain ⟨hc0, hf0⟩ := Mem.bcells hb0; clear hb0))
    all_goals
      go_wp2_with fail
      go_meet
      first | exact ⟨⟨_, rfl, B.size, by simp, by simp⟩, rfl, B.alloc B.size _⟩ | exact ⟨⟨_, rfl, Nat.le_refl _, by simp [go_sem, *], by simp [go_sem, *]⟩, rfl, (B.setCell (Nat.le_refl _) _).setCell (Nat.le_refl _) _⟩
  case rest =>
    clear B q0 q1
    obtain ⟨⟨ga, rfl, ga0, qa0, qa1⟩, rfl, B1⟩ := hcut
    have d2 := Mem.lift B1 c2
    have d3 := Mem.lift B1 c3
    have za := World.block_lt_of_cell? _ _ qa0
    have zs := B1.size
    have m0 : ¬ wc.heap.size = g := by omega
    have m1 : ¬ g = wc.heap.size := by omega
    have m2 : ¬ wc.heap.size = ga := by simp at za; omega
    have m3 : ¬ ga = wc.heap.size := by simp at za; omega
    have B : Below wc.heap.size wc wc := Below.refl _ _
    go_upto_region 4 with fail
    go_cut [10, 11] (fun s10 s11 wx => At2 w.heap.size wx s10 (ncS pb s2 s3) (ncE pb s2 s3) ∧ s11 = .bool (ncB pb s2 s3) ∧ Below wc.heap.size wc wx)
    case first =>
      have q0 := d2
      have q1 := d3
      go_region_held3 (fun w' => w'.cell? ⟨g, o + 2, none⟩ = some (.int .i64 s2) ∧ w'.cell? ⟨g, o + 3, none⟩ = some (.int .i64 s3)) (first | exact ⟨q0, q1⟩ | go_keep) (first | (go_at_call 13; refine (newCommit_impl _ _ _ _).mono ?_; rintro x wn ⟨rfl, hb0⟩; (first | (replace B := Mem.stepW B hb0) | (replace B := Mem.stepW B.drew hb0) | (replace B := Mem.stepW (B.alloc B.size _) hb0) | (replace B := Mem.stepW (B.drew.alloc B.size _) hb0) | (replace B := Mem.stepW ((B.alloc B.size _).drew) hb0)); have q0 := Mem.lift B d2; have q1 := Mem.lift B d3; obtain ⟨hc0, hf0⟩ := Mem.bcells hb0; clear hb0))
      all_goals
        go_wp2_with fail
        go_meet
        first | exact ⟨⟨_, rfl, Nat.le_trans zs B.size, by simp, by simp⟩, rfl, B.alloc B.size _⟩ | exact ⟨⟨_, rfl, zs, by simp [go_sem, *], by simp [go_sem, *]⟩, rfl, (B.setCell (Nat.le_refl _) _).setCell (Nat.le_refl _) _⟩
    case rest =>
      clear B m0 m1 m2 m3 za
      obtain ⟨⟨gb, rfl, gb0, qb0, qb1⟩, rfl, B2⟩ := hcut
      have BB := B1.trans (B2.mono zs)
      replace qa0 := Mem.lift B2 qa0
      replace qa1 := Mem.lift B2 qa1
      have d0 := Mem.lift BB c0
      replace d2 := Mem.lift BB c2
      clear d3 c0 c1 c2 c3 B1 B2 n0 n1 zs
      cases hA : ncB pa s0 s1
      · have hx := Lib.hid (show runOK pa pb s0 s1 s2 s3 = false by unfold runOK; rw [hA]; rfl)
        go_wp2
        go_ret2
        exact ran_off hx.out BB
      cases hB : ncB pb s2 s3
      · have hx := Lib.hid (show runOK pa pb s0 s1 s2 s3 = false by unfold runOK; rw [hA, hB]; rfl)
        go_wp2
        go_ret2
        exact ran_off hx.out BB
      cases hs : ncS pa s0 s1 == ncS pb s2 s3 && ncE pa s0 s1 == ncE pb s2 s3
      · have B : Below wc.heap.size wc wc := Below.refl _ _
        have hs' : (ncS pa s0 s1 == ncS pb s2 s3) = false ∨ (ncS pa s0 s1 == ncS pb s2 s3) = true ∧ (ncE pa s0 s1 == ncE pb s2 s3) = false := by
          cases h1 : ncS pa s0 s1 == ncS pb s2 s3
          · exact .inl rfl
          · rw [h1] at hs; exact .inr ⟨rfl, by simpa using hs⟩
        rcases hs' with hs1 | ⟨hs1, hs2⟩
        all_goals
          go_upto_region 7 with fail
          go_region_held3 (fun w' => w'.cell? ⟨g, o, none⟩ = some (.int .i64 s0) ∧ w'.cell? ⟨g, o + 2, none⟩ = some (.int .i64 s2) ∧ w'.cell? ⟨ga, 0, none⟩ = some (.int .i64 (ncS pa s0 s1)) ∧ w'.cell? ⟨ga, 1, none⟩ = some (.int .i64 (ncE pa s0 s1)) ∧ w'.cell? ⟨gb, 0, none⟩ = some (.int .i64 (ncS pb s2 s3)) ∧ w'.cell? ⟨gb, 1, none⟩ = some (.int .i64 (ncE pb s2 s3))) (first | exact ⟨e0, e2, f0, f1, h0, h1⟩ | exact ⟨d0, d2, qa0, qa1, qb0, qb1⟩ | go_keep) (first | (go_at_call 19; refine (shared_impl _ _ _ _ _).mono ?_; rintro x wn ⟨rfl, hb0⟩; (first | (replace B := Mem.stepW B hb0) | (replace B := Mem.stepW B.drew hb0) | (replace B := Mem.stepW (B.alloc B.size _) hb0) | (replace B := Mem.stepW (B.drew.alloc B.size _) hb0) | (replace B := Mem.stepW ((B.alloc B.size _).drew) hb0)); have e0 := Mem.lift B d0; have e2 := Mem.lift B d2; have f0 := Mem.lift B qa0; have f1 := Mem.lift B qa1; have h0 := Mem.lift B qb0; have h1 := Mem.lift B qb1; obtain ⟨hc0, hf0⟩ := Mem.bcells hb0; clear hb0) | (go_at_call 22; refine (confirm_impl _ _ _ _ _ _ (i64_small (shared_bd _ _ _ _) (by omega)) (i64_small (ncS_bd _ _ _) (by omega)) (i64_small (ncE_bd _ _ _) (by omega)) (i64_small (ncS_bd _ _ _) (by omega)) (i64_small (ncE_bd _ _ _) (by omega))).mono ?_; rintro x wn ⟨rfl, hb0⟩; (first | (replace B := Mem.stepW B hb0) | (replace B := Mem.stepW B.drew hb0) | (replace B := Mem.stepW (B.alloc B.size _) hb0) | (replace B := Mem.stepW (B.drew.alloc B.size _) hb0) | (replace B := Mem.stepW ((B.alloc B.size _).drew) hb0)); have e0 := Mem.lift B d0; have e2 := Mem.lift B d2; have f0 := Mem.lift B qa0; have f1 := Mem.lift B qa1; have h0 := Mem.lift B qb0; have h1 := Mem.lift B qb1; obtain ⟨hc0, hf0⟩ := Mem.bcells hb0; clear hb0))
          cases hx : sharedM pa s0 (ncS pb s2 s3) (ncE pb s2 s3) == 0
          · cases hy : sharedM pb s2 (ncS pa s0 s1) (ncE pa s0 s1) == 0
            · have hk : runOK pa pb s0 s1 s2 s3 = true := by unfold runOK; rw [hA, hB, hs, hx, hy]; rfl
              cases hcA : confirmM (sharedM pb s2 (ncS pa s0 s1) (ncE pa s0 s1)) (ncS pb s2 s3) (ncE pb s2 s3) (ncS pa s0 s1) (ncE pa s0 s1) == confirmM (sharedM pa s0 (ncS pb s2 s3) (ncE pb s2 s3)) (ncS pb s2 s3) (ncE pb s2 s3) (ncS pa s0 s1) (ncE pa s0 s1)
              all_goals
                first | (have HA := Lib.hid (runA_no hcA)) | (have HA := Lib.hid (runA_yes hk hcA))
                cases hcB : confirmM (sharedM pa s0 (ncS pb s2 s3) (ncE pb s2 s3)) (ncS pa s0 s1) (ncE pa s0 s1) (ncS pb s2 s3) (ncE pb s2 s3) == confirmM (sharedM pb s2 (ncS pa s0 s1) (ncE pa s0 s1)) (ncS pa s0 s1) (ncE pa s0 s1) (ncS pb s2 s3) (ncE pb s2 s3)
                all_goals
                  first | (have HB := Lib.hid (runB_no hcB)) | (have HB := Lib.hid (runB_yes hk hcB))
                  go_wp2_with fail
                  go_region_held3 (fun w' => w'.cell? ⟨g, o, none⟩ = some (.int .i64 s0) ∧ w'.cell? ⟨g, o + 2, none⟩ = some (.int .i64 s2) ∧ w'.cell? ⟨ga, 0, none⟩ = some (.int .i64 (ncS pa s0 s1)) ∧ w'.cell? ⟨ga, 1, none⟩ = some (.int .i64 (ncE pa s0 s1)) ∧ w'.cell? ⟨gb, 0, none⟩ = some (.int .i64 (ncS pb s2 s3)) ∧ w'.cell? ⟨gb, 1, none⟩ = some (.int .i64 (ncE pb s2 s3))) (first | exact ⟨e0, e2, f0, f1, h0, h1⟩ | exact ⟨d0, d2, qa0, qa1, qb0, qb1⟩ | go_keep) (first | (go_at_call 19; refine (shared_impl _ _ _ _ _).mono ?_; rintro x wn ⟨rfl, hb0⟩; (first | (replace B := Mem.stepW B hb0) | (replace B := Mem.stepW B.drew hb0) | (replace B := Mem.stepW (B.alloc B.size _) hb0) | (replace B := Mem.stepW (B.drew.alloc B.size _) hb0) | (replace B := Mem.stepW ((B.alloc B.size _).drew) hb0)); have e0 := Mem.lift B d0; have e2 := Mem.lift B d2; have f0 := Mem.lift B qa0; have f1 := Mem.lift B qa1; have h0 := Mem.lift B qb0; have h1 := Mem.lift B qb1; obtain ⟨hc0, hf0⟩ := Mem.bcells hb0; clear hb0) | (go_at_call 22; refine (confirm_impl _ _ _ _ _ _ (i64_small (shared_bd _ _ _ _) (by omega)) (i64_small (ncS_bd _ _ _) (by omega)) (i64_small (ncE_bd _ _ _) (by omega)) (i64_small (ncS_bd _ _ _) (by omega)) (i64_small (ncE_bd _ _ _) (by omega))).mono ?_; rintro x wn ⟨rfl, hb0⟩; (first | (replace B := Mem.stepW B hb0) | (replace B := Mem.stepW B.drew hb0) | (replace B := Mem.stepW (B.alloc B.size _) hb0) | (replace B := Mem.stepW (B.drew.alloc B.size _) hb0) | (replace B := Mem.stepW ((B.alloc B.size _).drew) hb0)); have e0 := Mem.lift B d0; have e2 := Mem.lift B d2; have f0 := Mem.lift B qa0; have f1 := Mem.lift B qa1; have h0 := Mem.lift B qb0; have h1 := Mem.lift B qb1; obtain ⟨hc0, hf0⟩ := Mem.bcells hb0; clear hb0))
                  go_wp2_with fail
                  go_region_held3 (fun w' => w'.cell? ⟨g, o, none⟩ = some (.int .i64 s0) ∧ w'.cell? ⟨g, o + 2, none⟩ = some (.int .i64 s2) ∧ w'.cell? ⟨ga, 0, none⟩ = some (.int .i64 (ncS pa s0 s1)) ∧ w'.cell? ⟨ga, 1, none⟩ = some (.int .i64 (ncE pa s0 s1)) ∧ w'.cell? ⟨gb, 0, none⟩ = some (.int .i64 (ncS pb s2 s3)) ∧ w'.cell? ⟨gb, 1, none⟩ = some (.int .i64 (ncE pb s2 s3))) (first | exact ⟨e0, e2, f0, f1, h0, h1⟩ | exact ⟨d0, d2, qa0, qa1, qb0, qb1⟩ | go_keep) (first | (go_at_call 19; refine (shared_impl _ _ _ _ _).mono ?_; rintro x wn ⟨rfl, hb0⟩; (first | (replace B := Mem.stepW B hb0) | (replace B := Mem.stepW B.drew hb0) | (replace B := Mem.stepW (B.alloc B.size _) hb0) | (replace B := Mem.stepW (B.drew.alloc B.size _) hb0) | (replace B := Mem.stepW ((B.alloc B.size _).drew) hb0)); have e0 := Mem.lift B d0; have e2 := Mem.lift B d2; have f0 := Mem.lift B qa0; have f1 := Mem.lift B qa1; have h0 := Mem.lift B qb0; have h1 := Mem.lift B qb1; obtain ⟨hc0, hf0⟩ := Mem.bcells hb0; clear hb0) | (go_at_call 22; refine (confirm_impl _ _ _ _ _ _ (i64_small (shared_bd _ _ _ _) (by omega)) (i64_small (ncS_bd _ _ _) (by omega)) (i64_small (ncE_bd _ _ _) (by omega)) (i64_small (ncS_bd _ _ _) (by omega)) (i64_small (ncE_bd _ _ _) (by omega))).mono ?_; rintro x wn ⟨rfl, hb0⟩; (first | (replace B := Mem.stepW B hb0) | (replace B := Mem.stepW B.drew hb0) | (replace B := Mem.stepW (B.alloc B.size _) hb0) | (replace B := Mem.stepW (B.drew.alloc B.size _) hb0) | (replace B := Mem.stepW ((B.alloc B.size _).drew) hb0)); have e0 := Mem.lift B d0; have e2 := Mem.lift B d2; have f0 := Mem.lift B qa0; have f1 := Mem.lift B qa1; have h0 := Mem.lift B qb0; have h1 := Mem.lift B qb1; obtain ⟨hc0, hf0⟩ := Mem.bcells hb0; clear hb0))
                  go_wp2_with (first | (go_at_call 21; refine (master_impl _ _ _ _ _ _ (i64_small (shared_bd _ _ _ _) (by omega))).mono ?_; rintro x wn ⟨rfl, hb0⟩; (first | (replace B := Mem.stepW B hb0) | (replace B := Mem.stepW B.drew hb0) | (replace B := Mem.stepW (B.alloc B.size _) hb0) | (replace B := Mem.stepW (B.drew.alloc B.size _) hb0) | (replace B := Mem.stepW ((B.alloc B.size _).drew) hb0)); have e0 := Mem.lift B d0; have e2 := Mem.lift B d2; have f0 := Mem.lift B qa0; have f1 := Mem.lift B qa1; have h0 := Mem.lift B qb0; have h1 := Mem.lift B qb1; obtain ⟨hc0, hf0⟩ := Mem.bcells hb0; clear hb0))
                  go_region_held3 (fun w' => w'.cell? ⟨g, o, none⟩ = some (.int .i64 s0) ∧ w'.cell? ⟨g, o + 2, none⟩ = some (.int .i64 s2) ∧ w'.cell? ⟨ga, 0, none⟩ = some (.int .i64 (ncS pa s0 s1)) ∧ w'.cell? ⟨ga, 1, none⟩ = some (.int .i64 (ncE pa s0 s1)) ∧ w'.cell? ⟨gb, 0, none⟩ = some (.int .i64 (ncS pb s2 s3)) ∧ w'.cell? ⟨gb, 1, none⟩ = some (.int .i64 (ncE pb s2 s3))) (first | exact ⟨e0, e2, f0, f1, h0, h1⟩ | exact ⟨d0, d2, qa0, qa1, qb0, qb1⟩ | go_keep) (first | (go_at_call 19; refine (shared_impl _ _ _ _ _).mono ?_; rintro x wn ⟨rfl, hb0⟩; (first | (replace B := Mem.stepW B hb0) | (replace B := Mem.stepW B.drew hb0) | (replace B := Mem.stepW (B.alloc B.size _) hb0) | (replace B := Mem.stepW (B.drew.alloc B.size _) hb0) | (replace B := Mem.stepW ((B.alloc B.size _).drew) hb0)); have e0 := Mem.lift B d0; have e2 := Mem.lift B d2; have f0 := Mem.lift B qa0; have f1 := Mem.lift B qa1; have h0 := Mem.lift B qb0; have h1 := Mem.lift B qb1; obtain ⟨hc0, hf0⟩ := Mem.bcells hb0; clear hb0) | (go_at_call 22; refine (confirm_impl _ _ _ _ _ _ (i64_small (shared_bd _ _ _ _) (by omega)) (i64_small (ncS_bd _ _ _) (by omega)) (i64_small (ncE_bd _ _ _) (by omega)) (i64_small (ncS_bd _ _ _) (by omega)) (i64_small (ncE_bd _ _ _) (by omega))).mono ?_; rintro x wn ⟨rfl, hb0⟩; (first | (replace B := Mem.stepW B hb0) | (replace B := Mem.stepW B.drew hb0) | (replace B := Mem.stepW (B.alloc B.size _) hb0) | (replace B := Mem.stepW (B.drew.alloc B.size _) hb0) | (replace B := Mem.stepW ((B.alloc B.size _).drew) hb0)); have e0 := Mem.lift B d0; have e2 := Mem.lift B d2; have f0 := Mem.lift B qa0; have f1 := Mem.lift B qa1; have h0 := Mem.lift B qb0; have h1 := Mem.lift B qb1; obtain ⟨hc0, hf0⟩ := Mem.bcells hb0; clear hb0))
                  go_wp2_with (first | (go_at_call 21; refine (master_impl _ _ _ _ _ _ (i64_small (shared_bd _ _ _ _) (by omega))).mono ?_; rintro x wn ⟨rfl, hb0⟩; (first | (replace B := Mem.stepW B hb0) | (replace B := Mem.stepW B.drew hb0) | (replace B := Mem.stepW (B.alloc B.size _) hb0) | (replace B := Mem.stepW (B.drew.alloc B.size _) hb0) | (replace B := Mem.stepW ((B.alloc B.size _).drew) hb0)); have e0 := Mem.lift B d0; have e2 := Mem.lift B d2; have f0 := Mem.lift B qa0; have f1 := Mem.lift B qa1; have h0 := Mem.lift B qb0; have h1 := Mem.lift B qb1; obtain ⟨hc0, hf0⟩ := Mem.bcells hb0; clear hb0))
                  go_ret2
                  exact ran_on HA.out HB.out (BB.trans (B.mono BB.size))
            · have hk := Lib.hid (show runOK pa pb s0 s1 s2 s3 = false by unfold runOK; rw [hA, hB, hs, hx, hy]; rfl)
              go_wp2_with fail
              go_region_held3 (fun w' => w'.cell? ⟨g, o, none⟩ = some (.int .i64 s0) ∧ w'.cell? ⟨g, o + 2, none⟩ = some (.int .i64 s2) ∧ w'.cell? ⟨ga, 0, none⟩ = some (.int .i64 (ncS pa s0 s1)) ∧ w'.cell? ⟨ga, 1, none⟩ = some (.int .i64 (ncE pa s0 s1)) ∧ w'.cell? ⟨gb, 0, none⟩ = some (.int .i64 (ncS pb s2 s3)) ∧ w'.cell? ⟨gb, 1, none⟩ = some (.int .i64 (ncE pb s2 s3))) (first | exact ⟨e0, e2, f0, f1, h0, h1⟩ | exact ⟨d0, d2, qa0, qa1, qb0, qb1⟩ | go_keep) (first | (go_at_call 19; refine (shared_impl _ _ _ _ _).mono ?_; rintro x wn ⟨rfl, hb0⟩; (first | (replace B := Mem.stepW B hb0) | (replace B := Mem.stepW B.drew hb0) | (replace B := Mem.stepW (B.alloc B.size _) hb0) | (replace B := Mem.stepW (B.drew.alloc B.size _) hb0) | (replace B := Mem.stepW ((B.alloc B.size _).drew) hb0)); have e0 := Mem.lift B d0; have e2 := Mem.lift B d2; have f0 := Mem.lift B qa0; have f1 := Mem.lift B qa1; have h0 := Mem.lift B qb0; have h1 := Mem.lift B qb1; obtain ⟨hc0, hf0⟩ := Mem.bcells hb0; clear hb0) | (go_at_call 22; refine (confirm_impl _ _ _ _ _ _ (i64_small (shared_bd _ _ _ _) (by omega)) (i64_small (ncS_bd _ _ _) (by omega)) (i64_small (ncE_bd _ _ _) (by omega)) (i64_small (ncS_bd _ _ _) (by omega)) (i64_small (ncE_bd _ _ _) (by omega))).mono ?_; rintro x wn ⟨rfl, hb0⟩; (first | (replace B := Mem.stepW B hb0) | (replace B := Mem.stepW B.drew hb0) | (replace B := Mem.stepW (B.alloc B.size _) hb0) | (replace B := Mem.stepW (B.drew.alloc B.size _) hb0) | (replace B := Mem.stepW ((B.alloc B.size _).drew) hb0)); have e0 := Mem.lift B d0; have e2 := Mem.lift B d2; have f0 := Mem.lift B qa0; have f1 := Mem.lift B qa1; have h0 := Mem.lift B qb0; have h1 := Mem.lift B qb1; obtain ⟨hc0, hf0⟩ := Mem.bcells hb0; clear hb0))
              go_wp2
              go_ret2
              exact ran_off hk.out (BB.trans (B.mono BB.size))
          · have hk := Lib.hid (show runOK pa pb s0 s1 s2 s3 = false by unfold runOK; rw [hA, hB, hs, hx]; rfl)
            go_wp2_with fail
            go_region_held3 (fun w' => w'.cell? ⟨g, o, none⟩ = some (.int .i64 s0) ∧ w'.cell? ⟨g, o + 2, none⟩ = some (.int .i64 s2) ∧ w'.cell? ⟨ga, 0, none⟩ = some (.int .i64 (ncS pa s0 s1)) ∧ w'.cell? ⟨ga, 1, none⟩ = some (.int .i64 (ncE pa s0 s1)) ∧ w'.cell? ⟨gb, 0, none⟩ = some (.int .i64 (ncS pb s2 s3)) ∧ w'.cell? ⟨gb, 1, none⟩ = some (.int .i64 (ncE pb s2 s3))) (first | exact ⟨e0, e2, f0, f1, h0, h1⟩ | exact ⟨d0, d2, qa0, qa1, qb0, qb1⟩ | go_keep) (first | (go_at_call 19; refine (shared_impl _ _ _ _ _).mono ?_; rintro x wn ⟨rfl, hb0⟩; (first | (replace B := Mem.stepW B hb0) | (replace B := Mem.stepW B.drew hb0) | (replace B := Mem.stepW (B.alloc B.size _) hb0) | (replace B := Mem.stepW (B.drew.alloc B.size _) hb0) | (replace B := Mem.stepW ((B.alloc B.size _).drew) hb0)); have e0 := Mem.lift B d0; have e2 := Mem.lift B d2; have f0 := Mem.lift B qa0; have f1 := Mem.lift B qa1; have h0 := Mem.lift B qb0; have h1 := Mem.lift B qb1; obtain ⟨hc0, hf0⟩ := Mem.bcells hb0; clear hb0) | (go_at_call 22; refine (confirm_impl _ _ _ _ _ _ (i64_small (shared_bd _ _ _ _) (by omega)) (i64_small (ncS_bd _ _ _) (by omega)) (i64_small (ncE_bd _ _ _) (by omega)) (i64_small (ncS_bd _ _ _) (by omega)) (i64_small (ncE_bd _ _ _) (by omega))).mono ?_; rintro x wn ⟨rfl, hb0⟩; (first | (replace B := Mem.stepW B hb0) | (replace B := Mem.stepW B.drew hb0) | (replace B := Mem.stepW (B.alloc B.size _) hb0) | (replace B := Mem.stepW (B.drew.alloc B.size _) hb0) | (replace B := Mem.stepW ((B.alloc B.size _).drew) hb0)); have e0 := Mem.lift B d0; have e2 := Mem.lift B d2; have f0 := Mem.lift B qa0; have f1 := Mem.lift B qa1; have h0 := Mem.lift B qb0; have h1 := Mem.lift B qb1; obtain ⟨hc0, hf0⟩ := Mem.bcells hb0; clear hb0))
            go_wp2
            go_ret2
            exact ran_off hk.out (BB.trans (B.mono BB.size))
      · have hx := Lib.hid (show runOK pa pb s0 s1 s2 s3 = false by unfold runOK; rw [hA, hB, hs]; rfl)
        simp only [Bool.and_eq_true] at hs
        obtain ⟨hs1, hs2⟩ := hs
        go_wp2
        go_ret2
        exact ran_off hx.out BB
end Go.Proofs.Ytbiipcgiionhpaa.Exch
