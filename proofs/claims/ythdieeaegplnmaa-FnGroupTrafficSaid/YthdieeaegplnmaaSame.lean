/- The laws' comparison of lists of byte slices. -/
import Derived.Test.YthdieeaegplnmaaBaseS
namespace Go.Proofs.Ythdieeaegplnmaa.SS
open Go.RowKit
open Go.Proofs.Ythdieeaegplnmaa.Num Go.Proofs.Ythdieeaegplnmaa.Mem Go.Proofs.Ythdieeaegplnmaa.Hsh Go.Proofs.Ythdieeaegplnmaa.Sls Go.Proofs.Ythdieeaegplnmaa.Own
set_option linter.unusedSimpArgs false
set_option maxHeartbeats 1000000 in
theorem eqSS_same (A : Option Addr) (n c : Nat) (xs : List (List Int)) (B : Option Addr) (m d : Nat) (ys : List (List Int)) (w : World) (hx : RdSS w A n c xs) (hy : RdSS w B m d ys) :
    Calls Try.prog 30 #[.slice A n c, .slice B m d] w (Says (xs = ys) w) := by
  have hl := Lib.hid hx.1
  have hk := Lib.hid hy.1
  have hn : n ≤ 9223372036854775807 := by have h1 := hx.2.1; have h2 := hx.2.2.1; unfold maxLen at h2; omega
  have HX := Lib.hid hx
  have HY := Lib.hid hy
  clear hx hy
  by_cases hnm : n = m
  · obtain rfl : m = n := hnm.symm
    go_enter Try.func30, Try.ntmps30
    go_wp2
    go_loopw [5] (fun v5 wr => ∃ k : Nat, k ≤ m ∧ v5 = .int .i64 (k : Int) ∧ xs.take k = ys.take k ∧ Below w.heap.size w wr) (fun v5 _ => m - (intOf v5).toNat)
    case atStart => exact ⟨0, Nat.zero_le _, rfl, rfl, Below.refl _ _⟩
    case round =>
      obtain ⟨k, hkm, rfl, heq, hbr⟩ := hrel
      have HE := Lib.hid heq
      clear heq
      by_cases hlt : k < m
      · obtain ⟨g, o, A', n', c', rfl, hg, hc, hrd⟩ := (HX.out.below hbr).at_ hlt
        obtain ⟨g2, o2, B', m', d', rfl, hg2, hc2, hrd2⟩ := (HY.out.below hbr).at_ hlt
        have HS := Lib.hid (fun he => ss_eq_step (k := k) (by rw [hl.out]; exact hlt) (by rw [hk.out]; exact hlt) HE.out he)
        have HN := Lib.hid (fun (hne : ¬ xs.getD k [] = ys.getD k []) (e : xs = ys) => hne (by rw [e]))
        have i0 : (0 : Int) ≤ (k : Int) := by omega
        have i1 : (k : Int) < (m : Int) := by omega
        have HB := Lib.hid hbr
        have HC := Lib.hid (show Calls Try.prog 50 #[.slice A' n' c', .slice B' m' d'] (wr.drewN 1) (Says (xs.getD k [] = ys.getD k []) (wr.drewN 1)) from sameBytes_laws A' n' c' (xs.getD k []) B' m' d' (ys.getD k []) _ (hrd.drewN 1) (hrd2.drewN 1))
        clear hbr hg hg2 hrd hrd2
        generalize xs.getD k [] = x at *
        generalize ys.getD k [] = y at *
        by_cases hxy : x = y
        · have HY2 := Lib.hid (HS.out hxy)
          have HD := Lib.hid (decide_eq_true hxy)
          clear HS HN hxy
          go_wp2
          refine wp_region_held_drew (S := (fun w' => w'.cell? ⟨g, o + k, none⟩ = some (.slice A' n' c') ∧ w'.cell? ⟨g2, o2 + k, none⟩ = some (.slice B' m' d'))) (by kernel_rfl) ?_ (fun hHeld => ?_)
          · (try dsimp only); exact ⟨hc, hc2⟩
          first | refine Reg.tkA 0 (Reg.get rfl) hHeld ?_ | refine Reg.tkB 0 (Reg.get rfl) hHeld ?_
          try simp only [Act.put, List.setIfInBounds_toArray, List.set_cons_zero, List.set_cons_succ]
          first | refine Reg.tkA 1 (Reg.get rfl) hHeld ?_ | refine Reg.tkB 1 (Reg.get rfl) hHeld ?_
          try simp only [Act.put, List.setIfInBounds_toArray, List.set_cons_zero, List.set_cons_succ]
          first | refine Reg.tkA 2 (Reg.get rfl) hHeld ?_ | refine Reg.tkB 2 (Reg.get rfl) hHeld ?_
          try simp only [Act.put, List.setIfInBounds_toArray, List.set_cons_zero, List.set_cons_succ]
          first | refine Reg.tkA 3 (Reg.get rfl) hHeld ?_ | refine Reg.tkB 3 (Reg.get rfl) hHeld ?_
          try simp only [Act.put, List.setIfInBounds_toArray, List.set_cons_zero, List.set_cons_succ]
          first | refine Reg.tkA 4 (Reg.get rfl) hHeld ?_ | refine Reg.tkB 4 (Reg.get rfl) hHeld ?_
          try simp only [Act.put, List.setIfInBounds_toArray, List.set_cons_zero, List.set_cons_succ]
          first | refine Reg.tkA 5 (Reg.get rfl) hHeld ?_ | refine Reg.tkB 5 (Reg.get rfl) hHeld ?_
          try simp only [Act.put, List.setIfInBounds_toArray, List.set_cons_zero, List.set_cons_succ]
          first | refine Reg.tkA 6 (Reg.get rfl) hHeld ?_ | refine Reg.tkB 6 (Reg.get rfl) hHeld ?_
          try simp only [Act.put, List.setIfInBounds_toArray, List.set_cons_zero, List.set_cons_succ]
          first | refine Reg.tkA 7 (Reg.get rfl) hHeld ?_ | refine Reg.tkB 7 (Reg.get rfl) hHeld ?_
          try simp only [Act.put, List.setIfInBounds_toArray, List.set_cons_zero, List.set_cons_succ]
          first | ((refine Reg.tkB 8 (Reg.get rfl) hHeld ?_)) | (refine wpAnyH_ready (rs := [8]) (by kernel_rfl) (by simp) ?_; refine AllReadyH.cons (Reg.get rfl) (fun K hK => ?_) AllReadyH.nil; clear hHeld; go_simp; (first | ((go_at_call 50; refine HC.out.mono ?_; rintro e wn ⟨rfl, hb⟩; rw [HD.out]; replace hc := Mem.lift hb hc; replace hc2 := Mem.lift hb hc2; have HB2 := Lib.hid (stepB (Sls.below_drewN HB.out 1) hb HB.out.size); clear hb HC))); refine hK.out _ _ ?_ (fun hHeld => ?_); ((try dsimp only); exact ⟨hc, hc2⟩); clear hK K)
          try simp only [Act.put, List.setIfInBounds_toArray, List.set_cons_zero, List.set_cons_succ]
          first | refine Reg.tkA 9 (Reg.get rfl) hHeld ?_ | refine Reg.tkB 9 (Reg.get rfl) hHeld ?_
          try simp only [Act.put, List.setIfInBounds_toArray, List.set_cons_zero, List.set_cons_succ]
          refine wpAnyH_done (by kernel_rfl) ?_ _
          go_wp2
          go_roundw
          case rel => exact ⟨k + 1, by omega, by go_num, HY2.out, HB2.out⟩
          case measure => simp [intOf]; omega
        · have HN2 := Lib.hid (HN.out hxy)
          have HD := Lib.hid (decide_eq_false hxy)
          clear HS HN hxy
          go_wp2
          refine wp_region_held_drew (S := (fun w' => w'.cell? ⟨g, o + k, none⟩ = some (.slice A' n' c') ∧ w'.cell? ⟨g2, o2 + k, none⟩ = some (.slice B' m' d'))) (by kernel_rfl) ?_ (fun hHeld => ?_)
          · (try dsimp only); exact ⟨hc, hc2⟩
          first | refine Reg.tkA 0 (Reg.get rfl) hHeld ?_ | refine Reg.tkB 0 (Reg.get rfl) hHeld ?_
          try simp only [Act.put, List.setIfInBounds_toArray, List.set_cons_zero, List.set_cons_succ]
          first | refine Reg.tkA 1 (Reg.get rfl) hHeld ?_ | refine Reg.tkB 1 (Reg.get rfl) hHeld ?_
          try simp only [Act.put, List.setIfInBounds_toArray, List.set_cons_zero, List.set_cons_succ]
          first | refine Reg.tkA 2 (Reg.get rfl) hHeld ?_ | refine Reg.tkB 2 (Reg.get rfl) hHeld ?_
          try simp only [Act.put, List.setIfInBounds_toArray, List.set_cons_zero, List.set_cons_succ]
          first | refine Reg.tkA 3 (Reg.get rfl) hHeld ?_ | refine Reg.tkB 3 (Reg.get rfl) hHeld ?_
          try simp only [Act.put, List.setIfInBounds_toArray, List.set_cons_zero, List.set_cons_succ]
          first | refine Reg.tkA 4 (Reg.get rfl) hHeld ?_ | refine Reg.tkB 4 (Reg.get rfl) hHeld ?_
          try simp only [Act.put, List.setIfInBounds_toArray, List.set_cons_zero, List.set_cons_succ]
          first | refine Reg.tkA 5 (Reg.get rfl) hHeld ?_ | refine Reg.tkB 5 (Reg.get rfl) hHeld ?_
          try simp only [Act.put, List.setIfInBounds_toArray, List.set_cons_zero, List.set_cons_succ]
          first | refine Reg.tkA 6 (Reg.get rfl) hHeld ?_ | refine Reg.tkB 6 (Reg.get rfl) hHeld ?_
          try simp only [Act.put, List.setIfInBounds_toArray, List.set_cons_zero, List.set_cons_succ]
          first | refine Reg.tkA 7 (Reg.get rfl) hHeld ?_ | refine Reg.tkB 7 (Reg.get rfl) hHeld ?_
          try simp only [Act.put, List.setIfInBounds_toArray, List.set_cons_zero, List.set_cons_succ]
          first | ((refine Reg.tkB 8 (Reg.get rfl) hHeld ?_)) | (refine wpAnyH_ready (rs := [8]) (by kernel_rfl) (by simp) ?_; refine AllReadyH.cons (Reg.get rfl) (fun K hK => ?_) AllReadyH.nil; clear hHeld; go_simp; (first | ((go_at_call 50; refine HC.out.mono ?_; rintro e wn ⟨rfl, hb⟩; rw [HD.out]; replace hc := Mem.lift hb hc; replace hc2 := Mem.lift hb hc2; have HB2 := Lib.hid (stepB (Sls.below_drewN HB.out 1) hb HB.out.size); clear hb HC))); refine hK.out _ _ ?_ (fun hHeld => ?_); ((try dsimp only); exact ⟨hc, hc2⟩); clear hK K)
          try simp only [Act.put, List.setIfInBounds_toArray, List.set_cons_zero, List.set_cons_succ]
          first | refine Reg.tkA 9 (Reg.get rfl) hHeld ?_ | refine Reg.tkB 9 (Reg.get rfl) hHeld ?_
          try simp only [Act.put, List.setIfInBounds_toArray, List.set_cons_zero, List.set_cons_succ]
          refine wpAnyH_done (by kernel_rfl) ?_ _
          go_wp2
          go_ret
          exact says_no HN2.out HB2.out
      · have HA := Lib.hid (show xs = ys by
          have h := HE.out
          rw [List.take_of_length_le (by rw [hl.out]; omega), List.take_of_length_le (by rw [hk.out]; omega)] at h
          exact h)
        have HB := Lib.hid hbr
        clear hbr
        go_wp2
        go_ret
        exact says_yes HA.out HB.out
  · have h1 : ((n : Int) == (m : Int)) = false := by rw [beq_eq_false_iff_ne]; omega
    have h2 : ((n : Int) != (m : Int)) = true := by rw [bne_iff_ne]; omega
    have hne := Lib.hid (show ¬ xs = ys from fun e => hnm (by rw [← hl.out, ← hk.out, e]))
    clear hnm
    go_enter Try.func30, Try.ntmps30
    go_wp2
    go_ret
    exact says_no hne.out (Below.refl _ _)
end Go.Proofs.Ythdieeaegplnmaa.SS
