/- Power buffers: the check of the reference. -/
import Derived.Test.YthdieeaegplnmaaPbV
namespace Go.Proofs.Ythdieeaegplnmaa.Pb
open Go.RowKit
open Go.Proofs.Ythdieeaegplnmaa.Num Go.Proofs.Ythdieeaegplnmaa.Mem Go.Proofs.Ythdieeaegplnmaa.Hsh Go.Proofs.Ythdieeaegplnmaa.Sls Go.Proofs.Ythdieeaegplnmaa.Own Go.Proofs.Ythdieeaegplnmaa.SS Go.Proofs.Ythdieeaegplnmaa.Gb
set_option linter.unusedSimpArgs false
set_option linter.unusedVariables false
def headK (p st lo : Int) (m : Nat) (ap : Bool) : Prop := (0 ≤ st ∧ st ≤ 15) ∧ p < st ∧ 0 ≤ lo ∧ m ≤ 6 ∧ (ap = true ∨ m = 0)
theorem head_cases2 (p st lo : Int) (m : Nat) (ap : Bool) :
    (¬ headK p st lo m ap ∧ ((st < 0 ∨ 15 < st) ∨ ((0 ≤ st ∧ st ≤ 15) ∧ decide (st ≤ p) = true) ∨ ((0 ≤ st ∧ st ≤ 15) ∧ decide (st ≤ p) = false ∧ decide ((6 : Int) < (m : Int)) = true) ∨ ((0 ≤ st ∧ st ≤ 15) ∧ decide (st ≤ p) = false ∧ decide ((6 : Int) < (m : Int)) = false ∧ ap = false ∧ decide ((0 : Int) < (m : Int)) = true) ∨ ((0 ≤ st ∧ st ≤ 15) ∧ decide (st ≤ p) = false ∧ decide ((6 : Int) < (m : Int)) = false ∧ ap = true ∧ decide (lo < 0) = true) ∨ ((0 ≤ st ∧ st ≤ 15) ∧ decide (st ≤ p) = false ∧ decide ((6 : Int) < (m : Int)) = false ∧ ap = false ∧ decide ((0 : Int) < (m : Int)) = false ∧ decide (lo < 0) = true))) ∨ (headK p st lo m ap ∧ (((0 ≤ st ∧ st ≤ 15) ∧ decide (st ≤ p) = false ∧ decide ((6 : Int) < (m : Int)) = false ∧ ap = true ∧ decide (lo < 0) = false) ∨ ((0 ≤ st ∧ st ≤ 15) ∧ decide (st ≤ p) = false ∧ decide ((6 : Int) < (m : Int)) = false ∧ ap = false ∧ decide ((0 : Int) < (m : Int)) = false ∧ decide (lo < 0) = false))) := by
  unfold headK
  cases ap <;> simp <;> omega
set_option maxRecDepth 100000 in
set_option maxHeartbeats 16000000 in
theorem validPb_spec (A : Option Addr) (n c : Nat) (ks : List Kt) (w : World) (hr : RdPB w A n c ks) :
    Calls Try.prog 70 #[.agg #[.slice A n c]] w (SaysG (validP ks n) w) := by
  have hn := hr.n64
  have HR := Lib.hid hr
  have B : Below w.heap.size w w := Below.refl _ _
  clear hr
  go_enter Try.func70, Try.ntmps70
  go_wp2_with fail
  go_loopw [3] (fun v3 wr => ∃ k : Nat, k ≤ n ∧ v3 = .int .i64 (k : Int) ∧ validP ks k ∧ Bk.Blk wr w.heap.size 39 #[.slice A n c] ∧ Below w.heap.size w wr) (fun v3 _ => n - (intOf v3).toNat)
  case atStart => exact ⟨0, Nat.zero_le _, rfl, validP_zero _, Bk.Blk.newAt rfl _ _, by go_grown⟩
  case round =>
    clear B
    obtain ⟨k, hk, rfl, hok, bp, B⟩ := hrel
    obtain ⟨w3, hw3⟩ : ∃ W, W = wr := ⟨_, rfl⟩
    subst hw3
    have HO := Lib.hid hok
    clear hok
    have z3g := B.size
    by_cases hlt : k < n
    · obtain ⟨g, o, A', n', c', rfl, hg, c0, c1, c2, c3, hrd⟩ := (HR.out.below B).at_ hlt
      have HN := Lib.hid hrd.1
      have hm' := ss64 hrd
      have HRD := Lib.hid hrd
      have HBD := Lib.hid (show okE (bef ks k) (nthK ks k) → validP ks (k + 1) from fun h => validP_succ HO.out h)
      have HNV := Lib.hid (show validP ks n → okE (bef ks k) (nthK ks k) from fun h => h k hlt)
      have HOE := Lib.hid (show okE (bef ks k) (nthK ks k) ↔ (((0 ≤ (nthK ks k).st ∧ (nthK ks k).st ≤ 15) ∧ bef ks k < (nthK ks k).st ∧ 0 ≤ (nthK ks k).lo ∧ (nthK ks k).fs.length ≤ 6 ∧ ((nthK ks k).ap = true ∨ (nthK ks k).fs.length = 0)) ∧ okF (nthK ks k).fs (nthK ks k).fs.length) from Iff.rfl)
      generalize okE (bef ks k) (nthK ks k) = OE at HBD HNV HOE
      have hkc : (k = 0 ∧ bef ks k = -1) ∨ (∃ j, k = j + 1 ∧ j < n ∧ bef ks k = (nthK ks j).st) := by
        rcases k with _ | j
        · exact .inl ⟨rfl, rfl⟩
        · exact .inr ⟨j, rfl, by omega, rfl⟩
      have hcs := head_cases2 (bef ks k) (nthK ks k).st (nthK ks k).lo n' (nthK ks k).ap
      clear hrd
      generalize (nthK ks k).st = st at *
      generalize (nthK ks k).ap = ap at *
      generalize (nthK ks k).lo = lo at *
      generalize (nthK ks k).fs = fs at *
      have hHD : headK (bef ks k) st lo n' ap ↔ ((0 ≤ st ∧ st ≤ 15) ∧ bef ks k < st ∧ 0 ≤ lo ∧ fs.length ≤ 6 ∧ (ap = true ∨ fs.length = 0)) := by unfold headK; rw [HN.out]
      have HX0 := Lib.hid (show ¬ headK (bef ks k) st lo n' ap → ¬ validP ks n from fun h hv => h (hHD.2 (HOE.out.1 (HNV.out hv)).1))
      have HY0 := Lib.hid (show headK (bef ks k) st lo n' ap → okF fs fs.length → OE from fun h hf => HOE.out.2 ⟨hHD.1 h, hf⟩)
      have HNF := Lib.hid (show OE → okF fs fs.length from fun h => (HOE.out.1 h).2)
      clear hHD
      generalize headK (bef ks k) st lo n' ap = HD at *
      rcases hkc with ⟨hk0, hb⟩ | ⟨j, hkj, hjn, hb⟩
      · rw [hb] at hcs
        have dk : decide ((0 : Int) < (k : Int)) = false := by simp; omega
        have dk2 : decide (0 < k) = false := by simp; omega
        clear hb hk0
        rcases hcs with ⟨h0, hcs⟩ | ⟨h0, hcs⟩
        · have HX := Lib.hid (HX0.out h0)
          replace hcs := hcs.elim (fun h => Or.inl h) (fun h => h.elim (fun h => absurd h.2 (by have := h.1; simp; omega)) (fun h => Or.inr h))
          rcases hcs with h1 | ⟨h1, h2, h3⟩ | ⟨h1, h2, h3, h4, h5⟩ | ⟨h1, h2, h3, h4, h6⟩ | ⟨h1, h2, h3, h4, h5, h6⟩
          all_goals
            (try (have H4 := Lib.hid h4; clear h4))
            have l_bp : w.heap.size < w3.heap.size := Bk.Blk.lt bp
            have c_bp0 : w3.cell? ⟨w.heap.size, 0, none⟩ = some (.slice (some ⟨g, o, none⟩) n c) := Bk.Blk.cell bp 0
            have f_bp0 : w3.frozen? ⟨w.heap.size, 0, none⟩ = false := Bk.Blk.fro bp 0
            go_wp2_with fail
            clear l_bp c_bp0 f_bp0
            generalize hW : World.alloc _ _ = w4
            have HRD4 := Lib.hid (show RdSS w4 A' n' c' fs from HRD.out.below (show Below w3.heap.size w3 w4 from by rw [← hW]; go_grown))
            have bx : Bk.Blk w4 (w3.heap.size) 95 #[.int .i64 st, .bool ap, .slice A' n' c', .int .i64 lo] := (by rw [← hW]; apply Bk.Blk.to; (focus (exact Bk.sv)); rfl)
            replace bp : Bk.Blk w4 (w.heap.size) 39 #[.slice (some ⟨g, o, none⟩) n c] := (by rw [← hW]; exact Bk.sv)
            replace B : Below w.heap.size w w4 := (by rw [← hW]; go_grown)
            have z4 : w4.heap.size = _ := congrArg (fun W : World => W.heap.size) hW.symm
            (try simp only [World.size_alloc, Bk.size_set, World.size_drew, World.drewN] at z4)
            clear hW
            have l_bx : w3.heap.size < w4.heap.size := Bk.Blk.lt bx
            have c_bx0 : w4.cell? ⟨w3.heap.size, 0, none⟩ = some (.int .i64 st) := Bk.Blk.cell bx 0
            have f_bx0 : w4.frozen? ⟨w3.heap.size, 0, none⟩ = false := Bk.Blk.fro bx 0
            have c_bx1 : w4.cell? ⟨w3.heap.size, 1, none⟩ = some (.bool ap) := Bk.Blk.cell bx 1
            have f_bx1 : w4.frozen? ⟨w3.heap.size, 1, none⟩ = false := Bk.Blk.fro bx 1
            have c_bx2 : w4.cell? ⟨w3.heap.size, 2, none⟩ = some (.slice A' n' c') := Bk.Blk.cell bx 2
            have f_bx2 : w4.frozen? ⟨w3.heap.size, 2, none⟩ = false := Bk.Blk.fro bx 2
            have c_bx3 : w4.cell? ⟨w3.heap.size, 3, none⟩ = some (.int .i64 lo) := Bk.Blk.cell bx 3
            have f_bx3 : w4.frozen? ⟨w3.heap.size, 3, none⟩ = false := Bk.Blk.fro bx 3
            have l_bp : w.heap.size < w4.heap.size := Bk.Blk.lt bp
            have c_bp0 : w4.cell? ⟨w.heap.size, 0, none⟩ = some (.slice (some ⟨g, o, none⟩) n c) := Bk.Blk.cell bp 0
            have f_bp0 : w4.frozen? ⟨w.heap.size, 0, none⟩ = false := Bk.Blk.fro bp 0
            (try (have h4 := H4.out))
            (try (have h5n := h5; simp only [Int.natCast_pos] at h5n))
            refine wp_region_held_drew (S := (fun w' => w'.cell? ⟨w3.heap.size, 0, none⟩ = some (.int .i64 st) ∧ w'.cell? ⟨w3.heap.size, 1, none⟩ = some (.bool ap) ∧ w'.cell? ⟨w3.heap.size, 2, none⟩ = some (.slice A' n' c') ∧ w'.cell? ⟨w3.heap.size, 3, none⟩ = some (.int .i64 lo) ∧ w'.cell? ⟨w.heap.size, 0, none⟩ = some (.slice (some ⟨g, o, none⟩) n c))) (by kernel_rfl) ?_ (fun hHeld => ?_)
            · (try dsimp only); exact ⟨c_bx0, c_bx1, c_bx2, c_bx3, c_bp0⟩
            first | refine Reg.tkA 0 (Reg.get rfl) hHeld ?_ | refine Reg.tkB 0 (Reg.get rfl) hHeld ?_
            try simp only [Act.put, List.setIfInBounds_toArray, List.set_cons_zero, List.set_cons_succ]
            first | refine Reg.tkA 1 (Reg.get rfl) hHeld ?_ | refine Reg.tkB 1 (Reg.get rfl) hHeld ?_
            try simp only [Act.put, List.setIfInBounds_toArray, List.set_cons_zero, List.set_cons_succ]
            first | ((refine Reg.tkB 2 (Reg.get rfl) hHeld ?_)) | (refine wpAnyH_ready (rs := [2]) (by kernel_rfl) (by simp) ?_; refine AllReadyH.cons (Reg.get rfl) (fun K hK => ?_) AllReadyH.nil; clear hHeld; go_simp; (first | ((go_at_call 72; (first | refine (in_spec_no st _ _ _ h1).mono ?_ | refine (in_spec_yes st _ _ _ h1.1 h1.2).mono ?_); rintro e w' ⟨rfl, rfl⟩))); refine hK.out _ _ ?_ (fun hHeld => ?_); ((try dsimp only); exact ⟨c_bx0, c_bx1, c_bx2, c_bx3, c_bp0⟩); clear hK K)
            try simp only [Act.put, List.setIfInBounds_toArray, List.set_cons_zero, List.set_cons_succ]
            first | refine Reg.tkA 3 (Reg.get rfl) hHeld ?_ | refine Reg.tkB 3 (Reg.get rfl) hHeld ?_
            try simp only [Act.put, List.setIfInBounds_toArray, List.set_cons_zero, List.set_cons_succ]
            first | refine Reg.tkA 4 (Reg.get rfl) hHeld ?_ | refine Reg.tkB 4 (Reg.get rfl) hHeld ?_
            try simp only [Act.put, List.setIfInBounds_toArray, List.set_cons_zero, List.set_cons_succ]
            first | refine Reg.tkA 5 (Reg.get rfl) hHeld ?_ | refine Reg.tkB 5 (Reg.get rfl) hHeld ?_
            try simp only [Act.put, List.setIfInBounds_toArray, List.set_cons_zero, List.set_cons_succ]
            first | refine Reg.tkA 6 (Reg.get rfl) hHeld ?_ | refine Reg.tkB 6 (Reg.get rfl) hHeld ?_
            try simp only [Act.put, List.setIfInBounds_toArray, List.set_cons_zero, List.set_cons_succ]
            first | refine Reg.tkA 7 (Reg.get rfl) hHeld ?_ | refine Reg.tkB 7 (Reg.get rfl) hHeld ?_
            try simp only [Act.put, List.setIfInBounds_toArray, List.set_cons_zero, List.set_cons_succ]
            first | refine Reg.tkA 8 (Reg.get rfl) hHeld ?_ | refine Reg.tkB 8 (Reg.get rfl) hHeld ?_
            try simp only [Act.put, List.setIfInBounds_toArray, List.set_cons_zero, List.set_cons_succ]
            first | refine Reg.tkA 9 (Reg.get rfl) hHeld ?_ | refine Reg.tkB 9 (Reg.get rfl) hHeld ?_
            try simp only [Act.put, List.setIfInBounds_toArray, List.set_cons_zero, List.set_cons_succ]
            first | refine Reg.tkA 10 (Reg.get rfl) hHeld ?_ | refine Reg.tkB 10 (Reg.get rfl) hHeld ?_
            try simp only [Act.put, List.setIfInBounds_toArray, List.set_cons_zero, List.set_cons_succ]
            first | refine Reg.tkA 11 (Reg.get rfl) hHeld ?_ | refine Reg.tkB 11 (Reg.get rfl) hHeld ?_
            try simp only [Act.put, List.setIfInBounds_toArray, List.set_cons_zero, List.set_cons_succ]
            first | refine Reg.tkA 12 (Reg.get rfl) hHeld ?_ | refine Reg.tkB 12 (Reg.get rfl) hHeld ?_
            try simp only [Act.put, List.setIfInBounds_toArray, List.set_cons_zero, List.set_cons_succ]
            first | refine Reg.tkA 13 (Reg.get rfl) hHeld ?_ | refine Reg.tkB 13 (Reg.get rfl) hHeld ?_
            try simp only [Act.put, List.setIfInBounds_toArray, List.set_cons_zero, List.set_cons_succ]
            first | refine Reg.tkA 14 (Reg.get rfl) hHeld ?_ | refine Reg.tkB 14 (Reg.get rfl) hHeld ?_
            try simp only [Act.put, List.setIfInBounds_toArray, List.set_cons_zero, List.set_cons_succ]
            first | refine Reg.tkA 15 (Reg.get rfl) hHeld ?_ | refine Reg.tkB 15 (Reg.get rfl) hHeld ?_
            try simp only [Act.put, List.setIfInBounds_toArray, List.set_cons_zero, List.set_cons_succ]
            first | refine Reg.tkA 16 (Reg.get rfl) hHeld ?_ | refine Reg.tkB 16 (Reg.get rfl) hHeld ?_
            try simp only [Act.put, List.setIfInBounds_toArray, List.set_cons_zero, List.set_cons_succ]
            first | refine Reg.tkA 17 (Reg.get rfl) hHeld ?_ | refine Reg.tkB 17 (Reg.get rfl) hHeld ?_
            try simp only [Act.put, List.setIfInBounds_toArray, List.set_cons_zero, List.set_cons_succ]
            first | refine Reg.tkA 18 (Reg.get rfl) hHeld ?_ | refine Reg.tkB 18 (Reg.get rfl) hHeld ?_
            try simp only [Act.put, List.setIfInBounds_toArray, List.set_cons_zero, List.set_cons_succ]
            first | refine Reg.tkA 19 (Reg.get rfl) hHeld ?_ | refine Reg.tkB 19 (Reg.get rfl) hHeld ?_
            try simp only [Act.put, List.setIfInBounds_toArray, List.set_cons_zero, List.set_cons_succ]
            first | refine Reg.tkA 20 (Reg.get rfl) hHeld ?_ | refine Reg.tkB 20 (Reg.get rfl) hHeld ?_
            try simp only [Act.put, List.setIfInBounds_toArray, List.set_cons_zero, List.set_cons_succ]
            first | refine Reg.tkA 21 (Reg.get rfl) hHeld ?_ | refine Reg.tkB 21 (Reg.get rfl) hHeld ?_
            try simp only [Act.put, List.setIfInBounds_toArray, List.set_cons_zero, List.set_cons_succ]
            first | refine Reg.tkA 22 (Reg.get rfl) hHeld ?_ | refine Reg.tkB 22 (Reg.get rfl) hHeld ?_
            try simp only [Act.put, List.setIfInBounds_toArray, List.set_cons_zero, List.set_cons_succ]
            first | refine Reg.tkA 23 (Reg.get rfl) hHeld ?_ | refine Reg.tkB 23 (Reg.get rfl) hHeld ?_
            try simp only [Act.put, List.setIfInBounds_toArray, List.set_cons_zero, List.set_cons_succ]
            first | refine Reg.tkA 24 (Reg.get rfl) hHeld ?_ | refine Reg.tkB 24 (Reg.get rfl) hHeld ?_
            try simp only [Act.put, List.setIfInBounds_toArray, List.set_cons_zero, List.set_cons_succ]
            first | refine Reg.tkA 25 (Reg.get rfl) hHeld ?_ | refine Reg.tkB 25 (Reg.get rfl) hHeld ?_
            try simp only [Act.put, List.setIfInBounds_toArray, List.set_cons_zero, List.set_cons_succ]
            first | refine Reg.tkA 26 (Reg.get rfl) hHeld ?_ | refine Reg.tkB 26 (Reg.get rfl) hHeld ?_
            try simp only [Act.put, List.setIfInBounds_toArray, List.set_cons_zero, List.set_cons_succ]
            first | refine Reg.tkA 27 (Reg.get rfl) hHeld ?_ | refine Reg.tkB 27 (Reg.get rfl) hHeld ?_
            try simp only [Act.put, List.setIfInBounds_toArray, List.set_cons_zero, List.set_cons_succ]
            first | refine Reg.tkA 28 (Reg.get rfl) hHeld ?_ | refine Reg.tkB 28 (Reg.get rfl) hHeld ?_
            try simp only [Act.put, List.setIfInBounds_toArray, List.set_cons_zero, List.set_cons_succ]
            first | refine Reg.tkA 29 (Reg.get rfl) hHeld ?_ | refine Reg.tkB 29 (Reg.get rfl) hHeld ?_
            try simp only [Act.put, List.setIfInBounds_toArray, List.set_cons_zero, List.set_cons_succ]
            first | refine Reg.tkA 30 (Reg.get rfl) hHeld ?_ | refine Reg.tkB 30 (Reg.get rfl) hHeld ?_
            try simp only [Act.put, List.setIfInBounds_toArray, List.set_cons_zero, List.set_cons_succ]
            first | refine Reg.tkA 31 (Reg.get rfl) hHeld ?_ | refine Reg.tkB 31 (Reg.get rfl) hHeld ?_
            try simp only [Act.put, List.setIfInBounds_toArray, List.set_cons_zero, List.set_cons_succ]
            first | refine Reg.tkA 32 (Reg.get rfl) hHeld ?_ | refine Reg.tkB 32 (Reg.get rfl) hHeld ?_
            try simp only [Act.put, List.setIfInBounds_toArray, List.set_cons_zero, List.set_cons_succ]
            first | refine Reg.tkA 33 (Reg.get rfl) hHeld ?_ | refine Reg.tkB 33 (Reg.get rfl) hHeld ?_
            try simp only [Act.put, List.setIfInBounds_toArray, List.set_cons_zero, List.set_cons_succ]
            first | refine Reg.tkA 34 (Reg.get rfl) hHeld ?_ | refine Reg.tkB 34 (Reg.get rfl) hHeld ?_
            try simp only [Act.put, List.setIfInBounds_toArray, List.set_cons_zero, List.set_cons_succ]
            first | refine Reg.tkA 35 (Reg.get rfl) hHeld ?_ | refine Reg.tkB 35 (Reg.get rfl) hHeld ?_
            try simp only [Act.put, List.setIfInBounds_toArray, List.set_cons_zero, List.set_cons_succ]
            first | refine Reg.tkA 36 (Reg.get rfl) hHeld ?_ | refine Reg.tkB 36 (Reg.get rfl) hHeld ?_
            try simp only [Act.put, List.setIfInBounds_toArray, List.set_cons_zero, List.set_cons_succ]
            first | refine Reg.tkA 37 (Reg.get rfl) hHeld ?_ | refine Reg.tkB 37 (Reg.get rfl) hHeld ?_
            try simp only [Act.put, List.setIfInBounds_toArray, List.set_cons_zero, List.set_cons_succ]
            first | refine Reg.tkA 38 (Reg.get rfl) hHeld ?_ | refine Reg.tkB 38 (Reg.get rfl) hHeld ?_
            try simp only [Act.put, List.setIfInBounds_toArray, List.set_cons_zero, List.set_cons_succ]
            first | refine Reg.tkA 39 (Reg.get rfl) hHeld ?_ | refine Reg.tkB 39 (Reg.get rfl) hHeld ?_
            try simp only [Act.put, List.setIfInBounds_toArray, List.set_cons_zero, List.set_cons_succ]
            first | refine Reg.tkA 40 (Reg.get rfl) hHeld ?_ | refine Reg.tkB 40 (Reg.get rfl) hHeld ?_
            try simp only [Act.put, List.setIfInBounds_toArray, List.set_cons_zero, List.set_cons_succ]
            first | refine Reg.tkA 41 (Reg.get rfl) hHeld ?_ | refine Reg.tkB 41 (Reg.get rfl) hHeld ?_
            try simp only [Act.put, List.setIfInBounds_toArray, List.set_cons_zero, List.set_cons_succ]
            refine wpAnyH_done (by kernel_rfl) ?_ _
            go_wp2
            go_ret
            exact saysG_no HX.out (by first | exact B | exact B.drew)
        · have HY := Lib.hid (HY0.out h0)
          rcases hcs with ⟨h1, h2, h3, h4, h6⟩ | ⟨h1, h2, h3, h4, h5, h6⟩
          all_goals
            (try (have H4 := Lib.hid h4; clear h4))
            have l_bp : w.heap.size < w3.heap.size := Bk.Blk.lt bp
            have c_bp0 : w3.cell? ⟨w.heap.size, 0, none⟩ = some (.slice (some ⟨g, o, none⟩) n c) := Bk.Blk.cell bp 0
            have f_bp0 : w3.frozen? ⟨w.heap.size, 0, none⟩ = false := Bk.Blk.fro bp 0
            go_wp2_with fail
            clear l_bp c_bp0 f_bp0
            generalize hW : World.alloc _ _ = w4
            have HRD4 := Lib.hid (show RdSS w4 A' n' c' fs from HRD.out.below (show Below w3.heap.size w3 w4 from by rw [← hW]; go_grown))
            have bx : Bk.Blk w4 (w3.heap.size) 95 #[.int .i64 st, .bool ap, .slice A' n' c', .int .i64 lo] := (by rw [← hW]; apply Bk.Blk.to; (focus (exact Bk.sv)); rfl)
            replace bp : Bk.Blk w4 (w.heap.size) 39 #[.slice (some ⟨g, o, none⟩) n c] := (by rw [← hW]; exact Bk.sv)
            replace B : Below w.heap.size w w4 := (by rw [← hW]; go_grown)
            have z4 : w4.heap.size = _ := congrArg (fun W : World => W.heap.size) hW.symm
            (try simp only [World.size_alloc, Bk.size_set, World.size_drew, World.drewN] at z4)
            clear hW
            have l_bx : w3.heap.size < w4.heap.size := Bk.Blk.lt bx
            have c_bx0 : w4.cell? ⟨w3.heap.size, 0, none⟩ = some (.int .i64 st) := Bk.Blk.cell bx 0
            have f_bx0 : w4.frozen? ⟨w3.heap.size, 0, none⟩ = false := Bk.Blk.fro bx 0
            have c_bx1 : w4.cell? ⟨w3.heap.size, 1, none⟩ = some (.bool ap) := Bk.Blk.cell bx 1
            have f_bx1 : w4.frozen? ⟨w3.heap.size, 1, none⟩ = false := Bk.Blk.fro bx 1
            have c_bx2 : w4.cell? ⟨w3.heap.size, 2, none⟩ = some (.slice A' n' c') := Bk.Blk.cell bx 2
            have f_bx2 : w4.frozen? ⟨w3.heap.size, 2, none⟩ = false := Bk.Blk.fro bx 2
            have c_bx3 : w4.cell? ⟨w3.heap.size, 3, none⟩ = some (.int .i64 lo) := Bk.Blk.cell bx 3
            have f_bx3 : w4.frozen? ⟨w3.heap.size, 3, none⟩ = false := Bk.Blk.fro bx 3
            have l_bp : w.heap.size < w4.heap.size := Bk.Blk.lt bp
            have c_bp0 : w4.cell? ⟨w.heap.size, 0, none⟩ = some (.slice (some ⟨g, o, none⟩) n c) := Bk.Blk.cell bp 0
            have f_bp0 : w4.frozen? ⟨w.heap.size, 0, none⟩ = false := Bk.Blk.fro bp 0
            (try (have h4 := H4.out))
            (try (have h5n := h5; simp only [Int.natCast_pos] at h5n))
            refine wp_region_held_drew (S := (fun w' => w'.cell? ⟨w3.heap.size, 0, none⟩ = some (.int .i64 st) ∧ w'.cell? ⟨w3.heap.size, 1, none⟩ = some (.bool ap) ∧ w'.cell? ⟨w3.heap.size, 2, none⟩ = some (.slice A' n' c') ∧ w'.cell? ⟨w3.heap.size, 3, none⟩ = some (.int .i64 lo) ∧ w'.cell? ⟨w.heap.size, 0, none⟩ = some (.slice (some ⟨g, o, none⟩) n c))) (by kernel_rfl) ?_ (fun hHeld => ?_)
            · (try dsimp only); exact ⟨c_bx0, c_bx1, c_bx2, c_bx3, c_bp0⟩
            first | refine Reg.tkA 0 (Reg.get rfl) hHeld ?_ | refine Reg.tkB 0 (Reg.get rfl) hHeld ?_
            try simp only [Act.put, List.setIfInBounds_toArray, List.set_cons_zero, List.set_cons_succ]
            first | refine Reg.tkA 1 (Reg.get rfl) hHeld ?_ | refine Reg.tkB 1 (Reg.get rfl) hHeld ?_
            try simp only [Act.put, List.setIfInBounds_toArray, List.set_cons_zero, List.set_cons_succ]
            first | ((refine Reg.tkB 2 (Reg.get rfl) hHeld ?_)) | (refine wpAnyH_ready (rs := [2]) (by kernel_rfl) (by simp) ?_; refine AllReadyH.cons (Reg.get rfl) (fun K hK => ?_) AllReadyH.nil; clear hHeld; go_simp; (first | ((go_at_call 72; (first | refine (in_spec_no st _ _ _ h1).mono ?_ | refine (in_spec_yes st _ _ _ h1.1 h1.2).mono ?_); rintro e w' ⟨rfl, rfl⟩))); refine hK.out _ _ ?_ (fun hHeld => ?_); ((try dsimp only); exact ⟨c_bx0, c_bx1, c_bx2, c_bx3, c_bp0⟩); clear hK K)
            try simp only [Act.put, List.setIfInBounds_toArray, List.set_cons_zero, List.set_cons_succ]
            first | refine Reg.tkA 3 (Reg.get rfl) hHeld ?_ | refine Reg.tkB 3 (Reg.get rfl) hHeld ?_
            try simp only [Act.put, List.setIfInBounds_toArray, List.set_cons_zero, List.set_cons_succ]
            first | refine Reg.tkA 4 (Reg.get rfl) hHeld ?_ | refine Reg.tkB 4 (Reg.get rfl) hHeld ?_
            try simp only [Act.put, List.setIfInBounds_toArray, List.set_cons_zero, List.set_cons_succ]
            first | refine Reg.tkA 5 (Reg.get rfl) hHeld ?_ | refine Reg.tkB 5 (Reg.get rfl) hHeld ?_
            try simp only [Act.put, List.setIfInBounds_toArray, List.set_cons_zero, List.set_cons_succ]
            first | refine Reg.tkA 6 (Reg.get rfl) hHeld ?_ | refine Reg.tkB 6 (Reg.get rfl) hHeld ?_
            try simp only [Act.put, List.setIfInBounds_toArray, List.set_cons_zero, List.set_cons_succ]
            first | refine Reg.tkA 7 (Reg.get rfl) hHeld ?_ | refine Reg.tkB 7 (Reg.get rfl) hHeld ?_
            try simp only [Act.put, List.setIfInBounds_toArray, List.set_cons_zero, List.set_cons_succ]
            first | refine Reg.tkA 8 (Reg.get rfl) hHeld ?_ | refine Reg.tkB 8 (Reg.get rfl) hHeld ?_
            try simp only [Act.put, List.setIfInBounds_toArray, List.set_cons_zero, List.set_cons_succ]
            first | refine Reg.tkA 9 (Reg.get rfl) hHeld ?_ | refine Reg.tkB 9 (Reg.get rfl) hHeld ?_
            try simp only [Act.put, List.setIfInBounds_toArray, List.set_cons_zero, List.set_cons_succ]
            first | refine Reg.tkA 10 (Reg.get rfl) hHeld ?_ | refine Reg.tkB 10 (Reg.get rfl) hHeld ?_
            try simp only [Act.put, List.setIfInBounds_toArray, List.set_cons_zero, List.set_cons_succ]
            first | refine Reg.tkA 11 (Reg.get rfl) hHeld ?_ | refine Reg.tkB 11 (Reg.get rfl) hHeld ?_
            try simp only [Act.put, List.setIfInBounds_toArray, List.set_cons_zero, List.set_cons_succ]
            first | refine Reg.tkA 12 (Reg.get rfl) hHeld ?_ | refine Reg.tkB 12 (Reg.get rfl) hHeld ?_
            try simp only [Act.put, List.setIfInBounds_toArray, List.set_cons_zero, List.set_cons_succ]
            first | refine Reg.tkA 13 (Reg.get rfl) hHeld ?_ | refine Reg.tkB 13 (Reg.get rfl) hHeld ?_
            try simp only [Act.put, List.setIfInBounds_toArray, List.set_cons_zero, List.set_cons_succ]
            first | refine Reg.tkA 14 (Reg.get rfl) hHeld ?_ | refine Reg.tkB 14 (Reg.get rfl) hHeld ?_
            try simp only [Act.put, List.setIfInBounds_toArray, List.set_cons_zero, List.set_cons_succ]
            first | refine Reg.tkA 15 (Reg.get rfl) hHeld ?_ | refine Reg.tkB 15 (Reg.get rfl) hHeld ?_
            try simp only [Act.put, List.setIfInBounds_toArray, List.set_cons_zero, List.set_cons_succ]
            first | refine Reg.tkA 16 (Reg.get rfl) hHeld ?_ | refine Reg.tkB 16 (Reg.get rfl) hHeld ?_
            try simp only [Act.put, List.setIfInBounds_toArray, List.set_cons_zero, List.set_cons_succ]
            first | refine Reg.tkA 17 (Reg.get rfl) hHeld ?_ | refine Reg.tkB 17 (Reg.get rfl) hHeld ?_
            try simp only [Act.put, List.setIfInBounds_toArray, List.set_cons_zero, List.set_cons_succ]
            first | refine Reg.tkA 18 (Reg.get rfl) hHeld ?_ | refine Reg.tkB 18 (Reg.get rfl) hHeld ?_
            try simp only [Act.put, List.setIfInBounds_toArray, List.set_cons_zero, List.set_cons_succ]
            first | refine Reg.tkA 19 (Reg.get rfl) hHeld ?_ | refine Reg.tkB 19 (Reg.get rfl) hHeld ?_
            try simp only [Act.put, List.setIfInBounds_toArray, List.set_cons_zero, List.set_cons_succ]
            first | refine Reg.tkA 20 (Reg.get rfl) hHeld ?_ | refine Reg.tkB 20 (Reg.get rfl) hHeld ?_
            try simp only [Act.put, List.setIfInBounds_toArray, List.set_cons_zero, List.set_cons_succ]
            first | refine Reg.tkA 21 (Reg.get rfl) hHeld ?_ | refine Reg.tkB 21 (Reg.get rfl) hHeld ?_
            try simp only [Act.put, List.setIfInBounds_toArray, List.set_cons_zero, List.set_cons_succ]
            first | refine Reg.tkA 22 (Reg.get rfl) hHeld ?_ | refine Reg.tkB 22 (Reg.get rfl) hHeld ?_
            try simp only [Act.put, List.setIfInBounds_toArray, List.set_cons_zero, List.set_cons_succ]
            first | refine Reg.tkA 23 (Reg.get rfl) hHeld ?_ | refine Reg.tkB 23 (Reg.get rfl) hHeld ?_
            try simp only [Act.put, List.setIfInBounds_toArray, List.set_cons_zero, List.set_cons_succ]
            first | refine Reg.tkA 24 (Reg.get rfl) hHeld ?_ | refine Reg.tkB 24 (Reg.get rfl) hHeld ?_
            try simp only [Act.put, List.setIfInBounds_toArray, List.set_cons_zero, List.set_cons_succ]
            first | refine Reg.tkA 25 (Reg.get rfl) hHeld ?_ | refine Reg.tkB 25 (Reg.get rfl) hHeld ?_
            try simp only [Act.put, List.setIfInBounds_toArray, List.set_cons_zero, List.set_cons_succ]
            first | refine Reg.tkA 26 (Reg.get rfl) hHeld ?_ | refine Reg.tkB 26 (Reg.get rfl) hHeld ?_
            try simp only [Act.put, List.setIfInBounds_toArray, List.set_cons_zero, List.set_cons_succ]
            first | refine Reg.tkA 27 (Reg.get rfl) hHeld ?_ | refine Reg.tkB 27 (Reg.get rfl) hHeld ?_
            try simp only [Act.put, List.setIfInBounds_toArray, List.set_cons_zero, List.set_cons_succ]
            first | refine Reg.tkA 28 (Reg.get rfl) hHeld ?_ | refine Reg.tkB 28 (Reg.get rfl) hHeld ?_
            try simp only [Act.put, List.setIfInBounds_toArray, List.set_cons_zero, List.set_cons_succ]
            first | refine Reg.tkA 29 (Reg.get rfl) hHeld ?_ | refine Reg.tkB 29 (Reg.get rfl) hHeld ?_
            try simp only [Act.put, List.setIfInBounds_toArray, List.set_cons_zero, List.set_cons_succ]
            first | refine Reg.tkA 30 (Reg.get rfl) hHeld ?_ | refine Reg.tkB 30 (Reg.get rfl) hHeld ?_
            try simp only [Act.put, List.setIfInBounds_toArray, List.set_cons_zero, List.set_cons_succ]
            first | refine Reg.tkA 31 (Reg.get rfl) hHeld ?_ | refine Reg.tkB 31 (Reg.get rfl) hHeld ?_
            try simp only [Act.put, List.setIfInBounds_toArray, List.set_cons_zero, List.set_cons_succ]
            first | refine Reg.tkA 32 (Reg.get rfl) hHeld ?_ | refine Reg.tkB 32 (Reg.get rfl) hHeld ?_
            try simp only [Act.put, List.setIfInBounds_toArray, List.set_cons_zero, List.set_cons_succ]
            first | refine Reg.tkA 33 (Reg.get rfl) hHeld ?_ | refine Reg.tkB 33 (Reg.get rfl) hHeld ?_
            try simp only [Act.put, List.setIfInBounds_toArray, List.set_cons_zero, List.set_cons_succ]
            first | refine Reg.tkA 34 (Reg.get rfl) hHeld ?_ | refine Reg.tkB 34 (Reg.get rfl) hHeld ?_
            try simp only [Act.put, List.setIfInBounds_toArray, List.set_cons_zero, List.set_cons_succ]
            first | refine Reg.tkA 35 (Reg.get rfl) hHeld ?_ | refine Reg.tkB 35 (Reg.get rfl) hHeld ?_
            try simp only [Act.put, List.setIfInBounds_toArray, List.set_cons_zero, List.set_cons_succ]
            first | refine Reg.tkA 36 (Reg.get rfl) hHeld ?_ | refine Reg.tkB 36 (Reg.get rfl) hHeld ?_
            try simp only [Act.put, List.setIfInBounds_toArray, List.set_cons_zero, List.set_cons_succ]
            first | refine Reg.tkA 37 (Reg.get rfl) hHeld ?_ | refine Reg.tkB 37 (Reg.get rfl) hHeld ?_
            try simp only [Act.put, List.setIfInBounds_toArray, List.set_cons_zero, List.set_cons_succ]
            first | refine Reg.tkA 38 (Reg.get rfl) hHeld ?_ | refine Reg.tkB 38 (Reg.get rfl) hHeld ?_
            try simp only [Act.put, List.setIfInBounds_toArray, List.set_cons_zero, List.set_cons_succ]
            first | refine Reg.tkA 39 (Reg.get rfl) hHeld ?_ | refine Reg.tkB 39 (Reg.get rfl) hHeld ?_
            try simp only [Act.put, List.setIfInBounds_toArray, List.set_cons_zero, List.set_cons_succ]
            first | refine Reg.tkA 40 (Reg.get rfl) hHeld ?_ | refine Reg.tkB 40 (Reg.get rfl) hHeld ?_
            try simp only [Act.put, List.setIfInBounds_toArray, List.set_cons_zero, List.set_cons_succ]
            first | refine Reg.tkA 41 (Reg.get rfl) hHeld ?_ | refine Reg.tkB 41 (Reg.get rfl) hHeld ?_
            try simp only [Act.put, List.setIfInBounds_toArray, List.set_cons_zero, List.set_cons_succ]
            refine wpAnyH_done (by kernel_rfl) ?_ _
            (try clear h5n)
            (try clear h5)
            go_wp2_with fail
            go_loop [5] (fun v => ∃ i : Nat, i ≤ n' ∧ v = .int .i64 (i : Int) ∧ okF fs i) (fun v => n' - (intOf v).toNat)
            case atStart => exact ⟨0, Nat.zero_le _, rfl, okF_zero _⟩
            case round =>
              obtain ⟨i, hi, rfl, hof⟩ := hrel
              have HF := Lib.hid hof
              clear hof
              by_cases hil : i < n'
              · obtain ⟨g5, o5, A5, n5, c5, rfl, hg5, d0, hrd5⟩ := HRD4.out.at_ hil
                have HN5 := Lib.hid (len_ints hrd5)
                have hm5 : n5 ≤ 9223372036854775807 := by have h1 := hrd5.2.1; have h2 := hrd5.2.2.1; unfold maxLen at h2; omega
                clear hrd5
                by_cases h100 : n5 ≤ 100
                · have HX := Lib.hid (okF_succ HF.out (by rw [HN5.out]; exact h100))
                  go_wp2
                  go_round
                  case rel => exact ⟨i + 1, by omega, by go_num, HX.out⟩
                  case measure => simp [intOf]; omega
                · have HX := Lib.hid (show ¬ validP ks n from fun hv => by have h1 := HNF.out (HNV.out hv) i (by have := HN.out; omega); have h2 := HN5.out; omega)
                  go_wp2
                  go_ret
                  exact saysG_no HX.out (by first | exact B | exact B.drew)
              · obtain rfl : i = n' := by omega
                have HV := Lib.hid (HBD.out (HY.out (by rw [HN.out]; exact HF.out)))
                go_wp2
                go_roundw
                case rel => exact ⟨k + 1, by omega, by go_num, HV.out, (by first | exact bp | exact bp.drew), (by first | exact B | exact B.drew)⟩
                case measure => simp [intOf]; omega
      · rw [hb] at hcs
        have dk : decide ((0 : Int) < (k : Int)) = true := by simp; omega
        have dk2 : decide (0 < k) = true := by simp; omega
        have wk : IntKind.i64.wrap ((k : Int) - 1) = (j : Int) := by rw [show (k : Int) - 1 = (j : Int) by omega]; exact IntWalk.i64_in _ ⟨by omega, by omega⟩
        clear hb hkj
        have HP := Lib.hid (show ∀ W : World, Below w.heap.size w W → W.cell? ⟨g, o + j * 4, none⟩ = some (.int .i64 (nthK ks j).st) from fun W b => by
          obtain ⟨g', o', _, _, _, hA, _, p0, _⟩ := (HR.out.below b).at_ hjn
          injection hA with hA
          injection hA with h1 h2 h3
          subst h1 h2
          exact p0)
        generalize (nthK ks j).st = pst at *
        rcases hcs with ⟨h0, hcs⟩ | ⟨h0, hcs⟩
        · have HX := Lib.hid (HX0.out h0)
          rcases hcs with h1 | ⟨h1, h2⟩ | ⟨h1, h2, h3⟩ | ⟨h1, h2, h3, h4, h5⟩ | ⟨h1, h2, h3, h4, h6⟩ | ⟨h1, h2, h3, h4, h5, h6⟩
          all_goals
            (try (have H4 := Lib.hid h4; clear h4))
            have l_bp : w.heap.size < w3.heap.size := Bk.Blk.lt bp
            have c_bp0 : w3.cell? ⟨w.heap.size, 0, none⟩ = some (.slice (some ⟨g, o, none⟩) n c) := Bk.Blk.cell bp 0
            have f_bp0 : w3.frozen? ⟨w.heap.size, 0, none⟩ = false := Bk.Blk.fro bp 0
            go_wp2_with fail
            clear l_bp c_bp0 f_bp0
            generalize hW : World.alloc _ _ = w4
            have HRD4 := Lib.hid (show RdSS w4 A' n' c' fs from HRD.out.below (show Below w3.heap.size w3 w4 from by rw [← hW]; go_grown))
            have bx : Bk.Blk w4 (w3.heap.size) 95 #[.int .i64 st, .bool ap, .slice A' n' c', .int .i64 lo] := (by rw [← hW]; apply Bk.Blk.to; (focus (exact Bk.sv)); rfl)
            replace bp : Bk.Blk w4 (w.heap.size) 39 #[.slice (some ⟨g, o, none⟩) n c] := (by rw [← hW]; exact Bk.sv)
            replace B : Below w.heap.size w w4 := (by rw [← hW]; go_grown)
            have z4 : w4.heap.size = _ := congrArg (fun W : World => W.heap.size) hW.symm
            (try simp only [World.size_alloc, Bk.size_set, World.size_drew, World.drewN] at z4)
            clear hW
            have hp4 := HP.out w4 B
            have l_bx : w3.heap.size < w4.heap.size := Bk.Blk.lt bx
            have c_bx0 : w4.cell? ⟨w3.heap.size, 0, none⟩ = some (.int .i64 st) := Bk.Blk.cell bx 0
            have f_bx0 : w4.frozen? ⟨w3.heap.size, 0, none⟩ = false := Bk.Blk.fro bx 0
            have c_bx1 : w4.cell? ⟨w3.heap.size, 1, none⟩ = some (.bool ap) := Bk.Blk.cell bx 1
            have f_bx1 : w4.frozen? ⟨w3.heap.size, 1, none⟩ = false := Bk.Blk.fro bx 1
            have c_bx2 : w4.cell? ⟨w3.heap.size, 2, none⟩ = some (.slice A' n' c') := Bk.Blk.cell bx 2
            have f_bx2 : w4.frozen? ⟨w3.heap.size, 2, none⟩ = false := Bk.Blk.fro bx 2
            have c_bx3 : w4.cell? ⟨w3.heap.size, 3, none⟩ = some (.int .i64 lo) := Bk.Blk.cell bx 3
            have f_bx3 : w4.frozen? ⟨w3.heap.size, 3, none⟩ = false := Bk.Blk.fro bx 3
            have l_bp : w.heap.size < w4.heap.size := Bk.Blk.lt bp
            have c_bp0 : w4.cell? ⟨w.heap.size, 0, none⟩ = some (.slice (some ⟨g, o, none⟩) n c) := Bk.Blk.cell bp 0
            have f_bp0 : w4.frozen? ⟨w.heap.size, 0, none⟩ = false := Bk.Blk.fro bp 0
            (try (have h4 := H4.out))
            (try (have h5n := h5; simp only [Int.natCast_pos] at h5n))
            refine wp_region_held_drew (S := (fun w' => w'.cell? ⟨w3.heap.size, 0, none⟩ = some (.int .i64 st) ∧ w'.cell? ⟨w3.heap.size, 1, none⟩ = some (.bool ap) ∧ w'.cell? ⟨w3.heap.size, 2, none⟩ = some (.slice A' n' c') ∧ w'.cell? ⟨w3.heap.size, 3, none⟩ = some (.int .i64 lo) ∧ w'.cell? ⟨w.heap.size, 0, none⟩ = some (.slice (some ⟨g, o, none⟩) n c) ∧ w'.cell? ⟨g, o + j * 4, none⟩ = some (.int .i64 pst))) (by kernel_rfl) ?_ (fun hHeld => ?_)
            · (try dsimp only); exact ⟨c_bx0, c_bx1, c_bx2, c_bx3, c_bp0, hp4⟩
            first | refine Reg.tkA 0 (Reg.get rfl) hHeld ?_ | refine Reg.tkB 0 (Reg.get rfl) hHeld ?_
            try simp only [Act.put, List.setIfInBounds_toArray, List.set_cons_zero, List.set_cons_succ]
            first | refine Reg.tkA 1 (Reg.get rfl) hHeld ?_ | refine Reg.tkB 1 (Reg.get rfl) hHeld ?_
            try simp only [Act.put, List.setIfInBounds_toArray, List.set_cons_zero, List.set_cons_succ]
            first | ((refine Reg.tkB 2 (Reg.get rfl) hHeld ?_)) | (refine wpAnyH_ready (rs := [2]) (by kernel_rfl) (by simp) ?_; refine AllReadyH.cons (Reg.get rfl) (fun K hK => ?_) AllReadyH.nil; clear hHeld; go_simp; (first | ((go_at_call 72; (first | refine (in_spec_no st _ _ _ h1).mono ?_ | refine (in_spec_yes st _ _ _ h1.1 h1.2).mono ?_); rintro e w' ⟨rfl, rfl⟩))); refine hK.out _ _ ?_ (fun hHeld => ?_); ((try dsimp only); exact ⟨c_bx0, c_bx1, c_bx2, c_bx3, c_bp0, hp4⟩); clear hK K)
            try simp only [Act.put, List.setIfInBounds_toArray, List.set_cons_zero, List.set_cons_succ]
            first | refine Reg.tkA 3 (Reg.get rfl) hHeld ?_ | refine Reg.tkB 3 (Reg.get rfl) hHeld ?_
            try simp only [Act.put, List.setIfInBounds_toArray, List.set_cons_zero, List.set_cons_succ]
            first | refine Reg.tkA 4 (Reg.get rfl) hHeld ?_ | refine Reg.tkB 4 (Reg.get rfl) hHeld ?_
            try simp only [Act.put, List.setIfInBounds_toArray, List.set_cons_zero, List.set_cons_succ]
            first | refine Reg.tkA 5 (Reg.get rfl) hHeld ?_ | refine Reg.tkB 5 (Reg.get rfl) hHeld ?_
            try simp only [Act.put, List.setIfInBounds_toArray, List.set_cons_zero, List.set_cons_succ]
            first | refine Reg.tkA 6 (Reg.get rfl) hHeld ?_ | refine Reg.tkB 6 (Reg.get rfl) hHeld ?_
            try simp only [Act.put, List.setIfInBounds_toArray, List.set_cons_zero, List.set_cons_succ]
            first | refine Reg.tkA 7 (Reg.get rfl) hHeld ?_ | refine Reg.tkB 7 (Reg.get rfl) hHeld ?_
            try simp only [Act.put, List.setIfInBounds_toArray, List.set_cons_zero, List.set_cons_succ]
            first | refine Reg.tkA 8 (Reg.get rfl) hHeld ?_ | refine Reg.tkB 8 (Reg.get rfl) hHeld ?_
            try simp only [Act.put, List.setIfInBounds_toArray, List.set_cons_zero, List.set_cons_succ]
            first | refine Reg.tkA 9 (Reg.get rfl) hHeld ?_ | refine Reg.tkB 9 (Reg.get rfl) hHeld ?_
            try simp only [Act.put, List.setIfInBounds_toArray, List.set_cons_zero, List.set_cons_succ]
            first | refine Reg.tkA 10 (Reg.get rfl) hHeld ?_ | refine Reg.tkB 10 (Reg.get rfl) hHeld ?_
            try simp only [Act.put, List.setIfInBounds_toArray, List.set_cons_zero, List.set_cons_succ]
            first | refine Reg.tkA 11 (Reg.get rfl) hHeld ?_ | refine Reg.tkB 11 (Reg.get rfl) hHeld ?_
            try simp only [Act.put, List.setIfInBounds_toArray, List.set_cons_zero, List.set_cons_succ]
            first | refine Reg.tkA 12 (Reg.get rfl) hHeld ?_ | refine Reg.tkB 12 (Reg.get rfl) hHeld ?_
            try simp only [Act.put, List.setIfInBounds_toArray, List.set_cons_zero, List.set_cons_succ]
            first | refine Reg.tkA 13 (Reg.get rfl) hHeld ?_ | refine Reg.tkB 13 (Reg.get rfl) hHeld ?_
            try simp only [Act.put, List.setIfInBounds_toArray, List.set_cons_zero, List.set_cons_succ]
            first | refine Reg.tkA 14 (Reg.get rfl) hHeld ?_ | refine Reg.tkB 14 (Reg.get rfl) hHeld ?_
            try simp only [Act.put, List.setIfInBounds_toArray, List.set_cons_zero, List.set_cons_succ]
            first | refine Reg.tkA 15 (Reg.get rfl) hHeld ?_ | refine Reg.tkB 15 (Reg.get rfl) hHeld ?_
            try simp only [Act.put, List.setIfInBounds_toArray, List.set_cons_zero, List.set_cons_succ]
            first | refine Reg.tkA 16 (Reg.get rfl) hHeld ?_ | refine Reg.tkB 16 (Reg.get rfl) hHeld ?_
            try simp only [Act.put, List.setIfInBounds_toArray, List.set_cons_zero, List.set_cons_succ]
            first | refine Reg.tkA 17 (Reg.get rfl) hHeld ?_ | refine Reg.tkB 17 (Reg.get rfl) hHeld ?_
            try simp only [Act.put, List.setIfInBounds_toArray, List.set_cons_zero, List.set_cons_succ]
            first | refine Reg.tkA 18 (Reg.get rfl) hHeld ?_ | refine Reg.tkB 18 (Reg.get rfl) hHeld ?_
            try simp only [Act.put, List.setIfInBounds_toArray, List.set_cons_zero, List.set_cons_succ]
            first | refine Reg.tkA 19 (Reg.get rfl) hHeld ?_ | refine Reg.tkB 19 (Reg.get rfl) hHeld ?_
            try simp only [Act.put, List.setIfInBounds_toArray, List.set_cons_zero, List.set_cons_succ]
            first | refine Reg.tkA 20 (Reg.get rfl) hHeld ?_ | refine Reg.tkB 20 (Reg.get rfl) hHeld ?_
            try simp only [Act.put, List.setIfInBounds_toArray, List.set_cons_zero, List.set_cons_succ]
            first | refine Reg.tkA 21 (Reg.get rfl) hHeld ?_ | refine Reg.tkB 21 (Reg.get rfl) hHeld ?_
            try simp only [Act.put, List.setIfInBounds_toArray, List.set_cons_zero, List.set_cons_succ]
            first | refine Reg.tkA 22 (Reg.get rfl) hHeld ?_ | refine Reg.tkB 22 (Reg.get rfl) hHeld ?_
            try simp only [Act.put, List.setIfInBounds_toArray, List.set_cons_zero, List.set_cons_succ]
            first | refine Reg.tkA 23 (Reg.get rfl) hHeld ?_ | refine Reg.tkB 23 (Reg.get rfl) hHeld ?_
            try simp only [Act.put, List.setIfInBounds_toArray, List.set_cons_zero, List.set_cons_succ]
            first | refine Reg.tkA 24 (Reg.get rfl) hHeld ?_ | refine Reg.tkB 24 (Reg.get rfl) hHeld ?_
            try simp only [Act.put, List.setIfInBounds_toArray, List.set_cons_zero, List.set_cons_succ]
            first | refine Reg.tkA 25 (Reg.get rfl) hHeld ?_ | refine Reg.tkB 25 (Reg.get rfl) hHeld ?_
            try simp only [Act.put, List.setIfInBounds_toArray, List.set_cons_zero, List.set_cons_succ]
            first | refine Reg.tkA 26 (Reg.get rfl) hHeld ?_ | refine Reg.tkB 26 (Reg.get rfl) hHeld ?_
            try simp only [Act.put, List.setIfInBounds_toArray, List.set_cons_zero, List.set_cons_succ]
            first | refine Reg.tkA 27 (Reg.get rfl) hHeld ?_ | refine Reg.tkB 27 (Reg.get rfl) hHeld ?_
            try simp only [Act.put, List.setIfInBounds_toArray, List.set_cons_zero, List.set_cons_succ]
            first | refine Reg.tkA 28 (Reg.get rfl) hHeld ?_ | refine Reg.tkB 28 (Reg.get rfl) hHeld ?_
            try simp only [Act.put, List.setIfInBounds_toArray, List.set_cons_zero, List.set_cons_succ]
            first | refine Reg.tkA 29 (Reg.get rfl) hHeld ?_ | refine Reg.tkB 29 (Reg.get rfl) hHeld ?_
            try simp only [Act.put, List.setIfInBounds_toArray, List.set_cons_zero, List.set_cons_succ]
            first | refine Reg.tkA 30 (Reg.get rfl) hHeld ?_ | refine Reg.tkB 30 (Reg.get rfl) hHeld ?_
            try simp only [Act.put, List.setIfInBounds_toArray, List.set_cons_zero, List.set_cons_succ]
            first | refine Reg.tkA 31 (Reg.get rfl) hHeld ?_ | refine Reg.tkB 31 (Reg.get rfl) hHeld ?_
            try simp only [Act.put, List.setIfInBounds_toArray, List.set_cons_zero, List.set_cons_succ]
            first | refine Reg.tkA 32 (Reg.get rfl) hHeld ?_ | refine Reg.tkB 32 (Reg.get rfl) hHeld ?_
            try simp only [Act.put, List.setIfInBounds_toArray, List.set_cons_zero, List.set_cons_succ]
            first | refine Reg.tkA 33 (Reg.get rfl) hHeld ?_ | refine Reg.tkB 33 (Reg.get rfl) hHeld ?_
            try simp only [Act.put, List.setIfInBounds_toArray, List.set_cons_zero, List.set_cons_succ]
            first | refine Reg.tkA 34 (Reg.get rfl) hHeld ?_ | refine Reg.tkB 34 (Reg.get rfl) hHeld ?_
            try simp only [Act.put, List.setIfInBounds_toArray, List.set_cons_zero, List.set_cons_succ]
            first | refine Reg.tkA 35 (Reg.get rfl) hHeld ?_ | refine Reg.tkB 35 (Reg.get rfl) hHeld ?_
            try simp only [Act.put, List.setIfInBounds_toArray, List.set_cons_zero, List.set_cons_succ]
            first | refine Reg.tkA 36 (Reg.get rfl) hHeld ?_ | refine Reg.tkB 36 (Reg.get rfl) hHeld ?_
            try simp only [Act.put, List.setIfInBounds_toArray, List.set_cons_zero, List.set_cons_succ]
            first | refine Reg.tkA 37 (Reg.get rfl) hHeld ?_ | refine Reg.tkB 37 (Reg.get rfl) hHeld ?_
            try simp only [Act.put, List.setIfInBounds_toArray, List.set_cons_zero, List.set_cons_succ]
            first | refine Reg.tkA 38 (Reg.get rfl) hHeld ?_ | refine Reg.tkB 38 (Reg.get rfl) hHeld ?_
            try simp only [Act.put, List.setIfInBounds_toArray, List.set_cons_zero, List.set_cons_succ]
            first | refine Reg.tkA 39 (Reg.get rfl) hHeld ?_ | refine Reg.tkB 39 (Reg.get rfl) hHeld ?_
            try simp only [Act.put, List.setIfInBounds_toArray, List.set_cons_zero, List.set_cons_succ]
            first | refine Reg.tkA 40 (Reg.get rfl) hHeld ?_ | refine Reg.tkB 40 (Reg.get rfl) hHeld ?_
            try simp only [Act.put, List.setIfInBounds_toArray, List.set_cons_zero, List.set_cons_succ]
            first | refine Reg.tkA 41 (Reg.get rfl) hHeld ?_ | refine Reg.tkB 41 (Reg.get rfl) hHeld ?_
            try simp only [Act.put, List.setIfInBounds_toArray, List.set_cons_zero, List.set_cons_succ]
            refine wpAnyH_done (by kernel_rfl) ?_ _
            go_wp2
            go_ret
            exact saysG_no HX.out (by first | exact B | exact B.drew)
        · have HY := Lib.hid (HY0.out h0)
          rcases hcs with ⟨h1, h2, h3, h4, h6⟩ | ⟨h1, h2, h3, h4, h5, h6⟩
          all_goals
            (try (have H4 := Lib.hid h4; clear h4))
            have l_bp : w.heap.size < w3.heap.size := Bk.Blk.lt bp
            have c_bp0 : w3.cell? ⟨w.heap.size, 0, none⟩ = some (.slice (some ⟨g, o, none⟩) n c) := Bk.Blk.cell bp 0
            have f_bp0 : w3.frozen? ⟨w.heap.size, 0, none⟩ = false := Bk.Blk.fro bp 0
            go_wp2_with fail
            clear l_bp c_bp0 f_bp0
            generalize hW : World.alloc _ _ = w4
            have HRD4 := Lib.hid (show RdSS w4 A' n' c' fs from HRD.out.below (show Below w3.heap.size w3 w4 from by rw [← hW]; go_grown))
            have bx : Bk.Blk w4 (w3.heap.size) 95 #[.int .i64 st, .bool ap, .slice A' n' c', .int .i64 lo] := (by rw [← hW]; apply Bk.Blk.to; (focus (exact Bk.sv)); rfl)
            replace bp : Bk.Blk w4 (w.heap.size) 39 #[.slice (some ⟨g, o, none⟩) n c] := (by rw [← hW]; exact Bk.sv)
            replace B : Below w.heap.size w w4 := (by rw [← hW]; go_grown)
            have z4 : w4.heap.size = _ := congrArg (fun W : World => W.heap.size) hW.symm
            (try simp only [World.size_alloc, Bk.size_set, World.size_drew, World.drewN] at z4)
            clear hW
            have hp4 := HP.out w4 B
            have l_bx : w3.heap.size < w4.heap.size := Bk.Blk.lt bx
            have c_bx0 : w4.cell? ⟨w3.heap.size, 0, none⟩ = some (.int .i64 st) := Bk.Blk.cell bx 0
            have f_bx0 : w4.frozen? ⟨w3.heap.size, 0, none⟩ = false := Bk.Blk.fro bx 0
            have c_bx1 : w4.cell? ⟨w3.heap.size, 1, none⟩ = some (.bool ap) := Bk.Blk.cell bx 1
            have f_bx1 : w4.frozen? ⟨w3.heap.size, 1, none⟩ = false := Bk.Blk.fro bx 1
            have c_bx2 : w4.cell? ⟨w3.heap.size, 2, none⟩ = some (.slice A' n' c') := Bk.Blk.cell bx 2
            have f_bx2 : w4.frozen? ⟨w3.heap.size, 2, none⟩ = false := Bk.Blk.fro bx 2
            have c_bx3 : w4.cell? ⟨w3.heap.size, 3, none⟩ = some (.int .i64 lo) := Bk.Blk.cell bx 3
            have f_bx3 : w4.frozen? ⟨w3.heap.size, 3, none⟩ = false := Bk.Blk.fro bx 3
            have l_bp : w.heap.size < w4.heap.size := Bk.Blk.lt bp
            have c_bp0 : w4.cell? ⟨w.heap.size, 0, none⟩ = some (.slice (some ⟨g, o, none⟩) n c) := Bk.Blk.cell bp 0
            have f_bp0 : w4.frozen? ⟨w.heap.size, 0, none⟩ = false := Bk.Blk.fro bp 0
            (try (have h4 := H4.out))
            (try (have h5n := h5; simp only [Int.natCast_pos] at h5n))
            refine wp_region_held_drew (S := (fun w' => w'.cell? ⟨w3.heap.size, 0, none⟩ = some (.int .i64 st) ∧ w'.cell? ⟨w3.heap.size, 1, none⟩ = some (.bool ap) ∧ w'.cell? ⟨w3.heap.size, 2, none⟩ = some (.slice A' n' c') ∧ w'.cell? ⟨w3.heap.size, 3, none⟩ = some (.int .i64 lo) ∧ w'.cell? ⟨w.heap.size, 0, none⟩ = some (.slice (some ⟨g, o, none⟩) n c) ∧ w'.cell? ⟨g, o + j * 4, none⟩ = some (.int .i64 pst))) (by kernel_rfl) ?_ (fun hHeld => ?_)
            · (try dsimp only); exact ⟨c_bx0, c_bx1, c_bx2, c_bx3, c_bp0, hp4⟩
            first | refine Reg.tkA 0 (Reg.get rfl) hHeld ?_ | refine Reg.tkB 0 (Reg.get rfl) hHeld ?_
            try simp only [Act.put, List.setIfInBounds_toArray, List.set_cons_zero, List.set_cons_succ]
            first | refine Reg.tkA 1 (Reg.get rfl) hHeld ?_ | refine Reg.tkB 1 (Reg.get rfl) hHeld ?_
            try simp only [Act.put, List.setIfInBounds_toArray, List.set_cons_zero, List.set_cons_succ]
            first | ((refine Reg.tkB 2 (Reg.get rfl) hHeld ?_)) | (refine wpAnyH_ready (rs := [2]) (by kernel_rfl) (by simp) ?_; refine AllReadyH.cons (Reg.get rfl) (fun K hK => ?_) AllReadyH.nil; clear hHeld; go_simp; (first | ((go_at_call 72; (first | refine (in_spec_no st _ _ _ h1).mono ?_ | refine (in_spec_yes st _ _ _ h1.1 h1.2).mono ?_); rintro e w' ⟨rfl, rfl⟩))); refine hK.out _ _ ?_ (fun hHeld => ?_); ((try dsimp only); exact ⟨c_bx0, c_bx1, c_bx2, c_bx3, c_bp0, hp4⟩); clear hK K)
            try simp only [Act.put, List.setIfInBounds_toArray, List.set_cons_zero, List.set_cons_succ]
            first | refine Reg.tkA 3 (Reg.get rfl) hHeld ?_ | refine Reg.tkB 3 (Reg.get rfl) hHeld ?_
            try simp only [Act.put, List.setIfInBounds_toArray, List.set_cons_zero, List.set_cons_succ]
            first | refine Reg.tkA 4 (Reg.get rfl) hHeld ?_ | refine Reg.tkB 4 (Reg.get rfl) hHeld ?_
            try simp only [Act.put, List.setIfInBounds_toArray, List.set_cons_zero, List.set_cons_succ]
            first | refine Reg.tkA 5 (Reg.get rfl) hHeld ?_ | refine Reg.tkB 5 (Reg.get rfl) hHeld ?_
            try simp only [Act.put, List.setIfInBounds_toArray, List.set_cons_zero, List.set_cons_succ]
            first | refine Reg.tkA 6 (Reg.get rfl) hHeld ?_ | refine Reg.tkB 6 (Reg.get rfl) hHeld ?_
            try simp only [Act.put, List.setIfInBounds_toArray, List.set_cons_zero, List.set_cons_succ]
            first | refine Reg.tkA 7 (Reg.get rfl) hHeld ?_ | refine Reg.tkB 7 (Reg.get rfl) hHeld ?_
            try simp only [Act.put, List.setIfInBounds_toArray, List.set_cons_zero, List.set_cons_succ]
            first | refine Reg.tkA 8 (Reg.get rfl) hHeld ?_ | refine Reg.tkB 8 (Reg.get rfl) hHeld ?_
            try simp only [Act.put, List.setIfInBounds_toArray, List.set_cons_zero, List.set_cons_succ]
            first | refine Reg.tkA 9 (Reg.get rfl) hHeld ?_ | refine Reg.tkB 9 (Reg.get rfl) hHeld ?_
            try simp only [Act.put, List.setIfInBounds_toArray, List.set_cons_zero, List.set_cons_succ]
            first | refine Reg.tkA 10 (Reg.get rfl) hHeld ?_ | refine Reg.tkB 10 (Reg.get rfl) hHeld ?_
            try simp only [Act.put, List.setIfInBounds_toArray, List.set_cons_zero, List.set_cons_succ]
            first | refine Reg.tkA 11 (Reg.get rfl) hHeld ?_ | refine Reg.tkB 11 (Reg.get rfl) hHeld ?_
            try simp only [Act.put, List.setIfInBounds_toArray, List.set_cons_zero, List.set_cons_succ]
            first | refine Reg.tkA 12 (Reg.get rfl) hHeld ?_ | refine Reg.tkB 12 (Reg.get rfl) hHeld ?_
            try simp only [Act.put, List.setIfInBounds_toArray, List.set_cons_zero, List.set_cons_succ]
            first | refine Reg.tkA 13 (Reg.get rfl) hHeld ?_ | refine Reg.tkB 13 (Reg.get rfl) hHeld ?_
            try simp only [Act.put, List.setIfInBounds_toArray, List.set_cons_zero, List.set_cons_succ]
            first | refine Reg.tkA 14 (Reg.get rfl) hHeld ?_ | refine Reg.tkB 14 (Reg.get rfl) hHeld ?_
            try simp only [Act.put, List.setIfInBounds_toArray, List.set_cons_zero, List.set_cons_succ]
            first | refine Reg.tkA 15 (Reg.get rfl) hHeld ?_ | refine Reg.tkB 15 (Reg.get rfl) hHeld ?_
            try simp only [Act.put, List.setIfInBounds_toArray, List.set_cons_zero, List.set_cons_succ]
            first | refine Reg.tkA 16 (Reg.get rfl) hHeld ?_ | refine Reg.tkB 16 (Reg.get rfl) hHeld ?_
            try simp only [Act.put, List.setIfInBounds_toArray, List.set_cons_zero, List.set_cons_succ]
            first | refine Reg.tkA 17 (Reg.get rfl) hHeld ?_ | refine Reg.tkB 17 (Reg.get rfl) hHeld ?_
            try simp only [Act.put, List.setIfInBounds_toArray, List.set_cons_zero, List.set_cons_succ]
            first | refine Reg.tkA 18 (Reg.get rfl) hHeld ?_ | refine Reg.tkB 18 (Reg.get rfl) hHeld ?_
            try simp only [Act.put, List.setIfInBounds_toArray, List.set_cons_zero, List.set_cons_succ]
            first | refine Reg.tkA 19 (Reg.get rfl) hHeld ?_ | refine Reg.tkB 19 (Reg.get rfl) hHeld ?_
            try simp only [Act.put, List.setIfInBounds_toArray, List.set_cons_zero, List.set_cons_succ]
            first | refine Reg.tkA 20 (Reg.get rfl) hHeld ?_ | refine Reg.tkB 20 (Reg.get rfl) hHeld ?_
            try simp only [Act.put, List.setIfInBounds_toArray, List.set_cons_zero, List.set_cons_succ]
            first | refine Reg.tkA 21 (Reg.get rfl) hHeld ?_ | refine Reg.tkB 21 (Reg.get rfl) hHeld ?_
            try simp only [Act.put, List.setIfInBounds_toArray, List.set_cons_zero, List.set_cons_succ]
            first | refine Reg.tkA 22 (Reg.get rfl) hHeld ?_ | refine Reg.tkB 22 (Reg.get rfl) hHeld ?_
            try simp only [Act.put, List.setIfInBounds_toArray, List.set_cons_zero, List.set_cons_succ]
            first | refine Reg.tkA 23 (Reg.get rfl) hHeld ?_ | refine Reg.tkB 23 (Reg.get rfl) hHeld ?_
            try simp only [Act.put, List.setIfInBounds_toArray, List.set_cons_zero, List.set_cons_succ]
            first | refine Reg.tkA 24 (Reg.get rfl) hHeld ?_ | refine Reg.tkB 24 (Reg.get rfl) hHeld ?_
            try simp only [Act.put, List.setIfInBounds_toArray, List.set_cons_zero, List.set_cons_succ]
            first | refine Reg.tkA 25 (Reg.get rfl) hHeld ?_ | refine Reg.tkB 25 (Reg.get rfl) hHeld ?_
            try simp only [Act.put, List.setIfInBounds_toArray, List.set_cons_zero, List.set_cons_succ]
            first | refine Reg.tkA 26 (Reg.get rfl) hHeld ?_ | refine Reg.tkB 26 (Reg.get rfl) hHeld ?_
            try simp only [Act.put, List.setIfInBounds_toArray, List.set_cons_zero, List.set_cons_succ]
            first | refine Reg.tkA 27 (Reg.get rfl) hHeld ?_ | refine Reg.tkB 27 (Reg.get rfl) hHeld ?_
            try simp only [Act.put, List.setIfInBounds_toArray, List.set_cons_zero, List.set_cons_succ]
            first | refine Reg.tkA 28 (Reg.get rfl) hHeld ?_ | refine Reg.tkB 28 (Reg.get rfl) hHeld ?_
            try simp only [Act.put, List.setIfInBounds_toArray, List.set_cons_zero, List.set_cons_succ]
            first | refine Reg.tkA 29 (Reg.get rfl) hHeld ?_ | refine Reg.tkB 29 (Reg.get rfl) hHeld ?_
            try simp only [Act.put, List.setIfInBounds_toArray, List.set_cons_zero, List.set_cons_succ]
            first | refine Reg.tkA 30 (Reg.get rfl) hHeld ?_ | refine Reg.tkB 30 (Reg.get rfl) hHeld ?_
            try simp only [Act.put, List.setIfInBounds_toArray, List.set_cons_zero, List.set_cons_succ]
            first | refine Reg.tkA 31 (Reg.get rfl) hHeld ?_ | refine Reg.tkB 31 (Reg.get rfl) hHeld ?_
            try simp only [Act.put, List.setIfInBounds_toArray, List.set_cons_zero, List.set_cons_succ]
            first | refine Reg.tkA 32 (Reg.get rfl) hHeld ?_ | refine Reg.tkB 32 (Reg.get rfl) hHeld ?_
            try simp only [Act.put, List.setIfInBounds_toArray, List.set_cons_zero, List.set_cons_succ]
            first | refine Reg.tkA 33 (Reg.get rfl) hHeld ?_ | refine Reg.tkB 33 (Reg.get rfl) hHeld ?_
            try simp only [Act.put, List.setIfInBounds_toArray, List.set_cons_zero, List.set_cons_succ]
            first | refine Reg.tkA 34 (Reg.get rfl) hHeld ?_ | refine Reg.tkB 34 (Reg.get rfl) hHeld ?_
            try simp only [Act.put, List.setIfInBounds_toArray, List.set_cons_zero, List.set_cons_succ]
            first | refine Reg.tkA 35 (Reg.get rfl) hHeld ?_ | refine Reg.tkB 35 (Reg.get rfl) hHeld ?_
            try simp only [Act.put, List.setIfInBounds_toArray, List.set_cons_zero, List.set_cons_succ]
            first | refine Reg.tkA 36 (Reg.get rfl) hHeld ?_ | refine Reg.tkB 36 (Reg.get rfl) hHeld ?_
            try simp only [Act.put, List.setIfInBounds_toArray, List.set_cons_zero, List.set_cons_succ]
            first | refine Reg.tkA 37 (Reg.get rfl) hHeld ?_ | refine Reg.tkB 37 (Reg.get rfl) hHeld ?_
            try simp only [Act.put, List.setIfInBounds_toArray, List.set_cons_zero, List.set_cons_succ]
            first | refine Reg.tkA 38 (Reg.get rfl) hHeld ?_ | refine Reg.tkB 38 (Reg.get rfl) hHeld ?_
            try simp only [Act.put, List.setIfInBounds_toArray, List.set_cons_zero, List.set_cons_succ]
            first | refine Reg.tkA 39 (Reg.get rfl) hHeld ?_ | refine Reg.tkB 39 (Reg.get rfl) hHeld ?_
            try simp only [Act.put, List.setIfInBounds_toArray, List.set_cons_zero, List.set_cons_succ]
            first | refine Reg.tkA 40 (Reg.get rfl) hHeld ?_ | refine Reg.tkB 40 (Reg.get rfl) hHeld ?_
            try simp only [Act.put, List.setIfInBounds_toArray, List.set_cons_zero, List.set_cons_succ]
            first | refine Reg.tkA 41 (Reg.get rfl) hHeld ?_ | refine Reg.tkB 41 (Reg.get rfl) hHeld ?_
            try simp only [Act.put, List.setIfInBounds_toArray, List.set_cons_zero, List.set_cons_succ]
            refine wpAnyH_done (by kernel_rfl) ?_ _
            (try clear h5n)
            (try clear h5)
            go_wp2_with fail
            go_loop [5] (fun v => ∃ i : Nat, i ≤ n' ∧ v = .int .i64 (i : Int) ∧ okF fs i) (fun v => n' - (intOf v).toNat)
            case atStart => exact ⟨0, Nat.zero_le _, rfl, okF_zero _⟩
            case round =>
              obtain ⟨i, hi, rfl, hof⟩ := hrel
              have HF := Lib.hid hof
              clear hof
              by_cases hil : i < n'
              · obtain ⟨g5, o5, A5, n5, c5, rfl, hg5, d0, hrd5⟩ := HRD4.out.at_ hil
                have HN5 := Lib.hid (len_ints hrd5)
                have hm5 : n5 ≤ 9223372036854775807 := by have h1 := hrd5.2.1; have h2 := hrd5.2.2.1; unfold maxLen at h2; omega
                clear hrd5
                by_cases h100 : n5 ≤ 100
                · have HX := Lib.hid (okF_succ HF.out (by rw [HN5.out]; exact h100))
                  go_wp2
                  go_round
                  case rel => exact ⟨i + 1, by omega, by go_num, HX.out⟩
                  case measure => simp [intOf]; omega
                · have HX := Lib.hid (show ¬ validP ks n from fun hv => by have h1 := HNF.out (HNV.out hv) i (by have := HN.out; omega); have h2 := HN5.out; omega)
                  go_wp2
                  go_ret
                  exact saysG_no HX.out (by first | exact B | exact B.drew)
              · obtain rfl : i = n' := by omega
                have HV := Lib.hid (HBD.out (HY.out (by rw [HN.out]; exact HF.out)))
                go_wp2
                go_roundw
                case rel => exact ⟨k + 1, by omega, by go_num, HV.out, (by first | exact bp | exact bp.drew), (by first | exact B | exact B.drew)⟩
                case measure => simp [intOf]; omega
    · obtain rfl : k = n := by omega
      have l_bp : w.heap.size < w3.heap.size := Bk.Blk.lt bp
      have c_bp0 : w3.cell? ⟨w.heap.size, 0, none⟩ = some (.slice A k c) := Bk.Blk.cell bp 0
      have f_bp0 : w3.frozen? ⟨w.heap.size, 0, none⟩ = false := Bk.Blk.fro bp 0
      go_wp2
      go_ret
      exact saysG_yes HO.out B
end Go.Proofs.Ythdieeaegplnmaa.Pb
