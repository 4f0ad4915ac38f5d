/- Power buffers: the laws' comparison of two that read alike. -/
import Derived.Test.YthdieeaegplnmaaPbT
namespace Go.Proofs.Ythdieeaegplnmaa.Pb
open Go.RowKit
open Go.Proofs.Ythdieeaegplnmaa.Num Go.Proofs.Ythdieeaegplnmaa.Mem Go.Proofs.Ythdieeaegplnmaa.Hsh Go.Proofs.Ythdieeaegplnmaa.Sls Go.Proofs.Ythdieeaegplnmaa.Own Go.Proofs.Ythdieeaegplnmaa.SS Go.Proofs.Ythdieeaegplnmaa.Gb
set_option linter.unusedSimpArgs false
set_option linter.unusedVariables false
set_option maxHeartbeats 2000000 in
theorem eqKt_same (st lo : Int) (ap : Bool) (A : Option Addr) (n c : Nat) (B' : Option Addr) (d : Nat) (xss : List (List Int)) (w : World) (hx : RdSS w A n c xss) (hy : RdSS w B' n d xss) :
    Calls Try.prog 100 #[.agg #[.int .i64 st, .bool ap, .slice A n c, .int .i64 lo], .agg #[.int .i64 st, .bool ap, .slice B' n d, .int .i64 lo]] w fun x w' => x = .returned (.bool true) ∧ Below w.heap.size w w' := by
  have HX := Lib.hid hx
  have HY := Lib.hid hy
  have B : Below w.heap.size w w := Below.refl _ _
  have ea : (ap != ap) = false := by cases ap <;> rfl
  clear hx hy
  go_enter Try.func100, Try.ntmps100
  go_wp2_with fail
  generalize hW : World.alloc _ _ = w1
  have ba : Bk.Blk w1 (w.heap.size) 95 #[.int .i64 st, .bool ap, .slice A n c, .int .i64 lo] := (by rw [← hW]; apply Bk.Blk.to; (focus (exact Bk.sv)); rfl)
  have bb : Bk.Blk w1 (w.heap.size + 1) 95 #[.int .i64 st, .bool ap, .slice B' n d, .int .i64 lo] := (by rw [← hW]; apply Bk.Blk.to; (focus (exact Bk.sv)); rfl)
  replace B : Below w.heap.size w w1 := (by rw [← hW]; go_grown)
  have z1 : w1.heap.size = _ := congrArg (fun W : World => W.heap.size) hW.symm
  (try simp only [World.size_alloc, Bk.size_set, World.size_drew, World.drewN] at z1)
  clear hW
  refine (eqSS_laws A n c xss B' n d xss _ (HX.out.below B) (HY.out.below B)).mono ?_
  rintro x w2 ⟨rfl, hb0⟩
  rw [decide_eq_true rfl]
  replace ba : Bk.Blk w2 (w.heap.size) 95 #[.int .i64 st, .bool ap, .slice A n c, .int .i64 lo] := Bk.Blk.under hb0 (by exact Bk.sv)
  replace bb : Bk.Blk w2 (w.heap.size + 1) 95 #[.int .i64 st, .bool ap, .slice B' n d, .int .i64 lo] := Bk.Blk.under hb0 (by exact Bk.sv)
  replace B : Below w.heap.size w w2 := Below.trans (by go_grown) (hb0.mono (by first | omega | (simp [Bk.size_set]; done) | (simp [Bk.size_set]; omega)))
  have z2 := hb0.size
  (try simp only [World.size_alloc, Bk.size_set, World.size_drew, World.drewN] at z2)
  clear hb0
  have L_ba := Lay.f4 ba
  have L_bb := Lay.f4 bb
  go_wp2
  go_ret
  exact ⟨rfl, B⟩
set_option maxHeartbeats 2000000 in
theorem eqKs_same (A : Option Addr) (n c : Nat) (B' : Option Addr) (d : Nat) (ks : List Kt) (w : World) (hx : RdPB w A n c ks) (hy : RdPB w B' n d ks) :
    Calls Try.prog 80 #[.slice A n c, .slice B' n d] w fun x w' => x = .returned (.bool true) ∧ Below w.heap.size w w' := by
  have hn := hx.n64
  have HX := Lib.hid hx
  have HY := Lib.hid hy
  clear hx hy
  go_enter Try.func80, Try.ntmps80
  go_wp2
  go_loopw [5] (fun v5 wr => ∃ k : Nat, k ≤ n ∧ v5 = .int .i64 (k : Int) ∧ Below w.heap.size w wr) (fun v5 _ => n - (intOf v5).toNat)
  case atStart => exact ⟨0, Nat.zero_le _, rfl, Below.refl _ _⟩
  case round =>
    obtain ⟨k, hkm, rfl, hbr⟩ := hrel
    by_cases hlt : k < n
    · obtain ⟨g, o, A', n', c', rfl, hg, p0, p1, p2, p3, hrd⟩ := (HX.out.below hbr).at_ hlt
      obtain ⟨g2, o2, B2, m', d', rfl, hg2, q0, q1, q2, q3, hrd2⟩ := (HY.out.below hbr).at_ hlt
      obtain rfl : n' = m' := hrd.1.symm.trans hrd2.1
      have HC := Lib.hid (show Calls Try.prog 100 #[.agg #[.int .i64 (nthK ks k).st, .bool (nthK ks k).ap, .slice A' n' c', .int .i64 (nthK ks k).lo], .agg #[.int .i64 (nthK ks k).st, .bool (nthK ks k).ap, .slice B2 n' d', .int .i64 (nthK ks k).lo]] (wr.drewN 1) (fun x w' => x = .returned (.bool true) ∧ Below (wr.drewN 1).heap.size (wr.drewN 1) w') from eqKt_same _ _ _ A' n' c' B2 d' (nthK ks k).fs _ (hrd.drewN 1) (hrd2.drewN 1))
      have HB := Lib.hid hbr
      have i0 : (0 : Int) ≤ (k : Int) := by omega
      have i1 : (k : Int) < (n : Int) := by omega
      clear hbr hg hg2 hrd hrd2
      generalize (nthK ks k).st = st at *
      generalize (nthK ks k).ap = ap at *
      generalize (nthK ks k).lo = lo at *
      go_wp2
      refine wp_region_held_drew (S := (fun w' => (w'.cell? ⟨g, o + k * 4, none⟩ = some (.int .i64 st) ∧ w'.cell? ⟨g, o + k * 4 + 1, none⟩ = some (.bool ap) ∧ w'.cell? ⟨g, o + k * 4 + 2, none⟩ = some (.slice A' n' c') ∧ w'.cell? ⟨g, o + k * 4 + 3, none⟩ = some (.int .i64 lo)) ∧ (w'.cell? ⟨g2, o2 + k * 4, none⟩ = some (.int .i64 st) ∧ w'.cell? ⟨g2, o2 + k * 4 + 1, none⟩ = some (.bool ap) ∧ w'.cell? ⟨g2, o2 + k * 4 + 2, none⟩ = some (.slice B2 n' d') ∧ w'.cell? ⟨g2, o2 + k * 4 + 3, none⟩ = some (.int .i64 lo)))) (by kernel_rfl) ?_ (fun hHeld => ?_)
      · (try dsimp only); exact ⟨⟨p0, p1, p2, p3⟩, ⟨q0, q1, q2, q3⟩⟩
      first | refine Reg.tkA 0 (Reg.get rfl) hHeld ?_ | refine Reg.tkB 0 (Reg.get rfl) hHeld ?_
      try simp only [Act.put, List.setIfInBounds_toArray, List.set_cons_zero, List.set_cons_succ]
      first | refine Reg.tkA 1 (Reg.get rfl) hHeld ?_ | refine Reg.tkB 1 (Reg.get rfl) hHeld ?_
      try simp only [Act.put, List.setIfInBounds_toArray, List.set_cons_zero, List.set_cons_succ]
      first | refine Reg.tkA 2 (Reg.get rfl) hHeld ?_ | refine Reg.tkB 2 (Reg.get rfl) hHeld ?_
      try simp only [Act.put, List.setIfInBounds_toArray, List.set_cons_zero, List.set_cons_succ]
      first | refine Reg.tkA 3 (Reg.get rfl) hHeld ?_ | refine Reg.tkB 3 (Reg.get rfl) hHeld ?_
      try simp only [Act.put, List.setIfInBounds_toArray, List.set_cons_zero, List.set_cons_succ]
      first | refine Reg.tkA 4 (Reg.get rfl) hHeld ?_ | refine Reg.tkB 4 (Reg.get rfl) hHeld ?_
      try simp only [Act.put, List.setIfInBounds_toArray, List.set_cons_zero, List.set_cons_succ]
      first | refine Reg.tkA 5 (Reg.get rfl) hHeld ?_ | refine Reg.tkB 5 (Reg.get rfl) hHeld ?_
      try simp only [Act.put, List.setIfInBounds_toArray, List.set_cons_zero, List.set_cons_succ]
      first | refine Reg.tkA 6 (Reg.get rfl) hHeld ?_ | refine Reg.tkB 6 (Reg.get rfl) hHeld ?_
      try simp only [Act.put, List.setIfInBounds_toArray, List.set_cons_zero, List.set_cons_succ]
      first | refine Reg.tkA 7 (Reg.get rfl) hHeld ?_ | refine Reg.tkB 7 (Reg.get rfl) hHeld ?_
      try simp only [Act.put, List.setIfInBounds_toArray, List.set_cons_zero, List.set_cons_succ]
      first | ((refine Reg.tkB 8 (Reg.get rfl) hHeld ?_)) | (refine wpAnyH_ready (rs := [8]) (by kernel_rfl) (by simp) ?_; refine AllReadyH.cons (Reg.get rfl) (fun K hK => ?_) AllReadyH.nil; clear hHeld; go_simp; (first | ((go_at_call 100; refine HC.out.mono ?_; rintro e wn ⟨rfl, hb⟩; replace p0 := Mem.lift hb p0; replace p1 := Mem.lift hb p1; replace p2 := Mem.lift hb p2; replace p3 := Mem.lift hb p3; replace q0 := Mem.lift hb q0; replace q1 := Mem.lift hb q1; replace q2 := Mem.lift hb q2; replace q3 := Mem.lift hb q3; have HB2 := Lib.hid (stepB (Sls.below_drewN HB.out 1) hb HB.out.size); clear hb HC))); refine hK.out _ _ ?_ (fun hHeld => ?_); ((try dsimp only); exact ⟨⟨p0, p1, p2, p3⟩, ⟨q0, q1, q2, q3⟩⟩); clear hK K)
      try simp only [Act.put, List.setIfInBounds_toArray, List.set_cons_zero, List.set_cons_succ]
      first | refine Reg.tkA 9 (Reg.get rfl) hHeld ?_ | refine Reg.tkB 9 (Reg.get rfl) hHeld ?_
      try simp only [Act.put, List.setIfInBounds_toArray, List.set_cons_zero, List.set_cons_succ]
      refine wpAnyH_done (by kernel_rfl) ?_ _
      go_wp2
      go_roundw
      case rel => exact ⟨k + 1, by omega, by go_num, HB2.out⟩
      case measure => simp [intOf]; omega
    · have HB := Lib.hid hbr
      obtain rfl : k = n := by omega
      clear hbr
      go_wp2
      go_ret
      exact ⟨rfl, HB.out⟩
set_option maxHeartbeats 2000000 in
theorem eqPb_same (A : Option Addr) (n c : Nat) (B' : Option Addr) (d : Nat) (ks : List Kt) (w : World) (hx : RdPB w A n c ks) (hy : RdPB w B' n d ks) :
    Calls Try.prog 36 #[.agg #[.slice A n c], .agg #[.slice B' n d]] w fun x w' => x = .returned (.bool true) ∧ Below w.heap.size w w' := by
  have HX := Lib.hid hx
  have HY := Lib.hid hy
  clear hx hy
  go_enter Try.func36, Try.ntmps36
  go_wp2_with fail
  refine (eqKs_same A n c B' d ks _ ((HX.out.alloc _).alloc _) ((HY.out.alloc _).alloc _)).mono ?_
  rintro x w1 ⟨rfl, hb⟩
  have HB := Lib.hid (show Below w.heap.size w w1 from Below.trans (by go_grown) (hb.mono (by simp <;> omega)))
  clear hb
  go_wp2
  go_ret
  exact ⟨rfl, HB.out⟩
set_option maxHeartbeats 2000000 in
theorem eqBc_same (fr sl dc dp : Int) (gt : Bool) (ti : Int) (w : World) :
    Calls Try.prog 35 #[.agg #[.int .i64 fr, .int .i64 sl, .int .i64 dc, .int .i64 dp, .bool gt, .int .i64 ti], .agg #[.int .i64 fr, .int .i64 sl, .int .i64 dc, .int .i64 dp, .bool gt, .int .i64 ti]] w fun x w' => x = .returned (.bool true) ∧ Below w.heap.size w w' := by
  have ea : (gt != gt) = false := by cases gt <;> rfl
  go_enter Try.func35, Try.ntmps35
  go_wp2
  go_ret
  exact ⟨rfl, by go_grown⟩
end Go.Proofs.Ythdieeaegplnmaa.Pb
