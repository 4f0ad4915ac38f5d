/- Power buffers: the program's PollFrame where a frame is kept. -/
import Derived.Test.YthdieeaegplnmaaPbF
namespace Go.Proofs.Ythdieeaegplnmaa.Pb
open Go.RowKit
open Go.Proofs.Ythdieeaegplnmaa.Num Go.Proofs.Ythdieeaegplnmaa.Mem Go.Proofs.Ythdieeaegplnmaa.Hsh Go.Proofs.Ythdieeaegplnmaa.Sls Go.Proofs.Ythdieeaegplnmaa.Own Go.Proofs.Ythdieeaegplnmaa.SS Go.Proofs.Ythdieeaegplnmaa.Gb
set_option linter.unusedSimpArgs false
set_option linter.unusedVariables false
/-- a power buffer in new memory, a frame in new memory and two bools -/
def RetPP (w : World) (n : Nat) (ks : List Kt) (bs : List Int) (more ok : Bool) (x : Ending) (w' : World) : Prop :=
  ∃ A c D m d, x = .returned (.tuple #[.agg #[.slice A n c], .slice D m d, .bool more, .bool ok]) ∧ PbIn w' w.heap.size w'.heap.size A n c ks ∧ (Rd w' 1 D m d (bs.map (Value.int .u8)) ∧ ∀ q, blk D = some q → w.heap.size ≤ q ∧ q < w'.heap.size) ∧ Below w.heap.size w w'
theorem ss_tail {w : World} {g o n c : Nat} {xss : List (List Int)} (h : RdSS w (some ⟨g, o, none⟩) n c xss) (hn : 0 < n) : RdSS w (some ⟨g, o + 1, none⟩) (n - 1) (c - 1) xss.tail := by
  obtain ⟨h1, h2, h3, h4⟩ := h
  obtain ⟨g', o', hA, hc⟩ := h4 hn
  injection hA with hA
  injection hA with e1 e2
  subst e1 e2
  refine ⟨by simp [h1], by omega, by omega, fun hp => ⟨g, o + 1, rfl, fun j hj => ?_⟩⟩
  obtain ⟨A', n', c', k1, k2⟩ := hc (j + 1) (by omega)
  refine ⟨A', n', c', ?_, ?_⟩
  · rw [show o + 1 + j = o + (j + 1) by omega]; exact k1
  · rw [show xss.tail.getD j [] = xss.getD (j + 1) [] by cases xss <;> simp [List.getD]]; exact k2
theorem own_some {w : World} {base n c : Nat} {e : TypeId} {sz : Nat} {A : Option Addr} {xs : List Value} (h : w.ownsRow base e sz (.slice A n c) n xs) (hn : 0 < n) : ∃ g, A = some ⟨g, 0, none⟩ := by
  rcases h.2 with ⟨hv, h0⟩ | ⟨g, cap, cur, hv, _⟩
  · injection hv with h1 h2 h3; omega
  · injection hv with hv; exact ⟨g, hv⟩
theorem ss_tail2 {w : World} {g n c : Nat} {Z : Option Addr} {xss : List (List Int)} (hZ : (if c = 1 then some (⟨g, 0, none⟩ : Addr) else some ⟨g, 1, none⟩) = Z) (h : RdSS w (some ⟨g, 0, none⟩) n c xss) (hn : 0 < n) : RdSS w Z (n - 1) (c - 1) xss.tail := by
  by_cases hc : c = 1
  · rw [if_pos hc] at hZ
    have h1 := h.1
    have h2 := h.2.1
    obtain rfl : n = 1 := by omega
    subst hc hZ
    have e : xss.tail = [] := List.eq_nil_of_length_eq_zero (by simp [h1])
    rw [e]
    exact rdSS_none _ _
  · rw [if_neg hc] at hZ
    subst hZ
    exact ss_tail h hn
theorem ss_first {w : World} {g n c yn yc : Nat} {Y : Option Addr} {xss : List (List Int)} (h : RdSS w (some ⟨g, 0, none⟩) n c xss) (hn : 0 < n) (hc : w.cell? ⟨g, 0, none⟩ = some (.slice Y yn yc)) : Rd w 1 Y yn yc ((xss.getD 0 []).map (Value.int .u8)) := by
  obtain ⟨g', o', A', n', c', hA, h1, h2, h3⟩ := h.at_ hn
  injection hA with hA
  injection hA with e1 e2
  subst e1 e2
  rw [Nat.zero_add] at h2
  rw [h2] at hc
  injection hc with hc
  injection hc with a b c
  subst a b c
  exact h3
theorem ss_blk {w : World} {a b g n c yn yc : Nat} {Y : Option Addr} {xss : List (List Int)} (h : OwnSS w a b (some ⟨g, 0, none⟩) n c xss) (hn : 0 < n) (hc : w.cell? ⟨g, 0, none⟩ = some (.slice Y yn yc)) : ∀ q, blk Y = some q → a ≤ q ∧ q < b := by
  obtain ⟨h0, ss, h1, ⟨h2, _⟩, h3⟩ := h
  rw [h2.cellAt 0 (by omega), nth_map (by omega)] at hc
  injection hc with hc
  unfold sl at hc
  injection hc with e1 e2 e3
  intro q hq
  have h4 := h3.1 0 hn
  rw [e1] at h4
  exact ⟨(blk_of_own h4.1 q hq).1, h4.2 q hq⟩
set_option maxRecDepth 100000 in
set_option maxHeartbeats 8000000 in
theorem pollP_some (A : Option Addr) (n c : Nat) (ks : List Kt) (st : Int) (j : Nat) (w : World) (hF : FindR ks st n (j : Int)) (hj : j < n) (hfew : 0 < (nthK ks j).fs.length) (hr : RdPB w A n c ks) (hn : n ≤ 1048577) (hs : AllFew ks) :
    Calls Try.prog 49 #[.agg #[.slice A n c], .int .i64 st] w (RetPP w n (ks.set j { nthK ks j with fs := (nthK ks j).fs.tail }) ((nthK ks j).fs.getD 0 []) (decide (1 < (nthK ks j).fs.length)) true) := by
  have HR := Lib.hid hr
  have HS := Lib.hid hs
  have HF := Lib.hid hF
  have B : Below w.heap.size w w := Below.refl _ _
  clear hr hs hF
  generalize hbs : (nthK ks j).fs.getD 0 [] = bs
  generalize hks : ks.set j { nthK ks j with fs := (nthK ks j).fs.tail } = ks2
  generalize hmo : decide (1 < (nthK ks j).fs.length) = mo
  have HBS := Lib.hid hbs
  have HKS := Lib.hid hks
  have HMO := Lib.hid hmo
  have HFW := Lib.hid hfew
  clear hbs hks hmo hfew
  go_enter Try.func49, Try.ntmps49
  go_wp2_with fail
  generalize hW : World.alloc _ _ = w1
  have bp : Bk.Blk w1 (w.heap.size) 39 #[.slice A n c] := (by rw [← hW]; apply Bk.Blk.to; (focus (exact Bk.sv)); rfl)
  have r0 : Bk.Blk w1 (w.heap.size + 1) 39 #[.slice none 0 0] := (by rw [← hW]; apply Bk.Blk.to; (focus (exact Bk.sv)); rfl)
  replace B : Below w.heap.size w w1 := (by rw [← hW]; go_grown)
  have z1 : w1.heap.size = _ := congrArg (fun W : World => W.heap.size) hW.symm
  (try simp only [World.size_alloc, Bk.size_set, World.size_drew, World.drewN] at z1)
  clear hW
  refine (copyPb_any A n c ks _ (HR.out.below B) hn HS.out).mono ?_
  rintro x w2 ⟨A1, c1, rfl, hown, hb0⟩
  obtain ⟨g, rfl, hg1, hg2⟩ := hown.addr (by omega)
  have HO := Lib.hid hown
  clear hown
  replace bp : Bk.Blk w2 (w.heap.size) 39 #[.slice A n c] := Bk.Blk.under hb0 (by exact Bk.sv)
  replace r0 : Bk.Blk w2 (w.heap.size + 1) 39 #[.slice none 0 0] := Bk.Blk.under hb0 (by exact Bk.sv)
  replace B : Below w.heap.size w w2 := Below.trans (by go_grown) (hb0.mono (by first | omega | (simp [Bk.size_set]; done) | (simp [Bk.size_set]; omega)))
  have z2 := hb0.size
  (try simp only [World.size_alloc, Bk.size_set, World.size_drew, World.drewN] at z2)
  clear hb0
  go_wp2_with fail
  generalize hW : World.alloc _ _ = w3
  replace HO := Lib.hid (HO.out.below (show Below w2.heap.size w2 w3 from by rw [← hW]; go_grown) (Nat.le_refl _))
  have bo : Bk.Blk w3 (w2.heap.size) 39 #[.slice (some ⟨g, 0, none⟩) n c1] := (by rw [← hW]; apply Bk.Blk.to; (focus (exact Bk.sv)); rfl)
  replace r0 : Bk.Blk w3 (w.heap.size + 1) 39 #[.slice none 0 0] := (by rw [← hW]; exact Bk.sv)
  replace B : Below w.heap.size w w3 := (by rw [← hW]; go_grown)
  have z3 : w3.heap.size = _ := congrArg (fun W : World => W.heap.size) hW.symm
  (try simp only [World.size_alloc, Bk.size_set, World.size_drew, World.drewN] at z3)
  clear hW
  refine (find_impl (some ⟨g, 0, none⟩) n c1 ks st _ HO.out.rd).mono ?_
  rintro x w4 ⟨i, hi, rfl, hb0⟩
  obtain rfl := find_one HF.out hi
  replace HO := Lib.hid (HO.out.below hb0 (by omega))
  clear hi
  replace bo : Bk.Blk w4 (w2.heap.size) 39 #[.slice (some ⟨g, 0, none⟩) n c1] := Bk.Blk.under hb0 (by exact Bk.sv)
  replace r0 : Bk.Blk w4 (w.heap.size + 1) 39 #[.slice none 0 0] := Bk.Blk.under hb0 (by exact Bk.sv)
  replace B : Below w.heap.size w w4 := Below.trans (by go_grown) (hb0.mono (by first | omega | (simp [Bk.size_set]; done) | (simp [Bk.size_set]; omega)))
  have z4 := hb0.size
  (try simp only [World.size_alloc, Bk.size_set, World.size_drew, World.drewN] at z4)
  clear hb0
  have zB := B.size
  have hjc : (j : Int) < (n : Int) := by omega
  obtain ⟨X1, n1, x1, a, b, ss, cs, HG, s0, s1, s2, s3, hn1, hls, ha1, ha2, ha3, HP, HI, hXb, hcl⟩ := HO.out.takeFr hj
  obtain ⟨gx, rfl⟩ := own_some HP (by have := HFW.out; omega)
  have HOS := Lib.hid (show OwnSS w4 a b (some ⟨gx, 0, none⟩) n1 x1 (nthK ks j).fs from ⟨hn1, ss, hls, ⟨HP, hXb⟩, HI⟩)
  have HFR := Lib.hid HOS.out.rd
  have HXG := own_ne2 HP HG (by decide)
  have hgx2 : gx ≠ g := fun e => HXG (by rw [e]; rfl)
  have hgx3 := own_lo HP gx rfl
  clear HXG
  obtain ⟨_, _, Y, yn, yc, hA, hgx, e0, hY⟩ := HFR.out.at_ (show 0 < n1 by have := HFW.out; omega)
  injection hA with hA
  injection hA with e1 e2
  subst e1 e2
  have HY := Lib.hid (show Rd w4 1 Y yn yc (bs.map (Value.int .u8)) from by rw [← HBS.out]; exact hY)
  have d2 : w4.cell? ⟨g, j * 4 + 2, none⟩ = some (.slice (some ⟨gx, 0, none⟩) n1 x1) := by rw [HG.cellAt _ (by omega), s2]
  have HC2 := Lib.hid d2
  have hfr : ∀ o, w4.frozen? ⟨g, o, none⟩ = false := fun o => HG.frozenAt o
  have HHG := Lib.hid HG
  have hn2 : 0 < n1 := by have := HFW.out; omega
  have hx1 : n1 ≤ x1 := HFR.out.2.1
  have hx2 : n1 ≤ 9223372036854775807 := ss64 HFR.out
  have HN1 := Lib.hid hn1
  have e1 : decide ((1 : Int) < (n1 : Int)) = mo := by rw [← HMO.out, hn1]; exact decide_eq_decide.mpr (by omega)
  have HP' := Lib.hid HP
  clear s0 s1 s2 s3 hls hcl hXb hY HP HI hn1 HG
  have k0 : ((n1 : Int) == 0) = false := by simp; omega
  have k1 : (1 : Int) ≤ (n1 : Int) := by omega
  have l_bo : w2.heap.size < w4.heap.size := Bk.Blk.lt bo
  have c_bo0 : w4.cell? ⟨w2.heap.size, 0, none⟩ = some (.slice (some ⟨g, 0, none⟩) n c1) := Bk.Blk.cell bo 0
  have f_bo0 : w4.frozen? ⟨w2.heap.size, 0, none⟩ = false := Bk.Blk.fro bo 0
  have l_r0 : w.heap.size + 1 < w4.heap.size := Bk.Blk.lt r0
  have c_r00 : w4.cell? ⟨w.heap.size + 1, 0, none⟩ = some (.slice none 0 0) := Bk.Blk.cell r0 0
  have f_r00 : w4.frozen? ⟨w.heap.size + 1, 0, none⟩ = false := Bk.Blk.fro r0 0
  go_wp2_with fail
  clear l_bo c_bo0 f_bo0 l_r0 c_r00 f_r00
  refine wp_region_held_drew (S := (fun w' => Bk.Blk w' (w2.heap.size) 39 #[.slice (some ⟨g, 0, none⟩) n c1])) (by kernel_rfl) ?_ (fun hHeld => ?_)
  · (try dsimp only); exact Bk.sv
  first | (refine Reg.tkC 0 ?_ (Reg.get rfl) ?_ hHeld ?_; rotate_left 1; (focus (intro wq hSw; (try dsimp only at hSw); have s_bo := hSw; have L_bo := Lay.c1 s_bo;  go_simp <;> with_reducible rfl))) | (refine Reg.tkB 0 (Reg.get rfl) hHeld ?_)
  try simp only [Act.put, List.setIfInBounds_toArray, List.set_cons_zero, List.set_cons_succ]
  first | (refine Reg.tkC 1 ?_ (Reg.get rfl) ?_ hHeld ?_; rotate_left 1; (focus (intro wq hSw; (try dsimp only at hSw); have s_bo := hSw; have L_bo := Lay.c1 s_bo;  go_simp <;> with_reducible rfl))) | (refine Reg.tkB 1 (Reg.get rfl) hHeld ?_)
  try simp only [Act.put, List.setIfInBounds_toArray, List.set_cons_zero, List.set_cons_succ]
  first | (refine Reg.tkC 2 ?_ (Reg.get rfl) ?_ hHeld ?_; rotate_left 1; (focus (intro wq hSw; (try dsimp only at hSw); have s_bo := hSw; have L_bo := Lay.c1 s_bo;  go_simp <;> with_reducible rfl))) | (refine Reg.tkB 2 (Reg.get rfl) hHeld ?_)
  try simp only [Act.put, List.setIfInBounds_toArray, List.set_cons_zero, List.set_cons_succ]
  first | (refine Reg.tkC 3 ?_ (Reg.get rfl) ?_ hHeld ?_; rotate_left 1; (focus (intro wq hSw; (try dsimp only at hSw); have s_bo := hSw; have L_bo := Lay.c1 s_bo;  go_simp <;> with_reducible rfl))) | (refine Reg.tkB 3 (Reg.get rfl) hHeld ?_)
  try simp only [Act.put, List.setIfInBounds_toArray, List.set_cons_zero, List.set_cons_succ]
  first | (refine Reg.tkC 4 ?_ (Reg.get rfl) ?_ hHeld ?_; rotate_left 1; (focus (intro wq hSw; (try dsimp only at hSw); have s_bo := hSw; have L_bo := Lay.c1 s_bo;  go_simp <;> with_reducible rfl))) | (refine Reg.tkB 4 (Reg.get rfl) hHeld ?_)
  try simp only [Act.put, List.setIfInBounds_toArray, List.set_cons_zero, List.set_cons_succ]
  first | (refine Reg.tkC 5 ?_ (Reg.get rfl) ?_ hHeld ?_; rotate_left 1; (focus (intro wq hSw; (try dsimp only at hSw); have s_bo := hSw; have L_bo := Lay.c1 s_bo;  go_simp <;> with_reducible rfl))) | (refine Reg.tkB 5 (Reg.get rfl) hHeld ?_)
  try simp only [Act.put, List.setIfInBounds_toArray, List.set_cons_zero, List.set_cons_succ]
  first | (refine Reg.tkC 6 ?_ (Reg.get rfl) ?_ hHeld ?_; rotate_left 1; (focus (intro wq hSw; (try dsimp only at hSw); have s_bo := hSw; have L_bo := Lay.c1 s_bo;  go_simp <;> with_reducible rfl))) | (refine Reg.tkB 6 (Reg.get rfl) hHeld ?_)
  try simp only [Act.put, List.setIfInBounds_toArray, List.set_cons_zero, List.set_cons_succ]
  first | ((refine Reg.tkB 7 (Reg.get rfl) hHeld ?_)) | (refine wpAnyH_ready (rs := [7]) (by kernel_rfl) (by simp) ?_; refine AllReadyH.cons (Reg.get rfl) (fun K hK => ?_) AllReadyH.nil; clear hHeld; go_simp; (skip); refine hK.out _ _ ?_ (fun hHeld => ?_); ((try dsimp only); exact Bk.sv); clear hK K)
  try simp only [Act.put, List.setIfInBounds_toArray, List.set_cons_zero, List.set_cons_succ]
  refine wpAnyH_done (by kernel_rfl) ?_ _
  generalize hZ : (if x1 = 1 then some (⟨gx, 0, none⟩ : Addr) else some ⟨gx, 1, none⟩) = Z
  have HZ := Lib.hid hZ
  clear hZ
  have e0' := e0
  clear d2 hfr e0
  generalize hW : World.drew _ = w5
  have HE5 := Lib.hid hW
  have hb5 : Bk.Blk w5 w2.heap.size 39 #[.slice (some ⟨g, 0, none⟩) n c1] := (by rw [← hW]; exact Bk.sv)
  have e0 : w5.cell? ⟨gx, 0, none⟩ = some (.slice Y yn yc) := (by rw [← hW]; exact (World.cell?_of_block (a := ⟨gx, 0, none⟩) (Below.heap_setCell _ _ _ gx hgx2)).trans e0')
  clear e0'
  replace bo : Bk.Blk w5 (w2.heap.size) 39 #[.slice (some ⟨g, 0, none⟩) n c1] := (by rw [← hW]; exact Bk.sv)
  replace r0 : Bk.Blk w5 (w.heap.size + 1) 39 #[.slice none 0 0] := (by rw [← hW]; exact Bk.sv)
  replace B : Below w.heap.size w w5 := (by rw [← hW]; go_grown)
  have z5 : w5.heap.size = _ := congrArg (fun W : World => W.heap.size) hW.symm
  (try simp only [World.size_alloc, Bk.size_set, World.size_drew, World.drewN] at z5)
  clear hW
  clear hb5
  have l_bo : w2.heap.size < w5.heap.size := Bk.Blk.lt bo
  have c_bo0 : w5.cell? ⟨w2.heap.size, 0, none⟩ = some (.slice (some ⟨g, 0, none⟩) n c1) := Bk.Blk.cell bo 0
  have f_bo0 : w5.frozen? ⟨w2.heap.size, 0, none⟩ = false := Bk.Blk.fro bo 0
  have l_r0 : w.heap.size + 1 < w5.heap.size := Bk.Blk.lt r0
  have c_r00 : w5.cell? ⟨w.heap.size + 1, 0, none⟩ = some (.slice none 0 0) := Bk.Blk.cell r0 0
  have f_r00 : w5.frozen? ⟨w.heap.size + 1, 0, none⟩ = false := Bk.Blk.fro r0 0
  go_wp2_with fail
  clear l_bo c_bo0 f_bo0 l_r0 c_r00 f_r00
  have f0 := Bk.Blk.fro r0 0
  have l0 := r0.lt
  have q0 := Bk.Blk.cell r0 0
  refine wp_region_held_drew (S := (fun w' => w'.cell? ⟨w2.heap.size, 0, none⟩ = some (.slice (some ⟨g, 0, none⟩) n c1) ∧ w'.cell? ⟨gx, 0, none⟩ = some (.slice Y yn yc))) (by kernel_rfl) ?_ (fun hHeld => ?_)
  · (try dsimp only); (refine ⟨(show Bk.Blk _ w2.heap.size 39 #[.slice (some ⟨g, 0, none⟩) n c1] from (by exact Bk.sv)).cell 0, ?_⟩; first | exact e0 | exact (World.cell?_of_block (a := ⟨gx, 0, none⟩) (Below.heap_setCell _ _ _ gx (by simp; omega))).trans e0)
  first | refine Reg.tkA 0 (Reg.get rfl) hHeld ?_ | refine Reg.tkB 0 (Reg.get rfl) hHeld ?_
  try simp only [Act.put, List.setIfInBounds_toArray, List.set_cons_zero, List.set_cons_succ]
  first | refine Reg.tkA 1 (Reg.get rfl) hHeld ?_ | refine Reg.tkB 1 (Reg.get rfl) hHeld ?_
  try simp only [Act.put, List.setIfInBounds_toArray, List.set_cons_zero, List.set_cons_succ]
  first | refine Reg.tkA 2 (Reg.get rfl) hHeld ?_ | refine Reg.tkB 2 (Reg.get rfl) hHeld ?_
  try simp only [Act.put, List.setIfInBounds_toArray, List.set_cons_zero, List.set_cons_succ]
  first | refine Reg.tkA 3 (Reg.get rfl) hHeld ?_ | refine Reg.tkB 3 (Reg.get rfl) hHeld ?_
  try simp only [Act.put, List.setIfInBounds_toArray, List.set_cons_zero, List.set_cons_succ]
  first | refine Reg.tkA 4 (Reg.get rfl) hHeld ?_ | refine Reg.tkB 4 (Reg.get rfl) hHeld ?_
  try simp only [Act.put, List.setIfInBounds_toArray, List.set_cons_zero, List.set_cons_succ]
  first | refine Reg.tkA 5 (Reg.get rfl) hHeld ?_ | refine Reg.tkB 5 (Reg.get rfl) hHeld ?_
  try simp only [Act.put, List.setIfInBounds_toArray, List.set_cons_zero, List.set_cons_succ]
  first | refine Reg.tkA 6 (Reg.get rfl) hHeld ?_ | refine Reg.tkB 6 (Reg.get rfl) hHeld ?_
  try simp only [Act.put, List.setIfInBounds_toArray, List.set_cons_zero, List.set_cons_succ]
  first | ((refine Reg.tkB 7 (Reg.get rfl) hHeld ?_)) | (refine wpAnyH_ready (rs := [7]) (by kernel_rfl) (by simp) ?_; refine AllReadyH.cons (Reg.get rfl) (fun K hK => ?_) AllReadyH.nil; clear hHeld; go_simp; (skip); refine hK.out _ _ ?_ (fun hHeld => ?_); ((try dsimp only); (refine ⟨(show Bk.Blk _ w2.heap.size 39 #[.slice (some ⟨g, 0, none⟩) n c1] from (by exact Bk.sv)).cell 0, ?_⟩; first | exact e0 | exact (World.cell?_of_block (a := ⟨gx, 0, none⟩) (Below.heap_setCell _ _ _ gx (by simp; omega))).trans e0)); clear hK K)
  try simp only [Act.put, List.setIfInBounds_toArray, List.set_cons_zero, List.set_cons_succ]
  first | refine Reg.tkA 8 (Reg.get rfl) hHeld ?_ | refine Reg.tkB 8 (Reg.get rfl) hHeld ?_
  try simp only [Act.put, List.setIfInBounds_toArray, List.set_cons_zero, List.set_cons_succ]
  first | refine Reg.tkA 9 (Reg.get rfl) hHeld ?_ | refine Reg.tkB 9 (Reg.get rfl) hHeld ?_
  try simp only [Act.put, List.setIfInBounds_toArray, List.set_cons_zero, List.set_cons_succ]
  first | refine Reg.tkA 10 (Reg.get rfl) hHeld ?_ | refine Reg.tkB 10 (Reg.get rfl) hHeld ?_
  try simp only [Act.put, List.setIfInBounds_toArray, List.set_cons_zero, List.set_cons_succ]
  refine wpAnyH_done (by kernel_rfl) ?_ _
  clear f0 l0 q0
  generalize hW : World.drew _ = w6
  have hz6 : w6.heap.size = w5.heap.size := by rw [← hW]; exact Bk.size_set _ _ _
  have hw6 := Lib.hid (show ∀ q, w1.heap.size ≤ q → w6.heap[q]? = (w4.setCell ⟨g, j * 4 + 2, none⟩ (.slice Z (n1 - 1) (x1 - 1))).heap[q]? from fun q q1 => by rw [← hW]; refine Eq.trans (Below.heap_setCell _ _ _ q (by simp; omega)) ?_; rw [← HE5.out]; rfl)
  have HT6 := Lib.hid (ownSS_two HHG.out HOS.out (by decide) (by decide) (j * 4 + 2) (.slice Z (n1 - 1) (x1 - 1)))
  have HB6 := Lib.hid (show PbIn w6 w.heap.size w6.heap.size (some ⟨g, 0, none⟩) n c1 ks2 from fun wq hag => by rw [← HKS.out]; exact HO.out.readSet hj Z (n1 - 1) (x1 - 1) _ none (fun q hq => by cases hq) (fun q q1 q2 _ => (hag q (by omega) (by omega)).trans (hw6.out q q1)) (ss_tail2 HZ.out (HT6.out.keep (w' := wq) fun q q1 q2 => (hag q (by omega) (by omega)).trans (hw6.out q (by omega))).rd hn2))
  have HS6 := Lib.hid (HT6.out.keep (w' := w6) fun q q1 _ => hw6.out q (by omega))
  have HY6 := Lib.hid (show Rd w6 1 Y yn yc (bs.map (Value.int .u8)) ∧ ∀ q, blk Y = some q → w.heap.size ≤ q ∧ q < w6.heap.size from by
    have hc : w6.cell? ⟨gx, 0, none⟩ = some (.slice Y yn yc) := by rw [← hW]; exact (World.cell?_of_block (a := ⟨gx, 0, none⟩) (Below.heap_setCell _ _ _ gx (by simp; omega))).trans e0
    refine ⟨by rw [← HBS.out]; exact ss_first HS6.out.rd hn2 hc, fun q hq => ?_⟩
    have h := ss_blk HS6.out hn2 hc q hq
    omega)
  clear e0
  replace r0 : Bk.Blk w6 (w.heap.size + 1) 39 #[.slice (some ⟨g, 0, none⟩) n c1] := (by rw [← hW]; apply Bk.Blk.to; (focus (exact Bk.sv)); rfl)
  replace B : Below w.heap.size w w6 := (by rw [← hW]; go_grown)
  have z6 : w6.heap.size = _ := congrArg (fun W : World => W.heap.size) hW.symm
  (try simp only [World.size_alloc, Bk.size_set, World.size_drew, World.drewN] at z6)
  clear hW
  have l_r0 : w.heap.size + 1 < w6.heap.size := Bk.Blk.lt r0
  have c_r00 : w6.cell? ⟨w.heap.size + 1, 0, none⟩ = some (.slice (some ⟨g, 0, none⟩) n c1) := Bk.Blk.cell r0 0
  go_wp2
  refine bodyPost_ret (v := .tuple #[.agg #[.slice (some ⟨g, 0, none⟩) n c1], .slice Y yn yc, .bool mo, .bool true]) (by simp [results, Try.results49, go_sem, c_r00]) rfl (⟨_, _, _, _, _, rfl, HB6.out, HY6.out, B⟩)
end Go.Proofs.Ythdieeaegplnmaa.Pb
