/- Power buffers: the program's KeepFrame that keeps the frame. -/
import Derived.Test.YthdieeaegplnmaaPbN
import Derived.Test.YthdieeaegplnmaaKeepA
namespace Go.Proofs.Ythdieeaegplnmaa.Pb
open Go.RowKit
open Go.Proofs.Ythdieeaegplnmaa.Num Go.Proofs.Ythdieeaegplnmaa.Mem Go.Proofs.Ythdieeaegplnmaa.Hsh Go.Proofs.Ythdieeaegplnmaa.Sls Go.Proofs.Ythdieeaegplnmaa.Own Go.Proofs.Ythdieeaegplnmaa.SS Go.Proofs.Ythdieeaegplnmaa.Gb
set_option linter.unusedSimpArgs false
set_option linter.unusedVariables false
theorem own_ne2 {w : World} {base b2 n m c d g : Nat} {e e2 : TypeId} {sz sz2 : Nat} {A : Option Addr} {xs ys : List Value} (h : w.ownsRow base e sz (.slice A n c) n xs) (h2 : w.ownsRow b2 e2 sz2 (.slice (some ⟨g, 0, none⟩) m d) m ys) (he : e ≠ e2) : blk A ≠ some g := by
  intro hb
  rcases h.2 with ⟨hv', _⟩ | ⟨g', cap', cur', hv', _, h4', _⟩
  · simp only [Value.slice.injEq] at hv'; rw [hv'.1] at hb; cases hb
  · simp only [Value.slice.injEq, true_and] at hv'
    rw [hv'.1] at hb
    simp only [blk, Option.map_some, Option.some.injEq] at hb
    subst hb
    rcases h2.2 with ⟨hv, _⟩ | ⟨g2, cap, cur, hv, _, h4, _⟩
    · simp at hv
    · simp only [Value.slice.injEq, Option.some.injEq, Addr.mk.injEq, and_true, true_and] at hv
      obtain ⟨rfl, _⟩ := hv
      rw [h4] at h4'
      simp only [Option.some.injEq, Obj.cells.injEq] at h4'
      exact he h4'.2.1.symm
theorem set_congr {w w' : World} {q : Nat} (p : Addr) (u : Value) (h : w'.heap[q]? = w.heap[q]?) : (w'.setCell p u).heap[q]? = (w.setCell p u).heap[q]? := by
  simp only [World.setCell, Array.getElem?_modify]
  rw [h]
/-- all blocks but one row are as they were -/
structure KeptH (w w' : World) (row : Option Nat) : Prop where
  size : w.heap.size ≤ w'.heap.size
  block : ∀ q, q < w.heap.size → row ≠ some q → w'.heap[q]? = w.heap[q]?
theorem KeptH.refl (w : World) (row : Option Nat) : KeptH w w row := ⟨Nat.le_refl _, fun _ _ _ => rfl⟩
theorem KeptH.drew {w w1 : World} {row : Option Nat} (h : KeptH w w1 row) : KeptH w w1.drew row := ⟨h.size, h.block⟩
theorem KeptH.below {w w1 w2 : World} {row : Option Nat} (h : KeptH w w1 row) (hb : Below w1.heap.size w1 w2) : KeptH w w2 row := ⟨Nat.le_trans h.size hb.size, fun q hq hr => (hb.block q (Nat.lt_of_lt_of_le hq h.size)).trans (h.block q hq hr)⟩
theorem KeptH.alloc {w w1 w2 : World} {o : Obj} {row : Option Nat} (h : KeptH w w1 row) (hW : w1.alloc o = w2) : KeptH w w2 row := hW ▸ h.below (Below.alloc (Below.refl _ _) (Nat.le_refl _) _)
theorem KeptH.grown {w w1 w2 : World} {row : Option Nat} (h : KeptH w w1 row) (hg : w1.grownBy w2 row) : KeptH w w2 row := ⟨Nat.le_trans h.size hg.size, fun q hq hr => (hg.block q (Nat.lt_of_lt_of_le hq h.size) (fun e => hr e.symm)).trans (h.block q hq hr)⟩
/-- an entry's frames as one's own, with the range of blocks they lie in -/
theorem OwnPB.takeFr {w : World} {lo hi g n c j : Nat} {ks : List Kt} (h : OwnPB w lo hi (some ⟨g, 0, none⟩) n c ks) (hj : j < n) :
    ∃ (A1 : Option Addr) (n1 c1 : Nat) (a b : Nat) (ss : List Sl) (cs : List Value), w.ownsRow lo 95 4 (.slice (some ⟨g, 0, none⟩) n c) n cs ∧ cs[j * 4]? = some (.int .i64 (nthK ks j).st) ∧ cs[j * 4 + 1]? = some (.bool (nthK ks j).ap) ∧ cs[j * 4 + 2]? = some (.slice A1 n1 c1) ∧ cs[j * 4 + 3]? = some (.int .i64 (nthK ks j).lo) ∧
      (nthK ks j).fs.length = n1 ∧ ss.length = n1 ∧ lo ≤ a ∧ a ≤ b ∧ b ≤ hi ∧ w.ownsRow a 25 1 (.slice A1 n1 c1) n1 (ss.map sl) ∧ InSS w a b ss (nthK ks j).fs n1 ∧ (∀ q, blk A1 = some q → q < b) ∧ cs.length = n * 4 := by
  obtain ⟨h0, cs, es, r, k1, ⟨k2, k3⟩, ⟨k4, k5⟩, k6, k7⟩ := h
  obtain ⟨e0, e1, e2, e3⟩ := k3 j hj
  obtain ⟨q1, q2, q3⟩ := (k6 j hj).1
  obtain ⟨p0, ss, p1, p2, p3⟩ := (k6 j hj).2
  exact ⟨(nth es j).1, (nth es j).2.1, (nth es j).2.2, (r j).1, (r j).2, ss, cs, k4, e0, e1, by rw [e2]; rfl, e3, p0, p1, q1, q2, q3, p2.1, p3, p2.2, k2⟩
/-- an entry's frames are replaced; only its old row may have turned -/
theorem OwnPB.readSet {w w' : World} {lo hi g n c j : Nat} {ks : List Kt} (h : OwnPB w lo hi (some ⟨g, 0, none⟩) n c ks) (hj : j < n) (X : Option Addr) (m d : Nat) (xss : List (List Int)) (row : Option Nat)
    (hrow : ∀ q, row = some q → ∃ A1 n1 c1, w.cell? ⟨g, j * 4 + 2, none⟩ = some (.slice A1 n1 c1) ∧ blk A1 = some q)
    (hw : ∀ q, lo ≤ q → q < hi → row ≠ some q → w'.heap[q]? = (w.setCell ⟨g, j * 4 + 2, none⟩ (.slice X m d)).heap[q]?) (hx : RdSS w' X m d xss) :
    RdPB w' (some ⟨g, 0, none⟩) n c (ks.set j { nthK ks j with fs := xss }) := by
  obtain ⟨h0, cs, es, r, k1, ⟨k2, k3⟩, ⟨k4, k5⟩, k6, k7⟩ := h
  have hr2 : ∀ q, row = some q → blk (nth es j).1 = some q := by
    intro q hq
    obtain ⟨A1, n1, c1, hc, hb⟩ := hrow q hq
    obtain ⟨e0, e1, e2, e3⟩ := k3 j hj
    rw [k4.cellAt _ (by omega), e2] at hc
    injection hc with hc
    unfold sl at hc
    injection hc with a b d
    rw [a]; exact hb
  have hrg : row ≠ some g := by
    intro e
    have hb := hr2 g e
    obtain ⟨p0, ss, p1, p2, p3⟩ := (k6 j hj).2
    exact own_ne2 p2.1 k4 (by decide) hb
  have hg := k5 g rfl
  have hgl := (blk_of_own k4 g rfl).1
  have hst : w'.ownsRow lo 95 4 (.slice (some ⟨g, 0, none⟩) n c) n (cs.set (j * 4 + 2) (.slice X m d)) := by
    have h1 := (k4.stored (j * 4 + 2) (.slice X m d)).1
    obtain ⟨l1, l2⟩ := h1
    rcases l2 with l2 | ⟨g2, cap, cur, hv, l3, l4, l5⟩
    · exact ⟨l1, .inl l2⟩
    · have hq : g2 = g := by injection hv with hv; injection hv with hv; injection hv with hv; exact hv.symm
      subst hq
      exact ⟨l1, .inr ⟨g2, cap, cur, hv, l3, (hw g2 hgl hg hrg).trans l4, l5⟩⟩
  have hr : Rd w' 4 (some ⟨g, 0, none⟩) n c (cs.set (j * 4 + 2) (.slice X m d)) := Rd.of_own hst
  refine ⟨by simp [h0], hr.2.1, hr.2.2.1, fun hp => ?_⟩
  obtain ⟨g', o, hA, hc⟩ := hr.2.2.2.2 (by simp [k2]; omega)
  injection hA with hA
  injection hA with e1 e2
  subst e1 e2
  refine ⟨g, 0, rfl, fun i hi' => ?_⟩
  obtain ⟨e0, e1, e2, e3⟩ := k3 i hi'
  have c0 := hc (i * 4) (by simp [k2]; omega)
  have c1 := hc (i * 4 + 1) (by simp [k2]; omega)
  have c2 := hc (i * 4 + 2) (by simp [k2]; omega)
  have c3 := hc (i * 4 + 3) (by simp [k2]; omega)
  rw [cell_set e0, if_neg (show ¬ i * 4 = j * 4 + 2 by omega)] at c0
  rw [cell_set e1, if_neg (show ¬ i * 4 + 1 = j * 4 + 2 by omega)] at c1
  rw [cell_set e2] at c2
  rw [cell_set e3, if_neg (show ¬ i * 4 + 3 = j * 4 + 2 by omega)] at c3
  rw [nthK_set (by omega)]
  simp only [Nat.add_assoc]
  by_cases hij : i = j
  · subst hij
    rw [if_pos rfl] at c2 ⊢
    exact ⟨X, m, d, c0, c1, c2, c3, hx⟩
  · rw [if_neg (show ¬ i * 4 + 2 = j * 4 + 2 by omega)] at c2
    rw [if_neg hij]
    refine ⟨(nth es i).1, (nth es i).2.1, (nth es i).2.2, c0, c1, c2, c3, ?_⟩
    have hs := ownSS_two k4 (k6 i hi').2 (by decide) (by decide) (j * 4 + 2) (.slice X m d)
    have hdis : (r i).2 ≤ (r j).1 ∨ (r j).2 ≤ (r i).1 := by
      rcases Nat.lt_or_gt_of_ne hij with h | h
      · exact k7 i j h hj
      · exact (k7 j i h hi').symm
    refine (hs.keep (w' := w') fun q q1 q2 => hw q (by have := (k6 i hi').1; omega) (by have := (k6 i hi').1; omega) ?_).rd
    intro e
    obtain ⟨p0, ss, p1, p2, p3⟩ := (k6 j hj).2
    have b1 := (blk_of_own p2.1 q (hr2 q e)).1
    have b2 := p2.2 q (hr2 q e)
    omega
set_option maxRecDepth 100000 in
set_option maxHeartbeats 8000000 in
theorem keepN_keep (A : Option Addr) (n c : Nat) (ks : List Kt) (st : Int) (j : Nat) (B' : Option Addr) (m d : Nat) (bs : List Int) (w : World) (hF : FindR ks st n (j : Int)) (hj : j < n) (ha : (nthK ks j).ap = true) (hfew : (nthK ks j).fs.length < 6) (hm : m ≤ 100) (hbd : Rd w 1 B' m d (bs.map (Value.int .u8))) (hr : RdPB w A n c ks) (hn : n ≤ 1048577) (hs : AllFew ks) :
    Calls Try.prog 44 #[.agg #[.slice A n c], .int .i64 st, .slice B' m d] w (RetPN w n (ks.set j { nthK ks j with fs := (nthK ks j).fs ++ [bs] }) false) := by
  obtain ⟨ip, hip, hp0, hp1, hp2⟩ := info_parts ssInfo
  have HR := Lib.hid hr
  have HS := Lib.hid hs
  have HF := Lib.hid hF
  have HBD := Lib.hid hbd
  have B : Below w.heap.size w w := Below.refl _ _
  clear hr hs hF hbd
  go_enter Try.func44, Try.ntmps44
  go_wp2_with fail
  generalize hW : World.alloc _ _ = w1
  have bp : Bk.Blk w1 (w.heap.size) 39 #[.slice A n c] := (by rw [← hW]; apply Bk.Blk.to; (focus (exact Bk.sv)); rfl)
  have r0 : Bk.Blk w1 (w.heap.size + 1) 39 #[.slice none 0 0] := (by rw [← hW]; apply Bk.Blk.to; (focus (exact Bk.sv)); rfl)
  replace B : Below w.heap.size w w1 := (by rw [← hW]; go_grown)
  have z1 : w1.heap.size = _ := congrArg (fun W : World => W.heap.size) hW.symm
  (try simp only [World.size_alloc, Bk.size_set, World.size_drew, World.drewN] at z1)
  clear hW
  refine (copyPb_any A n c ks _ (HR.out.below B) hn HS.out).mono ?_
  rintro x w2 ⟨A1, c1, rfl, hown, hb0⟩
  obtain ⟨g, rfl, hg1, hg2⟩ := hown.addr (by omega)
  have HO := Lib.hid hown
  clear hown
  replace bp : Bk.Blk w2 (w.heap.size) 39 #[.slice A n c] := Bk.Blk.under hb0 (by exact Bk.sv)
  replace r0 : Bk.Blk w2 (w.heap.size + 1) 39 #[.slice none 0 0] := Bk.Blk.under hb0 (by exact Bk.sv)
  replace B : Below w.heap.size w w2 := Below.trans (by go_grown) (hb0.mono (by first | omega | (simp [Bk.size_set]; done) | (simp [Bk.size_set]; omega)))
  have z2 := hb0.size
  (try simp only [World.size_alloc, Bk.size_set, World.size_drew, World.drewN] at z2)
  clear hb0
  go_wp2_with fail
  generalize hW : World.alloc _ _ = w3
  replace HO := Lib.hid (HO.out.below (show Below w2.heap.size w2 w3 from by rw [← hW]; go_grown) (Nat.le_refl _))
  have bo : Bk.Blk w3 (w2.heap.size) 39 #[.slice (some ⟨g, 0, none⟩) n c1] := (by rw [← hW]; apply Bk.Blk.to; (focus (exact Bk.sv)); rfl)
  replace r0 : Bk.Blk w3 (w.heap.size + 1) 39 #[.slice none 0 0] := (by rw [← hW]; exact Bk.sv)
  replace B : Below w.heap.size w w3 := (by rw [← hW]; go_grown)
  have z3 : w3.heap.size = _ := congrArg (fun W : World => W.heap.size) hW.symm
  (try simp only [World.size_alloc, Bk.size_set, World.size_drew, World.drewN] at z3)
  clear hW
  refine (find_impl (some ⟨g, 0, none⟩) n c1 ks st _ HO.out.rd).mono ?_
  rintro x w4 ⟨i, hi, rfl, hb0⟩
  obtain rfl := find_one HF.out hi
  replace HO := Lib.hid (HO.out.below hb0 (by omega))
  clear hi
  replace bo : Bk.Blk w4 (w2.heap.size) 39 #[.slice (some ⟨g, 0, none⟩) n c1] := Bk.Blk.under hb0 (by exact Bk.sv)
  replace r0 : Bk.Blk w4 (w.heap.size + 1) 39 #[.slice none 0 0] := Bk.Blk.under hb0 (by exact Bk.sv)
  replace B : Below w.heap.size w w4 := Below.trans (by go_grown) (hb0.mono (by first | omega | (simp [Bk.size_set]; done) | (simp [Bk.size_set]; omega)))
  have z4 := hb0.size
  (try simp only [World.size_alloc, Bk.size_set, World.size_drew, World.drewN] at z4)
  clear hb0
  have zB := B.size
  have hjc : (j : Int) < (n : Int) := by omega
  obtain ⟨X1, n1, x1, a, b, ss, cs, HG, s0, s1, s2, s3, hn1, hls, ha1, ha2, ha3, HP, HI, hXb, hcl⟩ := HO.out.takeFr hj
  rw [ha] at s1
  clear ha
  have HX := Lib.hid hn1
  have HL := Lib.hid hls
  have HXG := Lib.hid (own_ne2 HP HG (by decide))
  have HC2 := Lib.hid s2
  have HCL := Lib.hid hcl
  have HXB := Lib.hid hXb
  have d1 : w4.cell? ⟨g, j * 4 + 1, none⟩ = some (.bool true) := by rw [HG.cellAt _ (by omega), s1]
  have d2 : w4.cell? ⟨g, j * 4 + 2, none⟩ = some (.slice X1 n1 x1) := by rw [HG.cellAt _ (by omega), s2]
  have HO4 := Lib.hid d2
  clear s0 s1 s2 s3 hls hcl hXb
  have hf2 : (n1 : Int) < 6 := by omega
  have hn2 : n1 < 6 := by omega
  have hm2 : (m : Int) ≤ 100 := by omega
  clear hn1 hfew
  have HQ := KeptH.refl w4 (blk X1)
  have l_bo : w2.heap.size < w4.heap.size := Bk.Blk.lt bo
  have c_bo0 : w4.cell? ⟨w2.heap.size, 0, none⟩ = some (.slice (some ⟨g, 0, none⟩) n c1) := Bk.Blk.cell bo 0
  have f_bo0 : w4.frozen? ⟨w2.heap.size, 0, none⟩ = false := Bk.Blk.fro bo 0
  have l_r0 : w.heap.size + 1 < w4.heap.size := Bk.Blk.lt r0
  have c_r00 : w4.cell? ⟨w.heap.size + 1, 0, none⟩ = some (.slice none 0 0) := Bk.Blk.cell r0 0
  have f_r00 : w4.frozen? ⟨w.heap.size + 1, 0, none⟩ = false := Bk.Blk.fro r0 0
  go_wp2_with fail
  clear l_bo c_bo0 f_bo0 l_r0 c_r00 f_r00
  clear d1
  refine wp_region_held_drew (S := (fun w' => Bk.Blk w' (w2.heap.size) 39 #[.slice (some ⟨g, 0, none⟩) n c1])) (by kernel_rfl) ?_ (fun hHeld => ?_)
  · (try dsimp only); exact Bk.sv
  first | (refine Reg.tkC 0 ?_ (Reg.get rfl) ?_ hHeld ?_; rotate_left 1; (focus (intro wq hSw; (try dsimp only at hSw); have s_bo := hSw; have L_bo := Lay.c1 s_bo;  go_simp <;> with_reducible rfl))) | (refine Reg.tkB 0 (Reg.get rfl) hHeld ?_)
  try simp only [Act.put, List.setIfInBounds_toArray, List.set_cons_zero, List.set_cons_succ]
  first | (refine Reg.tkC 1 ?_ (Reg.get rfl) ?_ hHeld ?_; rotate_left 1; (focus (intro wq hSw; (try dsimp only at hSw); have s_bo := hSw; have L_bo := Lay.c1 s_bo;  go_simp <;> with_reducible rfl))) | (refine Reg.tkB 1 (Reg.get rfl) hHeld ?_)
  try simp only [Act.put, List.setIfInBounds_toArray, List.set_cons_zero, List.set_cons_succ]
  first | (refine Reg.tkC 2 ?_ (Reg.get rfl) ?_ hHeld ?_; rotate_left 1; (focus (intro wq hSw; (try dsimp only at hSw); have s_bo := hSw; have L_bo := Lay.c1 s_bo;  go_simp <;> with_reducible rfl))) | (refine Reg.tkB 2 (Reg.get rfl) hHeld ?_)
  try simp only [Act.put, List.setIfInBounds_toArray, List.set_cons_zero, List.set_cons_succ]
  first | (refine Reg.tkC 3 ?_ (Reg.get rfl) ?_ hHeld ?_; rotate_left 1; (focus (intro wq hSw; (try dsimp only at hSw); have s_bo := hSw; have L_bo := Lay.c1 s_bo;  go_simp <;> with_reducible rfl))) | (refine Reg.tkB 3 (Reg.get rfl) hHeld ?_)
  try simp only [Act.put, List.setIfInBounds_toArray, List.set_cons_zero, List.set_cons_succ]
  first | (refine Reg.tkC 4 ?_ (Reg.get rfl) ?_ hHeld ?_; rotate_left 1; (focus (intro wq hSw; (try dsimp only at hSw); have s_bo := hSw; have L_bo := Lay.c1 s_bo;  go_simp <;> with_reducible rfl))) | (refine Reg.tkB 4 (Reg.get rfl) hHeld ?_)
  try simp only [Act.put, List.setIfInBounds_toArray, List.set_cons_zero, List.set_cons_succ]
  first | (refine Reg.tkC 5 ?_ (Reg.get rfl) ?_ hHeld ?_; rotate_left 1; (focus (intro wq hSw; (try dsimp only at hSw); have s_bo := hSw; have L_bo := Lay.c1 s_bo;  go_simp <;> with_reducible rfl))) | (refine Reg.tkB 5 (Reg.get rfl) hHeld ?_)
  try simp only [Act.put, List.setIfInBounds_toArray, List.set_cons_zero, List.set_cons_succ]
  first | (refine Reg.tkC 6 ?_ (Reg.get rfl) ?_ hHeld ?_; rotate_left 1; (focus (intro wq hSw; (try dsimp only at hSw); have s_bo := hSw; have L_bo := Lay.c1 s_bo;  go_simp <;> with_reducible rfl))) | (refine Reg.tkB 6 (Reg.get rfl) hHeld ?_)
  try simp only [Act.put, List.setIfInBounds_toArray, List.set_cons_zero, List.set_cons_succ]
  first | (refine Reg.tkC 7 ?_ (Reg.get rfl) ?_ hHeld ?_; rotate_left 1; (focus (intro wq hSw; (try dsimp only at hSw); have s_bo := hSw; have L_bo := Lay.c1 s_bo;  go_simp <;> with_reducible rfl))) | (refine Reg.tkB 7 (Reg.get rfl) hHeld ?_)
  try simp only [Act.put, List.setIfInBounds_toArray, List.set_cons_zero, List.set_cons_succ]
  first | (refine Reg.tkC 9 ?_ (Reg.get rfl) ?_ hHeld ?_; rotate_left 1; (focus (intro wq hSw; (try dsimp only at hSw); have s_bo := hSw; have L_bo := Lay.c1 s_bo;  go_simp <;> with_reducible rfl))) | (refine Reg.tkB 9 (Reg.get rfl) hHeld ?_)
  try simp only [Act.put, List.setIfInBounds_toArray, List.set_cons_zero, List.set_cons_succ]
  refine wpAnyH_ready (rs := [8, 10]) (by kernel_rfl) (by simp) ?_
  refine (AllReadyH.cons (Reg.get rfl) (fun K hK => ?_) (AllReadyH.cons (Reg.get rfl) (fun K hK => ?_) AllReadyH.nil))
  
  · skip
    clear hHeld; go_simp; (skip); refine hK.out _ _ ?_ (fun hHeld => ?_); ((try dsimp only); exact Bk.sv); clear hK K
    try simp only [Act.put, List.setIfInBounds_toArray, List.set_cons_zero, List.set_cons_succ]
    first | ((refine Reg.tkB 10 (Reg.get rfl) hHeld ?_)) | (refine wpAnyH_ready (rs := [10]) (by kernel_rfl) (by simp) ?_; refine AllReadyH.cons (Reg.get rfl) (fun K hK => ?_) AllReadyH.nil; clear hHeld; go_simp; ((go_at_call 61; refine (copyB_any B' m d bs _ (by first | exact HBD.out.below B | exact (HBD.out.below B).drew) (by omega)).mono ?_; rintro x w5 ⟨A5, c5, rfl, ho5, hb0⟩; (first | replace HP := own_below HP hb0 | replace HP := own_below (own_drewA HP) hb0); (first | replace HG := own_below HG hb0 | replace HG := own_below (own_drewA HG) hb0); (first | replace HI := in_below HI hb0 (by first | omega | (simp; done) | (simp; omega)) | replace HI := in_below (in_drewA HI) hb0 (by first | omega | (simp; done) | (simp; omega))); have H5 := own_monoA ho5 (show b ≤ _ from (by first | omega | (simp; done) | (simp; omega))); (first | replace HQ := HQ.below hb0 | replace HQ := HQ.drew.below hb0); clear ho5 d2; have d2 : w5.cell? ⟨g, j * 4 + 2, none⟩ = some (.slice X1 n1 x1) := (by rw [HG.cellAt _ (by omega), HC2.out]); replace bo : Bk.Blk w5 (w2.heap.size) 39 #[.slice (some ⟨g, 0, none⟩) n c1] := Bk.Blk.under hb0 (by exact Bk.sv); replace r0 : Bk.Blk w5 (w.heap.size + 1) 39 #[.slice none 0 0] := Bk.Blk.under hb0 (by exact Bk.sv); replace B : Below w.heap.size w w5 := Below.trans (by go_grown) (hb0.mono (by first | omega | (simp [Bk.size_set]; done) | (simp [Bk.size_set]; omega))); have z5 := hb0.size; (try simp only [World.size_alloc, Bk.size_set, World.size_drew, World.drewN] at z5); clear hb0)); refine hK.out _ _ ?_ (fun hHeld => ?_); ((try dsimp only); exact Bk.sv); clear hK K)
    try simp only [Act.put, List.setIfInBounds_toArray, List.set_cons_zero, List.set_cons_succ]
    first | ((refine Reg.tkB 11 (Reg.get rfl) hHeld ?_)) | (refine wpAnyH_ready (rs := [11]) (by kernel_rfl) (by simp) ?_; refine AllReadyH.cons (Reg.get rfl) (fun K hK => ?_) AllReadyH.nil; clear hHeld; go_simp; ((generalize hW : World.alloc _ _ = w6; (first | replace HP := own_toA HP hW | replace HP := own_toA (own_drewA HP) hW); (first | replace HG := own_toA HG hW | replace HG := own_toA (own_drewA HG) hW); (first | replace HI := in_to HI hW (by first | omega | (simp; done) | (simp; omega)) | replace HI := in_to (in_drewA HI) hW (by first | omega | (simp; done) | (simp; omega))); (first | replace H5 := own_toA H5 hW | replace H5 := own_toA (own_drewA H5) hW); have re := rd_oneA hW; (first | replace HQ := HQ.alloc hW | replace HQ := HQ.drew.alloc hW); clear d2; have d2 : w6.cell? ⟨g, j * 4 + 2, none⟩ = some (.slice X1 n1 x1) := (by rw [HG.cellAt _ (by omega), HC2.out]); have z6 := size_toA hW; (try simp only [World.size_drew] at z6); replace r0 : Bk.Blk w6 (w.heap.size + 1) 39 #[.slice none 0 0] := (by rw [← hW]; exact Bk.sv); replace bo : Bk.Blk w6 (w2.heap.size) 39 #[.slice (some ⟨g, 0, none⟩) n c1] := (by rw [← hW]; exact Bk.sv); replace B : Below w.heap.size w w6 := (by rw [← hW]; go_grown); clear hW)); refine hK.out _ _ ?_ (fun hHeld => ?_); ((try dsimp only); exact Bk.sv); clear hK K)
    try simp only [Act.put, List.setIfInBounds_toArray, List.set_cons_zero, List.set_cons_succ]
    first | ((refine Reg.tkB 12 (Reg.get rfl) hHeld ?_)) | (refine wpAnyH_ready (rs := [12]) (by kernel_rfl) (by simp) ?_; refine AllReadyH.cons (Reg.get rfl) (fun K hK => ?_) AllReadyH.nil; clear hHeld; ((refine App.wp_app _ _ _ 22 rfl a 25 ip (.slice none 0 0) 1 24 Try.underlying22 hip hp0 hp1 hp2 rfl (by decide) _ _ _ _ rfl (by first | exact HP | exact own_drewA HP) _ 1 1 [.slice A5 m c5] rfl (by first | exact re | exact re.drew) (fun u hu => by simp at hu; subst hu; rfl) (by unfold maxLen; omega) (by omega) (by first | omega | (simp; done) | (simp; omega)) ?_; intro A6 c6 w7 own6 hg0 _; (first | have HS7 := keep_own HX.out HL.out HP HI H5 (by omega) hg0 own6 (by first | omega | (simp; done) | (simp; omega)) | have HS7 := keep_own HX.out HL.out (own_drewA HP) (in_drewA HI) (own_drewA H5) (by omega) hg0 own6 (by first | omega | (simp; done) | (simp; omega))); have hP := own_lo HP; replace bo : Bk.Blk w7 (w2.heap.size) 39 #[.slice (some ⟨g, 0, none⟩) n c1] := blk_grownA hg0 (own_ne HP bo (by decide)) (by exact Bk.sv); replace r0 : Bk.Blk w7 (w.heap.size + 1) 39 #[.slice none 0 0] := blk_grownA hg0 (own_ne HP r0 (by decide)) (by exact Bk.sv); replace B : Below w.heap.size w w7 := Mem.below_app (by go_grown) hg0 (by first | omega | (simp; done) | (simp; omega)) (by intro q h; have := hP _ h; omega); (first | replace HG := own_grownK HG HP (by decide) hg0 | replace HG := own_grownK (own_drewA HG) (own_drewA HP) (by decide) hg0); (first | replace HQ := HQ.grown hg0 | replace HQ := HQ.drew.grown hg0); have z7 := hg0.size; (try simp only [World.size_drew] at z7); clear hg0 own6 hP HI H5 re HP d2; have d2 : w7.cell? ⟨g, j * 4 + 2, none⟩ = some (.slice X1 n1 x1) := (by rw [HG.cellAt _ (by omega), HC2.out]); have hfr : ∀ o, w7.frozen? ⟨g, o, none⟩ = false := (fun o => HG.frozenAt o))); refine hK.out _ _ ?_ (fun hHeld => ?_); ((try dsimp only); exact Bk.sv); clear hK K)
    try simp only [Act.put, List.setIfInBounds_toArray, List.set_cons_zero, List.set_cons_succ]
    first | (refine Reg.tkC 13 ?_ (Reg.get rfl) ?_ hHeld ?_; rotate_left 1; (focus (intro wq hSw; (try dsimp only at hSw); have s_bo := hSw; have L_bo := Lay.c1 s_bo;  go_simp <;> with_reducible rfl))) | (refine Reg.tkB 13 (Reg.get rfl) hHeld ?_)
    try simp only [Act.put, List.setIfInBounds_toArray, List.set_cons_zero, List.set_cons_succ]
    first | (refine Reg.tkC 14 ?_ (Reg.get rfl) ?_ hHeld ?_; rotate_left 1; (focus (intro wq hSw; (try dsimp only at hSw); have s_bo := hSw; have L_bo := Lay.c1 s_bo;  go_simp <;> with_reducible rfl))) | (refine Reg.tkB 14 (Reg.get rfl) hHeld ?_)
    try simp only [Act.put, List.setIfInBounds_toArray, List.set_cons_zero, List.set_cons_succ]
    first | ((refine Reg.tkB 15 (Reg.get rfl) hHeld ?_)) | (refine wpAnyH_ready (rs := [15]) (by kernel_rfl) (by simp) ?_; refine AllReadyH.cons (Reg.get rfl) (fun K hK => ?_) AllReadyH.nil; clear hHeld; go_simp; (skip); refine hK.out _ _ ?_ (fun hHeld => ?_); ((try dsimp only); exact Bk.sv); clear hK K)
    try simp only [Act.put, List.setIfInBounds_toArray, List.set_cons_zero, List.set_cons_succ]
    refine wpAnyH_done (by kernel_rfl) ?_ _
    clear d2 hfr
    generalize hW : World.setCell _ _ _ = w8
    have HE8 := Lib.hid hW
    have HS8 := Lib.hid (show OwnSS w8 a w7.heap.size A6 (n1 + 1) c6 _ from by rw [← hW]; exact ownSS_two HG HS7 (by decide) (by decide) _ _)
    replace bo : Bk.Blk w8 (w2.heap.size) 39 #[.slice (some ⟨g, 0, none⟩) n c1] := (by rw [← hW]; exact Bk.sv)
    replace r0 : Bk.Blk w8 (w.heap.size + 1) 39 #[.slice none 0 0] := (by rw [← hW]; exact Bk.sv)
    replace B : Below w.heap.size w w8 := (by rw [← hW]; go_grown)
    have z8 : w8.heap.size = _ := congrArg (fun W : World => W.heap.size) hW.symm
    (try simp only [World.size_alloc, Bk.size_set, World.size_drew, World.drewN] at z8)
    clear hW
    clear HG HS7
    have l_bo : w2.heap.size < w8.heap.size := Bk.Blk.lt bo
    have c_bo0 : w8.cell? ⟨w2.heap.size, 0, none⟩ = some (.slice (some ⟨g, 0, none⟩) n c1) := Bk.Blk.cell bo 0
    have f_bo0 : w8.frozen? ⟨w2.heap.size, 0, none⟩ = false := Bk.Blk.fro bo 0
    have l_r0 : w.heap.size + 1 < w8.heap.size := Bk.Blk.lt r0
    have c_r00 : w8.cell? ⟨w.heap.size + 1, 0, none⟩ = some (.slice none 0 0) := Bk.Blk.cell r0 0
    have f_r00 : w8.frozen? ⟨w.heap.size + 1, 0, none⟩ = false := Bk.Blk.fro r0 0
    go_wp2_with fail
    clear l_bo c_bo0 f_bo0 l_r0 c_r00 f_r00
    generalize hW : World.setCell _ _ _ = w9
    have hz9 := congrArg (fun W : World => W.heap.size) hW
    simp only [Bk.size_set] at hz9
    have HR9 := Lib.hid (show PbIn w9 w.heap.size w9.heap.size (some ⟨g, 0, none⟩) n c1 (ks.set j { nthK ks j with fs := (nthK ks j).fs ++ [bs] }) from fun wq hag => HO.out.readSet hj A6 (n1 + 1) c6 _ (blk X1) (fun q hq => ⟨X1, n1, x1, HO4.out, hq⟩) (fun q q1 q2 hne => by rw [hag q (by omega) (by omega), ← hW]; refine (Below.heap_setCell _ _ _ q (by simp; omega)).trans ?_; rw [← HE8.out]; exact set_congr _ _ (HQ.block q (by omega) hne)) ((HS8.out.keep fun q q1 q2 => by rw [hag q (by omega) (by omega), ← hW]; exact Below.heap_setCell _ _ _ q (by simp; omega)).rd))
    clear hz9
    replace r0 : Bk.Blk w9 (w.heap.size + 1) 39 #[.slice (some ⟨g, 0, none⟩) n c1] := (by rw [← hW]; apply Bk.Blk.to; (focus (exact Bk.sv)); rfl)
    replace B : Below w.heap.size w w9 := (by rw [← hW]; go_grown)
    have z9 : w9.heap.size = _ := congrArg (fun W : World => W.heap.size) hW.symm
    (try simp only [World.size_alloc, Bk.size_set, World.size_drew, World.drewN] at z9)
    clear hW
    have l_r0 : w.heap.size + 1 < w9.heap.size := Bk.Blk.lt r0
    have c_r00 : w9.cell? ⟨w.heap.size + 1, 0, none⟩ = some (.slice (some ⟨g, 0, none⟩) n c1) := Bk.Blk.cell r0 0
    go_wp2
    refine bodyPost_ret (v := .tuple #[.agg #[.slice (some ⟨g, 0, none⟩) n c1], .bool false]) (by simp [results, Try.results44, go_sem, c_r00]) rfl (⟨_, _, rfl, HR9.out, B⟩)
  
  · skip
    clear hHeld; go_simp; ((go_at_call 61; refine (copyB_any B' m d bs _ (by first | exact HBD.out.below B | exact (HBD.out.below B).drew) (by omega)).mono ?_; rintro x w5 ⟨A5, c5, rfl, ho5, hb0⟩; (first | replace HP := own_below HP hb0 | replace HP := own_below (own_drewA HP) hb0); (first | replace HG := own_below HG hb0 | replace HG := own_below (own_drewA HG) hb0); (first | replace HI := in_below HI hb0 (by first | omega | (simp; done) | (simp; omega)) | replace HI := in_below (in_drewA HI) hb0 (by first | omega | (simp; done) | (simp; omega))); have H5 := own_monoA ho5 (show b ≤ _ from (by first | omega | (simp; done) | (simp; omega))); (first | replace HQ := HQ.below hb0 | replace HQ := HQ.drew.below hb0); clear ho5 d2; have d2 : w5.cell? ⟨g, j * 4 + 2, none⟩ = some (.slice X1 n1 x1) := (by rw [HG.cellAt _ (by omega), HC2.out]); replace bo : Bk.Blk w5 (w2.heap.size) 39 #[.slice (some ⟨g, 0, none⟩) n c1] := Bk.Blk.under hb0 (by exact Bk.sv); replace r0 : Bk.Blk w5 (w.heap.size + 1) 39 #[.slice none 0 0] := Bk.Blk.under hb0 (by exact Bk.sv); replace B : Below w.heap.size w w5 := Below.trans (by go_grown) (hb0.mono (by first | omega | (simp [Bk.size_set]; done) | (simp [Bk.size_set]; omega))); have z5 := hb0.size; (try simp only [World.size_alloc, Bk.size_set, World.size_drew, World.drewN] at z5); clear hb0)); refine hK.out _ _ ?_ (fun hHeld => ?_); ((try dsimp only); exact Bk.sv); clear hK K
    try simp only [Act.put, List.setIfInBounds_toArray, List.set_cons_zero, List.set_cons_succ]
    refine wpAnyH_ready (rs := [8, 11]) (by kernel_rfl) (by simp) ?_
    refine (AllReadyH.cons (Reg.get rfl) (fun K hK => ?_) (AllReadyH.cons (Reg.get rfl) (fun K hK => ?_) AllReadyH.nil))
  
    · skip
      clear hHeld; go_simp; (skip); refine hK.out _ _ ?_ (fun hHeld => ?_); ((try dsimp only); exact Bk.sv); clear hK K
      try simp only [Act.put, List.setIfInBounds_toArray, List.set_cons_zero, List.set_cons_succ]
      first | ((refine Reg.tkB 11 (Reg.get rfl) hHeld ?_)) | (refine wpAnyH_ready (rs := [11]) (by kernel_rfl) (by simp) ?_; refine AllReadyH.cons (Reg.get rfl) (fun K hK => ?_) AllReadyH.nil; clear hHeld; go_simp; ((generalize hW : World.alloc _ _ = w6; (first | replace HP := own_toA HP hW | replace HP := own_toA (own_drewA HP) hW); (first | replace HG := own_toA HG hW | replace HG := own_toA (own_drewA HG) hW); (first | replace HI := in_to HI hW (by first | omega | (simp; done) | (simp; omega)) | replace HI := in_to (in_drewA HI) hW (by first | omega | (simp; done) | (simp; omega))); (first | replace H5 := own_toA H5 hW | replace H5 := own_toA (own_drewA H5) hW); have re := rd_oneA hW; (first | replace HQ := HQ.alloc hW | replace HQ := HQ.drew.alloc hW); clear d2; have d2 : w6.cell? ⟨g, j * 4 + 2, none⟩ = some (.slice X1 n1 x1) := (by rw [HG.cellAt _ (by omega), HC2.out]); have z6 := size_toA hW; (try simp only [World.size_drew] at z6); replace r0 : Bk.Blk w6 (w.heap.size + 1) 39 #[.slice none 0 0] := (by rw [← hW]; exact Bk.sv); replace bo : Bk.Blk w6 (w2.heap.size) 39 #[.slice (some ⟨g, 0, none⟩) n c1] := (by rw [← hW]; exact Bk.sv); replace B : Below w.heap.size w w6 := (by rw [← hW]; go_grown); clear hW)); refine hK.out _ _ ?_ (fun hHeld => ?_); ((try dsimp only); exact Bk.sv); clear hK K)
      try simp only [Act.put, List.setIfInBounds_toArray, List.set_cons_zero, List.set_cons_succ]
      first | ((refine Reg.tkB 12 (Reg.get rfl) hHeld ?_)) | (refine wpAnyH_ready (rs := [12]) (by kernel_rfl) (by simp) ?_; refine AllReadyH.cons (Reg.get rfl) (fun K hK => ?_) AllReadyH.nil; clear hHeld; ((refine App.wp_app _ _ _ 22 rfl a 25 ip (.slice none 0 0) 1 24 Try.underlying22 hip hp0 hp1 hp2 rfl (by decide) _ _ _ _ rfl (by first | exact HP | exact own_drewA HP) _ 1 1 [.slice A5 m c5] rfl (by first | exact re | exact re.drew) (fun u hu => by simp at hu; subst hu; rfl) (by unfold maxLen; omega) (by omega) (by first | omega | (simp; done) | (simp; omega)) ?_; intro A6 c6 w7 own6 hg0 _; (first | have HS7 := keep_own HX.out HL.out HP HI H5 (by omega) hg0 own6 (by first | omega | (simp; done) | (simp; omega)) | have HS7 := keep_own HX.out HL.out (own_drewA HP) (in_drewA HI) (own_drewA H5) (by omega) hg0 own6 (by first | omega | (simp; done) | (simp; omega))); have hP := own_lo HP; replace bo : Bk.Blk w7 (w2.heap.size) 39 #[.slice (some ⟨g, 0, none⟩) n c1] := blk_grownA hg0 (own_ne HP bo (by decide)) (by exact Bk.sv); replace r0 : Bk.Blk w7 (w.heap.size + 1) 39 #[.slice none 0 0] := blk_grownA hg0 (own_ne HP r0 (by decide)) (by exact Bk.sv); replace B : Below w.heap.size w w7 := Mem.below_app (by go_grown) hg0 (by first | omega | (simp; done) | (simp; omega)) (by intro q h; have := hP _ h; omega); (first | replace HG := own_grownK HG HP (by decide) hg0 | replace HG := own_grownK (own_drewA HG) (own_drewA HP) (by decide) hg0); (first | replace HQ := HQ.grown hg0 | replace HQ := HQ.drew.grown hg0); have z7 := hg0.size; (try simp only [World.size_drew] at z7); clear hg0 own6 hP HI H5 re HP d2; have d2 : w7.cell? ⟨g, j * 4 + 2, none⟩ = some (.slice X1 n1 x1) := (by rw [HG.cellAt _ (by omega), HC2.out]); have hfr : ∀ o, w7.frozen? ⟨g, o, none⟩ = false := (fun o => HG.frozenAt o))); refine hK.out _ _ ?_ (fun hHeld => ?_); ((try dsimp only); exact Bk.sv); clear hK K)
      try simp only [Act.put, List.setIfInBounds_toArray, List.set_cons_zero, List.set_cons_succ]
      first | (refine Reg.tkC 13 ?_ (Reg.get rfl) ?_ hHeld ?_; rotate_left 1; (focus (intro wq hSw; (try dsimp only at hSw); have s_bo := hSw; have L_bo := Lay.c1 s_bo;  go_simp <;> with_reducible rfl))) | (refine Reg.tkB 13 (Reg.get rfl) hHeld ?_)
      try simp only [Act.put, List.setIfInBounds_toArray, List.set_cons_zero, List.set_cons_succ]
      first | (refine Reg.tkC 14 ?_ (Reg.get rfl) ?_ hHeld ?_; rotate_left 1; (focus (intro wq hSw; (try dsimp only at hSw); have s_bo := hSw; have L_bo := Lay.c1 s_bo;  go_simp <;> with_reducible rfl))) | (refine Reg.tkB 14 (Reg.get rfl) hHeld ?_)
      try simp only [Act.put, List.setIfInBounds_toArray, List.set_cons_zero, List.set_cons_succ]
      first | ((refine Reg.tkB 15 (Reg.get rfl) hHeld ?_)) | (refine wpAnyH_ready (rs := [15]) (by kernel_rfl) (by simp) ?_; refine AllReadyH.cons (Reg.get rfl) (fun K hK => ?_) AllReadyH.nil; clear hHeld; go_simp; (skip); refine hK.out _ _ ?_ (fun hHeld => ?_); ((try dsimp only); exact Bk.sv); clear hK K)
      try simp only [Act.put, List.setIfInBounds_toArray, List.set_cons_zero, List.set_cons_succ]
      refine wpAnyH_done (by kernel_rfl) ?_ _
      clear d2 hfr
      generalize hW : World.setCell _ _ _ = w8
      have HE8 := Lib.hid hW
      have HS8 := Lib.hid (show OwnSS w8 a w7.heap.size A6 (n1 + 1) c6 _ from by rw [← hW]; exact ownSS_two HG HS7 (by decide) (by decide) _ _)
      replace bo : Bk.Blk w8 (w2.heap.size) 39 #[.slice (some ⟨g, 0, none⟩) n c1] := (by rw [← hW]; exact Bk.sv)
      replace r0 : Bk.Blk w8 (w.heap.size + 1) 39 #[.slice none 0 0] := (by rw [← hW]; exact Bk.sv)
      replace B : Below w.heap.size w w8 := (by rw [← hW]; go_grown)
      have z8 : w8.heap.size = _ := congrArg (fun W : World => W.heap.size) hW.symm
      (try simp only [World.size_alloc, Bk.size_set, World.size_drew, World.drewN] at z8)
      clear hW
      clear HG HS7
      have l_bo : w2.heap.size < w8.heap.size := Bk.Blk.lt bo
      have c_bo0 : w8.cell? ⟨w2.heap.size, 0, none⟩ = some (.slice (some ⟨g, 0, none⟩) n c1) := Bk.Blk.cell bo 0
      have f_bo0 : w8.frozen? ⟨w2.heap.size, 0, none⟩ = false := Bk.Blk.fro bo 0
      have l_r0 : w.heap.size + 1 < w8.heap.size := Bk.Blk.lt r0
      have c_r00 : w8.cell? ⟨w.heap.size + 1, 0, none⟩ = some (.slice none 0 0) := Bk.Blk.cell r0 0
      have f_r00 : w8.frozen? ⟨w.heap.size + 1, 0, none⟩ = false := Bk.Blk.fro r0 0
      go_wp2_with fail
      clear l_bo c_bo0 f_bo0 l_r0 c_r00 f_r00
      generalize hW : World.setCell _ _ _ = w9
      have hz9 := congrArg (fun W : World => W.heap.size) hW
      simp only [Bk.size_set] at hz9
      have HR9 := Lib.hid (show PbIn w9 w.heap.size w9.heap.size (some ⟨g, 0, none⟩) n c1 (ks.set j { nthK ks j with fs := (nthK ks j).fs ++ [bs] }) from fun wq hag => HO.out.readSet hj A6 (n1 + 1) c6 _ (blk X1) (fun q hq => ⟨X1, n1, x1, HO4.out, hq⟩) (fun q q1 q2 hne => by rw [hag q (by omega) (by omega), ← hW]; refine (Below.heap_setCell _ _ _ q (by simp; omega)).trans ?_; rw [← HE8.out]; exact set_congr _ _ (HQ.block q (by omega) hne)) ((HS8.out.keep fun q q1 q2 => by rw [hag q (by omega) (by omega), ← hW]; exact Below.heap_setCell _ _ _ q (by simp; omega)).rd))
      clear hz9
      replace r0 : Bk.Blk w9 (w.heap.size + 1) 39 #[.slice (some ⟨g, 0, none⟩) n c1] := (by rw [← hW]; apply Bk.Blk.to; (focus (exact Bk.sv)); rfl)
      replace B : Below w.heap.size w w9 := (by rw [← hW]; go_grown)
      have z9 : w9.heap.size = _ := congrArg (fun W : World => W.heap.size) hW.symm
      (try simp only [World.size_alloc, Bk.size_set, World.size_drew, World.drewN] at z9)
      clear hW
      have l_r0 : w.heap.size + 1 < w9.heap.size := Bk.Blk.lt r0
      have c_r00 : w9.cell? ⟨w.heap.size + 1, 0, none⟩ = some (.slice (some ⟨g, 0, none⟩) n c1) := Bk.Blk.cell r0 0
      go_wp2
      refine bodyPost_ret (v := .tuple #[.agg #[.slice (some ⟨g, 0, none⟩) n c1], .bool false]) (by simp [results, Try.results44, go_sem, c_r00]) rfl (⟨_, _, rfl, HR9.out, B⟩)
  
    · skip
      clear hHeld; go_simp; ((generalize hW : World.alloc _ _ = w6; (first | replace HP := own_toA HP hW | replace HP := own_toA (own_drewA HP) hW); (first | replace HG := own_toA HG hW | replace HG := own_toA (own_drewA HG) hW); (first | replace HI := in_to HI hW (by first | omega | (simp; done) | (simp; omega)) | replace HI := in_to (in_drewA HI) hW (by first | omega | (simp; done) | (simp; omega))); (first | replace H5 := own_toA H5 hW | replace H5 := own_toA (own_drewA H5) hW); have re := rd_oneA hW; (first | replace HQ := HQ.alloc hW | replace HQ := HQ.drew.alloc hW); clear d2; have d2 : w6.cell? ⟨g, j * 4 + 2, none⟩ = some (.slice X1 n1 x1) := (by rw [HG.cellAt _ (by omega), HC2.out]); have z6 := size_toA hW; (try simp only [World.size_drew] at z6); replace r0 : Bk.Blk w6 (w.heap.size + 1) 39 #[.slice none 0 0] := (by rw [← hW]; exact Bk.sv); replace bo : Bk.Blk w6 (w2.heap.size) 39 #[.slice (some ⟨g, 0, none⟩) n c1] := (by rw [← hW]; exact Bk.sv); replace B : Below w.heap.size w w6 := (by rw [← hW]; go_grown); clear hW)); refine hK.out _ _ ?_ (fun hHeld => ?_); ((try dsimp only); exact Bk.sv); clear hK K
      try simp only [Act.put, List.setIfInBounds_toArray, List.set_cons_zero, List.set_cons_succ]
      first | ((refine Reg.tkB 8 (Reg.get rfl) hHeld ?_)) | (refine wpAnyH_ready (rs := [8]) (by kernel_rfl) (by simp) ?_; refine AllReadyH.cons (Reg.get rfl) (fun K hK => ?_) AllReadyH.nil; clear hHeld; go_simp; (skip); refine hK.out _ _ ?_ (fun hHeld => ?_); ((try dsimp only); exact Bk.sv); clear hK K)
      try simp only [Act.put, List.setIfInBounds_toArray, List.set_cons_zero, List.set_cons_succ]
      first | ((refine Reg.tkB 12 (Reg.get rfl) hHeld ?_)) | (refine wpAnyH_ready (rs := [12]) (by kernel_rfl) (by simp) ?_; refine AllReadyH.cons (Reg.get rfl) (fun K hK => ?_) AllReadyH.nil; clear hHeld; ((refine App.wp_app _ _ _ 22 rfl a 25 ip (.slice none 0 0) 1 24 Try.underlying22 hip hp0 hp1 hp2 rfl (by decide) _ _ _ _ rfl (by first | exact HP | exact own_drewA HP) _ 1 1 [.slice A5 m c5] rfl (by first | exact re | exact re.drew) (fun u hu => by simp at hu; subst hu; rfl) (by unfold maxLen; omega) (by omega) (by first | omega | (simp; done) | (simp; omega)) ?_; intro A6 c6 w7 own6 hg0 _; (first | have HS7 := keep_own HX.out HL.out HP HI H5 (by omega) hg0 own6 (by first | omega | (simp; done) | (simp; omega)) | have HS7 := keep_own HX.out HL.out (own_drewA HP) (in_drewA HI) (own_drewA H5) (by omega) hg0 own6 (by first | omega | (simp; done) | (simp; omega))); have hP := own_lo HP; replace bo : Bk.Blk w7 (w2.heap.size) 39 #[.slice (some ⟨g, 0, none⟩) n c1] := blk_grownA hg0 (own_ne HP bo (by decide)) (by exact Bk.sv); replace r0 : Bk.Blk w7 (w.heap.size + 1) 39 #[.slice none 0 0] := blk_grownA hg0 (own_ne HP r0 (by decide)) (by exact Bk.sv); replace B : Below w.heap.size w w7 := Mem.below_app (by go_grown) hg0 (by first | omega | (simp; done) | (simp; omega)) (by intro q h; have := hP _ h; omega); (first | replace HG := own_grownK HG HP (by decide) hg0 | replace HG := own_grownK (own_drewA HG) (own_drewA HP) (by decide) hg0); (first | replace HQ := HQ.grown hg0 | replace HQ := HQ.drew.grown hg0); have z7 := hg0.size; (try simp only [World.size_drew] at z7); clear hg0 own6 hP HI H5 re HP d2; have d2 : w7.cell? ⟨g, j * 4 + 2, none⟩ = some (.slice X1 n1 x1) := (by rw [HG.cellAt _ (by omega), HC2.out]); have hfr : ∀ o, w7.frozen? ⟨g, o, none⟩ = false := (fun o => HG.frozenAt o))); refine hK.out _ _ ?_ (fun hHeld => ?_); ((try dsimp only); exact Bk.sv); clear hK K)
      try simp only [Act.put, List.setIfInBounds_toArray, List.set_cons_zero, List.set_cons_succ]
      first | (refine Reg.tkC 13 ?_ (Reg.get rfl) ?_ hHeld ?_; rotate_left 1; (focus (intro wq hSw; (try dsimp only at hSw); have s_bo := hSw; have L_bo := Lay.c1 s_bo;  go_simp <;> with_reducible rfl))) | (refine Reg.tkB 13 (Reg.get rfl) hHeld ?_)
      try simp only [Act.put, List.setIfInBounds_toArray, List.set_cons_zero, List.set_cons_succ]
      first | (refine Reg.tkC 14 ?_ (Reg.get rfl) ?_ hHeld ?_; rotate_left 1; (focus (intro wq hSw; (try dsimp only at hSw); have s_bo := hSw; have L_bo := Lay.c1 s_bo;  go_simp <;> with_reducible rfl))) | (refine Reg.tkB 14 (Reg.get rfl) hHeld ?_)
      try simp only [Act.put, List.setIfInBounds_toArray, List.set_cons_zero, List.set_cons_succ]
      first | ((refine Reg.tkB 15 (Reg.get rfl) hHeld ?_)) | (refine wpAnyH_ready (rs := [15]) (by kernel_rfl) (by simp) ?_; refine AllReadyH.cons (Reg.get rfl) (fun K hK => ?_) AllReadyH.nil; clear hHeld; go_simp; (skip); refine hK.out _ _ ?_ (fun hHeld => ?_); ((try dsimp only); exact Bk.sv); clear hK K)
      try simp only [Act.put, List.setIfInBounds_toArray, List.set_cons_zero, List.set_cons_succ]
      refine wpAnyH_done (by kernel_rfl) ?_ _
      clear d2 hfr
      generalize hW : World.setCell _ _ _ = w8
      have HE8 := Lib.hid hW
      have HS8 := Lib.hid (show OwnSS w8 a w7.heap.size A6 (n1 + 1) c6 _ from by rw [← hW]; exact ownSS_two HG HS7 (by decide) (by decide) _ _)
      replace bo : Bk.Blk w8 (w2.heap.size) 39 #[.slice (some ⟨g, 0, none⟩) n c1] := (by rw [← hW]; exact Bk.sv)
      replace r0 : Bk.Blk w8 (w.heap.size + 1) 39 #[.slice none 0 0] := (by rw [← hW]; exact Bk.sv)
      replace B : Below w.heap.size w w8 := (by rw [← hW]; go_grown)
      have z8 : w8.heap.size = _ := congrArg (fun W : World => W.heap.size) hW.symm
      (try simp only [World.size_alloc, Bk.size_set, World.size_drew, World.drewN] at z8)
      clear hW
      clear HG HS7
      have l_bo : w2.heap.size < w8.heap.size := Bk.Blk.lt bo
      have c_bo0 : w8.cell? ⟨w2.heap.size, 0, none⟩ = some (.slice (some ⟨g, 0, none⟩) n c1) := Bk.Blk.cell bo 0
      have f_bo0 : w8.frozen? ⟨w2.heap.size, 0, none⟩ = false := Bk.Blk.fro bo 0
      have l_r0 : w.heap.size + 1 < w8.heap.size := Bk.Blk.lt r0
      have c_r00 : w8.cell? ⟨w.heap.size + 1, 0, none⟩ = some (.slice none 0 0) := Bk.Blk.cell r0 0
      have f_r00 : w8.frozen? ⟨w.heap.size + 1, 0, none⟩ = false := Bk.Blk.fro r0 0
      go_wp2_with fail
      clear l_bo c_bo0 f_bo0 l_r0 c_r00 f_r00
      generalize hW : World.setCell _ _ _ = w9
      have hz9 := congrArg (fun W : World => W.heap.size) hW
      simp only [Bk.size_set] at hz9
      have HR9 := Lib.hid (show PbIn w9 w.heap.size w9.heap.size (some ⟨g, 0, none⟩) n c1 (ks.set j { nthK ks j with fs := (nthK ks j).fs ++ [bs] }) from fun wq hag => HO.out.readSet hj A6 (n1 + 1) c6 _ (blk X1) (fun q hq => ⟨X1, n1, x1, HO4.out, hq⟩) (fun q q1 q2 hne => by rw [hag q (by omega) (by omega), ← hW]; refine (Below.heap_setCell _ _ _ q (by simp; omega)).trans ?_; rw [← HE8.out]; exact set_congr _ _ (HQ.block q (by omega) hne)) ((HS8.out.keep fun q q1 q2 => by rw [hag q (by omega) (by omega), ← hW]; exact Below.heap_setCell _ _ _ q (by simp; omega)).rd))
      clear hz9
      replace r0 : Bk.Blk w9 (w.heap.size + 1) 39 #[.slice (some ⟨g, 0, none⟩) n c1] := (by rw [← hW]; apply Bk.Blk.to; (focus (exact Bk.sv)); rfl)
      replace B : Below w.heap.size w w9 := (by rw [← hW]; go_grown)
      have z9 : w9.heap.size = _ := congrArg (fun W : World => W.heap.size) hW.symm
      (try simp only [World.size_alloc, Bk.size_set, World.size_drew, World.drewN] at z9)
      clear hW
      have l_r0 : w.heap.size + 1 < w9.heap.size := Bk.Blk.lt r0
      have c_r00 : w9.cell? ⟨w.heap.size + 1, 0, none⟩ = some (.slice (some ⟨g, 0, none⟩) n c1) := Bk.Blk.cell r0 0
      go_wp2
      refine bodyPost_ret (v := .tuple #[.agg #[.slice (some ⟨g, 0, none⟩) n c1], .bool false]) (by simp [results, Try.results44, go_sem, c_r00]) rfl (⟨_, _, rfl, HR9.out, B⟩)
end Go.Proofs.Ythdieeaegplnmaa.Pb
