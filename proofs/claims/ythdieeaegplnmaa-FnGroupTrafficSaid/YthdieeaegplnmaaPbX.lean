/- Power buffers: the reference's AddStation that adds. -/
import Derived.Test.YthdieeaegplnmaaPbR
import Derived.Test.YthdieeaegplnmaaPbS
import Derived.Test.YthdieeaegplnmaaPbO
namespace Go.Proofs.Ythdieeaegplnmaa.Pb
open Go.RowKit
open Go.Proofs.Ythdieeaegplnmaa.Num Go.Proofs.Ythdieeaegplnmaa.Mem Go.Proofs.Ythdieeaegplnmaa.Hsh Go.Proofs.Ythdieeaegplnmaa.Sls Go.Proofs.Ythdieeaegplnmaa.Own Go.Proofs.Ythdieeaegplnmaa.SS Go.Proofs.Ythdieeaegplnmaa.Gb
set_option linter.unusedSimpArgs false
set_option linter.unusedVariables false
theorem leafA {T F : World → Nat → Nat → Option Addr → Nat → Option Addr → Nat → Prop} {G : Prop} (h : ∀ W p0 p8 A7 c7 A9 c9, F W p0 p8 A7 c7 A9 c9 → T W p0 p8 A7 c7 A9 c9) (k : (∀ W p0 p8 A7 c7 A9 c9, F W p0 p8 A7 c7 A9 c9 → T W p0 p8 A7 c7 A9 c9) → G) : G := k h
theorem any_normA {P : Program} {md : Region.Mode} {ops : Array Oper} {Q : Exit → Act → World → Prop} {S : World → Prop} {f f2 : Nat} {l l2 : Array Bool} {a : Act} {w : World} (h1 : f = f2) (h2 : l = l2) (h : wpAnyH P md ops Q S f2 l2 a w) : wpAnyH P md ops Q S f l a w := by subst h1; subst h2; exact h
theorem rd_toA {W w' : World} {o : Obj} {sz n c : Nat} {A : Option Addr} {xs : List Value} (h : Mem.Rd W sz A n c xs) (hW : W.alloc o = w') : Mem.Rd w' sz A n c xs := hW ▸ h.alloc o
theorem below_toA {B : Nat} {a W w' : World} {o : Obj} (h : Below B a W) (hW : W.alloc o = w') (hs : B ≤ W.heap.size) : Below B a w' := hW ▸ h.alloc hs _
theorem rd_newP {W w' : World} {st : Int} {t : TypeId} (hW : W.alloc (.cells #[.int .i64 st, .bool false, .slice none 0 0, .int .i64 0] t) = w') : ∃ p, p = W.heap.size ∧ Mem.Rd w' 4 (some ⟨p, 0, none⟩) 1 1 (cellsK ⟨st, false, [], 0⟩ (none, 0, 0)) := ⟨_, rfl, hW ▸ rd_litK W ⟨st, false, [], 0⟩ (none, 0, 0) t⟩
theorem own_newP {W w' : World} {lo : Nat} {e : TypeId} (hW : W.alloc (.cells #[] e) = w') (h : lo ≤ W.heap.size) : ∃ p, p = W.heap.size ∧ w'.ownsRow lo e 4 (.slice (some ⟨p, 0, none⟩) 0 0) 0 [] := ⟨_, rfl, own_freshA hW h⟩
theorem szA {W w' : World} {o : Obj} (hW : W.alloc o = w') : W.heap.size < w'.heap.size := by rw [← hW]; simp
theorem own_formA {w : World} {base n c : Nat} {e : TypeId} {sz : Nat} {A : Option Addr} {xs : List Value} (h : w.ownsRow base e sz (.slice A n c) n xs) : (A = none ∧ n = 0 ∧ c = 0) ∨ ∃ g, A = some ⟨g, 0, none⟩ := by
  rcases h.2 with ⟨hv, h0⟩ | ⟨g, cap, cur, hv, _⟩
  · injection hv with h1 h2 h3; exact .inl ⟨h1, h0, h3⟩
  · injection hv with hv; exact .inr ⟨g, hv⟩
/-- where a slice's rest begins -/
def drA : Option Addr → Nat → Nat → Option Addr
  | none, _, _ => none
  | some p, a, c => if c = a then some p else some ⟨p.block, p.off + a * 4, p.spot⟩
theorem rd_drA {w : World} {A : Option Addr} {n c a : Nat} {xs : List Value} (hA : (A = none ∧ n = 0 ∧ c = 0) ∨ ∃ g, A = some ⟨g, 0, none⟩) (h : Mem.Rd w 4 A n c xs) (ha : a ≤ n) : Mem.Rd w 4 (drA A a c) (n - a) (c - a) (xs.drop (a * 4)) := by
  rcases hA with ⟨rfl, rfl, rfl⟩ | ⟨g, rfl⟩
  · obtain rfl : a = 0 := by omega
    simpa [drA] using h
  · have h2 := rd4_drop h ha
    unfold drA
    simpa using h2
theorem wp_appK {w : World} {o : Oper} {a : Act} {K : Act → World → Prop} {Q : Exit → Act → World → Prop} {s x : Operand} {A B : Option Addr} {n c m d : Nat} {xs news : List Value} (_ : Unit)
    (ho : o.op = .call { callee := .builtin .append, args := #[s, x], argTypes := #[37, 37] })
    (base : Nat) (hs : a.eval s = .slice A n c) (hown : w.ownsRow base 95 4 (.slice A n c) n xs) (hx : a.eval x = .slice B m d) (hr : Rd w 4 B m d news) (h1 : ∀ u ∈ news, u.oneCell' = true)
    (h63 : n + m ≤ 2097152) (hbase : base ≤ w.heap.size)
    (hK : ∀ A' c' w', w'.ownsRow base 95 4 (.slice A' (n + m) c') (n + m) (xs ++ news) → w.grownBy w' (blk A) → (blk A' = blk A ∨ blk A' = some w.heap.size) → K (a.put o.dst (.slice A' (n + m) c')) w') :
    o.wp Try.prog a w K Q := by
  obtain ⟨i0, hi, hz0, hz1, hz2⟩ := info_parts ktInfo
  exact App.wp_app w s x 37 ho base 95 i0 (.agg #[.int .i64 0, .bool false, .slice none 0 0, .int .i64 0]) 4 48 Try.underlying37 hi hz0 hz1 hz2 rfl (by decide) A n c xs hs hown B m d news hx hr h1 (by unfold maxLen; omega) (by omega) hbase hK
def tl14 : Array Bool := #[true, true, true, true, true, true, true, true, true, true, true, true, true, true, false, false, false]
set_option maxRecDepth 100000 in
set_option maxHeartbeats 8000000 in
theorem addS_ok (A : Option Addr) (n c : Nat) (ks : List Kt) (st : Int) (w : World) (hv : validP ks n) (h0 : 0 ≤ st) (h15 : st ≤ 15) (hF : FindR ks st n (-1)) (hr : RdPB w A n c ks) (hn : n ≤ 1048577) (hs : AllFew ks) :
    Calls Try.prog 37 #[.agg #[.slice A n c], .int .i64 st] w fun x w' => ∃ a, AtK ks st n a ∧ RetSN w (n + 1) (insK ks a ⟨st, false, [], 0⟩) true x w' := by
  obtain ⟨i0, hi, hz0, hz1, hz2⟩ := info_parts ktInfo
  have HR := Lib.hid hr
  have HS := Lib.hid hs
  have HF := Lib.hid hF
  have HV := Lib.hid hv
  have B : Below w.heap.size w w := Below.refl _ _
  clear hr hs hF hv
  go_enter Try.func37, Try.ntmps37
  go_wp2_with fail
  generalize hW : World.alloc _ _ = w1
  have bp : Bk.Blk w1 (w.heap.size) 39 #[.slice A n c] := (by rw [← hW]; apply Bk.Blk.to; (focus (exact Bk.sv)); rfl)
  have r0 : Bk.Blk w1 (w.heap.size + 1) 39 #[.slice none 0 0] := (by rw [← hW]; apply Bk.Blk.to; (focus (exact Bk.sv)); rfl)
  replace B : Below w.heap.size w w1 := (by rw [← hW]; go_grown)
  have z1 : w1.heap.size = _ := congrArg (fun W : World => W.heap.size) hW.symm
  (try simp only [World.size_alloc, Bk.size_set, World.size_drew, World.drewN] at z1)
  clear hW
  refine (copyPb_spec A n c ks _ (HR.out.below B) hn HS.out).mono ?_
  rintro x w2 ⟨A1, c1, rfl, hown, hb0⟩
  obtain ⟨hk0, cs, es, r, hes, hcs, hrow, hin⟩ := hown.parts
  have HO := Lib.hid hown
  clear hown
  replace bp : Bk.Blk w2 (w.heap.size) 39 #[.slice A n c] := Bk.Blk.under hb0 (by exact Bk.sv)
  replace r0 : Bk.Blk w2 (w.heap.size + 1) 39 #[.slice none 0 0] := Bk.Blk.under hb0 (by exact Bk.sv)
  replace B : Below w.heap.size w w2 := Below.trans (by go_grown) (hb0.mono (by first | omega | (simp [Bk.size_set]; done) | (simp [Bk.size_set]; omega)))
  have z2 := hb0.size
  (try simp only [World.size_alloc, Bk.size_set, World.size_drew, World.drewN] at z2)
  clear hb0
  have HK := Lib.hid hk0
  have HE := Lib.hid hes
  have HC := Lib.hid hcs
  have HW := Lib.hid hrow
  have HI := Lib.hid hin
  clear hk0 hes hcs hrow hin
  have l_bp : w.heap.size < w2.heap.size := Bk.Blk.lt bp
  have c_bp0 : w2.cell? ⟨w.heap.size, 0, none⟩ = some (.slice A n c) := Bk.Blk.cell bp 0
  have f_bp0 : w2.frozen? ⟨w.heap.size, 0, none⟩ = false := Bk.Blk.fro bp 0
  go_wp2_with fail
  clear l_bp c_bp0 f_bp0
  generalize hW : World.alloc _ _ = w3
  replace HO := Lib.hid (HO.out.below (show Below w2.heap.size w2 w3 from by rw [← hW]; go_grown) (Nat.le_refl _))
  replace HW := Lib.hid (own_toA HW.out hW)
  replace HI := Lib.hid (HI.out.keep (w' := w3) fun q _ h2 => by rw [← hW]; exact Below.heap_alloc _ _ q h2)
  have bo : Bk.Blk w3 (w2.heap.size) 39 #[.slice A1 n c1] := (by rw [← hW]; apply Bk.Blk.to; (focus (exact Bk.sv)); rfl)
  replace bp : Bk.Blk w3 (w.heap.size) 39 #[.slice A n c] := (by rw [← hW]; exact Bk.sv)
  replace r0 : Bk.Blk w3 (w.heap.size + 1) 39 #[.slice none 0 0] := (by rw [← hW]; exact Bk.sv)
  replace B : Below w.heap.size w w3 := (by rw [← hW]; go_grown)
  have z3 : w3.heap.size = _ := congrArg (fun W : World => W.heap.size) hW.symm
  (try simp only [World.size_alloc, Bk.size_set, World.size_drew, World.drewN] at z3)
  clear hW
  refine (validPb_spec A n c ks _ (HR.out.below B)).mono ?_
  rintro x w4 hsay
  obtain ⟨rfl, hb0⟩ := says_true hsay HV.out
  clear hsay
  replace HO := Lib.hid (HO.out.below hb0 (by omega))
  replace HW := Lib.hid (own_below HW.out hb0)
  replace HI := Lib.hid (HI.out.keep (w' := w4) fun q _ h2 => hb0.block q (by omega))
  replace bo : Bk.Blk w4 (w2.heap.size) 39 #[.slice A1 n c1] := Bk.Blk.under hb0 (by exact Bk.sv)
  replace bp : Bk.Blk w4 (w.heap.size) 39 #[.slice A n c] := Bk.Blk.under hb0 (by exact Bk.sv)
  replace r0 : Bk.Blk w4 (w.heap.size + 1) 39 #[.slice none 0 0] := Bk.Blk.under hb0 (by exact Bk.sv)
  replace B : Below w.heap.size w w4 := Below.trans (by go_grown) (hb0.mono (by first | omega | (simp [Bk.size_set]; done) | (simp [Bk.size_set]; omega)))
  have z4 := hb0.size
  (try simp only [World.size_alloc, Bk.size_set, World.size_drew, World.drewN] at z4)
  clear hb0
  have l_bp : w.heap.size < w4.heap.size := Bk.Blk.lt bp
  have c_bp0 : w4.cell? ⟨w.heap.size, 0, none⟩ = some (.slice A n c) := Bk.Blk.cell bp 0
  have f_bp0 : w4.frozen? ⟨w.heap.size, 0, none⟩ = false := Bk.Blk.fro bp 0
  go_wp2_with (first | (go_at_call 72; refine (in_spec_yes _ _ _ _ (by omega) (by omega)).mono ?_; rintro e w' ⟨rfl, rfl⟩))
  clear l_bp c_bp0 f_bp0
  refine (find_spec A n c ks st _ (HR.out.below B)).mono ?_
  rintro x w5 ⟨i, hi, rfl, hb0⟩
  obtain rfl := find_one HF.out hi
  replace HO := Lib.hid (HO.out.below hb0 (by omega))
  replace HW := Lib.hid (own_below HW.out hb0)
  replace HI := Lib.hid (HI.out.keep (w' := w5) fun q _ h2 => hb0.block q (by omega))
  clear hi
  replace bo : Bk.Blk w5 (w2.heap.size) 39 #[.slice A1 n c1] := Bk.Blk.under hb0 (by exact Bk.sv)
  replace r0 : Bk.Blk w5 (w.heap.size + 1) 39 #[.slice none 0 0] := Bk.Blk.under hb0 (by exact Bk.sv)
  replace B : Below w.heap.size w w5 := Below.trans (by go_grown) (hb0.mono (by first | omega | (simp [Bk.size_set]; done) | (simp [Bk.size_set]; omega)))
  have z5 := hb0.size
  (try simp only [World.size_alloc, Bk.size_set, World.size_drew, World.drewN] at z5)
  clear hb0
  have l_bo : w2.heap.size < w5.heap.size := Bk.Blk.lt bo
  have c_bo0 : w5.cell? ⟨w2.heap.size, 0, none⟩ = some (.slice A1 n c1) := Bk.Blk.cell bo 0
  have f_bo0 : w5.frozen? ⟨w2.heap.size, 0, none⟩ = false := Bk.Blk.fro bo 0
  have hn64 := HR.out.n64
  go_upto_block 0 with fail
  go_cut [7] (fun v7 wr => ∃ a : Nat, AtK ks st n a ∧ v7 = .int .i64 (a : Int) ∧ wr = w5)
  case first =>
    go_wp2_with fail
    go_loop [7] (fun v7 => ∃ k : Nat, k ≤ n ∧ v7 = .int .i64 (k : Int) ∧ ∀ l, l < k → (nthK ks l).st < st) (fun v7 => n - (intOf v7).toNat)
    case atStart => exact ⟨0, Nat.zero_le _, rfl, fun l h => absurd h (by omega)⟩
    case round =>
      obtain ⟨k, hk, rfl, hlo⟩ := hrel
      have HLO := Lib.hid hlo
      clear hlo
      by_cases hlt : k < n
      · obtain ⟨g, rfl, _, _⟩ := HO.out.addr (by omega)
        obtain ⟨s, d0, _, _, _, _, _⟩ := HO.out.cellsAt hlt
        have i1 : (k : Int) < (n : Int) := by omega
        by_cases hc : (nthK ks k).st < st
        · have HL2 := Lib.hid (show ∀ l, l < k + 1 → (nthK ks l).st < st from fun l hl => by
            rcases Nat.lt_or_ge l k with h | h
            · exact HLO.out l h
            · obtain rfl : l = k := by omega
              exact hc)
          generalize (nthK ks k).st = s0 at d0 hc
          go_wp2_with fail
          go_round
          case rel => exact ⟨k + 1, by omega, by go_num, HL2.out⟩
          case measure => simp [intOf]; omega
        · have HA := Lib.hid (show AtK ks st n k from ⟨hk, HLO.out, fun _ => hc⟩)
          have hc2 : decide ((nthK ks k).st < st) = false := by simpa using hc
          clear hc
          generalize (nthK ks k).st = s0 at d0 hc2
          go_wp2_with fail
          go_meet
          exact ⟨k, HA.out, rfl, rfl⟩
      · obtain rfl : k = n := by omega
        have HA := Lib.hid (show AtK ks st k k from ⟨hk, HLO.out, fun h => absurd h (by omega)⟩)
        go_wp2_with fail
        go_meet
        exact ⟨k, HA.out, rfl, rfl⟩
  case rest =>
    obtain ⟨a, ha, rfl, hwc⟩ := hcut
    subst hwc
    obtain ⟨w5, hw5⟩ : ∃ W, W = wc := ⟨_, rfl⟩
    subst hw5
    have HA := Lib.hid ha
    have han := ha.1
    clear ha
    have i1 : (a : Int) ≤ (n : Int) := by omega
    have i2 : (0 : Int) ≤ (a : Int) := by omega
    have HRW := Lib.hid (Rd.of_own HW.out)
    have HON := Lib.hid (cells_oneK HC.out)
    have HA1 := Lib.hid (own_formA HW.out)
    have hnc := HRW.out.2.1
    have i3 : (a : Int) ≤ (c1 : Int) := by omega
    have HTK := Lib.hid (fun (W : World) (D : Below w5.heap.size w5 W) => rd4_take (HRW.out.below D) han)
    have HDR := Lib.hid (fun (W : World) (D : Below w5.heap.size w5 W) => rd_drA HA1.out (HRW.out.below D) han)
    have KB := Lib.hid (fun (W : World) (D : Below w5.heap.size w5 W) => (Bk.Blk.under D bo).cell 0)
    go_wp2_with fail
    clear l_bo c_bo0 f_bo0
    have e10 := Lib.hid (show a + 1 + (n - a) = n + 1 by omega)
    refine leafA (T := ?T) (F := fun W p0 p8 A7 c7 A9 c9 => Below w5.heap.size w5 W ∧ W.ownsRow w5.heap.size 95 4 (.slice A9 (a + 1) c9) (a + 1) (cs.take (a * 4) ++ cellsK ⟨st, false, [], 0⟩ (none, 0, 0))) ?leaf ?tree
    case tree =>
      intro LEAF
      have D : Below w5.heap.size w5 w5 := Below.refl _ _
      have cb : w5.cell? ⟨w2.heap.size, 0, none⟩ = some (.slice A1 n c1) := KB.out _ D
      refine wp_region_held_drew (S := (fun _ => True)) (by kernel_rfl) ?_ (fun hHeld => ?_)
      · (try dsimp only); skip
      first | refine Reg.tkA 1 (Reg.get rfl) hHeld ?_ | refine Reg.tkB 1 (Reg.get rfl) hHeld ?_
      try simp only [Act.put, List.setIfInBounds_toArray, List.set_cons_zero, List.set_cons_succ]
      first | refine Reg.tkA 3 (Reg.get rfl) hHeld ?_ | refine Reg.tkB 3 (Reg.get rfl) hHeld ?_
      try simp only [Act.put, List.setIfInBounds_toArray, List.set_cons_zero, List.set_cons_succ]
      first | refine Reg.tkA 6 (Reg.get rfl) hHeld ?_ | refine Reg.tkB 6 (Reg.get rfl) hHeld ?_
      try simp only [Act.put, List.setIfInBounds_toArray, List.set_cons_zero, List.set_cons_succ]
      first | refine Reg.tkA 7 (Reg.get rfl) hHeld ?_ | refine Reg.tkB 7 (Reg.get rfl) hHeld ?_
      try simp only [Act.put, List.setIfInBounds_toArray, List.set_cons_zero, List.set_cons_succ]
      first | refine Reg.tkA 10 (Reg.get rfl) hHeld ?_ | refine Reg.tkB 10 (Reg.get rfl) hHeld ?_
      try simp only [Act.put, List.setIfInBounds_toArray, List.set_cons_zero, List.set_cons_succ]
      first | refine Reg.tkA 12 (Reg.get rfl) hHeld ?_ | refine Reg.tkB 12 (Reg.get rfl) hHeld ?_
      try simp only [Act.put, List.setIfInBounds_toArray, List.set_cons_zero, List.set_cons_succ]
      refine wpAnyH_ready (rs := [0, 2, 8, 11]) (by kernel_rfl) (by simp) ?_
      refine (AllReadyH.cons (Reg.get rfl) (fun K hK => ?_) (AllReadyH.cons (Reg.get rfl) (fun K hK => ?_) (AllReadyH.cons (Reg.get rfl) (fun K hK => ?_) (AllReadyH.cons (Reg.get rfl) (fun K hK => ?_) AllReadyH.nil))))
      
      · skip
        clear hHeld; go_simp; ((generalize hW : World.alloc _ _ = w6; obtain ⟨p0, hp0, O1⟩ := own_newP hW D.size; (try rw [← hp0]); (try simp only [World.size_drew] at hp0); (try rw [← hp0]); have hp1 := Nat.le_of_eq hp0; have hp2 := Nat.le_of_eq hp0.symm; clear hp0; have z6 := szA hW; (try simp only [World.size_drew] at z6); (try replace E8 := rd_toA E8 hW); replace D := below_toA D hW D.size; clear hW cb; have cb := KB.out _ D)); refine hK.out _ _ ?_ (fun hHeld => ?_); ((try dsimp only); skip); clear hK K
        try simp only [Act.put, List.setIfInBounds_toArray, List.set_cons_zero, List.set_cons_succ]
        refine wpAnyH_ready (rs := [2, 8, 11]) (by kernel_rfl) (by simp) ?_
        refine (AllReadyH.cons (Reg.get rfl) (fun K hK => ?_) (AllReadyH.cons (Reg.get rfl) (fun K hK => ?_) (AllReadyH.cons (Reg.get rfl) (fun K hK => ?_) AllReadyH.nil)))
      
        · skip
          clear hHeld; go_simp; (skip); refine hK.out _ _ ?_ (fun hHeld => ?_); ((try dsimp only); skip); clear hK K
          try simp only [Act.put, List.setIfInBounds_toArray, List.set_cons_zero, List.set_cons_succ]
          (refine wpAnyH_take (i := 4) (v := .slice A1 a c1) (Reg.get rfl) (by kernel_rfl) (by kernel_rfl) (by kernel_rfl) (fun _ _ _ h => h) (Or.inl ⟨by rfl, ?_⟩) hHeld ?_; (focus (intro wq hSw; (rcases HA1.out with ⟨rfl, rfl, rfl⟩ | ⟨g, rfl⟩); (focus (obtain rfl : a = 0 := (by omega); go_simp <;> rfl)); go_simp <;> rfl)))
          try simp only [Act.put, List.setIfInBounds_toArray, List.set_cons_zero, List.set_cons_succ]
          refine wpAnyH_ready (rs := [5, 8, 11]) (by kernel_rfl) (by simp) ?_
          refine (AllReadyH.cons (Reg.get rfl) (fun K hK => ?_) (AllReadyH.cons (Reg.get rfl) (fun K hK => ?_) (AllReadyH.cons (Reg.get rfl) (fun K hK => ?_) AllReadyH.nil)))
      
          · skip
            clear hHeld; (((first | refine wp_appK () rfl w5.heap.size rfl O1 rfl (HTK.out _ D) (one_take HON.out _) (by omega) D.size ?_ | refine wp_appK () rfl w5.heap.size rfl (own_drewA O1) rfl (HTK.out _ D.drew) (one_take HON.out _) (by omega) D.drew.size ?_); intro A7 c7 w7 own7 hg7 _; (try (first | replace E8 := E8.grown hg7 (.inr fun _ e => by simp [blk] at e; omega) | replace E8 := E8.drew.grown hg7 (.inr fun _ e => by simp [blk] at e; omega))); have z7 := hg7.size; (try simp only [World.size_drew] at z7); (first | replace D := Mem.below_app D hg7 D.size (own_lo O1) | replace D := Mem.below_app D.drew hg7 D.drew.size (own_lo O1)); simp only [Nat.zero_add, List.nil_append] at own7 ⊢; have O2 := own7; clear O1 own7 hg7 cb; have cb := KB.out _ D)); refine hK.out _ _ ?_ (fun hHeld => ?_); ((try dsimp only); skip); clear hK K
            try simp only [Act.put, List.setIfInBounds_toArray, List.set_cons_zero, List.set_cons_succ]
            refine wpAnyH_ready (rs := [8, 11]) (by kernel_rfl) (by simp) ?_
            refine (AllReadyH.cons (Reg.get rfl) (fun K hK => ?_) (AllReadyH.cons (Reg.get rfl) (fun K hK => ?_) AllReadyH.nil))
      
            · skip
              clear hHeld; go_simp; ((generalize hW : World.alloc _ _ = w8; obtain ⟨p8, hp8, E8⟩ := rd_newP hW; (try rw [← hp8]); (try simp only [World.size_drew] at hp8); (try rw [← hp8]); have hq1 := Nat.le_of_eq hp8; have hq2 := Nat.le_of_eq hp8.symm; clear hp8; have z8 := szA hW; (try simp only [World.size_drew] at z8); (try replace O1 := own_toA O1 hW); (try replace O2 := own_toA O2 hW); replace D := below_toA D hW D.size; clear hW cb; have cb := KB.out _ D)); refine hK.out _ _ ?_ (fun hHeld => ?_); ((try dsimp only); skip); clear hK K
              try simp only [Act.put, List.setIfInBounds_toArray, List.set_cons_zero, List.set_cons_succ]
              refine wpAnyH_ready (rs := [9, 11]) (by kernel_rfl) (by simp) ?_
              refine (AllReadyH.cons (Reg.get rfl) (fun K hK => ?_) (AllReadyH.cons (Reg.get rfl) (fun K hK => ?_) AllReadyH.nil))
      
              · skip
                clear hHeld; (((first | refine wp_appK () rfl w5.heap.size rfl O2 rfl E8 (one_cellsK _ _) (by omega) D.size ?_ | refine wp_appK () rfl w5.heap.size rfl (own_drewA O2) rfl E8.drew (one_cellsK _ _) (by omega) D.drew.size ?_); intro A9 c9 w9 own9 hg9 _; (first | replace D := Mem.below_app D hg9 D.size (own_lo O2) | replace D := Mem.below_app D.drew hg9 D.drew.size (own_lo O2)); have O3 := own9; clear O2 E8 own9 hg9 cb; have cb := KB.out _ D)); refine hK.out _ _ ?_ (fun hHeld => ?_); ((try dsimp only); skip); clear hK K
                try simp only [Act.put, List.setIfInBounds_toArray, List.set_cons_zero, List.set_cons_succ]
                first | ((refine Reg.tkB 11 (Reg.get rfl) hHeld ?_)) | (refine wpAnyH_ready (rs := [11]) (by kernel_rfl) (by simp) ?_; refine AllReadyH.cons (Reg.get rfl) (fun K hK => ?_) AllReadyH.nil; clear hHeld; go_simp; (skip); refine hK.out _ _ ?_ (fun hHeld => ?_); ((try dsimp only); skip); clear hK K)
                try simp only [Act.put, List.setIfInBounds_toArray, List.set_cons_zero, List.set_cons_succ]
                (refine wpAnyH_take (i := 13) (v := .slice (drA A1 a c1) (n - a) (c1 - a)) (Reg.get rfl) (by kernel_rfl) (by kernel_rfl) (by kernel_rfl) (fun _ _ _ h => h) (Or.inl ⟨by rfl, ?_⟩) hHeld ?_; (focus (intro wq hSw; (rcases HA1.out with ⟨rfl, rfl, rfl⟩ | ⟨g, rfl⟩); (focus (obtain rfl : a = 0 := (by omega); go_simp <;> rfl)); go_simp <;> simp [drA])))
                try simp only [Act.put, List.setIfInBounds_toArray, List.set_cons_zero, List.set_cons_succ]
                (clear hHeld; refine any_normA (f2 := 3) (l2 := tl14) (by kernel_rfl) (by kernel_rfl) ?_; first | (with_reducible exact LEAF w9 p0 p8 A7 c7 A9 c9 ⟨D, O3⟩) | exact LEAF w9 p0 p8 A7 c7 A9 c9 ⟨D, O3⟩)
      
              · skip
                clear hHeld; go_simp; (skip); refine hK.out _ _ ?_ (fun hHeld => ?_); ((try dsimp only); skip); clear hK K
                try simp only [Act.put, List.setIfInBounds_toArray, List.set_cons_zero, List.set_cons_succ]
                (refine wpAnyH_take (i := 13) (v := .slice (drA A1 a c1) (n - a) (c1 - a)) (Reg.get rfl) (by kernel_rfl) (by kernel_rfl) (by kernel_rfl) (fun _ _ _ h => h) (Or.inl ⟨by rfl, ?_⟩) hHeld ?_; (focus (intro wq hSw; (rcases HA1.out with ⟨rfl, rfl, rfl⟩ | ⟨g, rfl⟩); (focus (obtain rfl : a = 0 := (by omega); go_simp <;> rfl)); go_simp <;> simp [drA])))
                try simp only [Act.put, List.setIfInBounds_toArray, List.set_cons_zero, List.set_cons_succ]
                first | ((refine Reg.tkB 9 (Reg.get rfl) hHeld ?_)) | (refine wpAnyH_ready (rs := [9]) (by kernel_rfl) (by simp) ?_; refine AllReadyH.cons (Reg.get rfl) (fun K hK => ?_) AllReadyH.nil; clear hHeld; (((first | refine wp_appK () rfl w5.heap.size rfl O2 rfl E8 (one_cellsK _ _) (by omega) D.size ?_ | refine wp_appK () rfl w5.heap.size rfl (own_drewA O2) rfl E8.drew (one_cellsK _ _) (by omega) D.drew.size ?_); intro A9 c9 w9 own9 hg9 _; (first | replace D := Mem.below_app D hg9 D.size (own_lo O2) | replace D := Mem.below_app D.drew hg9 D.drew.size (own_lo O2)); have O3 := own9; clear O2 E8 own9 hg9 cb; have cb := KB.out _ D)); refine hK.out _ _ ?_ (fun hHeld => ?_); ((try dsimp only); skip); clear hK K)
                try simp only [Act.put, List.setIfInBounds_toArray, List.set_cons_zero, List.set_cons_succ]
                (clear hHeld; refine any_normA (f2 := 3) (l2 := tl14) (by kernel_rfl) (by kernel_rfl) ?_; first | (with_reducible exact LEAF w9 p0 p8 A7 c7 A9 c9 ⟨D, O3⟩) | exact LEAF w9 p0 p8 A7 c7 A9 c9 ⟨D, O3⟩)
      
            · skip
              clear hHeld; go_simp; (skip); refine hK.out _ _ ?_ (fun hHeld => ?_); ((try dsimp only); skip); clear hK K
              try simp only [Act.put, List.setIfInBounds_toArray, List.set_cons_zero, List.set_cons_succ]
              (refine wpAnyH_take (i := 13) (v := .slice (drA A1 a c1) (n - a) (c1 - a)) (Reg.get rfl) (by kernel_rfl) (by kernel_rfl) (by kernel_rfl) (fun _ _ _ h => h) (Or.inl ⟨by rfl, ?_⟩) hHeld ?_; (focus (intro wq hSw; (rcases HA1.out with ⟨rfl, rfl, rfl⟩ | ⟨g, rfl⟩); (focus (obtain rfl : a = 0 := (by omega); go_simp <;> rfl)); go_simp <;> simp [drA])))
              try simp only [Act.put, List.setIfInBounds_toArray, List.set_cons_zero, List.set_cons_succ]
              first | ((refine Reg.tkB 8 (Reg.get rfl) hHeld ?_)) | (refine wpAnyH_ready (rs := [8]) (by kernel_rfl) (by simp) ?_; refine AllReadyH.cons (Reg.get rfl) (fun K hK => ?_) AllReadyH.nil; clear hHeld; go_simp; ((generalize hW : World.alloc _ _ = w8; obtain ⟨p8, hp8, E8⟩ := rd_newP hW; (try rw [← hp8]); (try simp only [World.size_drew] at hp8); (try rw [← hp8]); have hq1 := Nat.le_of_eq hp8; have hq2 := Nat.le_of_eq hp8.symm; clear hp8; have z8 := szA hW; (try simp only [World.size_drew] at z8); (try replace O1 := own_toA O1 hW); (try replace O2 := own_toA O2 hW); replace D := below_toA D hW D.size; clear hW cb; have cb := KB.out _ D)); refine hK.out _ _ ?_ (fun hHeld => ?_); ((try dsimp only); skip); clear hK K)
              try simp only [Act.put, List.setIfInBounds_toArray, List.set_cons_zero, List.set_cons_succ]
              first | ((refine Reg.tkB 9 (Reg.get rfl) hHeld ?_)) | (refine wpAnyH_ready (rs := [9]) (by kernel_rfl) (by simp) ?_; refine AllReadyH.cons (Reg.get rfl) (fun K hK => ?_) AllReadyH.nil; clear hHeld; (((first | refine wp_appK () rfl w5.heap.size rfl O2 rfl E8 (one_cellsK _ _) (by omega) D.size ?_ | refine wp_appK () rfl w5.heap.size rfl (own_drewA O2) rfl E8.drew (one_cellsK _ _) (by omega) D.drew.size ?_); intro A9 c9 w9 own9 hg9 _; (first | replace D := Mem.below_app D hg9 D.size (own_lo O2) | replace D := Mem.below_app D.drew hg9 D.drew.size (own_lo O2)); have O3 := own9; clear O2 E8 own9 hg9 cb; have cb := KB.out _ D)); refine hK.out _ _ ?_ (fun hHeld => ?_); ((try dsimp only); skip); clear hK K)
              try simp only [Act.put, List.setIfInBounds_toArray, List.set_cons_zero, List.set_cons_succ]
              (clear hHeld; refine any_normA (f2 := 3) (l2 := tl14) (by kernel_rfl) (by kernel_rfl) ?_; first | (with_reducible exact LEAF w9 p0 p8 A7 c7 A9 c9 ⟨D, O3⟩) | exact LEAF w9 p0 p8 A7 c7 A9 c9 ⟨D, O3⟩)
      
          · skip
            clear hHeld; go_simp; ((generalize hW : World.alloc _ _ = w8; obtain ⟨p8, hp8, E8⟩ := rd_newP hW; (try rw [← hp8]); (try simp only [World.size_drew] at hp8); (try rw [← hp8]); have hq1 := Nat.le_of_eq hp8; have hq2 := Nat.le_of_eq hp8.symm; clear hp8; have z8 := szA hW; (try simp only [World.size_drew] at z8); (try replace O1 := own_toA O1 hW); (try replace O2 := own_toA O2 hW); replace D := below_toA D hW D.size; clear hW cb; have cb := KB.out _ D)); refine hK.out _ _ ?_ (fun hHeld => ?_); ((try dsimp only); skip); clear hK K
            try simp only [Act.put, List.setIfInBounds_toArray, List.set_cons_zero, List.set_cons_succ]
            refine wpAnyH_ready (rs := [5, 11]) (by kernel_rfl) (by simp) ?_
            refine (AllReadyH.cons (Reg.get rfl) (fun K hK => ?_) (AllReadyH.cons (Reg.get rfl) (fun K hK => ?_) AllReadyH.nil))
      
            · skip
              clear hHeld; (((first | refine wp_appK () rfl w5.heap.size rfl O1 rfl (HTK.out _ D) (one_take HON.out _) (by omega) D.size ?_ | refine wp_appK () rfl w5.heap.size rfl (own_drewA O1) rfl (HTK.out _ D.drew) (one_take HON.out _) (by omega) D.drew.size ?_); intro A7 c7 w7 own7 hg7 _; (try (first | replace E8 := E8.grown hg7 (.inr fun _ e => by simp [blk] at e; omega) | replace E8 := E8.drew.grown hg7 (.inr fun _ e => by simp [blk] at e; omega))); have z7 := hg7.size; (try simp only [World.size_drew] at z7); (first | replace D := Mem.below_app D hg7 D.size (own_lo O1) | replace D := Mem.below_app D.drew hg7 D.drew.size (own_lo O1)); simp only [Nat.zero_add, List.nil_append] at own7 ⊢; have O2 := own7; clear O1 own7 hg7 cb; have cb := KB.out _ D)); refine hK.out _ _ ?_ (fun hHeld => ?_); ((try dsimp only); skip); clear hK K
              try simp only [Act.put, List.setIfInBounds_toArray, List.set_cons_zero, List.set_cons_succ]
              refine wpAnyH_ready (rs := [9, 11]) (by kernel_rfl) (by simp) ?_
              refine (AllReadyH.cons (Reg.get rfl) (fun K hK => ?_) (AllReadyH.cons (Reg.get rfl) (fun K hK => ?_) AllReadyH.nil))
      
              · skip
                clear hHeld; (((first | refine wp_appK () rfl w5.heap.size rfl O2 rfl E8 (one_cellsK _ _) (by omega) D.size ?_ | refine wp_appK () rfl w5.heap.size rfl (own_drewA O2) rfl E8.drew (one_cellsK _ _) (by omega) D.drew.size ?_); intro A9 c9 w9 own9 hg9 _; (first | replace D := Mem.below_app D hg9 D.size (own_lo O2) | replace D := Mem.below_app D.drew hg9 D.drew.size (own_lo O2)); have O3 := own9; clear O2 E8 own9 hg9 cb; have cb := KB.out _ D)); refine hK.out _ _ ?_ (fun hHeld => ?_); ((try dsimp only); skip); clear hK K
                try simp only [Act.put, List.setIfInBounds_toArray, List.set_cons_zero, List.set_cons_succ]
                first | ((refine Reg.tkB 11 (Reg.get rfl) hHeld ?_)) | (refine wpAnyH_ready (rs := [11]) (by kernel_rfl) (by simp) ?_; refine AllReadyH.cons (Reg.get rfl) (fun K hK => ?_) AllReadyH.nil; clear hHeld; go_simp; (skip); refine hK.out _ _ ?_ (fun hHeld => ?_); ((try dsimp only); skip); clear hK K)
                try simp only [Act.put, List.setIfInBounds_toArray, List.set_cons_zero, List.set_cons_succ]
                (refine wpAnyH_take (i := 13) (v := .slice (drA A1 a c1) (n - a) (c1 - a)) (Reg.get rfl) (by kernel_rfl) (by kernel_rfl) (by kernel_rfl) (fun _ _ _ h => h) (Or.inl ⟨by rfl, ?_⟩) hHeld ?_; (focus (intro wq hSw; (rcases HA1.out with ⟨rfl, rfl, rfl⟩ | ⟨g, rfl⟩); (focus (obtain rfl : a = 0 := (by omega); go_simp <;> rfl)); go_simp <;> simp [drA])))
                try simp only [Act.put, List.setIfInBounds_toArray, List.set_cons_zero, List.set_cons_succ]
                (clear hHeld; refine any_normA (f2 := 3) (l2 := tl14) (by kernel_rfl) (by kernel_rfl) ?_; first | (with_reducible exact LEAF w9 p0 p8 A7 c7 A9 c9 ⟨D, O3⟩) | exact LEAF w9 p0 p8 A7 c7 A9 c9 ⟨D, O3⟩)
      
              · skip
                clear hHeld; go_simp; (skip); refine hK.out _ _ ?_ (fun hHeld => ?_); ((try dsimp only); skip); clear hK K
                try simp only [Act.put, List.setIfInBounds_toArray, List.set_cons_zero, List.set_cons_succ]
                (refine wpAnyH_take (i := 13) (v := .slice (drA A1 a c1) (n - a) (c1 - a)) (Reg.get rfl) (by kernel_rfl) (by kernel_rfl) (by kernel_rfl) (fun _ _ _ h => h) (Or.inl ⟨by rfl, ?_⟩) hHeld ?_; (focus (intro wq hSw; (rcases HA1.out with ⟨rfl, rfl, rfl⟩ | ⟨g, rfl⟩); (focus (obtain rfl : a = 0 := (by omega); go_simp <;> rfl)); go_simp <;> simp [drA])))
                try simp only [Act.put, List.setIfInBounds_toArray, List.set_cons_zero, List.set_cons_succ]
                first | ((refine Reg.tkB 9 (Reg.get rfl) hHeld ?_)) | (refine wpAnyH_ready (rs := [9]) (by kernel_rfl) (by simp) ?_; refine AllReadyH.cons (Reg.get rfl) (fun K hK => ?_) AllReadyH.nil; clear hHeld; (((first | refine wp_appK () rfl w5.heap.size rfl O2 rfl E8 (one_cellsK _ _) (by omega) D.size ?_ | refine wp_appK () rfl w5.heap.size rfl (own_drewA O2) rfl E8.drew (one_cellsK _ _) (by omega) D.drew.size ?_); intro A9 c9 w9 own9 hg9 _; (first | replace D := Mem.below_app D hg9 D.size (own_lo O2) | replace D := Mem.below_app D.drew hg9 D.drew.size (own_lo O2)); have O3 := own9; clear O2 E8 own9 hg9 cb; have cb := KB.out _ D)); refine hK.out _ _ ?_ (fun hHeld => ?_); ((try dsimp only); skip); clear hK K)
                try simp only [Act.put, List.setIfInBounds_toArray, List.set_cons_zero, List.set_cons_succ]
                (clear hHeld; refine any_normA (f2 := 3) (l2 := tl14) (by kernel_rfl) (by kernel_rfl) ?_; first | (with_reducible exact LEAF w9 p0 p8 A7 c7 A9 c9 ⟨D, O3⟩) | exact LEAF w9 p0 p8 A7 c7 A9 c9 ⟨D, O3⟩)
      
            · skip
              clear hHeld; go_simp; (skip); refine hK.out _ _ ?_ (fun hHeld => ?_); ((try dsimp only); skip); clear hK K
              try simp only [Act.put, List.setIfInBounds_toArray, List.set_cons_zero, List.set_cons_succ]
              (refine wpAnyH_take (i := 13) (v := .slice (drA A1 a c1) (n - a) (c1 - a)) (Reg.get rfl) (by kernel_rfl) (by kernel_rfl) (by kernel_rfl) (fun _ _ _ h => h) (Or.inl ⟨by rfl, ?_⟩) hHeld ?_; (focus (intro wq hSw; (rcases HA1.out with ⟨rfl, rfl, rfl⟩ | ⟨g, rfl⟩); (focus (obtain rfl : a = 0 := (by omega); go_simp <;> rfl)); go_simp <;> simp [drA])))
              try simp only [Act.put, List.setIfInBounds_toArray, List.set_cons_zero, List.set_cons_succ]
              first | ((refine Reg.tkB 5 (Reg.get rfl) hHeld ?_)) | (refine wpAnyH_ready (rs := [5]) (by kernel_rfl) (by simp) ?_; refine AllReadyH.cons (Reg.get rfl) (fun K hK => ?_) AllReadyH.nil; clear hHeld; (((first | refine wp_appK () rfl w5.heap.size rfl O1 rfl (HTK.out _ D) (one_take HON.out _) (by omega) D.size ?_ | refine wp_appK () rfl w5.heap.size rfl (own_drewA O1) rfl (HTK.out _ D.drew) (one_take HON.out _) (by omega) D.drew.size ?_); intro A7 c7 w7 own7 hg7 _; (try (first | replace E8 := E8.grown hg7 (.inr fun _ e => by simp [blk] at e; omega) | replace E8 := E8.drew.grown hg7 (.inr fun _ e => by simp [blk] at e; omega))); have z7 := hg7.size; (try simp only [World.size_drew] at z7); (first | replace D := Mem.below_app D hg7 D.size (own_lo O1) | replace D := Mem.below_app D.drew hg7 D.drew.size (own_lo O1)); simp only [Nat.zero_add, List.nil_append] at own7 ⊢; have O2 := own7; clear O1 own7 hg7 cb; have cb := KB.out _ D)); refine hK.out _ _ ?_ (fun hHeld => ?_); ((try dsimp only); skip); clear hK K)
              try simp only [Act.put, List.setIfInBounds_toArray, List.set_cons_zero, List.set_cons_succ]
              first | ((refine Reg.tkB 9 (Reg.get rfl) hHeld ?_)) | (refine wpAnyH_ready (rs := [9]) (by kernel_rfl) (by simp) ?_; refine AllReadyH.cons (Reg.get rfl) (fun K hK => ?_) AllReadyH.nil; clear hHeld; (((first | refine wp_appK () rfl w5.heap.size rfl O2 rfl E8 (one_cellsK _ _) (by omega) D.size ?_ | refine wp_appK () rfl w5.heap.size rfl (own_drewA O2) rfl E8.drew (one_cellsK _ _) (by omega) D.drew.size ?_); intro A9 c9 w9 own9 hg9 _; (first | replace D := Mem.below_app D hg9 D.size (own_lo O2) | replace D := Mem.below_app D.drew hg9 D.drew.size (own_lo O2)); have O3 := own9; clear O2 E8 own9 hg9 cb; have cb := KB.out _ D)); refine hK.out _ _ ?_ (fun hHeld => ?_); ((try dsimp only); skip); clear hK K)
              try simp only [Act.put, List.setIfInBounds_toArray, List.set_cons_zero, List.set_cons_succ]
              (clear hHeld; refine any_normA (f2 := 3) (l2 := tl14) (by kernel_rfl) (by kernel_rfl) ?_; first | (with_reducible exact LEAF w9 p0 p8 A7 c7 A9 c9 ⟨D, O3⟩) | exact LEAF w9 p0 p8 A7 c7 A9 c9 ⟨D, O3⟩)
      
          · skip
            clear hHeld; go_simp; (skip); refine hK.out _ _ ?_ (fun hHeld => ?_); ((try dsimp only); skip); clear hK K
            try simp only [Act.put, List.setIfInBounds_toArray, List.set_cons_zero, List.set_cons_succ]
            (refine wpAnyH_take (i := 13) (v := .slice (drA A1 a c1) (n - a) (c1 - a)) (Reg.get rfl) (by kernel_rfl) (by kernel_rfl) (by kernel_rfl) (fun _ _ _ h => h) (Or.inl ⟨by rfl, ?_⟩) hHeld ?_; (focus (intro wq hSw; (rcases HA1.out with ⟨rfl, rfl, rfl⟩ | ⟨g, rfl⟩); (focus (obtain rfl : a = 0 := (by omega); go_simp <;> rfl)); go_simp <;> simp [drA])))
            try simp only [Act.put, List.setIfInBounds_toArray, List.set_cons_zero, List.set_cons_succ]
            refine wpAnyH_ready (rs := [5, 8]) (by kernel_rfl) (by simp) ?_
            refine (AllReadyH.cons (Reg.get rfl) (fun K hK => ?_) (AllReadyH.cons (Reg.get rfl) (fun K hK => ?_) AllReadyH.nil))
      
            · skip
              clear hHeld; (((first | refine wp_appK () rfl w5.heap.size rfl O1 rfl (HTK.out _ D) (one_take HON.out _) (by omega) D.size ?_ | refine wp_appK () rfl w5.heap.size rfl (own_drewA O1) rfl (HTK.out _ D.drew) (one_take HON.out _) (by omega) D.drew.size ?_); intro A7 c7 w7 own7 hg7 _; (try (first | replace E8 := E8.grown hg7 (.inr fun _ e => by simp [blk] at e; omega) | replace E8 := E8.drew.grown hg7 (.inr fun _ e => by simp [blk] at e; omega))); have z7 := hg7.size; (try simp only [World.size_drew] at z7); (first | replace D := Mem.below_app D hg7 D.size (own_lo O1) | replace D := Mem.below_app D.drew hg7 D.drew.size (own_lo O1)); simp only [Nat.zero_add, List.nil_append] at own7 ⊢; have O2 := own7; clear O1 own7 hg7 cb; have cb := KB.out _ D)); refine hK.out _ _ ?_ (fun hHeld => ?_); ((try dsimp only); skip); clear hK K
              try simp only [Act.put, List.setIfInBounds_toArray, List.set_cons_zero, List.set_cons_succ]
              first | ((refine Reg.tkB 8 (Reg.get rfl) hHeld ?_)) | (refine wpAnyH_ready (rs := [8]) (by kernel_rfl) (by simp) ?_; refine AllReadyH.cons (Reg.get rfl) (fun K hK => ?_) AllReadyH.nil; clear hHeld; go_simp; ((generalize hW : World.alloc _ _ = w8; obtain ⟨p8, hp8, E8⟩ := rd_newP hW; (try rw [← hp8]); (try simp only [World.size_drew] at hp8); (try rw [← hp8]); have hq1 := Nat.le_of_eq hp8; have hq2 := Nat.le_of_eq hp8.symm; clear hp8; have z8 := szA hW; (try simp only [World.size_drew] at z8); (try replace O1 := own_toA O1 hW); (try replace O2 := own_toA O2 hW); replace D := below_toA D hW D.size; clear hW cb; have cb := KB.out _ D)); refine hK.out _ _ ?_ (fun hHeld => ?_); ((try dsimp only); skip); clear hK K)
              try simp only [Act.put, List.setIfInBounds_toArray, List.set_cons_zero, List.set_cons_succ]
              first | ((refine Reg.tkB 9 (Reg.get rfl) hHeld ?_)) | (refine wpAnyH_ready (rs := [9]) (by kernel_rfl) (by simp) ?_; refine AllReadyH.cons (Reg.get rfl) (fun K hK => ?_) AllReadyH.nil; clear hHeld; (((first | refine wp_appK () rfl w5.heap.size rfl O2 rfl E8 (one_cellsK _ _) (by omega) D.size ?_ | refine wp_appK () rfl w5.heap.size rfl (own_drewA O2) rfl E8.drew (one_cellsK _ _) (by omega) D.drew.size ?_); intro A9 c9 w9 own9 hg9 _; (first | replace D := Mem.below_app D hg9 D.size (own_lo O2) | replace D := Mem.below_app D.drew hg9 D.drew.size (own_lo O2)); have O3 := own9; clear O2 E8 own9 hg9 cb; have cb := KB.out _ D)); refine hK.out _ _ ?_ (fun hHeld => ?_); ((try dsimp only); skip); clear hK K)
              try simp only [Act.put, List.setIfInBounds_toArray, List.set_cons_zero, List.set_cons_succ]
              (clear hHeld; refine any_normA (f2 := 3) (l2 := tl14) (by kernel_rfl) (by kernel_rfl) ?_; first | (with_reducible exact LEAF w9 p0 p8 A7 c7 A9 c9 ⟨D, O3⟩) | exact LEAF w9 p0 p8 A7 c7 A9 c9 ⟨D, O3⟩)
      
            · skip
              clear hHeld; go_simp; ((generalize hW : World.alloc _ _ = w8; obtain ⟨p8, hp8, E8⟩ := rd_newP hW; (try rw [← hp8]); (try simp only [World.size_drew] at hp8); (try rw [← hp8]); have hq1 := Nat.le_of_eq hp8; have hq2 := Nat.le_of_eq hp8.symm; clear hp8; have z8 := szA hW; (try simp only [World.size_drew] at z8); (try replace O1 := own_toA O1 hW); (try replace O2 := own_toA O2 hW); replace D := below_toA D hW D.size; clear hW cb; have cb := KB.out _ D)); refine hK.out _ _ ?_ (fun hHeld => ?_); ((try dsimp only); skip); clear hK K
              try simp only [Act.put, List.setIfInBounds_toArray, List.set_cons_zero, List.set_cons_succ]
              first | ((refine Reg.tkB 5 (Reg.get rfl) hHeld ?_)) | (refine wpAnyH_ready (rs := [5]) (by kernel_rfl) (by simp) ?_; refine AllReadyH.cons (Reg.get rfl) (fun K hK => ?_) AllReadyH.nil; clear hHeld; (((first | refine wp_appK () rfl w5.heap.size rfl O1 rfl (HTK.out _ D) (one_take HON.out _) (by omega) D.size ?_ | refine wp_appK () rfl w5.heap.size rfl (own_drewA O1) rfl (HTK.out _ D.drew) (one_take HON.out _) (by omega) D.drew.size ?_); intro A7 c7 w7 own7 hg7 _; (try (first | replace E8 := E8.grown hg7 (.inr fun _ e => by simp [blk] at e; omega) | replace E8 := E8.drew.grown hg7 (.inr fun _ e => by simp [blk] at e; omega))); have z7 := hg7.size; (try simp only [World.size_drew] at z7); (first | replace D := Mem.below_app D hg7 D.size (own_lo O1) | replace D := Mem.below_app D.drew hg7 D.drew.size (own_lo O1)); simp only [Nat.zero_add, List.nil_append] at own7 ⊢; have O2 := own7; clear O1 own7 hg7 cb; have cb := KB.out _ D)); refine hK.out _ _ ?_ (fun hHeld => ?_); ((try dsimp only); skip); clear hK K)
              try simp only [Act.put, List.setIfInBounds_toArray, List.set_cons_zero, List.set_cons_succ]
              first | ((refine Reg.tkB 9 (Reg.get rfl) hHeld ?_)) | (refine wpAnyH_ready (rs := [9]) (by kernel_rfl) (by simp) ?_; refine AllReadyH.cons (Reg.get rfl) (fun K hK => ?_) AllReadyH.nil; clear hHeld; (((first | refine wp_appK () rfl w5.heap.size rfl O2 rfl E8 (one_cellsK _ _) (by omega) D.size ?_ | refine wp_appK () rfl w5.heap.size rfl (own_drewA O2) rfl E8.drew (one_cellsK _ _) (by omega) D.drew.size ?_); intro A9 c9 w9 own9 hg9 _; (first | replace D := Mem.below_app D hg9 D.size (own_lo O2) | replace D := Mem.below_app D.drew hg9 D.drew.size (own_lo O2)); have O3 := own9; clear O2 E8 own9 hg9 cb; have cb := KB.out _ D)); refine hK.out _ _ ?_ (fun hHeld => ?_); ((try dsimp only); skip); clear hK K)
              try simp only [Act.put, List.setIfInBounds_toArray, List.set_cons_zero, List.set_cons_succ]
              (clear hHeld; refine any_normA (f2 := 3) (l2 := tl14) (by kernel_rfl) (by kernel_rfl) ?_; first | (with_reducible exact LEAF w9 p0 p8 A7 c7 A9 c9 ⟨D, O3⟩) | exact LEAF w9 p0 p8 A7 c7 A9 c9 ⟨D, O3⟩)
      
        · skip
          clear hHeld; go_simp; ((generalize hW : World.alloc _ _ = w8; obtain ⟨p8, hp8, E8⟩ := rd_newP hW; (try rw [← hp8]); (try simp only [World.size_drew] at hp8); (try rw [← hp8]); have hq1 := Nat.le_of_eq hp8; have hq2 := Nat.le_of_eq hp8.symm; clear hp8; have z8 := szA hW; (try simp only [World.size_drew] at z8); (try replace O1 := own_toA O1 hW); (try replace O2 := own_toA O2 hW); replace D := below_toA D hW D.size; clear hW cb; have cb := KB.out _ D)); refine hK.out _ _ ?_ (fun hHeld => ?_); ((try dsimp only); skip); clear hK K
          try simp only [Act.put, List.setIfInBounds_toArray, List.set_cons_zero, List.set_cons_succ]
          refine wpAnyH_ready (rs := [2, 11]) (by kernel_rfl) (by simp) ?_
          refine (AllReadyH.cons (Reg.get rfl) (fun K hK => ?_) (AllReadyH.cons (Reg.get rfl) (fun K hK => ?_) AllReadyH.nil))
      
          · skip
            clear hHeld; go_simp; (skip); refine hK.out _ _ ?_ (fun hHeld => ?_); ((try dsimp only); skip); clear hK K
            try simp only [Act.put, List.setIfInBounds_toArray, List.set_cons_zero, List.set_cons_succ]
            (refine wpAnyH_take (i := 4) (v := .slice A1 a c1) (Reg.get rfl) (by kernel_rfl) (by kernel_rfl) (by kernel_rfl) (fun _ _ _ h => h) (Or.inl ⟨by rfl, ?_⟩) hHeld ?_; (focus (intro wq hSw; (rcases HA1.out with ⟨rfl, rfl, rfl⟩ | ⟨g, rfl⟩); (focus (obtain rfl : a = 0 := (by omega); go_simp <;> rfl)); go_simp <;> rfl)))
            try simp only [Act.put, List.setIfInBounds_toArray, List.set_cons_zero, List.set_cons_succ]
            refine wpAnyH_ready (rs := [5, 11]) (by kernel_rfl) (by simp) ?_
            refine (AllReadyH.cons (Reg.get rfl) (fun K hK => ?_) (AllReadyH.cons (Reg.get rfl) (fun K hK => ?_) AllReadyH.nil))
      
            · skip
              clear hHeld; (((first | refine wp_appK () rfl w5.heap.size rfl O1 rfl (HTK.out _ D) (one_take HON.out _) (by omega) D.size ?_ | refine wp_appK () rfl w5.heap.size rfl (own_drewA O1) rfl (HTK.out _ D.drew) (one_take HON.out _) (by omega) D.drew.size ?_); intro A7 c7 w7 own7 hg7 _; (try (first | replace E8 := E8.grown hg7 (.inr fun _ e => by simp [blk] at e; omega) | replace E8 := E8.drew.grown hg7 (.inr fun _ e => by simp [blk] at e; omega))); have z7 := hg7.size; (try simp only [World.size_drew] at z7); (first | replace D := Mem.below_app D hg7 D.size (own_lo O1) | replace D := Mem.below_app D.drew hg7 D.drew.size (own_lo O1)); simp only [Nat.zero_add, List.nil_append] at own7 ⊢; have O2 := own7; clear O1 own7 hg7 cb; have cb := KB.out _ D)); refine hK.out _ _ ?_ (fun hHeld => ?_); ((try dsimp only); skip); clear hK K
              try simp only [Act.put, List.setIfInBounds_toArray, List.set_cons_zero, List.set_cons_succ]
              refine wpAnyH_ready (rs := [9, 11]) (by kernel_rfl) (by simp) ?_
              refine (AllReadyH.cons (Reg.get rfl) (fun K hK => ?_) (AllReadyH.cons (Reg.get rfl) (fun K hK => ?_) AllReadyH.nil))
      
              · skip
                clear hHeld; (((first | refine wp_appK () rfl w5.heap.size rfl O2 rfl E8 (one_cellsK _ _) (by omega) D.size ?_ | refine wp_appK () rfl w5.heap.size rfl (own_drewA O2) rfl E8.drew (one_cellsK _ _) (by omega) D.drew.size ?_); intro A9 c9 w9 own9 hg9 _; (first | replace D := Mem.below_app D hg9 D.size (own_lo O2) | replace D := Mem.below_app D.drew hg9 D.drew.size (own_lo O2)); have O3 := own9; clear O2 E8 own9 hg9 cb; have cb := KB.out _ D)); refine hK.out _ _ ?_ (fun hHeld => ?_); ((try dsimp only); skip); clear hK K
                try simp only [Act.put, List.setIfInBounds_toArray, List.set_cons_zero, List.set_cons_succ]
                first | ((refine Reg.tkB 11 (Reg.get rfl) hHeld ?_)) | (refine wpAnyH_ready (rs := [11]) (by kernel_rfl) (by simp) ?_; refine AllReadyH.cons (Reg.get rfl) (fun K hK => ?_) AllReadyH.nil; clear hHeld; go_simp; (skip); refine hK.out _ _ ?_ (fun hHeld => ?_); ((try dsimp only); skip); clear hK K)
                try simp only [Act.put, List.setIfInBounds_toArray, List.set_cons_zero, List.set_cons_succ]
                (refine wpAnyH_take (i := 13) (v := .slice (drA A1 a c1) (n - a) (c1 - a)) (Reg.get rfl) (by kernel_rfl) (by kernel_rfl) (by kernel_rfl) (fun _ _ _ h => h) (Or.inl ⟨by rfl, ?_⟩) hHeld ?_; (focus (intro wq hSw; (rcases HA1.out with ⟨rfl, rfl, rfl⟩ | ⟨g, rfl⟩); (focus (obtain rfl : a = 0 := (by omega); go_simp <;> rfl)); go_simp <;> simp [drA])))
                try simp only [Act.put, List.setIfInBounds_toArray, List.set_cons_zero, List.set_cons_succ]
                (clear hHeld; refine any_normA (f2 := 3) (l2 := tl14) (by kernel_rfl) (by kernel_rfl) ?_; first | (with_reducible exact LEAF w9 p0 p8 A7 c7 A9 c9 ⟨D, O3⟩) | exact LEAF w9 p0 p8 A7 c7 A9 c9 ⟨D, O3⟩)
      
              · skip
                clear hHeld; go_simp; (skip); refine hK.out _ _ ?_ (fun hHeld => ?_); ((try dsimp only); skip); clear hK K
                try simp only [Act.put, List.setIfInBounds_toArray, List.set_cons_zero, List.set_cons_succ]
                (refine wpAnyH_take (i := 13) (v := .slice (drA A1 a c1) (n - a) (c1 - a)) (Reg.get rfl) (by kernel_rfl) (by kernel_rfl) (by kernel_rfl) (fun _ _ _ h => h) (Or.inl ⟨by rfl, ?_⟩) hHeld ?_; (focus (intro wq hSw; (rcases HA1.out with ⟨rfl, rfl, rfl⟩ | ⟨g, rfl⟩); (focus (obtain rfl : a = 0 := (by omega); go_simp <;> rfl)); go_simp <;> simp [drA])))
                try simp only [Act.put, List.setIfInBounds_toArray, List.set_cons_zero, List.set_cons_succ]
                first | ((refine Reg.tkB 9 (Reg.get rfl) hHeld ?_)) | (refine wpAnyH_ready (rs := [9]) (by kernel_rfl) (by simp) ?_; refine AllReadyH.cons (Reg.get rfl) (fun K hK => ?_) AllReadyH.nil; clear hHeld; (((first | refine wp_appK () rfl w5.heap.size rfl O2 rfl E8 (one_cellsK _ _) (by omega) D.size ?_ | refine wp_appK () rfl w5.heap.size rfl (own_drewA O2) rfl E8.drew (one_cellsK _ _) (by omega) D.drew.size ?_); intro A9 c9 w9 own9 hg9 _; (first | replace D := Mem.below_app D hg9 D.size (own_lo O2) | replace D := Mem.below_app D.drew hg9 D.drew.size (own_lo O2)); have O3 := own9; clear O2 E8 own9 hg9 cb; have cb := KB.out _ D)); refine hK.out _ _ ?_ (fun hHeld => ?_); ((try dsimp only); skip); clear hK K)
                try simp only [Act.put, List.setIfInBounds_toArray, List.set_cons_zero, List.set_cons_succ]
                (clear hHeld; refine any_normA (f2 := 3) (l2 := tl14) (by kernel_rfl) (by kernel_rfl) ?_; first | (with_reducible exact LEAF w9 p0 p8 A7 c7 A9 c9 ⟨D, O3⟩) | exact LEAF w9 p0 p8 A7 c7 A9 c9 ⟨D, O3⟩)
      
            · skip
              clear hHeld; go_simp; (skip); refine hK.out _ _ ?_ (fun hHeld => ?_); ((try dsimp only); skip); clear hK K
              try simp only [Act.put, List.setIfInBounds_toArray, List.set_cons_zero, List.set_cons_succ]
              (refine wpAnyH_take (i := 13) (v := .slice (drA A1 a c1) (n - a) (c1 - a)) (Reg.get rfl) (by kernel_rfl) (by kernel_rfl) (by kernel_rfl) (fun _ _ _ h => h) (Or.inl ⟨by rfl, ?_⟩) hHeld ?_; (focus (intro wq hSw; (rcases HA1.out with ⟨rfl, rfl, rfl⟩ | ⟨g, rfl⟩); (focus (obtain rfl : a = 0 := (by omega); go_simp <;> rfl)); go_simp <;> simp [drA])))
              try simp only [Act.put, List.setIfInBounds_toArray, List.set_cons_zero, List.set_cons_succ]
              first | ((refine Reg.tkB 5 (Reg.get rfl) hHeld ?_)) | (refine wpAnyH_ready (rs := [5]) (by kernel_rfl) (by simp) ?_; refine AllReadyH.cons (Reg.get rfl) (fun K hK => ?_) AllReadyH.nil; clear hHeld; (((first | refine wp_appK () rfl w5.heap.size rfl O1 rfl (HTK.out _ D) (one_take HON.out _) (by omega) D.size ?_ | refine wp_appK () rfl w5.heap.size rfl (own_drewA O1) rfl (HTK.out _ D.drew) (one_take HON.out _) (by omega) D.drew.size ?_); intro A7 c7 w7 own7 hg7 _; (try (first | replace E8 := E8.grown hg7 (.inr fun _ e => by simp [blk] at e; omega) | replace E8 := E8.drew.grown hg7 (.inr fun _ e => by simp [blk] at e; omega))); have z7 := hg7.size; (try simp only [World.size_drew] at z7); (first | replace D := Mem.below_app D hg7 D.size (own_lo O1) | replace D := Mem.below_app D.drew hg7 D.drew.size (own_lo O1)); simp only [Nat.zero_add, List.nil_append] at own7 ⊢; have O2 := own7; clear O1 own7 hg7 cb; have cb := KB.out _ D)); refine hK.out _ _ ?_ (fun hHeld => ?_); ((try dsimp only); skip); clear hK K)
              try simp only [Act.put, List.setIfInBounds_toArray, List.set_cons_zero, List.set_cons_succ]
              first | ((refine Reg.tkB 9 (Reg.get rfl) hHeld ?_)) | (refine wpAnyH_ready (rs := [9]) (by kernel_rfl) (by simp) ?_; refine AllReadyH.cons (Reg.get rfl) (fun K hK => ?_) AllReadyH.nil; clear hHeld; (((first | refine wp_appK () rfl w5.heap.size rfl O2 rfl E8 (one_cellsK _ _) (by omega) D.size ?_ | refine wp_appK () rfl w5.heap.size rfl (own_drewA O2) rfl E8.drew (one_cellsK _ _) (by omega) D.drew.size ?_); intro A9 c9 w9 own9 hg9 _; (first | replace D := Mem.below_app D hg9 D.size (own_lo O2) | replace D := Mem.below_app D.drew hg9 D.drew.size (own_lo O2)); have O3 := own9; clear O2 E8 own9 hg9 cb; have cb := KB.out _ D)); refine hK.out _ _ ?_ (fun hHeld => ?_); ((try dsimp only); skip); clear hK K)
              try simp only [Act.put, List.setIfInBounds_toArray, List.set_cons_zero, List.set_cons_succ]
              (clear hHeld; refine any_normA (f2 := 3) (l2 := tl14) (by kernel_rfl) (by kernel_rfl) ?_; first | (with_reducible exact LEAF w9 p0 p8 A7 c7 A9 c9 ⟨D, O3⟩) | exact LEAF w9 p0 p8 A7 c7 A9 c9 ⟨D, O3⟩)
      
          · skip
            clear hHeld; go_simp; (skip); refine hK.out _ _ ?_ (fun hHeld => ?_); ((try dsimp only); skip); clear hK K
            try simp only [Act.put, List.setIfInBounds_toArray, List.set_cons_zero, List.set_cons_succ]
            (refine wpAnyH_take (i := 13) (v := .slice (drA A1 a c1) (n - a) (c1 - a)) (Reg.get rfl) (by kernel_rfl) (by kernel_rfl) (by kernel_rfl) (fun _ _ _ h => h) (Or.inl ⟨by rfl, ?_⟩) hHeld ?_; (focus (intro wq hSw; (rcases HA1.out with ⟨rfl, rfl, rfl⟩ | ⟨g, rfl⟩); (focus (obtain rfl : a = 0 := (by omega); go_simp <;> rfl)); go_simp <;> simp [drA])))
            try simp only [Act.put, List.setIfInBounds_toArray, List.set_cons_zero, List.set_cons_succ]
            first | ((refine Reg.tkB 2 (Reg.get rfl) hHeld ?_)) | (refine wpAnyH_ready (rs := [2]) (by kernel_rfl) (by simp) ?_; refine AllReadyH.cons (Reg.get rfl) (fun K hK => ?_) AllReadyH.nil; clear hHeld; go_simp; (skip); refine hK.out _ _ ?_ (fun hHeld => ?_); ((try dsimp only); skip); clear hK K)
            try simp only [Act.put, List.setIfInBounds_toArray, List.set_cons_zero, List.set_cons_succ]
            (refine wpAnyH_take (i := 4) (v := .slice A1 a c1) (Reg.get rfl) (by kernel_rfl) (by kernel_rfl) (by kernel_rfl) (fun _ _ _ h => h) (Or.inl ⟨by rfl, ?_⟩) hHeld ?_; (focus (intro wq hSw; (rcases HA1.out with ⟨rfl, rfl, rfl⟩ | ⟨g, rfl⟩); (focus (obtain rfl : a = 0 := (by omega); go_simp <;> rfl)); go_simp <;> rfl)))
            try simp only [Act.put, List.setIfInBounds_toArray, List.set_cons_zero, List.set_cons_succ]
            first | ((refine Reg.tkB 5 (Reg.get rfl) hHeld ?_)) | (refine wpAnyH_ready (rs := [5]) (by kernel_rfl) (by simp) ?_; refine AllReadyH.cons (Reg.get rfl) (fun K hK => ?_) AllReadyH.nil; clear hHeld; (((first | refine wp_appK () rfl w5.heap.size rfl O1 rfl (HTK.out _ D) (one_take HON.out _) (by omega) D.size ?_ | refine wp_appK () rfl w5.heap.size rfl (own_drewA O1) rfl (HTK.out _ D.drew) (one_take HON.out _) (by omega) D.drew.size ?_); intro A7 c7 w7 own7 hg7 _; (try (first | replace E8 := E8.grown hg7 (.inr fun _ e => by simp [blk] at e; omega) | replace E8 := E8.drew.grown hg7 (.inr fun _ e => by simp [blk] at e; omega))); have z7 := hg7.size; (try simp only [World.size_drew] at z7); (first | replace D := Mem.below_app D hg7 D.size (own_lo O1) | replace D := Mem.below_app D.drew hg7 D.drew.size (own_lo O1)); simp only [Nat.zero_add, List.nil_append] at own7 ⊢; have O2 := own7; clear O1 own7 hg7 cb; have cb := KB.out _ D)); refine hK.out _ _ ?_ (fun hHeld => ?_); ((try dsimp only); skip); clear hK K)
            try simp only [Act.put, List.setIfInBounds_toArray, List.set_cons_zero, List.set_cons_succ]
            first | ((refine Reg.tkB 9 (Reg.get rfl) hHeld ?_)) | (refine wpAnyH_ready (rs := [9]) (by kernel_rfl) (by simp) ?_; refine AllReadyH.cons (Reg.get rfl) (fun K hK => ?_) AllReadyH.nil; clear hHeld; (((first | refine wp_appK () rfl w5.heap.size rfl O2 rfl E8 (one_cellsK _ _) (by omega) D.size ?_ | refine wp_appK () rfl w5.heap.size rfl (own_drewA O2) rfl E8.drew (one_cellsK _ _) (by omega) D.drew.size ?_); intro A9 c9 w9 own9 hg9 _; (first | replace D := Mem.below_app D hg9 D.size (own_lo O2) | replace D := Mem.below_app D.drew hg9 D.drew.size (own_lo O2)); have O3 := own9; clear O2 E8 own9 hg9 cb; have cb := KB.out _ D)); refine hK.out _ _ ?_ (fun hHeld => ?_); ((try dsimp only); skip); clear hK K)
            try simp only [Act.put, List.setIfInBounds_toArray, List.set_cons_zero, List.set_cons_succ]
            (clear hHeld; refine any_normA (f2 := 3) (l2 := tl14) (by kernel_rfl) (by kernel_rfl) ?_; first | (with_reducible exact LEAF w9 p0 p8 A7 c7 A9 c9 ⟨D, O3⟩) | exact LEAF w9 p0 p8 A7 c7 A9 c9 ⟨D, O3⟩)
      
        · skip
          clear hHeld; go_simp; (skip); refine hK.out _ _ ?_ (fun hHeld => ?_); ((try dsimp only); skip); clear hK K
          try simp only [Act.put, List.setIfInBounds_toArray, List.set_cons_zero, List.set_cons_succ]
          (refine wpAnyH_take (i := 13) (v := .slice (drA A1 a c1) (n - a) (c1 - a)) (Reg.get rfl) (by kernel_rfl) (by kernel_rfl) (by kernel_rfl) (fun _ _ _ h => h) (Or.inl ⟨by rfl, ?_⟩) hHeld ?_; (focus (intro wq hSw; (rcases HA1.out with ⟨rfl, rfl, rfl⟩ | ⟨g, rfl⟩); (focus (obtain rfl : a = 0 := (by omega); go_simp <;> rfl)); go_simp <;> simp [drA])))
          try simp only [Act.put, List.setIfInBounds_toArray, List.set_cons_zero, List.set_cons_succ]
          refine wpAnyH_ready (rs := [2, 8]) (by kernel_rfl) (by simp) ?_
          refine (AllReadyH.cons (Reg.get rfl) (fun K hK => ?_) (AllReadyH.cons (Reg.get rfl) (fun K hK => ?_) AllReadyH.nil))
      
          · skip
            clear hHeld; go_simp; (skip); refine hK.out _ _ ?_ (fun hHeld => ?_); ((try dsimp only); skip); clear hK K
            try simp only [Act.put, List.setIfInBounds_toArray, List.set_cons_zero, List.set_cons_succ]
            (refine wpAnyH_take (i := 4) (v := .slice A1 a c1) (Reg.get rfl) (by kernel_rfl) (by kernel_rfl) (by kernel_rfl) (fun _ _ _ h => h) (Or.inl ⟨by rfl, ?_⟩) hHeld ?_; (focus (intro wq hSw; (rcases HA1.out with ⟨rfl, rfl, rfl⟩ | ⟨g, rfl⟩); (focus (obtain rfl : a = 0 := (by omega); go_simp <;> rfl)); go_simp <;> rfl)))
            try simp only [Act.put, List.setIfInBounds_toArray, List.set_cons_zero, List.set_cons_succ]
            refine wpAnyH_ready (rs := [5, 8]) (by kernel_rfl) (by simp) ?_
            refine (AllReadyH.cons (Reg.get rfl) (fun K hK => ?_) (AllReadyH.cons (Reg.get rfl) (fun K hK => ?_) AllReadyH.nil))
      
            · skip
              clear hHeld; (((first | refine wp_appK () rfl w5.heap.size rfl O1 rfl (HTK.out _ D) (one_take HON.out _) (by omega) D.size ?_ | refine wp_appK () rfl w5.heap.size rfl (own_drewA O1) rfl (HTK.out _ D.drew) (one_take HON.out _) (by omega) D.drew.size ?_); intro A7 c7 w7 own7 hg7 _; (try (first | replace E8 := E8.grown hg7 (.inr fun _ e => by simp [blk] at e; omega) | replace E8 := E8.drew.grown hg7 (.inr fun _ e => by simp [blk] at e; omega))); have z7 := hg7.size; (try simp only [World.size_drew] at z7); (first | replace D := Mem.below_app D hg7 D.size (own_lo O1) | replace D := Mem.below_app D.drew hg7 D.drew.size (own_lo O1)); simp only [Nat.zero_add, List.nil_append] at own7 ⊢; have O2 := own7; clear O1 own7 hg7 cb; have cb := KB.out _ D)); refine hK.out _ _ ?_ (fun hHeld => ?_); ((try dsimp only); skip); clear hK K
              try simp only [Act.put, List.setIfInBounds_toArray, List.set_cons_zero, List.set_cons_succ]
              first | ((refine Reg.tkB 8 (Reg.get rfl) hHeld ?_)) | (refine wpAnyH_ready (rs := [8]) (by kernel_rfl) (by simp) ?_; refine AllReadyH.cons (Reg.get rfl) (fun K hK => ?_) AllReadyH.nil; clear hHeld; go_simp; ((generalize hW : World.alloc _ _ = w8; obtain ⟨p8, hp8, E8⟩ := rd_newP hW; (try rw [← hp8]); (try simp only [World.size_drew] at hp8); (try rw [← hp8]); have hq1 := Nat.le_of_eq hp8; have hq2 := Nat.le_of_eq hp8.symm; clear hp8; have z8 := szA hW; (try simp only [World.size_drew] at z8); (try replace O1 := own_toA O1 hW); (try replace O2 := own_toA O2 hW); replace D := below_toA D hW D.size; clear hW cb; have cb := KB.out _ D)); refine hK.out _ _ ?_ (fun hHeld => ?_); ((try dsimp only); skip); clear hK K)
              try simp only [Act.put, List.setIfInBounds_toArray, List.set_cons_zero, List.set_cons_succ]
              first | ((refine Reg.tkB 9 (Reg.get rfl) hHeld ?_)) | (refine wpAnyH_ready (rs := [9]) (by kernel_rfl) (by simp) ?_; refine AllReadyH.cons (Reg.get rfl) (fun K hK => ?_) AllReadyH.nil; clear hHeld; (((first | refine wp_appK () rfl w5.heap.size rfl O2 rfl E8 (one_cellsK _ _) (by omega) D.size ?_ | refine wp_appK () rfl w5.heap.size rfl (own_drewA O2) rfl E8.drew (one_cellsK _ _) (by omega) D.drew.size ?_); intro A9 c9 w9 own9 hg9 _; (first | replace D := Mem.below_app D hg9 D.size (own_lo O2) | replace D := Mem.below_app D.drew hg9 D.drew.size (own_lo O2)); have O3 := own9; clear O2 E8 own9 hg9 cb; have cb := KB.out _ D)); refine hK.out _ _ ?_ (fun hHeld => ?_); ((try dsimp only); skip); clear hK K)
              try simp only [Act.put, List.setIfInBounds_toArray, List.set_cons_zero, List.set_cons_succ]
              (clear hHeld; refine any_normA (f2 := 3) (l2 := tl14) (by kernel_rfl) (by kernel_rfl) ?_; first | (with_reducible exact LEAF w9 p0 p8 A7 c7 A9 c9 ⟨D, O3⟩) | exact LEAF w9 p0 p8 A7 c7 A9 c9 ⟨D, O3⟩)
      
            · skip
              clear hHeld; go_simp; ((generalize hW : World.alloc _ _ = w8; obtain ⟨p8, hp8, E8⟩ := rd_newP hW; (try rw [← hp8]); (try simp only [World.size_drew] at hp8); (try rw [← hp8]); have hq1 := Nat.le_of_eq hp8; have hq2 := Nat.le_of_eq hp8.symm; clear hp8; have z8 := szA hW; (try simp only [World.size_drew] at z8); (try replace O1 := own_toA O1 hW); (try replace O2 := own_toA O2 hW); replace D := below_toA D hW D.size; clear hW cb; have cb := KB.out _ D)); refine hK.out _ _ ?_ (fun hHeld => ?_); ((try dsimp only); skip); clear hK K
              try simp only [Act.put, List.setIfInBounds_toArray, List.set_cons_zero, List.set_cons_succ]
              first | ((refine Reg.tkB 5 (Reg.get rfl) hHeld ?_)) | (refine wpAnyH_ready (rs := [5]) (by kernel_rfl) (by simp) ?_; refine AllReadyH.cons (Reg.get rfl) (fun K hK => ?_) AllReadyH.nil; clear hHeld; (((first | refine wp_appK () rfl w5.heap.size rfl O1 rfl (HTK.out _ D) (one_take HON.out _) (by omega) D.size ?_ | refine wp_appK () rfl w5.heap.size rfl (own_drewA O1) rfl (HTK.out _ D.drew) (one_take HON.out _) (by omega) D.drew.size ?_); intro A7 c7 w7 own7 hg7 _; (try (first | replace E8 := E8.grown hg7 (.inr fun _ e => by simp [blk] at e; omega) | replace E8 := E8.drew.grown hg7 (.inr fun _ e => by simp [blk] at e; omega))); have z7 := hg7.size; (try simp only [World.size_drew] at z7); (first | replace D := Mem.below_app D hg7 D.size (own_lo O1) | replace D := Mem.below_app D.drew hg7 D.drew.size (own_lo O1)); simp only [Nat.zero_add, List.nil_append] at own7 ⊢; have O2 := own7; clear O1 own7 hg7 cb; have cb := KB.out _ D)); refine hK.out _ _ ?_ (fun hHeld => ?_); ((try dsimp only); skip); clear hK K)
              try simp only [Act.put, List.setIfInBounds_toArray, List.set_cons_zero, List.set_cons_succ]
              first | ((refine Reg.tkB 9 (Reg.get rfl) hHeld ?_)) | (refine wpAnyH_ready (rs := [9]) (by kernel_rfl) (by simp) ?_; refine AllReadyH.cons (Reg.get rfl) (fun K hK => ?_) AllReadyH.nil; clear hHeld; (((first | refine wp_appK () rfl w5.heap.size rfl O2 rfl E8 (one_cellsK _ _) (by omega) D.size ?_ | refine wp_appK () rfl w5.heap.size rfl (own_drewA O2) rfl E8.drew (one_cellsK _ _) (by omega) D.drew.size ?_); intro A9 c9 w9 own9 hg9 _; (first | replace D := Mem.below_app D hg9 D.size (own_lo O2) | replace D := Mem.below_app D.drew hg9 D.drew.size (own_lo O2)); have O3 := own9; clear O2 E8 own9 hg9 cb; have cb := KB.out _ D)); refine hK.out _ _ ?_ (fun hHeld => ?_); ((try dsimp only); skip); clear hK K)
              try simp only [Act.put, List.setIfInBounds_toArray, List.set_cons_zero, List.set_cons_succ]
              (clear hHeld; refine any_normA (f2 := 3) (l2 := tl14) (by kernel_rfl) (by kernel_rfl) ?_; first | (with_reducible exact LEAF w9 p0 p8 A7 c7 A9 c9 ⟨D, O3⟩) | exact LEAF w9 p0 p8 A7 c7 A9 c9 ⟨D, O3⟩)
      
          · skip
            clear hHeld; go_simp; ((generalize hW : World.alloc _ _ = w8; obtain ⟨p8, hp8, E8⟩ := rd_newP hW; (try rw [← hp8]); (try simp only [World.size_drew] at hp8); (try rw [← hp8]); have hq1 := Nat.le_of_eq hp8; have hq2 := Nat.le_of_eq hp8.symm; clear hp8; have z8 := szA hW; (try simp only [World.size_drew] at z8); (try replace O1 := own_toA O1 hW); (try replace O2 := own_toA O2 hW); replace D := below_toA D hW D.size; clear hW cb; have cb := KB.out _ D)); refine hK.out _ _ ?_ (fun hHeld => ?_); ((try dsimp only); skip); clear hK K
            try simp only [Act.put, List.setIfInBounds_toArray, List.set_cons_zero, List.set_cons_succ]
            first | ((refine Reg.tkB 2 (Reg.get rfl) hHeld ?_)) | (refine wpAnyH_ready (rs := [2]) (by kernel_rfl) (by simp) ?_; refine AllReadyH.cons (Reg.get rfl) (fun K hK => ?_) AllReadyH.nil; clear hHeld; go_simp; (skip); refine hK.out _ _ ?_ (fun hHeld => ?_); ((try dsimp only); skip); clear hK K)
            try simp only [Act.put, List.setIfInBounds_toArray, List.set_cons_zero, List.set_cons_succ]
            (refine wpAnyH_take (i := 4) (v := .slice A1 a c1) (Reg.get rfl) (by kernel_rfl) (by kernel_rfl) (by kernel_rfl) (fun _ _ _ h => h) (Or.inl ⟨by rfl, ?_⟩) hHeld ?_; (focus (intro wq hSw; (rcases HA1.out with ⟨rfl, rfl, rfl⟩ | ⟨g, rfl⟩); (focus (obtain rfl : a = 0 := (by omega); go_simp <;> rfl)); go_simp <;> rfl)))
            try simp only [Act.put, List.setIfInBounds_toArray, List.set_cons_zero, List.set_cons_succ]
            first | ((refine Reg.tkB 5 (Reg.get rfl) hHeld ?_)) | (refine wpAnyH_ready (rs := [5]) (by kernel_rfl) (by simp) ?_; refine AllReadyH.cons (Reg.get rfl) (fun K hK => ?_) AllReadyH.nil; clear hHeld; (((first | refine wp_appK () rfl w5.heap.size rfl O1 rfl (HTK.out _ D) (one_take HON.out _) (by omega) D.size ?_ | refine wp_appK () rfl w5.heap.size rfl (own_drewA O1) rfl (HTK.out _ D.drew) (one_take HON.out _) (by omega) D.drew.size ?_); intro A7 c7 w7 own7 hg7 _; (try (first | replace E8 := E8.grown hg7 (.inr fun _ e => by simp [blk] at e; omega) | replace E8 := E8.drew.grown hg7 (.inr fun _ e => by simp [blk] at e; omega))); have z7 := hg7.size; (try simp only [World.size_drew] at z7); (first | replace D := Mem.below_app D hg7 D.size (own_lo O1) | replace D := Mem.below_app D.drew hg7 D.drew.size (own_lo O1)); simp only [Nat.zero_add, List.nil_append] at own7 ⊢; have O2 := own7; clear O1 own7 hg7 cb; have cb := KB.out _ D)); refine hK.out _ _ ?_ (fun hHeld => ?_); ((try dsimp only); skip); clear hK K)
            try simp only [Act.put, List.setIfInBounds_toArray, List.set_cons_zero, List.set_cons_succ]
            first | ((refine Reg.tkB 9 (Reg.get rfl) hHeld ?_)) | (refine wpAnyH_ready (rs := [9]) (by kernel_rfl) (by simp) ?_; refine AllReadyH.cons (Reg.get rfl) (fun K hK => ?_) AllReadyH.nil; clear hHeld; (((first | refine wp_appK () rfl w5.heap.size rfl O2 rfl E8 (one_cellsK _ _) (by omega) D.size ?_ | refine wp_appK () rfl w5.heap.size rfl (own_drewA O2) rfl E8.drew (one_cellsK _ _) (by omega) D.drew.size ?_); intro A9 c9 w9 own9 hg9 _; (first | replace D := Mem.below_app D hg9 D.size (own_lo O2) | replace D := Mem.below_app D.drew hg9 D.drew.size (own_lo O2)); have O3 := own9; clear O2 E8 own9 hg9 cb; have cb := KB.out _ D)); refine hK.out _ _ ?_ (fun hHeld => ?_); ((try dsimp only); skip); clear hK K)
            try simp only [Act.put, List.setIfInBounds_toArray, List.set_cons_zero, List.set_cons_succ]
            (clear hHeld; refine any_normA (f2 := 3) (l2 := tl14) (by kernel_rfl) (by kernel_rfl) ?_; first | (with_reducible exact LEAF w9 p0 p8 A7 c7 A9 c9 ⟨D, O3⟩) | exact LEAF w9 p0 p8 A7 c7 A9 c9 ⟨D, O3⟩)
      
      · skip
        clear hHeld; go_simp; (skip); refine hK.out _ _ ?_ (fun hHeld => ?_); ((try dsimp only); skip); clear hK K
        try simp only [Act.put, List.setIfInBounds_toArray, List.set_cons_zero, List.set_cons_succ]
        (refine wpAnyH_take (i := 4) (v := .slice A1 a c1) (Reg.get rfl) (by kernel_rfl) (by kernel_rfl) (by kernel_rfl) (fun _ _ _ h => h) (Or.inl ⟨by rfl, ?_⟩) hHeld ?_; (focus (intro wq hSw; (rcases HA1.out with ⟨rfl, rfl, rfl⟩ | ⟨g, rfl⟩); (focus (obtain rfl : a = 0 := (by omega); go_simp <;> rfl)); go_simp <;> rfl)))
        try simp only [Act.put, List.setIfInBounds_toArray, List.set_cons_zero, List.set_cons_succ]
        refine wpAnyH_ready (rs := [0, 8, 11]) (by kernel_rfl) (by simp) ?_
        refine (AllReadyH.cons (Reg.get rfl) (fun K hK => ?_) (AllReadyH.cons (Reg.get rfl) (fun K hK => ?_) (AllReadyH.cons (Reg.get rfl) (fun K hK => ?_) AllReadyH.nil)))
      
        · skip
          clear hHeld; go_simp; ((generalize hW : World.alloc _ _ = w6; obtain ⟨p0, hp0, O1⟩ := own_newP hW D.size; (try rw [← hp0]); (try simp only [World.size_drew] at hp0); (try rw [← hp0]); have hp1 := Nat.le_of_eq hp0; have hp2 := Nat.le_of_eq hp0.symm; clear hp0; have z6 := szA hW; (try simp only [World.size_drew] at z6); (try replace E8 := rd_toA E8 hW); replace D := below_toA D hW D.size; clear hW cb; have cb := KB.out _ D)); refine hK.out _ _ ?_ (fun hHeld => ?_); ((try dsimp only); skip); clear hK K
          try simp only [Act.put, List.setIfInBounds_toArray, List.set_cons_zero, List.set_cons_succ]
          refine wpAnyH_ready (rs := [5, 8, 11]) (by kernel_rfl) (by simp) ?_
          refine (AllReadyH.cons (Reg.get rfl) (fun K hK => ?_) (AllReadyH.cons (Reg.get rfl) (fun K hK => ?_) (AllReadyH.cons (Reg.get rfl) (fun K hK => ?_) AllReadyH.nil)))
      
          · skip
            clear hHeld; (((first | refine wp_appK () rfl w5.heap.size rfl O1 rfl (HTK.out _ D) (one_take HON.out _) (by omega) D.size ?_ | refine wp_appK () rfl w5.heap.size rfl (own_drewA O1) rfl (HTK.out _ D.drew) (one_take HON.out _) (by omega) D.drew.size ?_); intro A7 c7 w7 own7 hg7 _; (try (first | replace E8 := E8.grown hg7 (.inr fun _ e => by simp [blk] at e; omega) | replace E8 := E8.drew.grown hg7 (.inr fun _ e => by simp [blk] at e; omega))); have z7 := hg7.size; (try simp only [World.size_drew] at z7); (first | replace D := Mem.below_app D hg7 D.size (own_lo O1) | replace D := Mem.below_app D.drew hg7 D.drew.size (own_lo O1)); simp only [Nat.zero_add, List.nil_append] at own7 ⊢; have O2 := own7; clear O1 own7 hg7 cb; have cb := KB.out _ D)); refine hK.out _ _ ?_ (fun hHeld => ?_); ((try dsimp only); skip); clear hK K
            try simp only [Act.put, List.setIfInBounds_toArray, List.set_cons_zero, List.set_cons_succ]
            refine wpAnyH_ready (rs := [8, 11]) (by kernel_rfl) (by simp) ?_
            refine (AllReadyH.cons (Reg.get rfl) (fun K hK => ?_) (AllReadyH.cons (Reg.get rfl) (fun K hK => ?_) AllReadyH.nil))
      
            · skip
              clear hHeld; go_simp; ((generalize hW : World.alloc _ _ = w8; obtain ⟨p8, hp8, E8⟩ := rd_newP hW; (try rw [← hp8]); (try simp only [World.size_drew] at hp8); (try rw [← hp8]); have hq1 := Nat.le_of_eq hp8; have hq2 := Nat.le_of_eq hp8.symm; clear hp8; have z8 := szA hW; (try simp only [World.size_drew] at z8); (try replace O1 := own_toA O1 hW); (try replace O2 := own_toA O2 hW); replace D := below_toA D hW D.size; clear hW cb; have cb := KB.out _ D)); refine hK.out _ _ ?_ (fun hHeld => ?_); ((try dsimp only); skip); clear hK K
              try simp only [Act.put, List.setIfInBounds_toArray, List.set_cons_zero, List.set_cons_succ]
              refine wpAnyH_ready (rs := [9, 11]) (by kernel_rfl) (by simp) ?_
              refine (AllReadyH.cons (Reg.get rfl) (fun K hK => ?_) (AllReadyH.cons (Reg.get rfl) (fun K hK => ?_) AllReadyH.nil))
      
              · skip
                clear hHeld; (((first | refine wp_appK () rfl w5.heap.size rfl O2 rfl E8 (one_cellsK _ _) (by omega) D.size ?_ | refine wp_appK () rfl w5.heap.size rfl (own_drewA O2) rfl E8.drew (one_cellsK _ _) (by omega) D.drew.size ?_); intro A9 c9 w9 own9 hg9 _; (first | replace D := Mem.below_app D hg9 D.size (own_lo O2) | replace D := Mem.below_app D.drew hg9 D.drew.size (own_lo O2)); have O3 := own9; clear O2 E8 own9 hg9 cb; have cb := KB.out _ D)); refine hK.out _ _ ?_ (fun hHeld => ?_); ((try dsimp only); skip); clear hK K
                try simp only [Act.put, List.setIfInBounds_toArray, List.set_cons_zero, List.set_cons_succ]
                first | ((refine Reg.tkB 11 (Reg.get rfl) hHeld ?_)) | (refine wpAnyH_ready (rs := [11]) (by kernel_rfl) (by simp) ?_; refine AllReadyH.cons (Reg.get rfl) (fun K hK => ?_) AllReadyH.nil; clear hHeld; go_simp; (skip); refine hK.out _ _ ?_ (fun hHeld => ?_); ((try dsimp only); skip); clear hK K)
                try simp only [Act.put, List.setIfInBounds_toArray, List.set_cons_zero, List.set_cons_succ]
                (refine wpAnyH_take (i := 13) (v := .slice (drA A1 a c1) (n - a) (c1 - a)) (Reg.get rfl) (by kernel_rfl) (by kernel_rfl) (by kernel_rfl) (fun _ _ _ h => h) (Or.inl ⟨by rfl, ?_⟩) hHeld ?_; (focus (intro wq hSw; (rcases HA1.out with ⟨rfl, rfl, rfl⟩ | ⟨g, rfl⟩); (focus (obtain rfl : a = 0 := (by omega); go_simp <;> rfl)); go_simp <;> simp [drA])))
                try simp only [Act.put, List.setIfInBounds_toArray, List.set_cons_zero, List.set_cons_succ]
                (clear hHeld; refine any_normA (f2 := 3) (l2 := tl14) (by kernel_rfl) (by kernel_rfl) ?_; first | (with_reducible exact LEAF w9 p0 p8 A7 c7 A9 c9 ⟨D, O3⟩) | exact LEAF w9 p0 p8 A7 c7 A9 c9 ⟨D, O3⟩)
      
              · skip
                clear hHeld; go_simp; (skip); refine hK.out _ _ ?_ (fun hHeld => ?_); ((try dsimp only); skip); clear hK K
                try simp only [Act.put, List.setIfInBounds_toArray, List.set_cons_zero, List.set_cons_succ]
                (refine wpAnyH_take (i := 13) (v := .slice (drA A1 a c1) (n - a) (c1 - a)) (Reg.get rfl) (by kernel_rfl) (by kernel_rfl) (by kernel_rfl) (fun _ _ _ h => h) (Or.inl ⟨by rfl, ?_⟩) hHeld ?_; (focus (intro wq hSw; (rcases HA1.out with ⟨rfl, rfl, rfl⟩ | ⟨g, rfl⟩); (focus (obtain rfl : a = 0 := (by omega); go_simp <;> rfl)); go_simp <;> simp [drA])))
                try simp only [Act.put, List.setIfInBounds_toArray, List.set_cons_zero, List.set_cons_succ]
                first | ((refine Reg.tkB 9 (Reg.get rfl) hHeld ?_)) | (refine wpAnyH_ready (rs := [9]) (by kernel_rfl) (by simp) ?_; refine AllReadyH.cons (Reg.get rfl) (fun K hK => ?_) AllReadyH.nil; clear hHeld; (((first | refine wp_appK () rfl w5.heap.size rfl O2 rfl E8 (one_cellsK _ _) (by omega) D.size ?_ | refine wp_appK () rfl w5.heap.size rfl (own_drewA O2) rfl E8.drew (one_cellsK _ _) (by omega) D.drew.size ?_); intro A9 c9 w9 own9 hg9 _; (first | replace D := Mem.below_app D hg9 D.size (own_lo O2) | replace D := Mem.below_app D.drew hg9 D.drew.size (own_lo O2)); have O3 := own9; clear O2 E8 own9 hg9 cb; have cb := KB.out _ D)); refine hK.out _ _ ?_ (fun hHeld => ?_); ((try dsimp only); skip); clear hK K)
                try simp only [Act.put, List.setIfInBounds_toArray, List.set_cons_zero, List.set_cons_succ]
                (clear hHeld; refine any_normA (f2 := 3) (l2 := tl14) (by kernel_rfl) (by kernel_rfl) ?_; first | (with_reducible exact LEAF w9 p0 p8 A7 c7 A9 c9 ⟨D, O3⟩) | exact LEAF w9 p0 p8 A7 c7 A9 c9 ⟨D, O3⟩)
      
            · skip
              clear hHeld; go_simp; (skip); refine hK.out _ _ ?_ (fun hHeld => ?_); ((try dsimp only); skip); clear hK K
              try simp only [Act.put, List.setIfInBounds_toArray, List.set_cons_zero, List.set_cons_succ]
              (refine wpAnyH_take (i := 13) (v := .slice (drA A1 a c1) (n - a) (c1 - a)) (Reg.get rfl) (by kernel_rfl) (by kernel_rfl) (by kernel_rfl) (fun _ _ _ h => h) (Or.inl ⟨by rfl, ?_⟩) hHeld ?_; (focus (intro wq hSw; (rcases HA1.out with ⟨rfl, rfl, rfl⟩ | ⟨g, rfl⟩); (focus (obtain rfl : a = 0 := (by omega); go_simp <;> rfl)); go_simp <;> simp [drA])))
              try simp only [Act.put, List.setIfInBounds_toArray, List.set_cons_zero, List.set_cons_succ]
              first | ((refine Reg.tkB 8 (Reg.get rfl) hHeld ?_)) | (refine wpAnyH_ready (rs := [8]) (by kernel_rfl) (by simp) ?_; refine AllReadyH.cons (Reg.get rfl) (fun K hK => ?_) AllReadyH.nil; clear hHeld; go_simp; ((generalize hW : World.alloc _ _ = w8; obtain ⟨p8, hp8, E8⟩ := rd_newP hW; (try rw [← hp8]); (try simp only [World.size_drew] at hp8); (try rw [← hp8]); have hq1 := Nat.le_of_eq hp8; have hq2 := Nat.le_of_eq hp8.symm; clear hp8; have z8 := szA hW; (try simp only [World.size_drew] at z8); (try replace O1 := own_toA O1 hW); (try replace O2 := own_toA O2 hW); replace D := below_toA D hW D.size; clear hW cb; have cb := KB.out _ D)); refine hK.out _ _ ?_ (fun hHeld => ?_); ((try dsimp only); skip); clear hK K)
              try simp only [Act.put, List.setIfInBounds_toArray, List.set_cons_zero, List.set_cons_succ]
              first | ((refine Reg.tkB 9 (Reg.get rfl) hHeld ?_)) | (refine wpAnyH_ready (rs := [9]) (by kernel_rfl) (by simp) ?_; refine AllReadyH.cons (Reg.get rfl) (fun K hK => ?_) AllReadyH.nil; clear hHeld; (((first | refine wp_appK () rfl w5.heap.size rfl O2 rfl E8 (one_cellsK _ _) (by omega) D.size ?_ | refine wp_appK () rfl w5.heap.size rfl (own_drewA O2) rfl E8.drew (one_cellsK _ _) (by omega) D.drew.size ?_); intro A9 c9 w9 own9 hg9 _; (first | replace D := Mem.below_app D hg9 D.size (own_lo O2) | replace D := Mem.below_app D.drew hg9 D.drew.size (own_lo O2)); have O3 := own9; clear O2 E8 own9 hg9 cb; have cb := KB.out _ D)); refine hK.out _ _ ?_ (fun hHeld => ?_); ((try dsimp only); skip); clear hK K)
              try simp only [Act.put, List.setIfInBounds_toArray, List.set_cons_zero, List.set_cons_succ]
              (clear hHeld; refine any_normA (f2 := 3) (l2 := tl14) (by kernel_rfl) (by kernel_rfl) ?_; first | (with_reducible exact LEAF w9 p0 p8 A7 c7 A9 c9 ⟨D, O3⟩) | exact LEAF w9 p0 p8 A7 c7 A9 c9 ⟨D, O3⟩)
      
          · skip
            clear hHeld; go_simp; ((generalize hW : World.alloc _ _ = w8; obtain ⟨p8, hp8, E8⟩ := rd_newP hW; (try rw [← hp8]); (try simp only [World.size_drew] at hp8); (try rw [← hp8]); have hq1 := Nat.le_of_eq hp8; have hq2 := Nat.le_of_eq hp8.symm; clear hp8; have z8 := szA hW; (try simp only [World.size_drew] at z8); (try replace O1 := own_toA O1 hW); (try replace O2 := own_toA O2 hW); replace D := below_toA D hW D.size; clear hW cb; have cb := KB.out _ D)); refine hK.out _ _ ?_ (fun hHeld => ?_); ((try dsimp only); skip); clear hK K
            try simp only [Act.put, List.setIfInBounds_toArray, List.set_cons_zero, List.set_cons_succ]
            refine wpAnyH_ready (rs := [5, 11]) (by kernel_rfl) (by simp) ?_
            refine (AllReadyH.cons (Reg.get rfl) (fun K hK => ?_) (AllReadyH.cons (Reg.get rfl) (fun K hK => ?_) AllReadyH.nil))
      
            · skip
              clear hHeld; (((first | refine wp_appK () rfl w5.heap.size rfl O1 rfl (HTK.out _ D) (one_take HON.out _) (by omega) D.size ?_ | refine wp_appK () rfl w5.heap.size rfl (own_drewA O1) rfl (HTK.out _ D.drew) (one_take HON.out _) (by omega) D.drew.size ?_); intro A7 c7 w7 own7 hg7 _; (try (first | replace E8 := E8.grown hg7 (.inr fun _ e => by simp [blk] at e; omega) | replace E8 := E8.drew.grown hg7 (.inr fun _ e => by simp [blk] at e; omega))); have z7 := hg7.size; (try simp only [World.size_drew] at z7); (first | replace D := Mem.below_app D hg7 D.size (own_lo O1) | replace D := Mem.below_app D.drew hg7 D.drew.size (own_lo O1)); simp only [Nat.zero_add, List.nil_append] at own7 ⊢; have O2 := own7; clear O1 own7 hg7 cb; have cb := KB.out _ D)); refine hK.out _ _ ?_ (fun hHeld => ?_); ((try dsimp only); skip); clear hK K
              try simp only [Act.put, List.setIfInBounds_toArray, List.set_cons_zero, List.set_cons_succ]
              refine wpAnyH_ready (rs := [9, 11]) (by kernel_rfl) (by simp) ?_
              refine (AllReadyH.cons (Reg.get rfl) (fun K hK => ?_) (AllReadyH.cons (Reg.get rfl) (fun K hK => ?_) AllReadyH.nil))
      
              · skip
                clear hHeld; (((first | refine wp_appK () rfl w5.heap.size rfl O2 rfl E8 (one_cellsK _ _) (by omega) D.size ?_ | refine wp_appK () rfl w5.heap.size rfl (own_drewA O2) rfl E8.drew (one_cellsK _ _) (by omega) D.drew.size ?_); intro A9 c9 w9 own9 hg9 _; (first | replace D := Mem.below_app D hg9 D.size (own_lo O2) | replace D := Mem.below_app D.drew hg9 D.drew.size (own_lo O2)); have O3 := own9; clear O2 E8 own9 hg9 cb; have cb := KB.out _ D)); refine hK.out _ _ ?_ (fun hHeld => ?_); ((try dsimp only); skip); clear hK K
                try simp only [Act.put, List.setIfInBounds_toArray, List.set_cons_zero, List.set_cons_succ]
                first | ((refine Reg.tkB 11 (Reg.get rfl) hHeld ?_)) | (refine wpAnyH_ready (rs := [11]) (by kernel_rfl) (by simp) ?_; refine AllReadyH.cons (Reg.get rfl) (fun K hK => ?_) AllReadyH.nil; clear hHeld; go_simp; (skip); refine hK.out _ _ ?_ (fun hHeld => ?_); ((try dsimp only); skip); clear hK K)
                try simp only [Act.put, List.setIfInBounds_toArray, List.set_cons_zero, List.set_cons_succ]
                (refine wpAnyH_take (i := 13) (v := .slice (drA A1 a c1) (n - a) (c1 - a)) (Reg.get rfl) (by kernel_rfl) (by kernel_rfl) (by kernel_rfl) (fun _ _ _ h => h) (Or.inl ⟨by rfl, ?_⟩) hHeld ?_; (focus (intro wq hSw; (rcases HA1.out with ⟨rfl, rfl, rfl⟩ | ⟨g, rfl⟩); (focus (obtain rfl : a = 0 := (by omega); go_simp <;> rfl)); go_simp <;> simp [drA])))
                try simp only [Act.put, List.setIfInBounds_toArray, List.set_cons_zero, List.set_cons_succ]
                (clear hHeld; refine any_normA (f2 := 3) (l2 := tl14) (by kernel_rfl) (by kernel_rfl) ?_; first | (with_reducible exact LEAF w9 p0 p8 A7 c7 A9 c9 ⟨D, O3⟩) | exact LEAF w9 p0 p8 A7 c7 A9 c9 ⟨D, O3⟩)
      
              · skip
                clear hHeld; go_simp; (skip); refine hK.out _ _ ?_ (fun hHeld => ?_); ((try dsimp only); skip); clear hK K
                try simp only [Act.put, List.setIfInBounds_toArray, List.set_cons_zero, List.set_cons_succ]
                (refine wpAnyH_take (i := 13) (v := .slice (drA A1 a c1) (n - a) (c1 - a)) (Reg.get rfl) (by kernel_rfl) (by kernel_rfl) (by kernel_rfl) (fun _ _ _ h => h) (Or.inl ⟨by rfl, ?_⟩) hHeld ?_; (focus (intro wq hSw; (rcases HA1.out with ⟨rfl, rfl, rfl⟩ | ⟨g, rfl⟩); (focus (obtain rfl : a = 0 := (by omega); go_simp <;> rfl)); go_simp <;> simp [drA])))
                try simp only [Act.put, List.setIfInBounds_toArray, List.set_cons_zero, List.set_cons_succ]
                first | ((refine Reg.tkB 9 (Reg.get rfl) hHeld ?_)) | (refine wpAnyH_ready (rs := [9]) (by kernel_rfl) (by simp) ?_; refine AllReadyH.cons (Reg.get rfl) (fun K hK => ?_) AllReadyH.nil; clear hHeld; (((first | refine wp_appK () rfl w5.heap.size rfl O2 rfl E8 (one_cellsK _ _) (by omega) D.size ?_ | refine wp_appK () rfl w5.heap.size rfl (own_drewA O2) rfl E8.drew (one_cellsK _ _) (by omega) D.drew.size ?_); intro A9 c9 w9 own9 hg9 _; (first | replace D := Mem.below_app D hg9 D.size (own_lo O2) | replace D := Mem.below_app D.drew hg9 D.drew.size (own_lo O2)); have O3 := own9; clear O2 E8 own9 hg9 cb; have cb := KB.out _ D)); refine hK.out _ _ ?_ (fun hHeld => ?_); ((try dsimp only); skip); clear hK K)
                try simp only [Act.put, List.setIfInBounds_toArray, List.set_cons_zero, List.set_cons_succ]
                (clear hHeld; refine any_normA (f2 := 3) (l2 := tl14) (by kernel_rfl) (by kernel_rfl) ?_; first | (with_reducible exact LEAF w9 p0 p8 A7 c7 A9 c9 ⟨D, O3⟩) | exact LEAF w9 p0 p8 A7 c7 A9 c9 ⟨D, O3⟩)
      
            · skip
              clear hHeld; go_simp; (skip); refine hK.out _ _ ?_ (fun hHeld => ?_); ((try dsimp only); skip); clear hK K
              try simp only [Act.put, List.setIfInBounds_toArray, List.set_cons_zero, List.set_cons_succ]
              (refine wpAnyH_take (i := 13) (v := .slice (drA A1 a c1) (n - a) (c1 - a)) (Reg.get rfl) (by kernel_rfl) (by kernel_rfl) (by kernel_rfl) (fun _ _ _ h => h) (Or.inl ⟨by rfl, ?_⟩) hHeld ?_; (focus (intro wq hSw; (rcases HA1.out with ⟨rfl, rfl, rfl⟩ | ⟨g, rfl⟩); (focus (obtain rfl : a = 0 := (by omega); go_simp <;> rfl)); go_simp <;> simp [drA])))
              try simp only [Act.put, List.setIfInBounds_toArray, List.set_cons_zero, List.set_cons_succ]
              first | ((refine Reg.tkB 5 (Reg.get rfl) hHeld ?_)) | (refine wpAnyH_ready (rs := [5]) (by kernel_rfl) (by simp) ?_; refine AllReadyH.cons (Reg.get rfl) (fun K hK => ?_) AllReadyH.nil; clear hHeld; (((first | refine wp_appK () rfl w5.heap.size rfl O1 rfl (HTK.out _ D) (one_take HON.out _) (by omega) D.size ?_ | refine wp_appK () rfl w5.heap.size rfl (own_drewA O1) rfl (HTK.out _ D.drew) (one_take HON.out _) (by omega) D.drew.size ?_); intro A7 c7 w7 own7 hg7 _; (try (first | replace E8 := E8.grown hg7 (.inr fun _ e => by simp [blk] at e; omega) | replace E8 := E8.drew.grown hg7 (.inr fun _ e => by simp [blk] at e; omega))); have z7 := hg7.size; (try simp only [World.size_drew] at z7); (first | replace D := Mem.below_app D hg7 D.size (own_lo O1) | replace D := Mem.below_app D.drew hg7 D.drew.size (own_lo O1)); simp only [Nat.zero_add, List.nil_append] at own7 ⊢; have O2 := own7; clear O1 own7 hg7 cb; have cb := KB.out _ D)); refine hK.out _ _ ?_ (fun hHeld => ?_); ((try dsimp only); skip); clear hK K)
              try simp only [Act.put, List.setIfInBounds_toArray, List.set_cons_zero, List.set_cons_succ]
              first | ((refine Reg.tkB 9 (Reg.get rfl) hHeld ?_)) | (refine wpAnyH_ready (rs := [9]) (by kernel_rfl) (by simp) ?_; refine AllReadyH.cons (Reg.get rfl) (fun K hK => ?_) AllReadyH.nil; clear hHeld; (((first | refine wp_appK () rfl w5.heap.size rfl O2 rfl E8 (one_cellsK _ _) (by omega) D.size ?_ | refine wp_appK () rfl w5.heap.size rfl (own_drewA O2) rfl E8.drew (one_cellsK _ _) (by omega) D.drew.size ?_); intro A9 c9 w9 own9 hg9 _; (first | replace D := Mem.below_app D hg9 D.size (own_lo O2) | replace D := Mem.below_app D.drew hg9 D.drew.size (own_lo O2)); have O3 := own9; clear O2 E8 own9 hg9 cb; have cb := KB.out _ D)); refine hK.out _ _ ?_ (fun hHeld => ?_); ((try dsimp only); skip); clear hK K)
              try simp only [Act.put, List.setIfInBounds_toArray, List.set_cons_zero, List.set_cons_succ]
              (clear hHeld; refine any_normA (f2 := 3) (l2 := tl14) (by kernel_rfl) (by kernel_rfl) ?_; first | (with_reducible exact LEAF w9 p0 p8 A7 c7 A9 c9 ⟨D, O3⟩) | exact LEAF w9 p0 p8 A7 c7 A9 c9 ⟨D, O3⟩)
      
          · skip
            clear hHeld; go_simp; (skip); refine hK.out _ _ ?_ (fun hHeld => ?_); ((try dsimp only); skip); clear hK K
            try simp only [Act.put, List.setIfInBounds_toArray, List.set_cons_zero, List.set_cons_succ]
            (refine wpAnyH_take (i := 13) (v := .slice (drA A1 a c1) (n - a) (c1 - a)) (Reg.get rfl) (by kernel_rfl) (by kernel_rfl) (by kernel_rfl) (fun _ _ _ h => h) (Or.inl ⟨by rfl, ?_⟩) hHeld ?_; (focus (intro wq hSw; (rcases HA1.out with ⟨rfl, rfl, rfl⟩ | ⟨g, rfl⟩); (focus (obtain rfl : a = 0 := (by omega); go_simp <;> rfl)); go_simp <;> simp [drA])))
            try simp only [Act.put, List.setIfInBounds_toArray, List.set_cons_zero, List.set_cons_succ]
            refine wpAnyH_ready (rs := [5, 8]) (by kernel_rfl) (by simp) ?_
            refine (AllReadyH.cons (Reg.get rfl) (fun K hK => ?_) (AllReadyH.cons (Reg.get rfl) (fun K hK => ?_) AllReadyH.nil))
      
            · skip
              clear hHeld; (((first | refine wp_appK () rfl w5.heap.size rfl O1 rfl (HTK.out _ D) (one_take HON.out _) (by omega) D.size ?_ | refine wp_appK () rfl w5.heap.size rfl (own_drewA O1) rfl (HTK.out _ D.drew) (one_take HON.out _) (by omega) D.drew.size ?_); intro A7 c7 w7 own7 hg7 _; (try (first | replace E8 := E8.grown hg7 (.inr fun _ e => by simp [blk] at e; omega) | replace E8 := E8.drew.grown hg7 (.inr fun _ e => by simp [blk] at e; omega))); have z7 := hg7.size; (try simp only [World.size_drew] at z7); (first | replace D := Mem.below_app D hg7 D.size (own_lo O1) | replace D := Mem.below_app D.drew hg7 D.drew.size (own_lo O1)); simp only [Nat.zero_add, List.nil_append] at own7 ⊢; have O2 := own7; clear O1 own7 hg7 cb; have cb := KB.out _ D)); refine hK.out _ _ ?_ (fun hHeld => ?_); ((try dsimp only); skip); clear hK K
              try simp only [Act.put, List.setIfInBounds_toArray, List.set_cons_zero, List.set_cons_succ]
              first | ((refine Reg.tkB 8 (Reg.get rfl) hHeld ?_)) | (refine wpAnyH_ready (rs := [8]) (by kernel_rfl) (by simp) ?_; refine AllReadyH.cons (Reg.get rfl) (fun K hK => ?_) AllReadyH.nil; clear hHeld; go_simp; ((generalize hW : World.alloc _ _ = w8; obtain ⟨p8, hp8, E8⟩ := rd_newP hW; (try rw [← hp8]); (try simp only [World.size_drew] at hp8); (try rw [← hp8]); have hq1 := Nat.le_of_eq hp8; have hq2 := Nat.le_of_eq hp8.symm; clear hp8; have z8 := szA hW; (try simp only [World.size_drew] at z8); (try replace O1 := own_toA O1 hW); (try replace O2 := own_toA O2 hW); replace D := below_toA D hW D.size; clear hW cb; have cb := KB.out _ D)); refine hK.out _ _ ?_ (fun hHeld => ?_); ((try dsimp only); skip); clear hK K)
              try simp only [Act.put, List.setIfInBounds_toArray, List.set_cons_zero, List.set_cons_succ]
              first | ((refine Reg.tkB 9 (Reg.get rfl) hHeld ?_)) | (refine wpAnyH_ready (rs := [9]) (by kernel_rfl) (by simp) ?_; refine AllReadyH.cons (Reg.get rfl) (fun K hK => ?_) AllReadyH.nil; clear hHeld; (((first | refine wp_appK () rfl w5.heap.size rfl O2 rfl E8 (one_cellsK _ _) (by omega) D.size ?_ | refine wp_appK () rfl w5.heap.size rfl (own_drewA O2) rfl E8.drew (one_cellsK _ _) (by omega) D.drew.size ?_); intro A9 c9 w9 own9 hg9 _; (first | replace D := Mem.below_app D hg9 D.size (own_lo O2) | replace D := Mem.below_app D.drew hg9 D.drew.size (own_lo O2)); have O3 := own9; clear O2 E8 own9 hg9 cb; have cb := KB.out _ D)); refine hK.out _ _ ?_ (fun hHeld => ?_); ((try dsimp only); skip); clear hK K)
              try simp only [Act.put, List.setIfInBounds_toArray, List.set_cons_zero, List.set_cons_succ]
              (clear hHeld; refine any_normA (f2 := 3) (l2 := tl14) (by kernel_rfl) (by kernel_rfl) ?_; first | (with_reducible exact LEAF w9 p0 p8 A7 c7 A9 c9 ⟨D, O3⟩) | exact LEAF w9 p0 p8 A7 c7 A9 c9 ⟨D, O3⟩)
      
            · skip
              clear hHeld; go_simp; ((generalize hW : World.alloc _ _ = w8; obtain ⟨p8, hp8, E8⟩ := rd_newP hW; (try rw [← hp8]); (try simp only [World.size_drew] at hp8); (try rw [← hp8]); have hq1 := Nat.le_of_eq hp8; have hq2 := Nat.le_of_eq hp8.symm; clear hp8; have z8 := szA hW; (try simp only [World.size_drew] at z8); (try replace O1 := own_toA O1 hW); (try replace O2 := own_toA O2 hW); replace D := below_toA D hW D.size; clear hW cb; have cb := KB.out _ D)); refine hK.out _ _ ?_ (fun hHeld => ?_); ((try dsimp only); skip); clear hK K
              try simp only [Act.put, List.setIfInBounds_toArray, List.set_cons_zero, List.set_cons_succ]
              first | ((refine Reg.tkB 5 (Reg.get rfl) hHeld ?_)) | (refine wpAnyH_ready (rs := [5]) (by kernel_rfl) (by simp) ?_; refine AllReadyH.cons (Reg.get rfl) (fun K hK => ?_) AllReadyH.nil; clear hHeld; (((first | refine wp_appK () rfl w5.heap.size rfl O1 rfl (HTK.out _ D) (one_take HON.out _) (by omega) D.size ?_ | refine wp_appK () rfl w5.heap.size rfl (own_drewA O1) rfl (HTK.out _ D.drew) (one_take HON.out _) (by omega) D.drew.size ?_); intro A7 c7 w7 own7 hg7 _; (try (first | replace E8 := E8.grown hg7 (.inr fun _ e => by simp [blk] at e; omega) | replace E8 := E8.drew.grown hg7 (.inr fun _ e => by simp [blk] at e; omega))); have z7 := hg7.size; (try simp only [World.size_drew] at z7); (first | replace D := Mem.below_app D hg7 D.size (own_lo O1) | replace D := Mem.below_app D.drew hg7 D.drew.size (own_lo O1)); simp only [Nat.zero_add, List.nil_append] at own7 ⊢; have O2 := own7; clear O1 own7 hg7 cb; have cb := KB.out _ D)); refine hK.out _ _ ?_ (fun hHeld => ?_); ((try dsimp only); skip); clear hK K)
              try simp only [Act.put, List.setIfInBounds_toArray, List.set_cons_zero, List.set_cons_succ]
              first | ((refine Reg.tkB 9 (Reg.get rfl) hHeld ?_)) | (refine wpAnyH_ready (rs := [9]) (by kernel_rfl) (by simp) ?_; refine AllReadyH.cons (Reg.get rfl) (fun K hK => ?_) AllReadyH.nil; clear hHeld; (((first | refine wp_appK () rfl w5.heap.size rfl O2 rfl E8 (one_cellsK _ _) (by omega) D.size ?_ | refine wp_appK () rfl w5.heap.size rfl (own_drewA O2) rfl E8.drew (one_cellsK _ _) (by omega) D.drew.size ?_); intro A9 c9 w9 own9 hg9 _; (first | replace D := Mem.below_app D hg9 D.size (own_lo O2) | replace D := Mem.below_app D.drew hg9 D.drew.size (own_lo O2)); have O3 := own9; clear O2 E8 own9 hg9 cb; have cb := KB.out _ D)); refine hK.out _ _ ?_ (fun hHeld => ?_); ((try dsimp only); skip); clear hK K)
              try simp only [Act.put, List.setIfInBounds_toArray, List.set_cons_zero, List.set_cons_succ]
              (clear hHeld; refine any_normA (f2 := 3) (l2 := tl14) (by kernel_rfl) (by kernel_rfl) ?_; first | (with_reducible exact LEAF w9 p0 p8 A7 c7 A9 c9 ⟨D, O3⟩) | exact LEAF w9 p0 p8 A7 c7 A9 c9 ⟨D, O3⟩)
      
        · skip
          clear hHeld; go_simp; ((generalize hW : World.alloc _ _ = w8; obtain ⟨p8, hp8, E8⟩ := rd_newP hW; (try rw [← hp8]); (try simp only [World.size_drew] at hp8); (try rw [← hp8]); have hq1 := Nat.le_of_eq hp8; have hq2 := Nat.le_of_eq hp8.symm; clear hp8; have z8 := szA hW; (try simp only [World.size_drew] at z8); (try replace O1 := own_toA O1 hW); (try replace O2 := own_toA O2 hW); replace D := below_toA D hW D.size; clear hW cb; have cb := KB.out _ D)); refine hK.out _ _ ?_ (fun hHeld => ?_); ((try dsimp only); skip); clear hK K
          try simp only [Act.put, List.setIfInBounds_toArray, List.set_cons_zero, List.set_cons_succ]
          refine wpAnyH_ready (rs := [0, 11]) (by kernel_rfl) (by simp) ?_
          refine (AllReadyH.cons (Reg.get rfl) (fun K hK => ?_) (AllReadyH.cons (Reg.get rfl) (fun K hK => ?_) AllReadyH.nil))
      
          · skip
            clear hHeld; go_simp; ((generalize hW : World.alloc _ _ = w6; obtain ⟨p0, hp0, O1⟩ := own_newP hW D.size; (try rw [← hp0]); (try simp only [World.size_drew] at hp0); (try rw [← hp0]); have hp1 := Nat.le_of_eq hp0; have hp2 := Nat.le_of_eq hp0.symm; clear hp0; have z6 := szA hW; (try simp only [World.size_drew] at z6); (try replace E8 := rd_toA E8 hW); replace D := below_toA D hW D.size; clear hW cb; have cb := KB.out _ D)); refine hK.out _ _ ?_ (fun hHeld => ?_); ((try dsimp only); skip); clear hK K
            try simp only [Act.put, List.setIfInBounds_toArray, List.set_cons_zero, List.set_cons_succ]
            refine wpAnyH_ready (rs := [5, 11]) (by kernel_rfl) (by simp) ?_
            refine (AllReadyH.cons (Reg.get rfl) (fun K hK => ?_) (AllReadyH.cons (Reg.get rfl) (fun K hK => ?_) AllReadyH.nil))
      
            · skip
              clear hHeld; (((first | refine wp_appK () rfl w5.heap.size rfl O1 rfl (HTK.out _ D) (one_take HON.out _) (by omega) D.size ?_ | refine wp_appK () rfl w5.heap.size rfl (own_drewA O1) rfl (HTK.out _ D.drew) (one_take HON.out _) (by omega) D.drew.size ?_); intro A7 c7 w7 own7 hg7 _; (try (first | replace E8 := E8.grown hg7 (.inr fun _ e => by simp [blk] at e; omega) | replace E8 := E8.drew.grown hg7 (.inr fun _ e => by simp [blk] at e; omega))); have z7 := hg7.size; (try simp only [World.size_drew] at z7); (first | replace D := Mem.below_app D hg7 D.size (own_lo O1) | replace D := Mem.below_app D.drew hg7 D.drew.size (own_lo O1)); simp only [Nat.zero_add, List.nil_append] at own7 ⊢; have O2 := own7; clear O1 own7 hg7 cb; have cb := KB.out _ D)); refine hK.out _ _ ?_ (fun hHeld => ?_); ((try dsimp only); skip); clear hK K
              try simp only [Act.put, List.setIfInBounds_toArray, List.set_cons_zero, List.set_cons_succ]
              refine wpAnyH_ready (rs := [9, 11]) (by kernel_rfl) (by simp) ?_
              refine (AllReadyH.cons (Reg.get rfl) (fun K hK => ?_) (AllReadyH.cons (Reg.get rfl) (fun K hK => ?_) AllReadyH.nil))
      
              · skip
                clear hHeld; (((first | refine wp_appK () rfl w5.heap.size rfl O2 rfl E8 (one_cellsK _ _) (by omega) D.size ?_ | refine wp_appK () rfl w5.heap.size rfl (own_drewA O2) rfl E8.drew (one_cellsK _ _) (by omega) D.drew.size ?_); intro A9 c9 w9 own9 hg9 _; (first | replace D := Mem.below_app D hg9 D.size (own_lo O2) | replace D := Mem.below_app D.drew hg9 D.drew.size (own_lo O2)); have O3 := own9; clear O2 E8 own9 hg9 cb; have cb := KB.out _ D)); refine hK.out _ _ ?_ (fun hHeld => ?_); ((try dsimp only); skip); clear hK K
                try simp only [Act.put, List.setIfInBounds_toArray, List.set_cons_zero, List.set_cons_succ]
                first | ((refine Reg.tkB 11 (Reg.get rfl) hHeld ?_)) | (refine wpAnyH_ready (rs := [11]) (by kernel_rfl) (by simp) ?_; refine AllReadyH.cons (Reg.get rfl) (fun K hK => ?_) AllReadyH.nil; clear hHeld; go_simp; (skip); refine hK.out _ _ ?_ (fun hHeld => ?_); ((try dsimp only); skip); clear hK K)
                try simp only [Act.put, List.setIfInBounds_toArray, List.set_cons_zero, List.set_cons_succ]
                (refine wpAnyH_take (i := 13) (v := .slice (drA A1 a c1) (n - a) (c1 - a)) (Reg.get rfl) (by kernel_rfl) (by kernel_rfl) (by kernel_rfl) (fun _ _ _ h => h) (Or.inl ⟨by rfl, ?_⟩) hHeld ?_; (focus (intro wq hSw; (rcases HA1.out with ⟨rfl, rfl, rfl⟩ | ⟨g, rfl⟩); (focus (obtain rfl : a = 0 := (by omega); go_simp <;> rfl)); go_simp <;> simp [drA])))
                try simp only [Act.put, List.setIfInBounds_toArray, List.set_cons_zero, List.set_cons_succ]
                (clear hHeld; refine any_normA (f2 := 3) (l2 := tl14) (by kernel_rfl) (by kernel_rfl) ?_; first | (with_reducible exact LEAF w9 p0 p8 A7 c7 A9 c9 ⟨D, O3⟩) | exact LEAF w9 p0 p8 A7 c7 A9 c9 ⟨D, O3⟩)
      
              · skip
                clear hHeld; go_simp; (skip); refine hK.out _ _ ?_ (fun hHeld => ?_); ((try dsimp only); skip); clear hK K
                try simp only [Act.put, List.setIfInBounds_toArray, List.set_cons_zero, List.set_cons_succ]
                (refine wpAnyH_take (i := 13) (v := .slice (drA A1 a c1) (n - a) (c1 - a)) (Reg.get rfl) (by kernel_rfl) (by kernel_rfl) (by kernel_rfl) (fun _ _ _ h => h) (Or.inl ⟨by rfl, ?_⟩) hHeld ?_; (focus (intro wq hSw; (rcases HA1.out with ⟨rfl, rfl, rfl⟩ | ⟨g, rfl⟩); (focus (obtain rfl : a = 0 := (by omega); go_simp <;> rfl)); go_simp <;> simp [drA])))
                try simp only [Act.put, List.setIfInBounds_toArray, List.set_cons_zero, List.set_cons_succ]
                first | ((refine Reg.tkB 9 (Reg.get rfl) hHeld ?_)) | (refine wpAnyH_ready (rs := [9]) (by kernel_rfl) (by simp) ?_; refine AllReadyH.cons (Reg.get rfl) (fun K hK => ?_) AllReadyH.nil; clear hHeld; (((first | refine wp_appK () rfl w5.heap.size rfl O2 rfl E8 (one_cellsK _ _) (by omega) D.size ?_ | refine wp_appK () rfl w5.heap.size rfl (own_drewA O2) rfl E8.drew (one_cellsK _ _) (by omega) D.drew.size ?_); intro A9 c9 w9 own9 hg9 _; (first | replace D := Mem.below_app D hg9 D.size (own_lo O2) | replace D := Mem.below_app D.drew hg9 D.drew.size (own_lo O2)); have O3 := own9; clear O2 E8 own9 hg9 cb; have cb := KB.out _ D)); refine hK.out _ _ ?_ (fun hHeld => ?_); ((try dsimp only); skip); clear hK K)
                try simp only [Act.put, List.setIfInBounds_toArray, List.set_cons_zero, List.set_cons_succ]
                (clear hHeld; refine any_normA (f2 := 3) (l2 := tl14) (by kernel_rfl) (by kernel_rfl) ?_; first | (with_reducible exact LEAF w9 p0 p8 A7 c7 A9 c9 ⟨D, O3⟩) | exact LEAF w9 p0 p8 A7 c7 A9 c9 ⟨D, O3⟩)
      
            · skip
              clear hHeld; go_simp; (skip); refine hK.out _ _ ?_ (fun hHeld => ?_); ((try dsimp only); skip); clear hK K
              try simp only [Act.put, List.setIfInBounds_toArray, List.set_cons_zero, List.set_cons_succ]
              (refine wpAnyH_take (i := 13) (v := .slice (drA A1 a c1) (n - a) (c1 - a)) (Reg.get rfl) (by kernel_rfl) (by kernel_rfl) (by kernel_rfl) (fun _ _ _ h => h) (Or.inl ⟨by rfl, ?_⟩) hHeld ?_; (focus (intro wq hSw; (rcases HA1.out with ⟨rfl, rfl, rfl⟩ | ⟨g, rfl⟩); (focus (obtain rfl : a = 0 := (by omega); go_simp <;> rfl)); go_simp <;> simp [drA])))
              try simp only [Act.put, List.setIfInBounds_toArray, List.set_cons_zero, List.set_cons_succ]
              first | ((refine Reg.tkB 5 (Reg.get rfl) hHeld ?_)) | (refine wpAnyH_ready (rs := [5]) (by kernel_rfl) (by simp) ?_; refine AllReadyH.cons (Reg.get rfl) (fun K hK => ?_) AllReadyH.nil; clear hHeld; (((first | refine wp_appK () rfl w5.heap.size rfl O1 rfl (HTK.out _ D) (one_take HON.out _) (by omega) D.size ?_ | refine wp_appK () rfl w5.heap.size rfl (own_drewA O1) rfl (HTK.out _ D.drew) (one_take HON.out _) (by omega) D.drew.size ?_); intro A7 c7 w7 own7 hg7 _; (try (first | replace E8 := E8.grown hg7 (.inr fun _ e => by simp [blk] at e; omega) | replace E8 := E8.drew.grown hg7 (.inr fun _ e => by simp [blk] at e; omega))); have z7 := hg7.size; (try simp only [World.size_drew] at z7); (first | replace D := Mem.below_app D hg7 D.size (own_lo O1) | replace D := Mem.below_app D.drew hg7 D.drew.size (own_lo O1)); simp only [Nat.zero_add, List.nil_append] at own7 ⊢; have O2 := own7; clear O1 own7 hg7 cb; have cb := KB.out _ D)); refine hK.out _ _ ?_ (fun hHeld => ?_); ((try dsimp only); skip); clear hK K)
              try simp only [Act.put, List.setIfInBounds_toArray, List.set_cons_zero, List.set_cons_succ]
              first | ((refine Reg.tkB 9 (Reg.get rfl) hHeld ?_)) | (refine wpAnyH_ready (rs := [9]) (by kernel_rfl) (by simp) ?_; refine AllReadyH.cons (Reg.get rfl) (fun K hK => ?_) AllReadyH.nil; clear hHeld; (((first | refine wp_appK () rfl w5.heap.size rfl O2 rfl E8 (one_cellsK _ _) (by omega) D.size ?_ | refine wp_appK () rfl w5.heap.size rfl (own_drewA O2) rfl E8.drew (one_cellsK _ _) (by omega) D.drew.size ?_); intro A9 c9 w9 own9 hg9 _; (first | replace D := Mem.below_app D hg9 D.size (own_lo O2) | replace D := Mem.below_app D.drew hg9 D.drew.size (own_lo O2)); have O3 := own9; clear O2 E8 own9 hg9 cb; have cb := KB.out _ D)); refine hK.out _ _ ?_ (fun hHeld => ?_); ((try dsimp only); skip); clear hK K)
              try simp only [Act.put, List.setIfInBounds_toArray, List.set_cons_zero, List.set_cons_succ]
              (clear hHeld; refine any_normA (f2 := 3) (l2 := tl14) (by kernel_rfl) (by kernel_rfl) ?_; first | (with_reducible exact LEAF w9 p0 p8 A7 c7 A9 c9 ⟨D, O3⟩) | exact LEAF w9 p0 p8 A7 c7 A9 c9 ⟨D, O3⟩)
      
          · skip
            clear hHeld; go_simp; (skip); refine hK.out _ _ ?_ (fun hHeld => ?_); ((try dsimp only); skip); clear hK K
            try simp only [Act.put, List.setIfInBounds_toArray, List.set_cons_zero, List.set_cons_succ]
            (refine wpAnyH_take (i := 13) (v := .slice (drA A1 a c1) (n - a) (c1 - a)) (Reg.get rfl) (by kernel_rfl) (by kernel_rfl) (by kernel_rfl) (fun _ _ _ h => h) (Or.inl ⟨by rfl, ?_⟩) hHeld ?_; (focus (intro wq hSw; (rcases HA1.out with ⟨rfl, rfl, rfl⟩ | ⟨g, rfl⟩); (focus (obtain rfl : a = 0 := (by omega); go_simp <;> rfl)); go_simp <;> simp [drA])))
            try simp only [Act.put, List.setIfInBounds_toArray, List.set_cons_zero, List.set_cons_succ]
            first | ((refine Reg.tkB 0 (Reg.get rfl) hHeld ?_)) | (refine wpAnyH_ready (rs := [0]) (by kernel_rfl) (by simp) ?_; refine AllReadyH.cons (Reg.get rfl) (fun K hK => ?_) AllReadyH.nil; clear hHeld; go_simp; ((generalize hW : World.alloc _ _ = w6; obtain ⟨p0, hp0, O1⟩ := own_newP hW D.size; (try rw [← hp0]); (try simp only [World.size_drew] at hp0); (try rw [← hp0]); have hp1 := Nat.le_of_eq hp0; have hp2 := Nat.le_of_eq hp0.symm; clear hp0; have z6 := szA hW; (try simp only [World.size_drew] at z6); (try replace E8 := rd_toA E8 hW); replace D := below_toA D hW D.size; clear hW cb; have cb := KB.out _ D)); refine hK.out _ _ ?_ (fun hHeld => ?_); ((try dsimp only); skip); clear hK K)
            try simp only [Act.put, List.setIfInBounds_toArray, List.set_cons_zero, List.set_cons_succ]
            first | ((refine Reg.tkB 5 (Reg.get rfl) hHeld ?_)) | (refine wpAnyH_ready (rs := [5]) (by kernel_rfl) (by simp) ?_; refine AllReadyH.cons (Reg.get rfl) (fun K hK => ?_) AllReadyH.nil; clear hHeld; (((first | refine wp_appK () rfl w5.heap.size rfl O1 rfl (HTK.out _ D) (one_take HON.out _) (by omega) D.size ?_ | refine wp_appK () rfl w5.heap.size rfl (own_drewA O1) rfl (HTK.out _ D.drew) (one_take HON.out _) (by omega) D.drew.size ?_); intro A7 c7 w7 own7 hg7 _; (try (first | replace E8 := E8.grown hg7 (.inr fun _ e => by simp [blk] at e; omega) | replace E8 := E8.drew.grown hg7 (.inr fun _ e => by simp [blk] at e; omega))); have z7 := hg7.size; (try simp only [World.size_drew] at z7); (first | replace D := Mem.below_app D hg7 D.size (own_lo O1) | replace D := Mem.below_app D.drew hg7 D.drew.size (own_lo O1)); simp only [Nat.zero_add, List.nil_append] at own7 ⊢; have O2 := own7; clear O1 own7 hg7 cb; have cb := KB.out _ D)); refine hK.out _ _ ?_ (fun hHeld => ?_); ((try dsimp only); skip); clear hK K)
            try simp only [Act.put, List.setIfInBounds_toArray, List.set_cons_zero, List.set_cons_succ]
            first | ((refine Reg.tkB 9 (Reg.get rfl) hHeld ?_)) | (refine wpAnyH_ready (rs := [9]) (by kernel_rfl) (by simp) ?_; refine AllReadyH.cons (Reg.get rfl) (fun K hK => ?_) AllReadyH.nil; clear hHeld; (((first | refine wp_appK () rfl w5.heap.size rfl O2 rfl E8 (one_cellsK _ _) (by omega) D.size ?_ | refine wp_appK () rfl w5.heap.size rfl (own_drewA O2) rfl E8.drew (one_cellsK _ _) (by omega) D.drew.size ?_); intro A9 c9 w9 own9 hg9 _; (first | replace D := Mem.below_app D hg9 D.size (own_lo O2) | replace D := Mem.below_app D.drew hg9 D.drew.size (own_lo O2)); have O3 := own9; clear O2 E8 own9 hg9 cb; have cb := KB.out _ D)); refine hK.out _ _ ?_ (fun hHeld => ?_); ((try dsimp only); skip); clear hK K)
            try simp only [Act.put, List.setIfInBounds_toArray, List.set_cons_zero, List.set_cons_succ]
            (clear hHeld; refine any_normA (f2 := 3) (l2 := tl14) (by kernel_rfl) (by kernel_rfl) ?_; first | (with_reducible exact LEAF w9 p0 p8 A7 c7 A9 c9 ⟨D, O3⟩) | exact LEAF w9 p0 p8 A7 c7 A9 c9 ⟨D, O3⟩)
      
        · skip
          clear hHeld; go_simp; (skip); refine hK.out _ _ ?_ (fun hHeld => ?_); ((try dsimp only); skip); clear hK K
          try simp only [Act.put, List.setIfInBounds_toArray, List.set_cons_zero, List.set_cons_succ]
          (refine wpAnyH_take (i := 13) (v := .slice (drA A1 a c1) (n - a) (c1 - a)) (Reg.get rfl) (by kernel_rfl) (by kernel_rfl) (by kernel_rfl) (fun _ _ _ h => h) (Or.inl ⟨by rfl, ?_⟩) hHeld ?_; (focus (intro wq hSw; (rcases HA1.out with ⟨rfl, rfl, rfl⟩ | ⟨g, rfl⟩); (focus (obtain rfl : a = 0 := (by omega); go_simp <;> rfl)); go_simp <;> simp [drA])))
          try simp only [Act.put, List.setIfInBounds_toArray, List.set_cons_zero, List.set_cons_succ]
          refine wpAnyH_ready (rs := [0, 8]) (by kernel_rfl) (by simp) ?_
          refine (AllReadyH.cons (Reg.get rfl) (fun K hK => ?_) (AllReadyH.cons (Reg.get rfl) (fun K hK => ?_) AllReadyH.nil))
      
          · skip
            clear hHeld; go_simp; ((generalize hW : World.alloc _ _ = w6; obtain ⟨p0, hp0, O1⟩ := own_newP hW D.size; (try rw [← hp0]); (try simp only [World.size_drew] at hp0); (try rw [← hp0]); have hp1 := Nat.le_of_eq hp0; have hp2 := Nat.le_of_eq hp0.symm; clear hp0; have z6 := szA hW; (try simp only [World.size_drew] at z6); (try replace E8 := rd_toA E8 hW); replace D := below_toA D hW D.size; clear hW cb; have cb := KB.out _ D)); refine hK.out _ _ ?_ (fun hHeld => ?_); ((try dsimp only); skip); clear hK K
            try simp only [Act.put, List.setIfInBounds_toArray, List.set_cons_zero, List.set_cons_succ]
            refine wpAnyH_ready (rs := [5, 8]) (by kernel_rfl) (by simp) ?_
            refine (AllReadyH.cons (Reg.get rfl) (fun K hK => ?_) (AllReadyH.cons (Reg.get rfl) (fun K hK => ?_) AllReadyH.nil))
      
            · skip
              clear hHeld; (((first | refine wp_appK () rfl w5.heap.size rfl O1 rfl (HTK.out _ D) (one_take HON.out _) (by omega) D.size ?_ | refine wp_appK () rfl w5.heap.size rfl (own_drewA O1) rfl (HTK.out _ D.drew) (one_take HON.out _) (by omega) D.drew.size ?_); intro A7 c7 w7 own7 hg7 _; (try (first | replace E8 := E8.grown hg7 (.inr fun _ e => by simp [blk] at e; omega) | replace E8 := E8.drew.grown hg7 (.inr fun _ e => by simp [blk] at e; omega))); have z7 := hg7.size; (try simp only [World.size_drew] at z7); (first | replace D := Mem.below_app D hg7 D.size (own_lo O1) | replace D := Mem.below_app D.drew hg7 D.drew.size (own_lo O1)); simp only [Nat.zero_add, List.nil_append] at own7 ⊢; have O2 := own7; clear O1 own7 hg7 cb; have cb := KB.out _ D)); refine hK.out _ _ ?_ (fun hHeld => ?_); ((try dsimp only); skip); clear hK K
              try simp only [Act.put, List.setIfInBounds_toArray, List.set_cons_zero, List.set_cons_succ]
              first | ((refine Reg.tkB 8 (Reg.get rfl) hHeld ?_)) | (refine wpAnyH_ready (rs := [8]) (by kernel_rfl) (by simp) ?_; refine AllReadyH.cons (Reg.get rfl) (fun K hK => ?_) AllReadyH.nil; clear hHeld; go_simp; ((generalize hW : World.alloc _ _ = w8; obtain ⟨p8, hp8, E8⟩ := rd_newP hW; (try rw [← hp8]); (try simp only [World.size_drew] at hp8); (try rw [← hp8]); have hq1 := Nat.le_of_eq hp8; have hq2 := Nat.le_of_eq hp8.symm; clear hp8; have z8 := szA hW; (try simp only [World.size_drew] at z8); (try replace O1 := own_toA O1 hW); (try replace O2 := own_toA O2 hW); replace D := below_toA D hW D.size; clear hW cb; have cb := KB.out _ D)); refine hK.out _ _ ?_ (fun hHeld => ?_); ((try dsimp only); skip); clear hK K)
              try simp only [Act.put, List.setIfInBounds_toArray, List.set_cons_zero, List.set_cons_succ]
              first | ((refine Reg.tkB 9 (Reg.get rfl) hHeld ?_)) | (refine wpAnyH_ready (rs := [9]) (by kernel_rfl) (by simp) ?_; refine AllReadyH.cons (Reg.get rfl) (fun K hK => ?_) AllReadyH.nil; clear hHeld; (((first | refine wp_appK () rfl w5.heap.size rfl O2 rfl E8 (one_cellsK _ _) (by omega) D.size ?_ | refine wp_appK () rfl w5.heap.size rfl (own_drewA O2) rfl E8.drew (one_cellsK _ _) (by omega) D.drew.size ?_); intro A9 c9 w9 own9 hg9 _; (first | replace D := Mem.below_app D hg9 D.size (own_lo O2) | replace D := Mem.below_app D.drew hg9 D.drew.size (own_lo O2)); have O3 := own9; clear O2 E8 own9 hg9 cb; have cb := KB.out _ D)); refine hK.out _ _ ?_ (fun hHeld => ?_); ((try dsimp only); skip); clear hK K)
              try simp only [Act.put, List.setIfInBounds_toArray, List.set_cons_zero, List.set_cons_succ]
              (clear hHeld; refine any_normA (f2 := 3) (l2 := tl14) (by kernel_rfl) (by kernel_rfl) ?_; first | (with_reducible exact LEAF w9 p0 p8 A7 c7 A9 c9 ⟨D, O3⟩) | exact LEAF w9 p0 p8 A7 c7 A9 c9 ⟨D, O3⟩)
      
            · skip
              clear hHeld; go_simp; ((generalize hW : World.alloc _ _ = w8; obtain ⟨p8, hp8, E8⟩ := rd_newP hW; (try rw [← hp8]); (try simp only [World.size_drew] at hp8); (try rw [← hp8]); have hq1 := Nat.le_of_eq hp8; have hq2 := Nat.le_of_eq hp8.symm; clear hp8; have z8 := szA hW; (try simp only [World.size_drew] at z8); (try replace O1 := own_toA O1 hW); (try replace O2 := own_toA O2 hW); replace D := below_toA D hW D.size; clear hW cb; have cb := KB.out _ D)); refine hK.out _ _ ?_ (fun hHeld => ?_); ((try dsimp only); skip); clear hK K
              try simp only [Act.put, List.setIfInBounds_toArray, List.set_cons_zero, List.set_cons_succ]
              first | ((refine Reg.tkB 5 (Reg.get rfl) hHeld ?_)) | (refine wpAnyH_ready (rs := [5]) (by kernel_rfl) (by simp) ?_; refine AllReadyH.cons (Reg.get rfl) (fun K hK => ?_) AllReadyH.nil; clear hHeld; (((first | refine wp_appK () rfl w5.heap.size rfl O1 rfl (HTK.out _ D) (one_take HON.out _) (by omega) D.size ?_ | refine wp_appK () rfl w5.heap.size rfl (own_drewA O1) rfl (HTK.out _ D.drew) (one_take HON.out _) (by omega) D.drew.size ?_); intro A7 c7 w7 own7 hg7 _; (try (first | replace E8 := E8.grown hg7 (.inr fun _ e => by simp [blk] at e; omega) | replace E8 := E8.drew.grown hg7 (.inr fun _ e => by simp [blk] at e; omega))); have z7 := hg7.size; (try simp only [World.size_drew] at z7); (first | replace D := Mem.below_app D hg7 D.size (own_lo O1) | replace D := Mem.below_app D.drew hg7 D.drew.size (own_lo O1)); simp only [Nat.zero_add, List.nil_append] at own7 ⊢; have O2 := own7; clear O1 own7 hg7 cb; have cb := KB.out _ D)); refine hK.out _ _ ?_ (fun hHeld => ?_); ((try dsimp only); skip); clear hK K)
              try simp only [Act.put, List.setIfInBounds_toArray, List.set_cons_zero, List.set_cons_succ]
              first | ((refine Reg.tkB 9 (Reg.get rfl) hHeld ?_)) | (refine wpAnyH_ready (rs := [9]) (by kernel_rfl) (by simp) ?_; refine AllReadyH.cons (Reg.get rfl) (fun K hK => ?_) AllReadyH.nil; clear hHeld; (((first | refine wp_appK () rfl w5.heap.size rfl O2 rfl E8 (one_cellsK _ _) (by omega) D.size ?_ | refine wp_appK () rfl w5.heap.size rfl (own_drewA O2) rfl E8.drew (one_cellsK _ _) (by omega) D.drew.size ?_); intro A9 c9 w9 own9 hg9 _; (first | replace D := Mem.below_app D hg9 D.size (own_lo O2) | replace D := Mem.below_app D.drew hg9 D.drew.size (own_lo O2)); have O3 := own9; clear O2 E8 own9 hg9 cb; have cb := KB.out _ D)); refine hK.out _ _ ?_ (fun hHeld => ?_); ((try dsimp only); skip); clear hK K)
              try simp only [Act.put, List.setIfInBounds_toArray, List.set_cons_zero, List.set_cons_succ]
              (clear hHeld; refine any_normA (f2 := 3) (l2 := tl14) (by kernel_rfl) (by kernel_rfl) ?_; first | (with_reducible exact LEAF w9 p0 p8 A7 c7 A9 c9 ⟨D, O3⟩) | exact LEAF w9 p0 p8 A7 c7 A9 c9 ⟨D, O3⟩)
      
          · skip
            clear hHeld; go_simp; ((generalize hW : World.alloc _ _ = w8; obtain ⟨p8, hp8, E8⟩ := rd_newP hW; (try rw [← hp8]); (try simp only [World.size_drew] at hp8); (try rw [← hp8]); have hq1 := Nat.le_of_eq hp8; have hq2 := Nat.le_of_eq hp8.symm; clear hp8; have z8 := szA hW; (try simp only [World.size_drew] at z8); (try replace O1 := own_toA O1 hW); (try replace O2 := own_toA O2 hW); replace D := below_toA D hW D.size; clear hW cb; have cb := KB.out _ D)); refine hK.out _ _ ?_ (fun hHeld => ?_); ((try dsimp only); skip); clear hK K
            try simp only [Act.put, List.setIfInBounds_toArray, List.set_cons_zero, List.set_cons_succ]
            first | ((refine Reg.tkB 0 (Reg.get rfl) hHeld ?_)) | (refine wpAnyH_ready (rs := [0]) (by kernel_rfl) (by simp) ?_; refine AllReadyH.cons (Reg.get rfl) (fun K hK => ?_) AllReadyH.nil; clear hHeld; go_simp; ((generalize hW : World.alloc _ _ = w6; obtain ⟨p0, hp0, O1⟩ := own_newP hW D.size; (try rw [← hp0]); (try simp only [World.size_drew] at hp0); (try rw [← hp0]); have hp1 := Nat.le_of_eq hp0; have hp2 := Nat.le_of_eq hp0.symm; clear hp0; have z6 := szA hW; (try simp only [World.size_drew] at z6); (try replace E8 := rd_toA E8 hW); replace D := below_toA D hW D.size; clear hW cb; have cb := KB.out _ D)); refine hK.out _ _ ?_ (fun hHeld => ?_); ((try dsimp only); skip); clear hK K)
            try simp only [Act.put, List.setIfInBounds_toArray, List.set_cons_zero, List.set_cons_succ]
            first | ((refine Reg.tkB 5 (Reg.get rfl) hHeld ?_)) | (refine wpAnyH_ready (rs := [5]) (by kernel_rfl) (by simp) ?_; refine AllReadyH.cons (Reg.get rfl) (fun K hK => ?_) AllReadyH.nil; clear hHeld; (((first | refine wp_appK () rfl w5.heap.size rfl O1 rfl (HTK.out _ D) (one_take HON.out _) (by omega) D.size ?_ | refine wp_appK () rfl w5.heap.size rfl (own_drewA O1) rfl (HTK.out _ D.drew) (one_take HON.out _) (by omega) D.drew.size ?_); intro A7 c7 w7 own7 hg7 _; (try (first | replace E8 := E8.grown hg7 (.inr fun _ e => by simp [blk] at e; omega) | replace E8 := E8.drew.grown hg7 (.inr fun _ e => by simp [blk] at e; omega))); have z7 := hg7.size; (try simp only [World.size_drew] at z7); (first | replace D := Mem.below_app D hg7 D.size (own_lo O1) | replace D := Mem.below_app D.drew hg7 D.drew.size (own_lo O1)); simp only [Nat.zero_add, List.nil_append] at own7 ⊢; have O2 := own7; clear O1 own7 hg7 cb; have cb := KB.out _ D)); refine hK.out _ _ ?_ (fun hHeld => ?_); ((try dsimp only); skip); clear hK K)
            try simp only [Act.put, List.setIfInBounds_toArray, List.set_cons_zero, List.set_cons_succ]
            first | ((refine Reg.tkB 9 (Reg.get rfl) hHeld ?_)) | (refine wpAnyH_ready (rs := [9]) (by kernel_rfl) (by simp) ?_; refine AllReadyH.cons (Reg.get rfl) (fun K hK => ?_) AllReadyH.nil; clear hHeld; (((first | refine wp_appK () rfl w5.heap.size rfl O2 rfl E8 (one_cellsK _ _) (by omega) D.size ?_ | refine wp_appK () rfl w5.heap.size rfl (own_drewA O2) rfl E8.drew (one_cellsK _ _) (by omega) D.drew.size ?_); intro A9 c9 w9 own9 hg9 _; (first | replace D := Mem.below_app D hg9 D.size (own_lo O2) | replace D := Mem.below_app D.drew hg9 D.drew.size (own_lo O2)); have O3 := own9; clear O2 E8 own9 hg9 cb; have cb := KB.out _ D)); refine hK.out _ _ ?_ (fun hHeld => ?_); ((try dsimp only); skip); clear hK K)
            try simp only [Act.put, List.setIfInBounds_toArray, List.set_cons_zero, List.set_cons_succ]
            (clear hHeld; refine any_normA (f2 := 3) (l2 := tl14) (by kernel_rfl) (by kernel_rfl) ?_; first | (with_reducible exact LEAF w9 p0 p8 A7 c7 A9 c9 ⟨D, O3⟩) | exact LEAF w9 p0 p8 A7 c7 A9 c9 ⟨D, O3⟩)
      
      · skip
        clear hHeld; go_simp; ((generalize hW : World.alloc _ _ = w8; obtain ⟨p8, hp8, E8⟩ := rd_newP hW; (try rw [← hp8]); (try simp only [World.size_drew] at hp8); (try rw [← hp8]); have hq1 := Nat.le_of_eq hp8; have hq2 := Nat.le_of_eq hp8.symm; clear hp8; have z8 := szA hW; (try simp only [World.size_drew] at z8); (try replace O1 := own_toA O1 hW); (try replace O2 := own_toA O2 hW); replace D := below_toA D hW D.size; clear hW cb; have cb := KB.out _ D)); refine hK.out _ _ ?_ (fun hHeld => ?_); ((try dsimp only); skip); clear hK K
        try simp only [Act.put, List.setIfInBounds_toArray, List.set_cons_zero, List.set_cons_succ]
        refine wpAnyH_ready (rs := [0, 2, 11]) (by kernel_rfl) (by simp) ?_
        refine (AllReadyH.cons (Reg.get rfl) (fun K hK => ?_) (AllReadyH.cons (Reg.get rfl) (fun K hK => ?_) (AllReadyH.cons (Reg.get rfl) (fun K hK => ?_) AllReadyH.nil)))
      
        · skip
          clear hHeld; go_simp; ((generalize hW : World.alloc _ _ = w6; obtain ⟨p0, hp0, O1⟩ := own_newP hW D.size; (try rw [← hp0]); (try simp only [World.size_drew] at hp0); (try rw [← hp0]); have hp1 := Nat.le_of_eq hp0; have hp2 := Nat.le_of_eq hp0.symm; clear hp0; have z6 := szA hW; (try simp only [World.size_drew] at z6); (try replace E8 := rd_toA E8 hW); replace D := below_toA D hW D.size; clear hW cb; have cb := KB.out _ D)); refine hK.out _ _ ?_ (fun hHeld => ?_); ((try dsimp only); skip); clear hK K
          try simp only [Act.put, List.setIfInBounds_toArray, List.set_cons_zero, List.set_cons_succ]
          refine wpAnyH_ready (rs := [2, 11]) (by kernel_rfl) (by simp) ?_
          refine (AllReadyH.cons (Reg.get rfl) (fun K hK => ?_) (AllReadyH.cons (Reg.get rfl) (fun K hK => ?_) AllReadyH.nil))
      
          · skip
            clear hHeld; go_simp; (skip); refine hK.out _ _ ?_ (fun hHeld => ?_); ((try dsimp only); skip); clear hK K
            try simp only [Act.put, List.setIfInBounds_toArray, List.set_cons_zero, List.set_cons_succ]
            (refine wpAnyH_take (i := 4) (v := .slice A1 a c1) (Reg.get rfl) (by kernel_rfl) (by kernel_rfl) (by kernel_rfl) (fun _ _ _ h => h) (Or.inl ⟨by rfl, ?_⟩) hHeld ?_; (focus (intro wq hSw; (rcases HA1.out with ⟨rfl, rfl, rfl⟩ | ⟨g, rfl⟩); (focus (obtain rfl : a = 0 := (by omega); go_simp <;> rfl)); go_simp <;> rfl)))
            try simp only [Act.put, List.setIfInBounds_toArray, List.set_cons_zero, List.set_cons_succ]
            refine wpAnyH_ready (rs := [5, 11]) (by kernel_rfl) (by simp) ?_
            refine (AllReadyH.cons (Reg.get rfl) (fun K hK => ?_) (AllReadyH.cons (Reg.get rfl) (fun K hK => ?_) AllReadyH.nil))
      
            · skip
              clear hHeld; (((first | refine wp_appK () rfl w5.heap.size rfl O1 rfl (HTK.out _ D) (one_take HON.out _) (by omega) D.size ?_ | refine wp_appK () rfl w5.heap.size rfl (own_drewA O1) rfl (HTK.out _ D.drew) (one_take HON.out _) (by omega) D.drew.size ?_); intro A7 c7 w7 own7 hg7 _; (try (first | replace E8 := E8.grown hg7 (.inr fun _ e => by simp [blk] at e; omega) | replace E8 := E8.drew.grown hg7 (.inr fun _ e => by simp [blk] at e; omega))); have z7 := hg7.size; (try simp only [World.size_drew] at z7); (first | replace D := Mem.below_app D hg7 D.size (own_lo O1) | replace D := Mem.below_app D.drew hg7 D.drew.size (own_lo O1)); simp only [Nat.zero_add, List.nil_append] at own7 ⊢; have O2 := own7; clear O1 own7 hg7 cb; have cb := KB.out _ D)); refine hK.out _ _ ?_ (fun hHeld => ?_); ((try dsimp only); skip); clear hK K
              try simp only [Act.put, List.setIfInBounds_toArray, List.set_cons_zero, List.set_cons_succ]
              refine wpAnyH_ready (rs := [9, 11]) (by kernel_rfl) (by simp) ?_
              refine (AllReadyH.cons (Reg.get rfl) (fun K hK => ?_) (AllReadyH.cons (Reg.get rfl) (fun K hK => ?_) AllReadyH.nil))
      
              · skip
                clear hHeld; (((first | refine wp_appK () rfl w5.heap.size rfl O2 rfl E8 (one_cellsK _ _) (by omega) D.size ?_ | refine wp_appK () rfl w5.heap.size rfl (own_drewA O2) rfl E8.drew (one_cellsK _ _) (by omega) D.drew.size ?_); intro A9 c9 w9 own9 hg9 _; (first | replace D := Mem.below_app D hg9 D.size (own_lo O2) | replace D := Mem.below_app D.drew hg9 D.drew.size (own_lo O2)); have O3 := own9; clear O2 E8 own9 hg9 cb; have cb := KB.out _ D)); refine hK.out _ _ ?_ (fun hHeld => ?_); ((try dsimp only); skip); clear hK K
                try simp only [Act.put, List.setIfInBounds_toArray, List.set_cons_zero, List.set_cons_succ]
                first | ((refine Reg.tkB 11 (Reg.get rfl) hHeld ?_)) | (refine wpAnyH_ready (rs := [11]) (by kernel_rfl) (by simp) ?_; refine AllReadyH.cons (Reg.get rfl) (fun K hK => ?_) AllReadyH.nil; clear hHeld; go_simp; (skip); refine hK.out _ _ ?_ (fun hHeld => ?_); ((try dsimp only); skip); clear hK K)
                try simp only [Act.put, List.setIfInBounds_toArray, List.set_cons_zero, List.set_cons_succ]
                (refine wpAnyH_take (i := 13) (v := .slice (drA A1 a c1) (n - a) (c1 - a)) (Reg.get rfl) (by kernel_rfl) (by kernel_rfl) (by kernel_rfl) (fun _ _ _ h => h) (Or.inl ⟨by rfl, ?_⟩) hHeld ?_; (focus (intro wq hSw; (rcases HA1.out with ⟨rfl, rfl, rfl⟩ | ⟨g, rfl⟩); (focus (obtain rfl : a = 0 := (by omega); go_simp <;> rfl)); go_simp <;> simp [drA])))
                try simp only [Act.put, List.setIfInBounds_toArray, List.set_cons_zero, List.set_cons_succ]
                (clear hHeld; refine any_normA (f2 := 3) (l2 := tl14) (by kernel_rfl) (by kernel_rfl) ?_; first | (with_reducible exact LEAF w9 p0 p8 A7 c7 A9 c9 ⟨D, O3⟩) | exact LEAF w9 p0 p8 A7 c7 A9 c9 ⟨D, O3⟩)
      
              · skip
                clear hHeld; go_simp; (skip); refine hK.out _ _ ?_ (fun hHeld => ?_); ((try dsimp only); skip); clear hK K
                try simp only [Act.put, List.setIfInBounds_toArray, List.set_cons_zero, List.set_cons_succ]
                (refine wpAnyH_take (i := 13) (v := .slice (drA A1 a c1) (n - a) (c1 - a)) (Reg.get rfl) (by kernel_rfl) (by kernel_rfl) (by kernel_rfl) (fun _ _ _ h => h) (Or.inl ⟨by rfl, ?_⟩) hHeld ?_; (focus (intro wq hSw; (rcases HA1.out with ⟨rfl, rfl, rfl⟩ | ⟨g, rfl⟩); (focus (obtain rfl : a = 0 := (by omega); go_simp <;> rfl)); go_simp <;> simp [drA])))
                try simp only [Act.put, List.setIfInBounds_toArray, List.set_cons_zero, List.set_cons_succ]
                first | ((refine Reg.tkB 9 (Reg.get rfl) hHeld ?_)) | (refine wpAnyH_ready (rs := [9]) (by kernel_rfl) (by simp) ?_; refine AllReadyH.cons (Reg.get rfl) (fun K hK => ?_) AllReadyH.nil; clear hHeld; (((first | refine wp_appK () rfl w5.heap.size rfl O2 rfl E8 (one_cellsK _ _) (by omega) D.size ?_ | refine wp_appK () rfl w5.heap.size rfl (own_drewA O2) rfl E8.drew (one_cellsK _ _) (by omega) D.drew.size ?_); intro A9 c9 w9 own9 hg9 _; (first | replace D := Mem.below_app D hg9 D.size (own_lo O2) | replace D := Mem.below_app D.drew hg9 D.drew.size (own_lo O2)); have O3 := own9; clear O2 E8 own9 hg9 cb; have cb := KB.out _ D)); refine hK.out _ _ ?_ (fun hHeld => ?_); ((try dsimp only); skip); clear hK K)
                try simp only [Act.put, List.setIfInBounds_toArray, List.set_cons_zero, List.set_cons_succ]
                (clear hHeld; refine any_normA (f2 := 3) (l2 := tl14) (by kernel_rfl) (by kernel_rfl) ?_; first | (with_reducible exact LEAF w9 p0 p8 A7 c7 A9 c9 ⟨D, O3⟩) | exact LEAF w9 p0 p8 A7 c7 A9 c9 ⟨D, O3⟩)
      
            · skip
              clear hHeld; go_simp; (skip); refine hK.out _ _ ?_ (fun hHeld => ?_); ((try dsimp only); skip); clear hK K
              try simp only [Act.put, List.setIfInBounds_toArray, List.set_cons_zero, List.set_cons_succ]
              (refine wpAnyH_take (i := 13) (v := .slice (drA A1 a c1) (n - a) (c1 - a)) (Reg.get rfl) (by kernel_rfl) (by kernel_rfl) (by kernel_rfl) (fun _ _ _ h => h) (Or.inl ⟨by rfl, ?_⟩) hHeld ?_; (focus (intro wq hSw; (rcases HA1.out with ⟨rfl, rfl, rfl⟩ | ⟨g, rfl⟩); (focus (obtain rfl : a = 0 := (by omega); go_simp <;> rfl)); go_simp <;> simp [drA])))
              try simp only [Act.put, List.setIfInBounds_toArray, List.set_cons_zero, List.set_cons_succ]
              first | ((refine Reg.tkB 5 (Reg.get rfl) hHeld ?_)) | (refine wpAnyH_ready (rs := [5]) (by kernel_rfl) (by simp) ?_; refine AllReadyH.cons (Reg.get rfl) (fun K hK => ?_) AllReadyH.nil; clear hHeld; (((first | refine wp_appK () rfl w5.heap.size rfl O1 rfl (HTK.out _ D) (one_take HON.out _) (by omega) D.size ?_ | refine wp_appK () rfl w5.heap.size rfl (own_drewA O1) rfl (HTK.out _ D.drew) (one_take HON.out _) (by omega) D.drew.size ?_); intro A7 c7 w7 own7 hg7 _; (try (first | replace E8 := E8.grown hg7 (.inr fun _ e => by simp [blk] at e; omega) | replace E8 := E8.drew.grown hg7 (.inr fun _ e => by simp [blk] at e; omega))); have z7 := hg7.size; (try simp only [World.size_drew] at z7); (first | replace D := Mem.below_app D hg7 D.size (own_lo O1) | replace D := Mem.below_app D.drew hg7 D.drew.size (own_lo O1)); simp only [Nat.zero_add, List.nil_append] at own7 ⊢; have O2 := own7; clear O1 own7 hg7 cb; have cb := KB.out _ D)); refine hK.out _ _ ?_ (fun hHeld => ?_); ((try dsimp only); skip); clear hK K)
              try simp only [Act.put, List.setIfInBounds_toArray, List.set_cons_zero, List.set_cons_succ]
              first | ((refine Reg.tkB 9 (Reg.get rfl) hHeld ?_)) | (refine wpAnyH_ready (rs := [9]) (by kernel_rfl) (by simp) ?_; refine AllReadyH.cons (Reg.get rfl) (fun K hK => ?_) AllReadyH.nil; clear hHeld; (((first | refine wp_appK () rfl w5.heap.size rfl O2 rfl E8 (one_cellsK _ _) (by omega) D.size ?_ | refine wp_appK () rfl w5.heap.size rfl (own_drewA O2) rfl E8.drew (one_cellsK _ _) (by omega) D.drew.size ?_); intro A9 c9 w9 own9 hg9 _; (first | replace D := Mem.below_app D hg9 D.size (own_lo O2) | replace D := Mem.below_app D.drew hg9 D.drew.size (own_lo O2)); have O3 := own9; clear O2 E8 own9 hg9 cb; have cb := KB.out _ D)); refine hK.out _ _ ?_ (fun hHeld => ?_); ((try dsimp only); skip); clear hK K)
              try simp only [Act.put, List.setIfInBounds_toArray, List.set_cons_zero, List.set_cons_succ]
              (clear hHeld; refine any_normA (f2 := 3) (l2 := tl14) (by kernel_rfl) (by kernel_rfl) ?_; first | (with_reducible exact LEAF w9 p0 p8 A7 c7 A9 c9 ⟨D, O3⟩) | exact LEAF w9 p0 p8 A7 c7 A9 c9 ⟨D, O3⟩)
      
          · skip
            clear hHeld; go_simp; (skip); refine hK.out _ _ ?_ (fun hHeld => ?_); ((try dsimp only); skip); clear hK K
            try simp only [Act.put, List.setIfInBounds_toArray, List.set_cons_zero, List.set_cons_succ]
            (refine wpAnyH_take (i := 13) (v := .slice (drA A1 a c1) (n - a) (c1 - a)) (Reg.get rfl) (by kernel_rfl) (by kernel_rfl) (by kernel_rfl) (fun _ _ _ h => h) (Or.inl ⟨by rfl, ?_⟩) hHeld ?_; (focus (intro wq hSw; (rcases HA1.out with ⟨rfl, rfl, rfl⟩ | ⟨g, rfl⟩); (focus (obtain rfl : a = 0 := (by omega); go_simp <;> rfl)); go_simp <;> simp [drA])))
            try simp only [Act.put, List.setIfInBounds_toArray, List.set_cons_zero, List.set_cons_succ]
            first | ((refine Reg.tkB 2 (Reg.get rfl) hHeld ?_)) | (refine wpAnyH_ready (rs := [2]) (by kernel_rfl) (by simp) ?_; refine AllReadyH.cons (Reg.get rfl) (fun K hK => ?_) AllReadyH.nil; clear hHeld; go_simp; (skip); refine hK.out _ _ ?_ (fun hHeld => ?_); ((try dsimp only); skip); clear hK K)
            try simp only [Act.put, List.setIfInBounds_toArray, List.set_cons_zero, List.set_cons_succ]
            (refine wpAnyH_take (i := 4) (v := .slice A1 a c1) (Reg.get rfl) (by kernel_rfl) (by kernel_rfl) (by kernel_rfl) (fun _ _ _ h => h) (Or.inl ⟨by rfl, ?_⟩) hHeld ?_; (focus (intro wq hSw; (rcases HA1.out with ⟨rfl, rfl, rfl⟩ | ⟨g, rfl⟩); (focus (obtain rfl : a = 0 := (by omega); go_simp <;> rfl)); go_simp <;> rfl)))
            try simp only [Act.put, List.setIfInBounds_toArray, List.set_cons_zero, List.set_cons_succ]
            first | ((refine Reg.tkB 5 (Reg.get rfl) hHeld ?_)) | (refine wpAnyH_ready (rs := [5]) (by kernel_rfl) (by simp) ?_; refine AllReadyH.cons (Reg.get rfl) (fun K hK => ?_) AllReadyH.nil; clear hHeld; (((first | refine wp_appK () rfl w5.heap.size rfl O1 rfl (HTK.out _ D) (one_take HON.out _) (by omega) D.size ?_ | refine wp_appK () rfl w5.heap.size rfl (own_drewA O1) rfl (HTK.out _ D.drew) (one_take HON.out _) (by omega) D.drew.size ?_); intro A7 c7 w7 own7 hg7 _; (try (first | replace E8 := E8.grown hg7 (.inr fun _ e => by simp [blk] at e; omega) | replace E8 := E8.drew.grown hg7 (.inr fun _ e => by simp [blk] at e; omega))); have z7 := hg7.size; (try simp only [World.size_drew] at z7); (first | replace D := Mem.below_app D hg7 D.size (own_lo O1) | replace D := Mem.below_app D.drew hg7 D.drew.size (own_lo O1)); simp only [Nat.zero_add, List.nil_append] at own7 ⊢; have O2 := own7; clear O1 own7 hg7 cb; have cb := KB.out _ D)); refine hK.out _ _ ?_ (fun hHeld => ?_); ((try dsimp only); skip); clear hK K)
            try simp only [Act.put, List.setIfInBounds_toArray, List.set_cons_zero, List.set_cons_succ]
            first | ((refine Reg.tkB 9 (Reg.get rfl) hHeld ?_)) | (refine wpAnyH_ready (rs := [9]) (by kernel_rfl) (by simp) ?_; refine AllReadyH.cons (Reg.get rfl) (fun K hK => ?_) AllReadyH.nil; clear hHeld; (((first | refine wp_appK () rfl w5.heap.size rfl O2 rfl E8 (one_cellsK _ _) (by omega) D.size ?_ | refine wp_appK () rfl w5.heap.size rfl (own_drewA O2) rfl E8.drew (one_cellsK _ _) (by omega) D.drew.size ?_); intro A9 c9 w9 own9 hg9 _; (first | replace D := Mem.below_app D hg9 D.size (own_lo O2) | replace D := Mem.below_app D.drew hg9 D.drew.size (own_lo O2)); have O3 := own9; clear O2 E8 own9 hg9 cb; have cb := KB.out _ D)); refine hK.out _ _ ?_ (fun hHeld => ?_); ((try dsimp only); skip); clear hK K)
            try simp only [Act.put, List.setIfInBounds_toArray, List.set_cons_zero, List.set_cons_succ]
            (clear hHeld; refine any_normA (f2 := 3) (l2 := tl14) (by kernel_rfl) (by kernel_rfl) ?_; first | (with_reducible exact LEAF w9 p0 p8 A7 c7 A9 c9 ⟨D, O3⟩) | exact LEAF w9 p0 p8 A7 c7 A9 c9 ⟨D, O3⟩)
      
        · skip
          clear hHeld; go_simp; (skip); refine hK.out _ _ ?_ (fun hHeld => ?_); ((try dsimp only); skip); clear hK K
          try simp only [Act.put, List.setIfInBounds_toArray, List.set_cons_zero, List.set_cons_succ]
          (refine wpAnyH_take (i := 4) (v := .slice A1 a c1) (Reg.get rfl) (by kernel_rfl) (by kernel_rfl) (by kernel_rfl) (fun _ _ _ h => h) (Or.inl ⟨by rfl, ?_⟩) hHeld ?_; (focus (intro wq hSw; (rcases HA1.out with ⟨rfl, rfl, rfl⟩ | ⟨g, rfl⟩); (focus (obtain rfl : a = 0 := (by omega); go_simp <;> rfl)); go_simp <;> rfl)))
          try simp only [Act.put, List.setIfInBounds_toArray, List.set_cons_zero, List.set_cons_succ]
          refine wpAnyH_ready (rs := [0, 11]) (by kernel_rfl) (by simp) ?_
          refine (AllReadyH.cons (Reg.get rfl) (fun K hK => ?_) (AllReadyH.cons (Reg.get rfl) (fun K hK => ?_) AllReadyH.nil))
      
          · skip
            clear hHeld; go_simp; ((generalize hW : World.alloc _ _ = w6; obtain ⟨p0, hp0, O1⟩ := own_newP hW D.size; (try rw [← hp0]); (try simp only [World.size_drew] at hp0); (try rw [← hp0]); have hp1 := Nat.le_of_eq hp0; have hp2 := Nat.le_of_eq hp0.symm; clear hp0; have z6 := szA hW; (try simp only [World.size_drew] at z6); (try replace E8 := rd_toA E8 hW); replace D := below_toA D hW D.size; clear hW cb; have cb := KB.out _ D)); refine hK.out _ _ ?_ (fun hHeld => ?_); ((try dsimp only); skip); clear hK K
            try simp only [Act.put, List.setIfInBounds_toArray, List.set_cons_zero, List.set_cons_succ]
            refine wpAnyH_ready (rs := [5, 11]) (by kernel_rfl) (by simp) ?_
            refine (AllReadyH.cons (Reg.get rfl) (fun K hK => ?_) (AllReadyH.cons (Reg.get rfl) (fun K hK => ?_) AllReadyH.nil))
      
            · skip
              clear hHeld; (((first | refine wp_appK () rfl w5.heap.size rfl O1 rfl (HTK.out _ D) (one_take HON.out _) (by omega) D.size ?_ | refine wp_appK () rfl w5.heap.size rfl (own_drewA O1) rfl (HTK.out _ D.drew) (one_take HON.out _) (by omega) D.drew.size ?_); intro A7 c7 w7 own7 hg7 _; (try (first | replace E8 := E8.grown hg7 (.inr fun _ e => by simp [blk] at e; omega) | replace E8 := E8.drew.grown hg7 (.inr fun _ e => by simp [blk] at e; omega))); have z7 := hg7.size; (try simp only [World.size_drew] at z7); (first | replace D := Mem.below_app D hg7 D.size (own_lo O1) | replace D := Mem.below_app D.drew hg7 D.drew.size (own_lo O1)); simp only [Nat.zero_add, List.nil_append] at own7 ⊢; have O2 := own7; clear O1 own7 hg7 cb; have cb := KB.out _ D)); refine hK.out _ _ ?_ (fun hHeld => ?_); ((try dsimp only); skip); clear hK K
              try simp only [Act.put, List.setIfInBounds_toArray, List.set_cons_zero, List.set_cons_succ]
              refine wpAnyH_ready (rs := [9, 11]) (by kernel_rfl) (by simp) ?_
              refine (AllReadyH.cons (Reg.get rfl) (fun K hK => ?_) (AllReadyH.cons (Reg.get rfl) (fun K hK => ?_) AllReadyH.nil))
      
              · skip
                clear hHeld; (((first | refine wp_appK () rfl w5.heap.size rfl O2 rfl E8 (one_cellsK _ _) (by omega) D.size ?_ | refine wp_appK () rfl w5.heap.size rfl (own_drewA O2) rfl E8.drew (one_cellsK _ _) (by omega) D.drew.size ?_); intro A9 c9 w9 own9 hg9 _; (first | replace D := Mem.below_app D hg9 D.size (own_lo O2) | replace D := Mem.below_app D.drew hg9 D.drew.size (own_lo O2)); have O3 := own9; clear O2 E8 own9 hg9 cb; have cb := KB.out _ D)); refine hK.out _ _ ?_ (fun hHeld => ?_); ((try dsimp only); skip); clear hK K
                try simp only [Act.put, List.setIfInBounds_toArray, List.set_cons_zero, List.set_cons_succ]
                first | ((refine Reg.tkB 11 (Reg.get rfl) hHeld ?_)) | (refine wpAnyH_ready (rs := [11]) (by kernel_rfl) (by simp) ?_; refine AllReadyH.cons (Reg.get rfl) (fun K hK => ?_) AllReadyH.nil; clear hHeld; go_simp; (skip); refine hK.out _ _ ?_ (fun hHeld => ?_); ((try dsimp only); skip); clear hK K)
                try simp only [Act.put, List.setIfInBounds_toArray, List.set_cons_zero, List.set_cons_succ]
                (refine wpAnyH_take (i := 13) (v := .slice (drA A1 a c1) (n - a) (c1 - a)) (Reg.get rfl) (by kernel_rfl) (by kernel_rfl) (by kernel_rfl) (fun _ _ _ h => h) (Or.inl ⟨by rfl, ?_⟩) hHeld ?_; (focus (intro wq hSw; (rcases HA1.out with ⟨rfl, rfl, rfl⟩ | ⟨g, rfl⟩); (focus (obtain rfl : a = 0 := (by omega); go_simp <;> rfl)); go_simp <;> simp [drA])))
                try simp only [Act.put, List.setIfInBounds_toArray, List.set_cons_zero, List.set_cons_succ]
                (clear hHeld; refine any_normA (f2 := 3) (l2 := tl14) (by kernel_rfl) (by kernel_rfl) ?_; first | (with_reducible exact LEAF w9 p0 p8 A7 c7 A9 c9 ⟨D, O3⟩) | exact LEAF w9 p0 p8 A7 c7 A9 c9 ⟨D, O3⟩)
      
              · skip
                clear hHeld; go_simp; (skip); refine hK.out _ _ ?_ (fun hHeld => ?_); ((try dsimp only); skip); clear hK K
                try simp only [Act.put, List.setIfInBounds_toArray, List.set_cons_zero, List.set_cons_succ]
                (refine wpAnyH_take (i := 13) (v := .slice (drA A1 a c1) (n - a) (c1 - a)) (Reg.get rfl) (by kernel_rfl) (by kernel_rfl) (by kernel_rfl) (fun _ _ _ h => h) (Or.inl ⟨by rfl, ?_⟩) hHeld ?_; (focus (intro wq hSw; (rcases HA1.out with ⟨rfl, rfl, rfl⟩ | ⟨g, rfl⟩); (focus (obtain rfl : a = 0 := (by omega); go_simp <;> rfl)); go_simp <;> simp [drA])))
                try simp only [Act.put, List.setIfInBounds_toArray, List.set_cons_zero, List.set_cons_succ]
                first | ((refine Reg.tkB 9 (Reg.get rfl) hHeld ?_)) | (refine wpAnyH_ready (rs := [9]) (by kernel_rfl) (by simp) ?_; refine AllReadyH.cons (Reg.get rfl) (fun K hK => ?_) AllReadyH.nil; clear hHeld; (((first | refine wp_appK () rfl w5.heap.size rfl O2 rfl E8 (one_cellsK _ _) (by omega) D.size ?_ | refine wp_appK () rfl w5.heap.size rfl (own_drewA O2) rfl E8.drew (one_cellsK _ _) (by omega) D.drew.size ?_); intro A9 c9 w9 own9 hg9 _; (first | replace D := Mem.below_app D hg9 D.size (own_lo O2) | replace D := Mem.below_app D.drew hg9 D.drew.size (own_lo O2)); have O3 := own9; clear O2 E8 own9 hg9 cb; have cb := KB.out _ D)); refine hK.out _ _ ?_ (fun hHeld => ?_); ((try dsimp only); skip); clear hK K)
                try simp only [Act.put, List.setIfInBounds_toArray, List.set_cons_zero, List.set_cons_succ]
                (clear hHeld; refine any_normA (f2 := 3) (l2 := tl14) (by kernel_rfl) (by kernel_rfl) ?_; first | (with_reducible exact LEAF w9 p0 p8 A7 c7 A9 c9 ⟨D, O3⟩) | exact LEAF w9 p0 p8 A7 c7 A9 c9 ⟨D, O3⟩)
      
            · skip
              clear hHeld; go_simp; (skip); refine hK.out _ _ ?_ (fun hHeld => ?_); ((try dsimp only); skip); clear hK K
              try simp only [Act.put, List.setIfInBounds_toArray, List.set_cons_zero, List.set_cons_succ]
              (refine wpAnyH_take (i := 13) (v := .slice (drA A1 a c1) (n - a) (c1 - a)) (Reg.get rfl) (by kernel_rfl) (by kernel_rfl) (by kernel_rfl) (fun _ _ _ h => h) (Or.inl ⟨by rfl, ?_⟩) hHeld ?_; (focus (intro wq hSw; (rcases HA1.out with ⟨rfl, rfl, rfl⟩ | ⟨g, rfl⟩); (focus (obtain rfl : a = 0 := (by omega); go_simp <;> rfl)); go_simp <;> simp [drA])))
              try simp only [Act.put, List.setIfInBounds_toArray, List.set_cons_zero, List.set_cons_succ]
              first | ((refine Reg.tkB 5 (Reg.get rfl) hHeld ?_)) | (refine wpAnyH_ready (rs := [5]) (by kernel_rfl) (by simp) ?_; refine AllReadyH.cons (Reg.get rfl) (fun K hK => ?_) AllReadyH.nil; clear hHeld; (((first | refine wp_appK () rfl w5.heap.size rfl O1 rfl (HTK.out _ D) (one_take HON.out _) (by omega) D.size ?_ | refine wp_appK () rfl w5.heap.size rfl (own_drewA O1) rfl (HTK.out _ D.drew) (one_take HON.out _) (by omega) D.drew.size ?_); intro A7 c7 w7 own7 hg7 _; (try (first | replace E8 := E8.grown hg7 (.inr fun _ e => by simp [blk] at e; omega) | replace E8 := E8.drew.grown hg7 (.inr fun _ e => by simp [blk] at e; omega))); have z7 := hg7.size; (try simp only [World.size_drew] at z7); (first | replace D := Mem.below_app D hg7 D.size (own_lo O1) | replace D := Mem.below_app D.drew hg7 D.drew.size (own_lo O1)); simp only [Nat.zero_add, List.nil_append] at own7 ⊢; have O2 := own7; clear O1 own7 hg7 cb; have cb := KB.out _ D)); refine hK.out _ _ ?_ (fun hHeld => ?_); ((try dsimp only); skip); clear hK K)
              try simp only [Act.put, List.setIfInBounds_toArray, List.set_cons_zero, List.set_cons_succ]
              first | ((refine Reg.tkB 9 (Reg.get rfl) hHeld ?_)) | (refine wpAnyH_ready (rs := [9]) (by kernel_rfl) (by simp) ?_; refine AllReadyH.cons (Reg.get rfl) (fun K hK => ?_) AllReadyH.nil; clear hHeld; (((first | refine wp_appK () rfl w5.heap.size rfl O2 rfl E8 (one_cellsK _ _) (by omega) D.size ?_ | refine wp_appK () rfl w5.heap.size rfl (own_drewA O2) rfl E8.drew (one_cellsK _ _) (by omega) D.drew.size ?_); intro A9 c9 w9 own9 hg9 _; (first | replace D := Mem.below_app D hg9 D.size (own_lo O2) | replace D := Mem.below_app D.drew hg9 D.drew.size (own_lo O2)); have O3 := own9; clear O2 E8 own9 hg9 cb; have cb := KB.out _ D)); refine hK.out _ _ ?_ (fun hHeld => ?_); ((try dsimp only); skip); clear hK K)
              try simp only [Act.put, List.setIfInBounds_toArray, List.set_cons_zero, List.set_cons_succ]
              (clear hHeld; refine any_normA (f2 := 3) (l2 := tl14) (by kernel_rfl) (by kernel_rfl) ?_; first | (with_reducible exact LEAF w9 p0 p8 A7 c7 A9 c9 ⟨D, O3⟩) | exact LEAF w9 p0 p8 A7 c7 A9 c9 ⟨D, O3⟩)
      
          · skip
            clear hHeld; go_simp; (skip); refine hK.out _ _ ?_ (fun hHeld => ?_); ((try dsimp only); skip); clear hK K
            try simp only [Act.put, List.setIfInBounds_toArray, List.set_cons_zero, List.set_cons_succ]
            (refine wpAnyH_take (i := 13) (v := .slice (drA A1 a c1) (n - a) (c1 - a)) (Reg.get rfl) (by kernel_rfl) (by kernel_rfl) (by kernel_rfl) (fun _ _ _ h => h) (Or.inl ⟨by rfl, ?_⟩) hHeld ?_; (focus (intro wq hSw; (rcases HA1.out with ⟨rfl, rfl, rfl⟩ | ⟨g, rfl⟩); (focus (obtain rfl : a = 0 := (by omega); go_simp <;> rfl)); go_simp <;> simp [drA])))
            try simp only [Act.put, List.setIfInBounds_toArray, List.set_cons_zero, List.set_cons_succ]
            first | ((refine Reg.tkB 0 (Reg.get rfl) hHeld ?_)) | (refine wpAnyH_ready (rs := [0]) (by kernel_rfl) (by simp) ?_; refine AllReadyH.cons (Reg.get rfl) (fun K hK => ?_) AllReadyH.nil; clear hHeld; go_simp; ((generalize hW : World.alloc _ _ = w6; obtain ⟨p0, hp0, O1⟩ := own_newP hW D.size; (try rw [← hp0]); (try simp only [World.size_drew] at hp0); (try rw [← hp0]); have hp1 := Nat.le_of_eq hp0; have hp2 := Nat.le_of_eq hp0.symm; clear hp0; have z6 := szA hW; (try simp only [World.size_drew] at z6); (try replace E8 := rd_toA E8 hW); replace D := below_toA D hW D.size; clear hW cb; have cb := KB.out _ D)); refine hK.out _ _ ?_ (fun hHeld => ?_); ((try dsimp only); skip); clear hK K)
            try simp only [Act.put, List.setIfInBounds_toArray, List.set_cons_zero, List.set_cons_succ]
            first | ((refine Reg.tkB 5 (Reg.get rfl) hHeld ?_)) | (refine wpAnyH_ready (rs := [5]) (by kernel_rfl) (by simp) ?_; refine AllReadyH.cons (Reg.get rfl) (fun K hK => ?_) AllReadyH.nil; clear hHeld; (((first | refine wp_appK () rfl w5.heap.size rfl O1 rfl (HTK.out _ D) (one_take HON.out _) (by omega) D.size ?_ | refine wp_appK () rfl w5.heap.size rfl (own_drewA O1) rfl (HTK.out _ D.drew) (one_take HON.out _) (by omega) D.drew.size ?_); intro A7 c7 w7 own7 hg7 _; (try (first | replace E8 := E8.grown hg7 (.inr fun _ e => by simp [blk] at e; omega) | replace E8 := E8.drew.grown hg7 (.inr fun _ e => by simp [blk] at e; omega))); have z7 := hg7.size; (try simp only [World.size_drew] at z7); (first | replace D := Mem.below_app D hg7 D.size (own_lo O1) | replace D := Mem.below_app D.drew hg7 D.drew.size (own_lo O1)); simp only [Nat.zero_add, List.nil_append] at own7 ⊢; have O2 := own7; clear O1 own7 hg7 cb; have cb := KB.out _ D)); refine hK.out _ _ ?_ (fun hHeld => ?_); ((try dsimp only); skip); clear hK K)
            try simp only [Act.put, List.setIfInBounds_toArray, List.set_cons_zero, List.set_cons_succ]
            first | ((refine Reg.tkB 9 (Reg.get rfl) hHeld ?_)) | (refine wpAnyH_ready (rs := [9]) (by kernel_rfl) (by simp) ?_; refine AllReadyH.cons (Reg.get rfl) (fun K hK => ?_) AllReadyH.nil; clear hHeld; (((first | refine wp_appK () rfl w5.heap.size rfl O2 rfl E8 (one_cellsK _ _) (by omega) D.size ?_ | refine wp_appK () rfl w5.heap.size rfl (own_drewA O2) rfl E8.drew (one_cellsK _ _) (by omega) D.drew.size ?_); intro A9 c9 w9 own9 hg9 _; (first | replace D := Mem.below_app D hg9 D.size (own_lo O2) | replace D := Mem.below_app D.drew hg9 D.drew.size (own_lo O2)); have O3 := own9; clear O2 E8 own9 hg9 cb; have cb := KB.out _ D)); refine hK.out _ _ ?_ (fun hHeld => ?_); ((try dsimp only); skip); clear hK K)
            try simp only [Act.put, List.setIfInBounds_toArray, List.set_cons_zero, List.set_cons_succ]
            (clear hHeld; refine any_normA (f2 := 3) (l2 := tl14) (by kernel_rfl) (by kernel_rfl) ?_; first | (with_reducible exact LEAF w9 p0 p8 A7 c7 A9 c9 ⟨D, O3⟩) | exact LEAF w9 p0 p8 A7 c7 A9 c9 ⟨D, O3⟩)
      
        · skip
          clear hHeld; go_simp; (skip); refine hK.out _ _ ?_ (fun hHeld => ?_); ((try dsimp only); skip); clear hK K
          try simp only [Act.put, List.setIfInBounds_toArray, List.set_cons_zero, List.set_cons_succ]
          (refine wpAnyH_take (i := 13) (v := .slice (drA A1 a c1) (n - a) (c1 - a)) (Reg.get rfl) (by kernel_rfl) (by kernel_rfl) (by kernel_rfl) (fun _ _ _ h => h) (Or.inl ⟨by rfl, ?_⟩) hHeld ?_; (focus (intro wq hSw; (rcases HA1.out with ⟨rfl, rfl, rfl⟩ | ⟨g, rfl⟩); (focus (obtain rfl : a = 0 := (by omega); go_simp <;> rfl)); go_simp <;> simp [drA])))
          try simp only [Act.put, List.setIfInBounds_toArray, List.set_cons_zero, List.set_cons_succ]
          refine wpAnyH_ready (rs := [0, 2]) (by kernel_rfl) (by simp) ?_
          refine (AllReadyH.cons (Reg.get rfl) (fun K hK => ?_) (AllReadyH.cons (Reg.get rfl) (fun K hK => ?_) AllReadyH.nil))
      
          · skip
            clear hHeld; go_simp; ((generalize hW : World.alloc _ _ = w6; obtain ⟨p0, hp0, O1⟩ := own_newP hW D.size; (try rw [← hp0]); (try simp only [World.size_drew] at hp0); (try rw [← hp0]); have hp1 := Nat.le_of_eq hp0; have hp2 := Nat.le_of_eq hp0.symm; clear hp0; have z6 := szA hW; (try simp only [World.size_drew] at z6); (try replace E8 := rd_toA E8 hW); replace D := below_toA D hW D.size; clear hW cb; have cb := KB.out _ D)); refine hK.out _ _ ?_ (fun hHeld => ?_); ((try dsimp only); skip); clear hK K
            try simp only [Act.put, List.setIfInBounds_toArray, List.set_cons_zero, List.set_cons_succ]
            first | ((refine Reg.tkB 2 (Reg.get rfl) hHeld ?_)) | (refine wpAnyH_ready (rs := [2]) (by kernel_rfl) (by simp) ?_; refine AllReadyH.cons (Reg.get rfl) (fun K hK => ?_) AllReadyH.nil; clear hHeld; go_simp; (skip); refine hK.out _ _ ?_ (fun hHeld => ?_); ((try dsimp only); skip); clear hK K)
            try simp only [Act.put, List.setIfInBounds_toArray, List.set_cons_zero, List.set_cons_succ]
            (refine wpAnyH_take (i := 4) (v := .slice A1 a c1) (Reg.get rfl) (by kernel_rfl) (by kernel_rfl) (by kernel_rfl) (fun _ _ _ h => h) (Or.inl ⟨by rfl, ?_⟩) hHeld ?_; (focus (intro wq hSw; (rcases HA1.out with ⟨rfl, rfl, rfl⟩ | ⟨g, rfl⟩); (focus (obtain rfl : a = 0 := (by omega); go_simp <;> rfl)); go_simp <;> rfl)))
            try simp only [Act.put, List.setIfInBounds_toArray, List.set_cons_zero, List.set_cons_succ]
            first | ((refine Reg.tkB 5 (Reg.get rfl) hHeld ?_)) | (refine wpAnyH_ready (rs := [5]) (by kernel_rfl) (by simp) ?_; refine AllReadyH.cons (Reg.get rfl) (fun K hK => ?_) AllReadyH.nil; clear hHeld; (((first | refine wp_appK () rfl w5.heap.size rfl O1 rfl (HTK.out _ D) (one_take HON.out _) (by omega) D.size ?_ | refine wp_appK () rfl w5.heap.size rfl (own_drewA O1) rfl (HTK.out _ D.drew) (one_take HON.out _) (by omega) D.drew.size ?_); intro A7 c7 w7 own7 hg7 _; (try (first | replace E8 := E8.grown hg7 (.inr fun _ e => by simp [blk] at e; omega) | replace E8 := E8.drew.grown hg7 (.inr fun _ e => by simp [blk] at e; omega))); have z7 := hg7.size; (try simp only [World.size_drew] at z7); (first | replace D := Mem.below_app D hg7 D.size (own_lo O1) | replace D := Mem.below_app D.drew hg7 D.drew.size (own_lo O1)); simp only [Nat.zero_add, List.nil_append] at own7 ⊢; have O2 := own7; clear O1 own7 hg7 cb; have cb := KB.out _ D)); refine hK.out _ _ ?_ (fun hHeld => ?_); ((try dsimp only); skip); clear hK K)
            try simp only [Act.put, List.setIfInBounds_toArray, List.set_cons_zero, List.set_cons_succ]
            first | ((refine Reg.tkB 9 (Reg.get rfl) hHeld ?_)) | (refine wpAnyH_ready (rs := [9]) (by kernel_rfl) (by simp) ?_; refine AllReadyH.cons (Reg.get rfl) (fun K hK => ?_) AllReadyH.nil; clear hHeld; (((first | refine wp_appK () rfl w5.heap.size rfl O2 rfl E8 (one_cellsK _ _) (by omega) D.size ?_ | refine wp_appK () rfl w5.heap.size rfl (own_drewA O2) rfl E8.drew (one_cellsK _ _) (by omega) D.drew.size ?_); intro A9 c9 w9 own9 hg9 _; (first | replace D := Mem.below_app D hg9 D.size (own_lo O2) | replace D := Mem.below_app D.drew hg9 D.drew.size (own_lo O2)); have O3 := own9; clear O2 E8 own9 hg9 cb; have cb := KB.out _ D)); refine hK.out _ _ ?_ (fun hHeld => ?_); ((try dsimp only); skip); clear hK K)
            try simp only [Act.put, List.setIfInBounds_toArray, List.set_cons_zero, List.set_cons_succ]
            (clear hHeld; refine any_normA (f2 := 3) (l2 := tl14) (by kernel_rfl) (by kernel_rfl) ?_; first | (with_reducible exact LEAF w9 p0 p8 A7 c7 A9 c9 ⟨D, O3⟩) | exact LEAF w9 p0 p8 A7 c7 A9 c9 ⟨D, O3⟩)
      
          · skip
            clear hHeld; go_simp; (skip); refine hK.out _ _ ?_ (fun hHeld => ?_); ((try dsimp only); skip); clear hK K
            try simp only [Act.put, List.setIfInBounds_toArray, List.set_cons_zero, List.set_cons_succ]
            (refine wpAnyH_take (i := 4) (v := .slice A1 a c1) (Reg.get rfl) (by kernel_rfl) (by kernel_rfl) (by kernel_rfl) (fun _ _ _ h => h) (Or.inl ⟨by rfl, ?_⟩) hHeld ?_; (focus (intro wq hSw; (rcases HA1.out with ⟨rfl, rfl, rfl⟩ | ⟨g, rfl⟩); (focus (obtain rfl : a = 0 := (by omega); go_simp <;> rfl)); go_simp <;> rfl)))
            try simp only [Act.put, List.setIfInBounds_toArray, List.set_cons_zero, List.set_cons_succ]
            first | ((refine Reg.tkB 0 (Reg.get rfl) hHeld ?_)) | (refine wpAnyH_ready (rs := [0]) (by kernel_rfl) (by simp) ?_; refine AllReadyH.cons (Reg.get rfl) (fun K hK => ?_) AllReadyH.nil; clear hHeld; go_simp; ((generalize hW : World.alloc _ _ = w6; obtain ⟨p0, hp0, O1⟩ := own_newP hW D.size; (try rw [← hp0]); (try simp only [World.size_drew] at hp0); (try rw [← hp0]); have hp1 := Nat.le_of_eq hp0; have hp2 := Nat.le_of_eq hp0.symm; clear hp0; have z6 := szA hW; (try simp only [World.size_drew] at z6); (try replace E8 := rd_toA E8 hW); replace D := below_toA D hW D.size; clear hW cb; have cb := KB.out _ D)); refine hK.out _ _ ?_ (fun hHeld => ?_); ((try dsimp only); skip); clear hK K)
            try simp only [Act.put, List.setIfInBounds_toArray, List.set_cons_zero, List.set_cons_succ]
            first | ((refine Reg.tkB 5 (Reg.get rfl) hHeld ?_)) | (refine wpAnyH_ready (rs := [5]) (by kernel_rfl) (by simp) ?_; refine AllReadyH.cons (Reg.get rfl) (fun K hK => ?_) AllReadyH.nil; clear hHeld; (((first | refine wp_appK () rfl w5.heap.size rfl O1 rfl (HTK.out _ D) (one_take HON.out _) (by omega) D.size ?_ | refine wp_appK () rfl w5.heap.size rfl (own_drewA O1) rfl (HTK.out _ D.drew) (one_take HON.out _) (by omega) D.drew.size ?_); intro A7 c7 w7 own7 hg7 _; (try (first | replace E8 := E8.grown hg7 (.inr fun _ e => by simp [blk] at e; omega) | replace E8 := E8.drew.grown hg7 (.inr fun _ e => by simp [blk] at e; omega))); have z7 := hg7.size; (try simp only [World.size_drew] at z7); (first | replace D := Mem.below_app D hg7 D.size (own_lo O1) | replace D := Mem.below_app D.drew hg7 D.drew.size (own_lo O1)); simp only [Nat.zero_add, List.nil_append] at own7 ⊢; have O2 := own7; clear O1 own7 hg7 cb; have cb := KB.out _ D)); refine hK.out _ _ ?_ (fun hHeld => ?_); ((try dsimp only); skip); clear hK K)
            try simp only [Act.put, List.setIfInBounds_toArray, List.set_cons_zero, List.set_cons_succ]
            first | ((refine Reg.tkB 9 (Reg.get rfl) hHeld ?_)) | (refine wpAnyH_ready (rs := [9]) (by kernel_rfl) (by simp) ?_; refine AllReadyH.cons (Reg.get rfl) (fun K hK => ?_) AllReadyH.nil; clear hHeld; (((first | refine wp_appK () rfl w5.heap.size rfl O2 rfl E8 (one_cellsK _ _) (by omega) D.size ?_ | refine wp_appK () rfl w5.heap.size rfl (own_drewA O2) rfl E8.drew (one_cellsK _ _) (by omega) D.drew.size ?_); intro A9 c9 w9 own9 hg9 _; (first | replace D := Mem.below_app D hg9 D.size (own_lo O2) | replace D := Mem.below_app D.drew hg9 D.drew.size (own_lo O2)); have O3 := own9; clear O2 E8 own9 hg9 cb; have cb := KB.out _ D)); refine hK.out _ _ ?_ (fun hHeld => ?_); ((try dsimp only); skip); clear hK K)
            try simp only [Act.put, List.setIfInBounds_toArray, List.set_cons_zero, List.set_cons_succ]
            (clear hHeld; refine any_normA (f2 := 3) (l2 := tl14) (by kernel_rfl) (by kernel_rfl) ?_; first | (with_reducible exact LEAF w9 p0 p8 A7 c7 A9 c9 ⟨D, O3⟩) | exact LEAF w9 p0 p8 A7 c7 A9 c9 ⟨D, O3⟩)
      
      · skip
        clear hHeld; go_simp; (skip); refine hK.out _ _ ?_ (fun hHeld => ?_); ((try dsimp only); skip); clear hK K
        try simp only [Act.put, List.setIfInBounds_toArray, List.set_cons_zero, List.set_cons_succ]
        (refine wpAnyH_take (i := 13) (v := .slice (drA A1 a c1) (n - a) (c1 - a)) (Reg.get rfl) (by kernel_rfl) (by kernel_rfl) (by kernel_rfl) (fun _ _ _ h => h) (Or.inl ⟨by rfl, ?_⟩) hHeld ?_; (focus (intro wq hSw; (rcases HA1.out with ⟨rfl, rfl, rfl⟩ | ⟨g, rfl⟩); (focus (obtain rfl : a = 0 := (by omega); go_simp <;> rfl)); go_simp <;> simp [drA])))
        try simp only [Act.put, List.setIfInBounds_toArray, List.set_cons_zero, List.set_cons_succ]
        refine wpAnyH_ready (rs := [0, 2, 8]) (by kernel_rfl) (by simp) ?_
        refine (AllReadyH.cons (Reg.get rfl) (fun K hK => ?_) (AllReadyH.cons (Reg.get rfl) (fun K hK => ?_) (AllReadyH.cons (Reg.get rfl) (fun K hK => ?_) AllReadyH.nil)))
      
        · skip
          clear hHeld; go_simp; ((generalize hW : World.alloc _ _ = w6; obtain ⟨p0, hp0, O1⟩ := own_newP hW D.size; (try rw [← hp0]); (try simp only [World.size_drew] at hp0); (try rw [← hp0]); have hp1 := Nat.le_of_eq hp0; have hp2 := Nat.le_of_eq hp0.symm; clear hp0; have z6 := szA hW; (try simp only [World.size_drew] at z6); (try replace E8 := rd_toA E8 hW); replace D := below_toA D hW D.size; clear hW cb; have cb := KB.out _ D)); refine hK.out _ _ ?_ (fun hHeld => ?_); ((try dsimp only); skip); clear hK K
          try simp only [Act.put, List.setIfInBounds_toArray, List.set_cons_zero, List.set_cons_succ]
          refine wpAnyH_ready (rs := [2, 8]) (by kernel_rfl) (by simp) ?_
          refine (AllReadyH.cons (Reg.get rfl) (fun K hK => ?_) (AllReadyH.cons (Reg.get rfl) (fun K hK => ?_) AllReadyH.nil))
      
          · skip
            clear hHeld; go_simp; (skip); refine hK.out _ _ ?_ (fun hHeld => ?_); ((try dsimp only); skip); clear hK K
            try simp only [Act.put, List.setIfInBounds_toArray, List.set_cons_zero, List.set_cons_succ]
            (refine wpAnyH_take (i := 4) (v := .slice A1 a c1) (Reg.get rfl) (by kernel_rfl) (by kernel_rfl) (by kernel_rfl) (fun _ _ _ h => h) (Or.inl ⟨by rfl, ?_⟩) hHeld ?_; (focus (intro wq hSw; (rcases HA1.out with ⟨rfl, rfl, rfl⟩ | ⟨g, rfl⟩); (focus (obtain rfl : a = 0 := (by omega); go_simp <;> rfl)); go_simp <;> rfl)))
            try simp only [Act.put, List.setIfInBounds_toArray, List.set_cons_zero, List.set_cons_succ]
            refine wpAnyH_ready (rs := [5, 8]) (by kernel_rfl) (by simp) ?_
            refine (AllReadyH.cons (Reg.get rfl) (fun K hK => ?_) (AllReadyH.cons (Reg.get rfl) (fun K hK => ?_) AllReadyH.nil))
      
            · skip
              clear hHeld; (((first | refine wp_appK () rfl w5.heap.size rfl O1 rfl (HTK.out _ D) (one_take HON.out _) (by omega) D.size ?_ | refine wp_appK () rfl w5.heap.size rfl (own_drewA O1) rfl (HTK.out _ D.drew) (one_take HON.out _) (by omega) D.drew.size ?_); intro A7 c7 w7 own7 hg7 _; (try (first | replace E8 := E8.grown hg7 (.inr fun _ e => by simp [blk] at e; omega) | replace E8 := E8.drew.grown hg7 (.inr fun _ e => by simp [blk] at e; omega))); have z7 := hg7.size; (try simp only [World.size_drew] at z7); (first | replace D := Mem.below_app D hg7 D.size (own_lo O1) | replace D := Mem.below_app D.drew hg7 D.drew.size (own_lo O1)); simp only [Nat.zero_add, List.nil_append] at own7 ⊢; have O2 := own7; clear O1 own7 hg7 cb; have cb := KB.out _ D)); refine hK.out _ _ ?_ (fun hHeld => ?_); ((try dsimp only); skip); clear hK K
              try simp only [Act.put, List.setIfInBounds_toArray, List.set_cons_zero, List.set_cons_succ]
              first | ((refine Reg.tkB 8 (Reg.get rfl) hHeld ?_)) | (refine wpAnyH_ready (rs := [8]) (by kernel_rfl) (by simp) ?_; refine AllReadyH.cons (Reg.get rfl) (fun K hK => ?_) AllReadyH.nil; clear hHeld; go_simp; ((generalize hW : World.alloc _ _ = w8; obtain ⟨p8, hp8, E8⟩ := rd_newP hW; (try rw [← hp8]); (try simp only [World.size_drew] at hp8); (try rw [← hp8]); have hq1 := Nat.le_of_eq hp8; have hq2 := Nat.le_of_eq hp8.symm; clear hp8; have z8 := szA hW; (try simp only [World.size_drew] at z8); (try replace O1 := own_toA O1 hW); (try replace O2 := own_toA O2 hW); replace D := below_toA D hW D.size; clear hW cb; have cb := KB.out _ D)); refine hK.out _ _ ?_ (fun hHeld => ?_); ((try dsimp only); skip); clear hK K)
              try simp only [Act.put, List.setIfInBounds_toArray, List.set_cons_zero, List.set_cons_succ]
              first | ((refine Reg.tkB 9 (Reg.get rfl) hHeld ?_)) | (refine wpAnyH_ready (rs := [9]) (by kernel_rfl) (by simp) ?_; refine AllReadyH.cons (Reg.get rfl) (fun K hK => ?_) AllReadyH.nil; clear hHeld; (((first | refine wp_appK () rfl w5.heap.size rfl O2 rfl E8 (one_cellsK _ _) (by omega) D.size ?_ | refine wp_appK () rfl w5.heap.size rfl (own_drewA O2) rfl E8.drew (one_cellsK _ _) (by omega) D.drew.size ?_); intro A9 c9 w9 own9 hg9 _; (first | replace D := Mem.below_app D hg9 D.size (own_lo O2) | replace D := Mem.below_app D.drew hg9 D.drew.size (own_lo O2)); have O3 := own9; clear O2 E8 own9 hg9 cb; have cb := KB.out _ D)); refine hK.out _ _ ?_ (fun hHeld => ?_); ((try dsimp only); skip); clear hK K)
              try simp only [Act.put, List.setIfInBounds_toArray, List.set_cons_zero, List.set_cons_succ]
              (clear hHeld; refine any_normA (f2 := 3) (l2 := tl14) (by kernel_rfl) (by kernel_rfl) ?_; first | (with_reducible exact LEAF w9 p0 p8 A7 c7 A9 c9 ⟨D, O3⟩) | exact LEAF w9 p0 p8 A7 c7 A9 c9 ⟨D, O3⟩)
      
            · skip
              clear hHeld; go_simp; ((generalize hW : World.alloc _ _ = w8; obtain ⟨p8, hp8, E8⟩ := rd_newP hW; (try rw [← hp8]); (try simp only [World.size_drew] at hp8); (try rw [← hp8]); have hq1 := Nat.le_of_eq hp8; have hq2 := Nat.le_of_eq hp8.symm; clear hp8; have z8 := szA hW; (try simp only [World.size_drew] at z8); (try replace O1 := own_toA O1 hW); (try replace O2 := own_toA O2 hW); replace D := below_toA D hW D.size; clear hW cb; have cb := KB.out _ D)); refine hK.out _ _ ?_ (fun hHeld => ?_); ((try dsimp only); skip); clear hK K
              try simp only [Act.put, List.setIfInBounds_toArray, List.set_cons_zero, List.set_cons_succ]
              first | ((refine Reg.tkB 5 (Reg.get rfl) hHeld ?_)) | (refine wpAnyH_ready (rs := [5]) (by kernel_rfl) (by simp) ?_; refine AllReadyH.cons (Reg.get rfl) (fun K hK => ?_) AllReadyH.nil; clear hHeld; (((first | refine wp_appK () rfl w5.heap.size rfl O1 rfl (HTK.out _ D) (one_take HON.out _) (by omega) D.size ?_ | refine wp_appK () rfl w5.heap.size rfl (own_drewA O1) rfl (HTK.out _ D.drew) (one_take HON.out _) (by omega) D.drew.size ?_); intro A7 c7 w7 own7 hg7 _; (try (first | replace E8 := E8.grown hg7 (.inr fun _ e => by simp [blk] at e; omega) | replace E8 := E8.drew.grown hg7 (.inr fun _ e => by simp [blk] at e; omega))); have z7 := hg7.size; (try simp only [World.size_drew] at z7); (first | replace D := Mem.below_app D hg7 D.size (own_lo O1) | replace D := Mem.below_app D.drew hg7 D.drew.size (own_lo O1)); simp only [Nat.zero_add, List.nil_append] at own7 ⊢; have O2 := own7; clear O1 own7 hg7 cb; have cb := KB.out _ D)); refine hK.out _ _ ?_ (fun hHeld => ?_); ((try dsimp only); skip); clear hK K)
              try simp only [Act.put, List.setIfInBounds_toArray, List.set_cons_zero, List.set_cons_succ]
              first | ((refine Reg.tkB 9 (Reg.get rfl) hHeld ?_)) | (refine wpAnyH_ready (rs := [9]) (by kernel_rfl) (by simp) ?_; refine AllReadyH.cons (Reg.get rfl) (fun K hK => ?_) AllReadyH.nil; clear hHeld; (((first | refine wp_appK () rfl w5.heap.size rfl O2 rfl E8 (one_cellsK _ _) (by omega) D.size ?_ | refine wp_appK () rfl w5.heap.size rfl (own_drewA O2) rfl E8.drew (one_cellsK _ _) (by omega) D.drew.size ?_); intro A9 c9 w9 own9 hg9 _; (first | replace D := Mem.below_app D hg9 D.size (own_lo O2) | replace D := Mem.below_app D.drew hg9 D.drew.size (own_lo O2)); have O3 := own9; clear O2 E8 own9 hg9 cb; have cb := KB.out _ D)); refine hK.out _ _ ?_ (fun hHeld => ?_); ((try dsimp only); skip); clear hK K)
              try simp only [Act.put, List.setIfInBounds_toArray, List.set_cons_zero, List.set_cons_succ]
              (clear hHeld; refine any_normA (f2 := 3) (l2 := tl14) (by kernel_rfl) (by kernel_rfl) ?_; first | (with_reducible exact LEAF w9 p0 p8 A7 c7 A9 c9 ⟨D, O3⟩) | exact LEAF w9 p0 p8 A7 c7 A9 c9 ⟨D, O3⟩)
      
          · skip
            clear hHeld; go_simp; ((generalize hW : World.alloc _ _ = w8; obtain ⟨p8, hp8, E8⟩ := rd_newP hW; (try rw [← hp8]); (try simp only [World.size_drew] at hp8); (try rw [← hp8]); have hq1 := Nat.le_of_eq hp8; have hq2 := Nat.le_of_eq hp8.symm; clear hp8; have z8 := szA hW; (try simp only [World.size_drew] at z8); (try replace O1 := own_toA O1 hW); (try replace O2 := own_toA O2 hW); replace D := below_toA D hW D.size; clear hW cb; have cb := KB.out _ D)); refine hK.out _ _ ?_ (fun hHeld => ?_); ((try dsimp only); skip); clear hK K
            try simp only [Act.put, List.setIfInBounds_toArray, List.set_cons_zero, List.set_cons_succ]
            first | ((refine Reg.tkB 2 (Reg.get rfl) hHeld ?_)) | (refine wpAnyH_ready (rs := [2]) (by kernel_rfl) (by simp) ?_; refine AllReadyH.cons (Reg.get rfl) (fun K hK => ?_) AllReadyH.nil; clear hHeld; go_simp; (skip); refine hK.out _ _ ?_ (fun hHeld => ?_); ((try dsimp only); skip); clear hK K)
            try simp only [Act.put, List.setIfInBounds_toArray, List.set_cons_zero, List.set_cons_succ]
            (refine wpAnyH_take (i := 4) (v := .slice A1 a c1) (Reg.get rfl) (by kernel_rfl) (by kernel_rfl) (by kernel_rfl) (fun _ _ _ h => h) (Or.inl ⟨by rfl, ?_⟩) hHeld ?_; (focus (intro wq hSw; (rcases HA1.out with ⟨rfl, rfl, rfl⟩ | ⟨g, rfl⟩); (focus (obtain rfl : a = 0 := (by omega); go_simp <;> rfl)); go_simp <;> rfl)))
            try simp only [Act.put, List.setIfInBounds_toArray, List.set_cons_zero, List.set_cons_succ]
            first | ((refine Reg.tkB 5 (Reg.get rfl) hHeld ?_)) | (refine wpAnyH_ready (rs := [5]) (by kernel_rfl) (by simp) ?_; refine AllReadyH.cons (Reg.get rfl) (fun K hK => ?_) AllReadyH.nil; clear hHeld; (((first | refine wp_appK () rfl w5.heap.size rfl O1 rfl (HTK.out _ D) (one_take HON.out _) (by omega) D.size ?_ | refine wp_appK () rfl w5.heap.size rfl (own_drewA O1) rfl (HTK.out _ D.drew) (one_take HON.out _) (by omega) D.drew.size ?_); intro A7 c7 w7 own7 hg7 _; (try (first | replace E8 := E8.grown hg7 (.inr fun _ e => by simp [blk] at e; omega) | replace E8 := E8.drew.grown hg7 (.inr fun _ e => by simp [blk] at e; omega))); have z7 := hg7.size; (try simp only [World.size_drew] at z7); (first | replace D := Mem.below_app D hg7 D.size (own_lo O1) | replace D := Mem.below_app D.drew hg7 D.drew.size (own_lo O1)); simp only [Nat.zero_add, List.nil_append] at own7 ⊢; have O2 := own7; clear O1 own7 hg7 cb; have cb := KB.out _ D)); refine hK.out _ _ ?_ (fun hHeld => ?_); ((try dsimp only); skip); clear hK K)
            try simp only [Act.put, List.setIfInBounds_toArray, List.set_cons_zero, List.set_cons_succ]
            first | ((refine Reg.tkB 9 (Reg.get rfl) hHeld ?_)) | (refine wpAnyH_ready (rs := [9]) (by kernel_rfl) (by simp) ?_; refine AllReadyH.cons (Reg.get rfl) (fun K hK => ?_) AllReadyH.nil; clear hHeld; (((first | refine wp_appK () rfl w5.heap.size rfl O2 rfl E8 (one_cellsK _ _) (by omega) D.size ?_ | refine wp_appK () rfl w5.heap.size rfl (own_drewA O2) rfl E8.drew (one_cellsK _ _) (by omega) D.drew.size ?_); intro A9 c9 w9 own9 hg9 _; (first | replace D := Mem.below_app D hg9 D.size (own_lo O2) | replace D := Mem.below_app D.drew hg9 D.drew.size (own_lo O2)); have O3 := own9; clear O2 E8 own9 hg9 cb; have cb := KB.out _ D)); refine hK.out _ _ ?_ (fun hHeld => ?_); ((try dsimp only); skip); clear hK K)
            try simp only [Act.put, List.setIfInBounds_toArray, List.set_cons_zero, List.set_cons_succ]
            (clear hHeld; refine any_normA (f2 := 3) (l2 := tl14) (by kernel_rfl) (by kernel_rfl) ?_; first | (with_reducible exact LEAF w9 p0 p8 A7 c7 A9 c9 ⟨D, O3⟩) | exact LEAF w9 p0 p8 A7 c7 A9 c9 ⟨D, O3⟩)
      
        · skip
          clear hHeld; go_simp; (skip); refine hK.out _ _ ?_ (fun hHeld => ?_); ((try dsimp only); skip); clear hK K
          try simp only [Act.put, List.setIfInBounds_toArray, List.set_cons_zero, List.set_cons_succ]
          (refine wpAnyH_take (i := 4) (v := .slice A1 a c1) (Reg.get rfl) (by kernel_rfl) (by kernel_rfl) (by kernel_rfl) (fun _ _ _ h => h) (Or.inl ⟨by rfl, ?_⟩) hHeld ?_; (focus (intro wq hSw; (rcases HA1.out with ⟨rfl, rfl, rfl⟩ | ⟨g, rfl⟩); (focus (obtain rfl : a = 0 := (by omega); go_simp <;> rfl)); go_simp <;> rfl)))
          try simp only [Act.put, List.setIfInBounds_toArray, List.set_cons_zero, List.set_cons_succ]
          refine wpAnyH_ready (rs := [0, 8]) (by kernel_rfl) (by simp) ?_
          refine (AllReadyH.cons (Reg.get rfl) (fun K hK => ?_) (AllReadyH.cons (Reg.get rfl) (fun K hK => ?_) AllReadyH.nil))
      
          · skip
            clear hHeld; go_simp; ((generalize hW : World.alloc _ _ = w6; obtain ⟨p0, hp0, O1⟩ := own_newP hW D.size; (try rw [← hp0]); (try simp only [World.size_drew] at hp0); (try rw [← hp0]); have hp1 := Nat.le_of_eq hp0; have hp2 := Nat.le_of_eq hp0.symm; clear hp0; have z6 := szA hW; (try simp only [World.size_drew] at z6); (try replace E8 := rd_toA E8 hW); replace D := below_toA D hW D.size; clear hW cb; have cb := KB.out _ D)); refine hK.out _ _ ?_ (fun hHeld => ?_); ((try dsimp only); skip); clear hK K
            try simp only [Act.put, List.setIfInBounds_toArray, List.set_cons_zero, List.set_cons_succ]
            refine wpAnyH_ready (rs := [5, 8]) (by kernel_rfl) (by simp) ?_
            refine (AllReadyH.cons (Reg.get rfl) (fun K hK => ?_) (AllReadyH.cons (Reg.get rfl) (fun K hK => ?_) AllReadyH.nil))
      
            · skip
              clear hHeld; (((first | refine wp_appK () rfl w5.heap.size rfl O1 rfl (HTK.out _ D) (one_take HON.out _) (by omega) D.size ?_ | refine wp_appK () rfl w5.heap.size rfl (own_drewA O1) rfl (HTK.out _ D.drew) (one_take HON.out _) (by omega) D.drew.size ?_); intro A7 c7 w7 own7 hg7 _; (try (first | replace E8 := E8.grown hg7 (.inr fun _ e => by simp [blk] at e; omega) | replace E8 := E8.drew.grown hg7 (.inr fun _ e => by simp [blk] at e; omega))); have z7 := hg7.size; (try simp only [World.size_drew] at z7); (first | replace D := Mem.below_app D hg7 D.size (own_lo O1) | replace D := Mem.below_app D.drew hg7 D.drew.size (own_lo O1)); simp only [Nat.zero_add, List.nil_append] at own7 ⊢; have O2 := own7; clear O1 own7 hg7 cb; have cb := KB.out _ D)); refine hK.out _ _ ?_ (fun hHeld => ?_); ((try dsimp only); skip); clear hK K
              try simp only [Act.put, List.setIfInBounds_toArray, List.set_cons_zero, List.set_cons_succ]
              first | ((refine Reg.tkB 8 (Reg.get rfl) hHeld ?_)) | (refine wpAnyH_ready (rs := [8]) (by kernel_rfl) (by simp) ?_; refine AllReadyH.cons (Reg.get rfl) (fun K hK => ?_) AllReadyH.nil; clear hHeld; go_simp; ((generalize hW : World.alloc _ _ = w8; obtain ⟨p8, hp8, E8⟩ := rd_newP hW; (try rw [← hp8]); (try simp only [World.size_drew] at hp8); (try rw [← hp8]); have hq1 := Nat.le_of_eq hp8; have hq2 := Nat.le_of_eq hp8.symm; clear hp8; have z8 := szA hW; (try simp only [World.size_drew] at z8); (try replace O1 := own_toA O1 hW); (try replace O2 := own_toA O2 hW); replace D := below_toA D hW D.size; clear hW cb; have cb := KB.out _ D)); refine hK.out _ _ ?_ (fun hHeld => ?_); ((try dsimp only); skip); clear hK K)
              try simp only [Act.put, List.setIfInBounds_toArray, List.set_cons_zero, List.set_cons_succ]
              first | ((refine Reg.tkB 9 (Reg.get rfl) hHeld ?_)) | (refine wpAnyH_ready (rs := [9]) (by kernel_rfl) (by simp) ?_; refine AllReadyH.cons (Reg.get rfl) (fun K hK => ?_) AllReadyH.nil; clear hHeld; (((first | refine wp_appK () rfl w5.heap.size rfl O2 rfl E8 (one_cellsK _ _) (by omega) D.size ?_ | refine wp_appK () rfl w5.heap.size rfl (own_drewA O2) rfl E8.drew (one_cellsK _ _) (by omega) D.drew.size ?_); intro A9 c9 w9 own9 hg9 _; (first | replace D := Mem.below_app D hg9 D.size (own_lo O2) | replace D := Mem.below_app D.drew hg9 D.drew.size (own_lo O2)); have O3 := own9; clear O2 E8 own9 hg9 cb; have cb := KB.out _ D)); refine hK.out _ _ ?_ (fun hHeld => ?_); ((try dsimp only); skip); clear hK K)
              try simp only [Act.put, List.setIfInBounds_toArray, List.set_cons_zero, List.set_cons_succ]
              (clear hHeld; refine any_normA (f2 := 3) (l2 := tl14) (by kernel_rfl) (by kernel_rfl) ?_; first | (with_reducible exact LEAF w9 p0 p8 A7 c7 A9 c9 ⟨D, O3⟩) | exact LEAF w9 p0 p8 A7 c7 A9 c9 ⟨D, O3⟩)
      
            · skip
              clear hHeld; go_simp; ((generalize hW : World.alloc _ _ = w8; obtain ⟨p8, hp8, E8⟩ := rd_newP hW; (try rw [← hp8]); (try simp only [World.size_drew] at hp8); (try rw [← hp8]); have hq1 := Nat.le_of_eq hp8; have hq2 := Nat.le_of_eq hp8.symm; clear hp8; have z8 := szA hW; (try simp only [World.size_drew] at z8); (try replace O1 := own_toA O1 hW); (try replace O2 := own_toA O2 hW); replace D := below_toA D hW D.size; clear hW cb; have cb := KB.out _ D)); refine hK.out _ _ ?_ (fun hHeld => ?_); ((try dsimp only); skip); clear hK K
              try simp only [Act.put, List.setIfInBounds_toArray, List.set_cons_zero, List.set_cons_succ]
              first | ((refine Reg.tkB 5 (Reg.get rfl) hHeld ?_)) | (refine wpAnyH_ready (rs := [5]) (by kernel_rfl) (by simp) ?_; refine AllReadyH.cons (Reg.get rfl) (fun K hK => ?_) AllReadyH.nil; clear hHeld; (((first | refine wp_appK () rfl w5.heap.size rfl O1 rfl (HTK.out _ D) (one_take HON.out _) (by omega) D.size ?_ | refine wp_appK () rfl w5.heap.size rfl (own_drewA O1) rfl (HTK.out _ D.drew) (one_take HON.out _) (by omega) D.drew.size ?_); intro A7 c7 w7 own7 hg7 _; (try (first | replace E8 := E8.grown hg7 (.inr fun _ e => by simp [blk] at e; omega) | replace E8 := E8.drew.grown hg7 (.inr fun _ e => by simp [blk] at e; omega))); have z7 := hg7.size; (try simp only [World.size_drew] at z7); (first | replace D := Mem.below_app D hg7 D.size (own_lo O1) | replace D := Mem.below_app D.drew hg7 D.drew.size (own_lo O1)); simp only [Nat.zero_add, List.nil_append] at own7 ⊢; have O2 := own7; clear O1 own7 hg7 cb; have cb := KB.out _ D)); refine hK.out _ _ ?_ (fun hHeld => ?_); ((try dsimp only); skip); clear hK K)
              try simp only [Act.put, List.setIfInBounds_toArray, List.set_cons_zero, List.set_cons_succ]
              first | ((refine Reg.tkB 9 (Reg.get rfl) hHeld ?_)) | (refine wpAnyH_ready (rs := [9]) (by kernel_rfl) (by simp) ?_; refine AllReadyH.cons (Reg.get rfl) (fun K hK => ?_) AllReadyH.nil; clear hHeld; (((first | refine wp_appK () rfl w5.heap.size rfl O2 rfl E8 (one_cellsK _ _) (by omega) D.size ?_ | refine wp_appK () rfl w5.heap.size rfl (own_drewA O2) rfl E8.drew (one_cellsK _ _) (by omega) D.drew.size ?_); intro A9 c9 w9 own9 hg9 _; (first | replace D := Mem.below_app D hg9 D.size (own_lo O2) | replace D := Mem.below_app D.drew hg9 D.drew.size (own_lo O2)); have O3 := own9; clear O2 E8 own9 hg9 cb; have cb := KB.out _ D)); refine hK.out _ _ ?_ (fun hHeld => ?_); ((try dsimp only); skip); clear hK K)
              try simp only [Act.put, List.setIfInBounds_toArray, List.set_cons_zero, List.set_cons_succ]
              (clear hHeld; refine any_normA (f2 := 3) (l2 := tl14) (by kernel_rfl) (by kernel_rfl) ?_; first | (with_reducible exact LEAF w9 p0 p8 A7 c7 A9 c9 ⟨D, O3⟩) | exact LEAF w9 p0 p8 A7 c7 A9 c9 ⟨D, O3⟩)
      
          · skip
            clear hHeld; go_simp; ((generalize hW : World.alloc _ _ = w8; obtain ⟨p8, hp8, E8⟩ := rd_newP hW; (try rw [← hp8]); (try simp only [World.size_drew] at hp8); (try rw [← hp8]); have hq1 := Nat.le_of_eq hp8; have hq2 := Nat.le_of_eq hp8.symm; clear hp8; have z8 := szA hW; (try simp only [World.size_drew] at z8); (try replace O1 := own_toA O1 hW); (try replace O2 := own_toA O2 hW); replace D := below_toA D hW D.size; clear hW cb; have cb := KB.out _ D)); refine hK.out _ _ ?_ (fun hHeld => ?_); ((try dsimp only); skip); clear hK K
            try simp only [Act.put, List.setIfInBounds_toArray, List.set_cons_zero, List.set_cons_succ]
            first | ((refine Reg.tkB 0 (Reg.get rfl) hHeld ?_)) | (refine wpAnyH_ready (rs := [0]) (by kernel_rfl) (by simp) ?_; refine AllReadyH.cons (Reg.get rfl) (fun K hK => ?_) AllReadyH.nil; clear hHeld; go_simp; ((generalize hW : World.alloc _ _ = w6; obtain ⟨p0, hp0, O1⟩ := own_newP hW D.size; (try rw [← hp0]); (try simp only [World.size_drew] at hp0); (try rw [← hp0]); have hp1 := Nat.le_of_eq hp0; have hp2 := Nat.le_of_eq hp0.symm; clear hp0; have z6 := szA hW; (try simp only [World.size_drew] at z6); (try replace E8 := rd_toA E8 hW); replace D := below_toA D hW D.size; clear hW cb; have cb := KB.out _ D)); refine hK.out _ _ ?_ (fun hHeld => ?_); ((try dsimp only); skip); clear hK K)
            try simp only [Act.put, List.setIfInBounds_toArray, List.set_cons_zero, List.set_cons_succ]
            first | ((refine Reg.tkB 5 (Reg.get rfl) hHeld ?_)) | (refine wpAnyH_ready (rs := [5]) (by kernel_rfl) (by simp) ?_; refine AllReadyH.cons (Reg.get rfl) (fun K hK => ?_) AllReadyH.nil; clear hHeld; (((first | refine wp_appK () rfl w5.heap.size rfl O1 rfl (HTK.out _ D) (one_take HON.out _) (by omega) D.size ?_ | refine wp_appK () rfl w5.heap.size rfl (own_drewA O1) rfl (HTK.out _ D.drew) (one_take HON.out _) (by omega) D.drew.size ?_); intro A7 c7 w7 own7 hg7 _; (try (first | replace E8 := E8.grown hg7 (.inr fun _ e => by simp [blk] at e; omega) | replace E8 := E8.drew.grown hg7 (.inr fun _ e => by simp [blk] at e; omega))); have z7 := hg7.size; (try simp only [World.size_drew] at z7); (first | replace D := Mem.below_app D hg7 D.size (own_lo O1) | replace D := Mem.below_app D.drew hg7 D.drew.size (own_lo O1)); simp only [Nat.zero_add, List.nil_append] at own7 ⊢; have O2 := own7; clear O1 own7 hg7 cb; have cb := KB.out _ D)); refine hK.out _ _ ?_ (fun hHeld => ?_); ((try dsimp only); skip); clear hK K)
            try simp only [Act.put, List.setIfInBounds_toArray, List.set_cons_zero, List.set_cons_succ]
            first | ((refine Reg.tkB 9 (Reg.get rfl) hHeld ?_)) | (refine wpAnyH_ready (rs := [9]) (by kernel_rfl) (by simp) ?_; refine AllReadyH.cons (Reg.get rfl) (fun K hK => ?_) AllReadyH.nil; clear hHeld; (((first | refine wp_appK () rfl w5.heap.size rfl O2 rfl E8 (one_cellsK _ _) (by omega) D.size ?_ | refine wp_appK () rfl w5.heap.size rfl (own_drewA O2) rfl E8.drew (one_cellsK _ _) (by omega) D.drew.size ?_); intro A9 c9 w9 own9 hg9 _; (first | replace D := Mem.below_app D hg9 D.size (own_lo O2) | replace D := Mem.below_app D.drew hg9 D.drew.size (own_lo O2)); have O3 := own9; clear O2 E8 own9 hg9 cb; have cb := KB.out _ D)); refine hK.out _ _ ?_ (fun hHeld => ?_); ((try dsimp only); skip); clear hK K)
            try simp only [Act.put, List.setIfInBounds_toArray, List.set_cons_zero, List.set_cons_succ]
            (clear hHeld; refine any_normA (f2 := 3) (l2 := tl14) (by kernel_rfl) (by kernel_rfl) ?_; first | (with_reducible exact LEAF w9 p0 p8 A7 c7 A9 c9 ⟨D, O3⟩) | exact LEAF w9 p0 p8 A7 c7 A9 c9 ⟨D, O3⟩)
      
        · skip
          clear hHeld; go_simp; ((generalize hW : World.alloc _ _ = w8; obtain ⟨p8, hp8, E8⟩ := rd_newP hW; (try rw [← hp8]); (try simp only [World.size_drew] at hp8); (try rw [← hp8]); have hq1 := Nat.le_of_eq hp8; have hq2 := Nat.le_of_eq hp8.symm; clear hp8; have z8 := szA hW; (try simp only [World.size_drew] at z8); (try replace O1 := own_toA O1 hW); (try replace O2 := own_toA O2 hW); replace D := below_toA D hW D.size; clear hW cb; have cb := KB.out _ D)); refine hK.out _ _ ?_ (fun hHeld => ?_); ((try dsimp only); skip); clear hK K
          try simp only [Act.put, List.setIfInBounds_toArray, List.set_cons_zero, List.set_cons_succ]
          refine wpAnyH_ready (rs := [0, 2]) (by kernel_rfl) (by simp) ?_
          refine (AllReadyH.cons (Reg.get rfl) (fun K hK => ?_) (AllReadyH.cons (Reg.get rfl) (fun K hK => ?_) AllReadyH.nil))
      
          · skip
            clear hHeld; go_simp; ((generalize hW : World.alloc _ _ = w6; obtain ⟨p0, hp0, O1⟩ := own_newP hW D.size; (try rw [← hp0]); (try simp only [World.size_drew] at hp0); (try rw [← hp0]); have hp1 := Nat.le_of_eq hp0; have hp2 := Nat.le_of_eq hp0.symm; clear hp0; have z6 := szA hW; (try simp only [World.size_drew] at z6); (try replace E8 := rd_toA E8 hW); replace D := below_toA D hW D.size; clear hW cb; have cb := KB.out _ D)); refine hK.out _ _ ?_ (fun hHeld => ?_); ((try dsimp only); skip); clear hK K
            try simp only [Act.put, List.setIfInBounds_toArray, List.set_cons_zero, List.set_cons_succ]
            first | ((refine Reg.tkB 2 (Reg.get rfl) hHeld ?_)) | (refine wpAnyH_ready (rs := [2]) (by kernel_rfl) (by simp) ?_; refine AllReadyH.cons (Reg.get rfl) (fun K hK => ?_) AllReadyH.nil; clear hHeld; go_simp; (skip); refine hK.out _ _ ?_ (fun hHeld => ?_); ((try dsimp only); skip); clear hK K)
            try simp only [Act.put, List.setIfInBounds_toArray, List.set_cons_zero, List.set_cons_succ]
            (refine wpAnyH_take (i := 4) (v := .slice A1 a c1) (Reg.get rfl) (by kernel_rfl) (by kernel_rfl) (by kernel_rfl) (fun _ _ _ h => h) (Or.inl ⟨by rfl, ?_⟩) hHeld ?_; (focus (intro wq hSw; (rcases HA1.out with ⟨rfl, rfl, rfl⟩ | ⟨g, rfl⟩); (focus (obtain rfl : a = 0 := (by omega); go_simp <;> rfl)); go_simp <;> rfl)))
            try simp only [Act.put, List.setIfInBounds_toArray, List.set_cons_zero, List.set_cons_succ]
            first | ((refine Reg.tkB 5 (Reg.get rfl) hHeld ?_)) | (refine wpAnyH_ready (rs := [5]) (by kernel_rfl) (by simp) ?_; refine AllReadyH.cons (Reg.get rfl) (fun K hK => ?_) AllReadyH.nil; clear hHeld; (((first | refine wp_appK () rfl w5.heap.size rfl O1 rfl (HTK.out _ D) (one_take HON.out _) (by omega) D.size ?_ | refine wp_appK () rfl w5.heap.size rfl (own_drewA O1) rfl (HTK.out _ D.drew) (one_take HON.out _) (by omega) D.drew.size ?_); intro A7 c7 w7 own7 hg7 _; (try (first | replace E8 := E8.grown hg7 (.inr fun _ e => by simp [blk] at e; omega) | replace E8 := E8.drew.grown hg7 (.inr fun _ e => by simp [blk] at e; omega))); have z7 := hg7.size; (try simp only [World.size_drew] at z7); (first | replace D := Mem.below_app D hg7 D.size (own_lo O1) | replace D := Mem.below_app D.drew hg7 D.drew.size (own_lo O1)); simp only [Nat.zero_add, List.nil_append] at own7 ⊢; have O2 := own7; clear O1 own7 hg7 cb; have cb := KB.out _ D)); refine hK.out _ _ ?_ (fun hHeld => ?_); ((try dsimp only); skip); clear hK K)
            try simp only [Act.put, List.setIfInBounds_toArray, List.set_cons_zero, List.set_cons_succ]
            first | ((refine Reg.tkB 9 (Reg.get rfl) hHeld ?_)) | (refine wpAnyH_ready (rs := [9]) (by kernel_rfl) (by simp) ?_; refine AllReadyH.cons (Reg.get rfl) (fun K hK => ?_) AllReadyH.nil; clear hHeld; (((first | refine wp_appK () rfl w5.heap.size rfl O2 rfl E8 (one_cellsK _ _) (by omega) D.size ?_ | refine wp_appK () rfl w5.heap.size rfl (own_drewA O2) rfl E8.drew (one_cellsK _ _) (by omega) D.drew.size ?_); intro A9 c9 w9 own9 hg9 _; (first | replace D := Mem.below_app D hg9 D.size (own_lo O2) | replace D := Mem.below_app D.drew hg9 D.drew.size (own_lo O2)); have O3 := own9; clear O2 E8 own9 hg9 cb; have cb := KB.out _ D)); refine hK.out _ _ ?_ (fun hHeld => ?_); ((try dsimp only); skip); clear hK K)
            try simp only [Act.put, List.setIfInBounds_toArray, List.set_cons_zero, List.set_cons_succ]
            (clear hHeld; refine any_normA (f2 := 3) (l2 := tl14) (by kernel_rfl) (by kernel_rfl) ?_; first | (with_reducible exact LEAF w9 p0 p8 A7 c7 A9 c9 ⟨D, O3⟩) | exact LEAF w9 p0 p8 A7 c7 A9 c9 ⟨D, O3⟩)
      
          · skip
            clear hHeld; go_simp; (skip); refine hK.out _ _ ?_ (fun hHeld => ?_); ((try dsimp only); skip); clear hK K
            try simp only [Act.put, List.setIfInBounds_toArray, List.set_cons_zero, List.set_cons_succ]
            (refine wpAnyH_take (i := 4) (v := .slice A1 a c1) (Reg.get rfl) (by kernel_rfl) (by kernel_rfl) (by kernel_rfl) (fun _ _ _ h => h) (Or.inl ⟨by rfl, ?_⟩) hHeld ?_; (focus (intro wq hSw; (rcases HA1.out with ⟨rfl, rfl, rfl⟩ | ⟨g, rfl⟩); (focus (obtain rfl : a = 0 := (by omega); go_simp <;> rfl)); go_simp <;> rfl)))
            try simp only [Act.put, List.setIfInBounds_toArray, List.set_cons_zero, List.set_cons_succ]
            first | ((refine Reg.tkB 0 (Reg.get rfl) hHeld ?_)) | (refine wpAnyH_ready (rs := [0]) (by kernel_rfl) (by simp) ?_; refine AllReadyH.cons (Reg.get rfl) (fun K hK => ?_) AllReadyH.nil; clear hHeld; go_simp; ((generalize hW : World.alloc _ _ = w6; obtain ⟨p0, hp0, O1⟩ := own_newP hW D.size; (try rw [← hp0]); (try simp only [World.size_drew] at hp0); (try rw [← hp0]); have hp1 := Nat.le_of_eq hp0; have hp2 := Nat.le_of_eq hp0.symm; clear hp0; have z6 := szA hW; (try simp only [World.size_drew] at z6); (try replace E8 := rd_toA E8 hW); replace D := below_toA D hW D.size; clear hW cb; have cb := KB.out _ D)); refine hK.out _ _ ?_ (fun hHeld => ?_); ((try dsimp only); skip); clear hK K)
            try simp only [Act.put, List.setIfInBounds_toArray, List.set_cons_zero, List.set_cons_succ]
            first | ((refine Reg.tkB 5 (Reg.get rfl) hHeld ?_)) | (refine wpAnyH_ready (rs := [5]) (by kernel_rfl) (by simp) ?_; refine AllReadyH.cons (Reg.get rfl) (fun K hK => ?_) AllReadyH.nil; clear hHeld; (((first | refine wp_appK () rfl w5.heap.size rfl O1 rfl (HTK.out _ D) (one_take HON.out _) (by omega) D.size ?_ | refine wp_appK () rfl w5.heap.size rfl (own_drewA O1) rfl (HTK.out _ D.drew) (one_take HON.out _) (by omega) D.drew.size ?_); intro A7 c7 w7 own7 hg7 _; (try (first | replace E8 := E8.grown hg7 (.inr fun _ e => by simp [blk] at e; omega) | replace E8 := E8.drew.grown hg7 (.inr fun _ e => by simp [blk] at e; omega))); have z7 := hg7.size; (try simp only [World.size_drew] at z7); (first | replace D := Mem.below_app D hg7 D.size (own_lo O1) | replace D := Mem.below_app D.drew hg7 D.drew.size (own_lo O1)); simp only [Nat.zero_add, List.nil_append] at own7 ⊢; have O2 := own7; clear O1 own7 hg7 cb; have cb := KB.out _ D)); refine hK.out _ _ ?_ (fun hHeld => ?_); ((try dsimp only); skip); clear hK K)
            try simp only [Act.put, List.setIfInBounds_toArray, List.set_cons_zero, List.set_cons_succ]
            first | ((refine Reg.tkB 9 (Reg.get rfl) hHeld ?_)) | (refine wpAnyH_ready (rs := [9]) (by kernel_rfl) (by simp) ?_; refine AllReadyH.cons (Reg.get rfl) (fun K hK => ?_) AllReadyH.nil; clear hHeld; (((first | refine wp_appK () rfl w5.heap.size rfl O2 rfl E8 (one_cellsK _ _) (by omega) D.size ?_ | refine wp_appK () rfl w5.heap.size rfl (own_drewA O2) rfl E8.drew (one_cellsK _ _) (by omega) D.drew.size ?_); intro A9 c9 w9 own9 hg9 _; (first | replace D := Mem.below_app D hg9 D.size (own_lo O2) | replace D := Mem.below_app D.drew hg9 D.drew.size (own_lo O2)); have O3 := own9; clear O2 E8 own9 hg9 cb; have cb := KB.out _ D)); refine hK.out _ _ ?_ (fun hHeld => ?_); ((try dsimp only); skip); clear hK K)
            try simp only [Act.put, List.setIfInBounds_toArray, List.set_cons_zero, List.set_cons_succ]
            (clear hHeld; refine any_normA (f2 := 3) (l2 := tl14) (by kernel_rfl) (by kernel_rfl) ?_; first | (with_reducible exact LEAF w9 p0 p8 A7 c7 A9 c9 ⟨D, O3⟩) | exact LEAF w9 p0 p8 A7 c7 A9 c9 ⟨D, O3⟩)
    case leaf =>
      intro w9 p0 p8 A7 c7 A9 c9 hF
      obtain ⟨D, O3⟩ := hF
      have hHeld : True := trivial
      have cb := KB.out _ D
      first | ((refine Reg.tkB 14 (Reg.get rfl) hHeld ?_)) | (refine wpAnyH_ready (rs := [14]) (by kernel_rfl) (by simp) ?_; refine AllReadyH.cons (Reg.get rfl) (fun K hK => ?_) AllReadyH.nil; clear hHeld; (((first | refine wp_appK () rfl w5.heap.size rfl O3 rfl (HDR.out _ D) (one_drop HON.out _) (by omega) D.size ?_ | refine wp_appK () rfl w5.heap.size rfl (own_drewA O3) rfl (HDR.out _ D.drew) (one_drop HON.out _) (by omega) D.drew.size ?_); intro A10 c10 w10 own10 hg10 _; (first | replace D := Mem.below_app D hg10 D.size (own_lo O3) | replace D := Mem.below_app D.drew hg10 D.drew.size (own_lo O3)); have h10 := e10.out; simp only [h10] at own10 ⊢; have O4 := own10; clear O3 own10 hg10 cb h10; have bo2 := Bk.Blk.under D bo; have l16 := bo2.lt; have c16 := Bk.Blk.cell bo2 0; have f16 := Bk.Blk.fro bo2 0)); refine hK.out _ _ ?_ (fun hHeld => ?_); ((try dsimp only); skip); clear hK K)
      try simp only [Act.put, List.setIfInBounds_toArray, List.set_cons_zero, List.set_cons_succ]
      first | refine Reg.tkA 15 (Reg.get rfl) hHeld ?_ | refine Reg.tkB 15 (Reg.get rfl) hHeld ?_
      try simp only [Act.put, List.setIfInBounds_toArray, List.set_cons_zero, List.set_cons_succ]
      first | ((refine Reg.tkB 16 (Reg.get rfl) hHeld ?_)) | (refine wpAnyH_ready (rs := [16]) (by kernel_rfl) (by simp) ?_; refine AllReadyH.cons (Reg.get rfl) (fun K hK => ?_) AllReadyH.nil; clear hHeld; go_simp; (skip); refine hK.out _ _ ?_ (fun hHeld => ?_); ((try dsimp only); skip); clear hK K)
      try simp only [Act.put, List.setIfInBounds_toArray, List.set_cons_zero, List.set_cons_succ]
      refine wpAnyH_done (by kernel_rfl) ?_ _
      clear l16 c16 f16 hHeld bo2
      have zd := D.size
      have HI4 := Lib.hid (HI.out.keep (w' := w10) fun q _ h2 => D.block q (by omega))
      have HO4 := Lib.hid (Own.of O4)
      replace bo : Bk.Blk w10 (w2.heap.size) 39 #[.slice A1 n c1] := Bk.Blk.under D bo
      replace r0 : Bk.Blk w10 (w.heap.size + 1) 39 #[.slice none 0 0] := Bk.Blk.under D r0
      replace B : Below w.heap.size w w10 := B.trans (D.mono (by omega))
      clear O4 D HTK HDR KB HRW HW HO
      generalize hW : World.setCell _ _ _ = w11
      have hk11 : ∀ q, q ≠ w2.heap.size → w11.heap[q]? = w10.heap[q]? := fun q hq => by rw [← hW]; exact Below.heap_setCell _ _ _ q (by simpa using hq)
      replace HI4 := Lib.hid (HI4.out.keep (w' := w11) fun q _ h2 => hk11 q (by omega))
      replace HO4 := Lib.hid (HO4.out.keep (w' := w11) fun q h1 _ => hk11 q (by omega))
      replace bo : Bk.Blk w11 (w2.heap.size) 39 #[.slice A10 (n + 1) c10] := (by rw [← hW]; apply Bk.Blk.to; (focus (exact Bk.sv)); rfl)
      replace r0 : Bk.Blk w11 (w.heap.size + 1) 39 #[.slice none 0 0] := (by rw [← hW]; exact Bk.sv)
      replace B : Below w.heap.size w w11 := (by rw [← hW]; go_grown)
      have z11 : w11.heap.size = _ := congrArg (fun W : World => W.heap.size) hW.symm
      (try simp only [World.size_alloc, Bk.size_set, World.size_drew, World.drewN] at z11)
      clear hW
      clear hk11
      have l_bo : w2.heap.size < w11.heap.size := Bk.Blk.lt bo
      have c_bo0 : w11.cell? ⟨w2.heap.size, 0, none⟩ = some (.slice A10 (n + 1) c10) := Bk.Blk.cell bo 0
      have f_bo0 : w11.frozen? ⟨w2.heap.size, 0, none⟩ = false := Bk.Blk.fro bo 0
      have l_r0 : w.heap.size + 1 < w11.heap.size := Bk.Blk.lt r0
      have c_r00 : w11.cell? ⟨w.heap.size + 1, 0, none⟩ = some (.slice none 0 0) := Bk.Blk.cell r0 0
      have f_r00 : w11.frozen? ⟨w.heap.size + 1, 0, none⟩ = false := Bk.Blk.fro r0 0
      go_wp2_with fail
      clear l_bo c_bo0 f_bo0 l_r0 c_r00 f_r00
      generalize hW : World.setCell _ _ _ = w12
      have hs12 : w12.heap.size = w11.heap.size := by rw [← hW]; exact Bk.size_set _ _ _
      have hk12 : ∀ q, q ≠ w.heap.size + 1 → w12.heap[q]? = w11.heap[q]? := fun q hq => by rw [← hW]; exact Below.heap_setCell _ _ _ q (by simpa using hq)
      have HP := Lib.hid (OwnPB.rowO (ins_own (w := w12) (L := w1.heap.size) (h2 := w12.heap.size) (e := ⟨st, false, [], 0⟩) (s := (none, 0, 0)) HC.out HK.out HE.out han (HI4.out.keep (w' := w12) fun q h1 h2 => hk12 q (by omega)) ⟨rfl, [], rfl, ⟨⟨rfl, .inl ⟨rfl, rfl⟩⟩, fun q hq => by cases hq⟩, ⟨fun i h => absurd h (Nat.not_lt_zero _), fun i j _ h => absurd h (Nat.not_lt_zero _)⟩⟩ (by omega) (by omega) (Nat.le_refl _) (Nat.le_refl _) (own_monoA (HO4.out.keep (w' := w12) fun q h1 _ => hk12 q (by omega)).1 (by omega))) (show w.heap.size ≤ w1.heap.size by omega) (Nat.le_refl _))
      clear hs12 hk12
      replace r0 : Bk.Blk w12 (w.heap.size + 1) 39 #[.slice A10 (n + 1) c10] := (by rw [← hW]; apply Bk.Blk.to; (focus (exact Bk.sv)); rfl)
      replace B : Below w.heap.size w w12 := (by rw [← hW]; go_grown)
      have z12 : w12.heap.size = _ := congrArg (fun W : World => W.heap.size) hW.symm
      (try simp only [World.size_alloc, Bk.size_set, World.size_drew, World.drewN] at z12)
      clear hW
      have l_r0 : w.heap.size + 1 < w12.heap.size := Bk.Blk.lt r0
      have c_r00 : w12.cell? ⟨w.heap.size + 1, 0, none⟩ = some (.slice A10 (n + 1) c10) := Bk.Blk.cell r0 0
      go_wp2
      refine bodyPost_ret (v := .tuple #[.agg #[.slice A10 (n + 1) c10], .bool true]) (by simp [results, Try.results37, go_sem, c_r00]) rfl (⟨a, HA.out, A10, c10, rfl, HP.out, B⟩)
end Go.Proofs.Ythdieeaegplnmaa.Pb
