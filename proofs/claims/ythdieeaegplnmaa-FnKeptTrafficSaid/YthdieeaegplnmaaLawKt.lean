/- The walk of the law of the traffic that is kept for a station. -/
import Derived.Test.YthdieeaegplnmaaKtL
import Derived.Test.YthdieeaegplnmaaPbEq
import Derived.Test.YthdieeaegplnmaaPbQ
import Derived.Test.YthdieeaegplnmaaDrawQ
import Derived.Test.YthdieeaegplnmaaAt
import Derived.Deep.CutBlock
namespace Go.Proofs.Ythdieeaegplnmaa.Pb
open Go.RowKit
open Go.Proofs.Ythdieeaegplnmaa.Num Go.Proofs.Ythdieeaegplnmaa.Mem Go.Proofs.Ythdieeaegplnmaa.Hsh Go.Proofs.Ythdieeaegplnmaa.Sls Go.Proofs.Ythdieeaegplnmaa.Own Go.Proofs.Ythdieeaegplnmaa.SS Go.Proofs.Ythdieeaegplnmaa.Gb
set_option linter.unusedSimpArgs false
set_option linter.unusedVariables false
/-- one frame more for the station -/
theorem keep_q (A : Option Addr) (n c : Nat) (ks : List Kt) (j s i : Nat) (D : Option Addr) (d : Nat) (w : World) (h : Ready ks n j s) (hi : i < 9) (hd : Rd w 1 D 1 d [.int .u8 (i : Int)]) (hr : RdPB w A n c (qK ks j s i)) :
    Calls Try.prog 44 #[.agg #[.slice A n c], .int .i64 (s : Int), .slice D 1 d] w (RetPN w n (qK ks j s (i + 1)) false) := by
  have hn : n ≤ 1048577 := by have := h.2.2.1; omega
  have hf := good_few (qK_good (i := i) h (by omega))
  have hF : FindR (qK ks j s i) s n (j : Int) := stK_find h
  have ha : (nthK (qK ks j s i) j).ap = true := by rw [qK_nth h]
  rcases Nat.lt_or_ge i 6 with h6 | h6
  · rw [← qK_keep h h6]
    exact keepN_keep A n c _ s j D 1 d [(i : Int)] w hF h.2.1 ha (by rw [qK_nth h, show min i 6 = i by omega]; show (frs i).length < 6; rw [frs_len]; exact h6) (by omega) hd hr hn hf
  · rw [← qK_full h h6 (by omega)]
    exact keepN_full A n c _ s j D 1 d w hF h.2.1 ha (.inl (by rw [qK_nth h, show min i 6 = 6 by omega]; show 6 ≤ (frs 6).length; rw [frs_len]; omega)) (by omega) hr hn hf
theorem kept_st {ks : List Kt} {n j s : Nat} {ap : Bool} {fs : List (List Int)} {lo : Int} (h : Ready ks n j s) {i : Int} (hi : FindR (stK ks j s ap fs lo) s n i) : (if i < 0 then (0 : Int) else ((nthK (stK ks j s ap fs lo) i.toNat).fs.length : Int)) = (fs.length : Int) := by
  obtain rfl := find_one (stK_find h) hi
  rw [if_neg (by omega), Int.toNat_natCast, stK_nth h]
theorem ready_find {ks : List Kt} {n j s : Nat} (h : Ready ks n j s) : FindR ks s n (j : Int) := by
  have h2 := stK_find (ap := false) (fs := []) (lo := 0) h
  rwa [stK_self h] at h2
theorem kept_none {ks : List Kt} {n j s : Nat} (h : Ready ks n j s) {i : Int} (hi : FindR ks s n i) : (if i < 0 then (0 : Int) else ((nthK ks i.toNat).fs.length : Int)) = 0 := by
  have h2 := stK_self h
  rw [← h2] at hi ⊢
  exact kept_st h hi
theorem asleep_q {ks : List Kt} {n j s : Nat} (h : Ready ks n j s) : ks.set j { nthK ks j with ap := true } = qK ks j s 0 := by
  rw [qK_zero, h.2.2.2.1]; rfl
theorem poll_q (A : Option Addr) (n c : Nat) (ks : List Kt) (j s i : Nat) (w : World) (h : Ready ks n j s) (hi : i ≤ 9) (h1 : 1 ≤ i) (hr : RdPB w A n c (qK ks j s i)) :
    Calls Try.prog 49 #[.agg #[.slice A n c], .int .i64 (s : Int)] w (RetPP w n (stK ks j s true (frs (min i 6)).tail ((i - min i 6 : Nat) : Int)) [0] (decide (1 < min i 6)) true) := by
  have hf := good_few (qK_good (i := i) h hi)
  have hF : FindR (qK ks j s i) s n (j : Int) := stK_find h
  have hp := pollP_some A n c (qK ks j s i) s j w hF h.2.1 (by rw [qK_nth h]; show 0 < (frs (min i 6)).length; rw [frs_len]; omega) hr (by have := h.2.2.1; omega) hf
  rw [qK_nth h] at hp
  have e1 : (qK ks j s i).set j ⟨(s : Int), true, (frs (min i 6)).tail, ((i - min i 6 : Nat) : Int)⟩ = stK ks j s true (frs (min i 6)).tail ((i - min i 6 : Nat) : Int) := stK_set _ rfl
  have e2 : (frs (min i 6)).getD 0 [] = [0] := frs_at (by omega)
  have e3 : (frs (min i 6)).length = min i 6 := frs_len _
  simp only [e1, e2, e3] at hp
  exact hp
theorem wake_q (A : Option Addr) (n c : Nat) (ks : List Kt) (j s : Nat) (fs : List (List Int)) (lo : Int) (w : World) (h : Ready ks n j s) (hg : GoodP (stK ks j s true fs lo) n 14) (hr : RdPB w A n c (stK ks j s true fs lo)) :
    Calls Try.prog 46 #[.agg #[.slice A n c], .int .i64 (s : Int), .bool false] w (RetPF w n (stK ks j s false [] lo) fs) := by
  have hp := setA_false A n c _ s j w (stK_find h) h.2.1 hr (by have := h.2.2.1; omega) (good_few hg)
  rw [stK_nth h] at hp
  have e1 : (stK ks j s true fs lo).set j ⟨(s : Int), false, fs, lo⟩ = stK ks j s false fs lo := stK_set _ rfl
  simp only [e1] at hp
  rw [stK_nth h] at hp
  have e2 : (stK ks j s false fs lo).set j ⟨(s : Int), false, [], lo⟩ = stK ks j s false [] lo := stK_set _ rfl
  simp only [e2] at hp
  exact hp
theorem minI_nat (n : Nat) : minI (n : Int) 6 = ((min n 6 : Nat) : Int) := by unfold minI; split <;> omega
set_option maxRecDepth 100000 in
set_option maxHeartbeats 16000000 in
theorem kt_law (A : Option Addr) (n c : Nat) (zs : List Int) (w : World) (hrow : RowIn .u8 w A n c zs) :
    Calls Try.prog 7 #[.slice A n c] w fun e w' => e = .returned (.bool true) ∧ Below w.heap.size w w' := by
  have HR := Lib.hid hrow.1
  have HB := Lib.hid (bytes_of_row hrow)
  have B : Below w.heap.size w w := Below.refl _ _
  clear hrow
  by_cases hbig : 1048576 < (n : Int)
  · go_enter Try.func7, Try.ntmps7
    go_wp2_with (first | (go_at_call 19; refine (big_any _ _ _ _).mono ?_; rintro e w' ⟨rfl, rfl⟩))
    go_ret
    exact ⟨rfl, B⟩
  · have hn : n ≤ 2097152 := by omega
    go_enter Try.func7, Try.ntmps7
    go_wp2_with (first | (go_at_call 19; refine (big_any _ _ _ _).mono ?_; rintro e w' ⟨rfl, rfl⟩))
    refine (drawKept_any A n c zs _ HR.out HB.out hn).mono ?_
    rintro x w1 ⟨N, ks, Ap, cp, s, hN, hgd, hs, rfl, hpi, hb0⟩
    obtain ⟨s, rfl⟩ := Int.eq_ofNat_of_zero_le hs.1
    have hs15 : s ≤ 15 := by omega
    have HGD := Lib.hid hgd
    have RP := Lib.hid hpi
    clear hgd hpi
    replace B : Below w.heap.size w w1 := Below.trans (by go_grown) (hb0.mono (by first | omega | (simp [Bk.size_set]; done) | (simp [Bk.size_set]; omega)))
    have z1 := hb0.size
    (try simp only [World.size_alloc, Bk.size_set, World.size_drew, World.drewN] at z1)
    clear hb0
    go_wp2_with fail
    generalize hW : World.alloc _ _ = w2
    replace RP := Lib.hid (RP.out.keep (w' := w2) fun q _ h2 => by rw [← hW]; exact Below.heap_alloc _ _ q h2)
    have b3 : Bk.Blk w2 (w1.heap.size) 39 #[.slice Ap N cp] := (by rw [← hW]; apply Bk.Blk.to; (focus (exact Bk.sv)); rfl)
    replace B : Below w.heap.size w w2 := (by rw [← hW]; go_grown)
    have z2 : w2.heap.size = _ := congrArg (fun W : World => W.heap.size) hW.symm
    (try simp only [World.size_alloc, Bk.size_set, World.size_drew, World.drewN] at z2)
    clear hW
    refine (validPb_impl Ap N cp ks _ RP.out.rd).mono ?_
    rintro x w3 hsay
    obtain ⟨rfl, hb0⟩ := says_true hsay HGD.out.1
    clear hsay
    replace RP := Lib.hid (RP.out.keep (w' := w3) fun q _ h2 => hb0.block q (by omega))
    replace b3 : Bk.Blk w3 (w1.heap.size) 39 #[.slice Ap N cp] := Bk.Blk.under hb0 (by exact Bk.sv)
    replace B : Below w.heap.size w w3 := Below.trans (by go_grown) (hb0.mono (by first | omega | (simp [Bk.size_set]; done) | (simp [Bk.size_set]; omega)))
    have z3 := hb0.size
    (try simp only [World.size_alloc, Bk.size_set, World.size_drew, World.drewN] at z3)
    clear hb0
    have l_b3 : w1.heap.size < w3.heap.size := Bk.Blk.lt b3
    have c_b30 : w3.cell? ⟨w1.heap.size, 0, none⟩ = some (.slice Ap N cp) := Bk.Blk.cell b3 0
    have f_b30 : w3.frozen? ⟨w1.heap.size, 0, none⟩ = false := Bk.Blk.fro b3 0
    go_wp2_with fail
    clear l_b3 c_b30 f_b30
    refine (drop_impl Ap N cp ks s _ RP.out.rd (by omega) (good_few HGD.out)).mono ?_
    rintro x w4 ⟨A2, c2, rfl, hown, hb0⟩
    have RD := Lib.hid hown.rd
    have hdg := drop_good (s : Int) HGD.out N (Nat.le_refl _)
    have hdl := drop_le ks (s : Int) N
    clear hown RP HGD
    generalize dropK ks (s : Int) N = ls at *
    generalize hm : ls.length = m at *
    have HDG := Lib.hid hdg
    clear hdg hm
    replace b3 : Bk.Blk w4 (w1.heap.size) 39 #[.slice Ap N cp] := Bk.Blk.under hb0 (by exact Bk.sv)
    replace B : Below w.heap.size w w4 := Below.trans (by go_grown) (hb0.mono (by first | omega | (simp [Bk.size_set]; done) | (simp [Bk.size_set]; omega)))
    have z4 := hb0.size
    (try simp only [World.size_alloc, Bk.size_set, World.size_drew, World.drewN] at z4)
    clear hb0
    have l_b3 : w1.heap.size < w4.heap.size := Bk.Blk.lt b3
    have c_b30 : w4.cell? ⟨w1.heap.size, 0, none⟩ = some (.slice Ap N cp) := Bk.Blk.cell b3 0
    have f_b30 : w4.frozen? ⟨w1.heap.size, 0, none⟩ = false := Bk.Blk.fro b3 0
    go_wp2_with fail
    clear l_b3 c_b30 f_b30
    refine (addI_ok A2 m c2 ls s _ HDG.out.1.1 (by omega) (by omega) (.inl ⟨rfl, HDG.out.2.2⟩) RD.out (by omega) (good_few HDG.out.1)).mono ?_
    rintro x w5 ⟨a, ha, A3, c3, rfl, hown, hb0⟩
    have RY := Lib.hid (ready_ins HDG.out.1 (by omega) hs15 HDG.out.2.2 ha)
    have RP := Lib.hid (hown.pbIn (l2 := w4.heap.size) (h2 := w5.heap.size) (Nat.le_refl _) (Nat.le_refl _))
    have hm15 := RY.out.2.2.1
    clear hown ha RD HDG
    generalize insK ls a ⟨(s : Int), false, [], 0⟩ = k0 at *
    clear hdl
    generalize hm1 : m + 1 = m1 at *
    replace b3 : Bk.Blk w5 (w1.heap.size) 39 #[.slice Ap N cp] := Bk.Blk.under hb0 (by exact Bk.sv)
    replace B : Below w.heap.size w w5 := Below.trans (by go_grown) (hb0.mono (by first | omega | (simp [Bk.size_set]; done) | (simp [Bk.size_set]; omega)))
    have z5 := hb0.size
    (try simp only [World.size_alloc, Bk.size_set, World.size_drew, World.drewN] at z5)
    clear hb0
    have l_b3 : w1.heap.size < w5.heap.size := Bk.Blk.lt b3
    have c_b30 : w5.cell? ⟨w1.heap.size, 0, none⟩ = some (.slice Ap N cp) := Bk.Blk.cell b3 0
    have f_b30 : w5.frozen? ⟨w1.heap.size, 0, none⟩ = false := Bk.Blk.fro b3 0
    go_wp2_with fail
    clear l_b3 c_b30 f_b30
    generalize hW : World.alloc _ _ = w6
    replace RP := Lib.hid (RP.out.keep (w' := w6) fun q h1 h2 => by rw [← hW]; exact (Below.heap_alloc _ _ q (by simp only [Bk.size_set]; exact h2)).trans (Below.heap_setCell _ _ _ q (by simp; omega)))
    have RB := Lib.hid (show Rd w6 1 (some ⟨w5.heap.size, 0, none⟩) 1 1 [.int .u8 1] from by rw [← hW, ← Bk.size_set w5 ⟨w1.heap.size, 0, none⟩ (.slice A3 m1 c3)]; exact Rd.one _ _ _)
    replace b3 : Bk.Blk w6 (w1.heap.size) 39 #[.slice A3 m1 c3] := (by rw [← hW]; apply Bk.Blk.to; (focus (exact Bk.sv)); rfl)
    replace B : Below w.heap.size w w6 := (by rw [← hW]; go_grown)
    have z6 : w6.heap.size = _ := congrArg (fun W : World => W.heap.size) hW.symm
    (try simp only [World.size_alloc, Bk.size_set, World.size_drew, World.drewN] at z6)
    clear hW
    refine (keepN_awake A3 m1 c3 k0 s a _ 1 1 _ (ready_find RY.out) RY.out.2.1 (by rw [RY.out.2.2.2.1]) RP.out.rd (by omega) (good_few RY.out.1)).mono ?_
    rintro x w7 ⟨A4, c4, rfl, hp4, hb0⟩
    replace RP := Lib.hid (RP.out.keep (w' := w7) fun q _ h2 => hb0.block q (by omega))
    have R4 := Lib.hid hp4
    clear hp4 RB
    replace b3 : Bk.Blk w7 (w1.heap.size) 39 #[.slice A3 m1 c3] := Bk.Blk.under hb0 (by exact Bk.sv)
    replace B : Below w.heap.size w w7 := Below.trans (by go_grown) (hb0.mono (by first | omega | (simp [Bk.size_set]; done) | (simp [Bk.size_set]; omega)))
    have z7 := hb0.size
    (try simp only [World.size_alloc, Bk.size_set, World.size_drew, World.drewN] at z7)
    clear hb0
    have l_b3 : w1.heap.size < w7.heap.size := Bk.Blk.lt b3
    have c_b30 : w7.cell? ⟨w1.heap.size, 0, none⟩ = some (.slice A3 m1 c3) := Bk.Blk.cell b3 0
    have f_b30 : w7.frozen? ⟨w1.heap.size, 0, none⟩ = false := Bk.Blk.fro b3 0
    go_wp2_with fail
    clear l_b3 c_b30 f_b30
    generalize hW : World.alloc _ _ = w8
    replace RP := Lib.hid (RP.out.keep (w' := w8) fun q _ h2 => by rw [← hW]; exact Below.heap_alloc _ _ q (by omega))
    replace R4 := Lib.hid (R4.out.keep (w' := w8) fun q _ h2 => by rw [← hW]; exact Below.heap_alloc _ _ q (by omega))
    replace b3 : Bk.Blk w8 (w1.heap.size) 39 #[.slice A3 m1 c3] := (by rw [← hW]; exact Bk.sv)
    replace B : Below w.heap.size w w8 := (by rw [← hW]; go_grown)
    have z8 : w8.heap.size = _ := congrArg (fun W : World => W.heap.size) hW.symm
    (try simp only [World.size_alloc, Bk.size_set, World.size_drew, World.drewN] at z8)
    clear hW
    refine (kept_impl A4 m1 c4 k0 s _ R4.out.rd).mono ?_
    rintro x w9 ⟨i, hi, rfl, hb0⟩
    rw [kept_none RY.out hi]
    replace RP := Lib.hid (RP.out.keep (w' := w9) fun q _ h2 => hb0.block q (by omega))
    clear hi R4
    replace b3 : Bk.Blk w9 (w1.heap.size) 39 #[.slice A3 m1 c3] := Bk.Blk.under hb0 (by exact Bk.sv)
    replace B : Below w.heap.size w w9 := Below.trans (by go_grown) (hb0.mono (by first | omega | (simp [Bk.size_set]; done) | (simp [Bk.size_set]; omega)))
    have z9 := hb0.size
    (try simp only [World.size_alloc, Bk.size_set, World.size_drew, World.drewN] at z9)
    clear hb0
    have l_b3 : w1.heap.size < w9.heap.size := Bk.Blk.lt b3
    have c_b30 : w9.cell? ⟨w1.heap.size, 0, none⟩ = some (.slice A3 m1 c3) := Bk.Blk.cell b3 0
    have f_b30 : w9.frozen? ⟨w1.heap.size, 0, none⟩ = false := Bk.Blk.fro b3 0
    go_wp2_with fail
    clear l_b3 c_b30 f_b30
    refine (setA_true A3 m1 c3 k0 s a _ (ready_find RY.out) RY.out.2.1 RP.out.rd (by omega) (good_few RY.out.1)).mono ?_
    rintro x w10 ⟨A5, c5, F5, m5, d5, rfl, hp5, _, hb0⟩
    rw [asleep_q RY.out] at hp5
    have RQ := Lib.hid hp5
    clear hp5 RP
    replace b3 : Bk.Blk w10 (w1.heap.size) 39 #[.slice A3 m1 c3] := Bk.Blk.under hb0 (by exact Bk.sv)
    replace B : Below w.heap.size w w10 := Below.trans (by go_grown) (hb0.mono (by first | omega | (simp [Bk.size_set]; done) | (simp [Bk.size_set]; omega)))
    have z10 := hb0.size
    (try simp only [World.size_alloc, Bk.size_set, World.size_drew, World.drewN] at z10)
    clear hb0
    clear b3
    go_wp2_with fail
    generalize hW : World.alloc _ _ = w11
    replace RQ := Lib.hid (RQ.out.keep (w' := w11) fun q _ h2 => by rw [← hW]; exact Below.heap_alloc _ _ q h2)
    have b8 : Bk.Blk w11 (w10.heap.size) 39 #[.slice A5 m1 c5] := (by rw [← hW]; apply Bk.Blk.to; (focus (exact Bk.sv)); rfl)
    replace B : Below w.heap.size w w11 := (by rw [← hW]; go_grown)
    have z11 : w11.heap.size = _ := congrArg (fun W : World => W.heap.size) hW.symm
    (try simp only [World.size_alloc, Bk.size_set, World.size_drew, World.drewN] at z11)
    clear hW
    refine (at_any A n c zs 0 _ (HR.out.below B) HB.out hn (by omega) (by omega)).mono ?_
    rintro e w' ⟨y, ⟨y0, y1⟩, rfl, rfl⟩
    have t0 := Int.emod_nonneg y (show (9 : Int) ≠ 0 by omega)
    have t1 := Int.emod_lt_of_pos y (show (0 : Int) < 9 by omega)
    obtain ⟨K, hK⟩ := Int.eq_ofNat_of_zero_le (show 0 ≤ 1 + y % 9 by omega)
    have k1 : 1 ≤ K := by omega
    have k9 : K ≤ 9 := by omega
    go_wp2_with fail
    clear hK t0 t1 y0 y1
    go_loopw [11] (fun v11 wr => ∃ (i lo hi : Nat) (Aq : Option Addr) (cq : Nat), i ≤ K ∧ v11 = .int .i64 (i : Int) ∧ PbIn wr lo hi Aq m1 cq (qK k0 a s i) ∧ (hi ≤ w10.heap.size ∨ w10.heap.size < lo) ∧ hi ≤ wr.heap.size ∧ Bk.Blk wr w10.heap.size 39 #[.slice Aq m1 cq] ∧ w10.heap.size < wr.heap.size ∧ Below w.heap.size w wr) (fun v11 _ => K - (intOf v11).toNat)
    case atStart => exact ⟨0, _, _, A5, c5, Nat.zero_le _, rfl, RQ.out, .inl (Nat.le_refl _), by omega, b8, by omega, B⟩
    case round =>
      clear RQ b8 B
      obtain ⟨i, lo, hi, Aq, cq, hiK, rfl, hpq, hlo, hhi, b8, hg8, B⟩ := hrel
      obtain ⟨w20, hw20⟩ : ∃ W, W = wr := ⟨_, rfl⟩
      subst hw20
      have RQ := Lib.hid hpq
      clear hpq
      by_cases hlt : i < K
      · have hw8 : IntKind.u8.wrap (i : Int) = (i : Int) := by rw [IntKind.wrap_u8]; omega
        have l_b8 : w10.heap.size < w20.heap.size := Bk.Blk.lt b8
        have c_b80 : w20.cell? ⟨w10.heap.size, 0, none⟩ = some (.slice Aq m1 cq) := Bk.Blk.cell b8 0
        have f_b80 : w20.frozen? ⟨w10.heap.size, 0, none⟩ = false := Bk.Blk.fro b8 0
        go_wp2_with fail
        clear l_b8 c_b80 f_b80
        generalize hW : World.alloc _ _ = w21
        have RB := Lib.hid (rd_oneA hW)
        replace RQ := Lib.hid (RQ.out.keep (w' := w21) fun q _ h2 => by rw [← hW]; exact Below.heap_alloc _ _ q (by omega))
        replace b8 : Bk.Blk w21 (w10.heap.size) 39 #[.slice Aq m1 cq] := (by rw [← hW]; exact Bk.sv)
        replace B : Below w.heap.size w w21 := (by rw [← hW]; go_grown)
        have z21 : w21.heap.size = _ := congrArg (fun W : World => W.heap.size) hW.symm
        (try simp only [World.size_alloc, Bk.size_set, World.size_drew, World.drewN] at z21)
        clear hW
        refine (keep_q Aq m1 cq k0 a s i _ 1 _ RY.out (by omega) RB.out RQ.out.rd).mono ?_
        rintro x w22 ⟨A6, c6, rfl, hp6, hb0⟩
        have RQ2 := Lib.hid hp6
        clear hp6 RQ RB
        replace b8 : Bk.Blk w22 (w10.heap.size) 39 #[.slice Aq m1 cq] := Bk.Blk.under hb0 (by exact Bk.sv)
        replace B : Below w.heap.size w w22 := Below.trans (by go_grown) (hb0.mono (by first | omega | (simp [Bk.size_set]; done) | (simp [Bk.size_set]; omega)))
        have z22 := hb0.size
        (try simp only [World.size_alloc, Bk.size_set, World.size_drew, World.drewN] at z22)
        clear hb0
        have l_b8 : w10.heap.size < w22.heap.size := Bk.Blk.lt b8
        have c_b80 : w22.cell? ⟨w10.heap.size, 0, none⟩ = some (.slice Aq m1 cq) := Bk.Blk.cell b8 0
        have f_b80 : w22.frozen? ⟨w10.heap.size, 0, none⟩ = false := Bk.Blk.fro b8 0
        go_wp2_with fail
        clear l_b8 c_b80 f_b80
        generalize hW : World.alloc _ _ = w23
        replace RQ2 := Lib.hid (RQ2.out.keep (w' := w23) fun q h1 h2 => by rw [← hW]; exact (Below.heap_alloc _ _ q (by simp only [Bk.size_set]; exact h2)).trans (Below.heap_setCell _ _ _ q (by simp; omega)))
        replace b8 : Bk.Blk w23 (w10.heap.size) 39 #[.slice A6 m1 c6] := (by rw [← hW]; apply Bk.Blk.to; (focus (exact Bk.sv)); rfl)
        replace B : Below w.heap.size w w23 := (by rw [← hW]; go_grown)
        have z23 : w23.heap.size = _ := congrArg (fun W : World => W.heap.size) hW.symm
        (try simp only [World.size_alloc, Bk.size_set, World.size_drew, World.drewN] at z23)
        clear hW
        go_roundw
        case rel => exact ⟨i + 1, _, _, A6, c6, by omega, by go_num, RQ2.out, .inr (by omega), by omega, b8, by omega, B⟩
        case measure => simp [intOf]; omega
      · obtain rfl : i = K := by omega
        have l_b8 : w10.heap.size < w20.heap.size := Bk.Blk.lt b8
        have c_b80 : w20.cell? ⟨w10.heap.size, 0, none⟩ = some (.slice Aq m1 cq) := Bk.Blk.cell b8 0
        have f_b80 : w20.frozen? ⟨w10.heap.size, 0, none⟩ = false := Bk.Blk.fro b8 0
        go_wp2_with (first | (go_at_call 47; refine (min_spec _ _ _).mono ?_; rintro e w' ⟨rfl, rfl⟩; rw [minI_nat]))
        clear l_b8 c_b80 f_b80
        have hq1 : 1 ≤ min i 6 := by omega
        have hq6 : min i 6 ≤ 6 := by omega
        refine (kept_impl Aq m1 cq _ s _ RQ.out.rd).mono ?_
        rintro x w21 ⟨e, he, rfl, hb0⟩
        rw [show (if e < 0 then (0 : Int) else ((nthK (qK k0 a s i) e.toNat).fs.length : Int)) = ((min i 6 : Nat) : Int) from (kept_st RY.out he).trans (by rw [frs_len])]
        replace RQ := Lib.hid (RQ.out.keep (w' := w21) fun q _ h2 => hb0.block q (by omega))
        clear he
        replace b8 : Bk.Blk w21 (w10.heap.size) 39 #[.slice Aq m1 cq] := Bk.Blk.under hb0 (by exact Bk.sv)
        replace B : Below w.heap.size w w21 := Below.trans (by go_grown) (hb0.mono (by first | omega | (simp [Bk.size_set]; done) | (simp [Bk.size_set]; omega)))
        have z21 := hb0.size
        (try simp only [World.size_alloc, Bk.size_set, World.size_drew, World.drewN] at z21)
        clear hb0
        have l_b8 : w10.heap.size < w21.heap.size := Bk.Blk.lt b8
        have c_b80 : w21.cell? ⟨w10.heap.size, 0, none⟩ = some (.slice Aq m1 cq) := Bk.Blk.cell b8 0
        have f_b80 : w21.frozen? ⟨w10.heap.size, 0, none⟩ = false := Bk.Blk.fro b8 0
        go_wp2_with fail
        clear l_b8 c_b80 f_b80
        refine (tim_impl Aq m1 cq _ _ RQ.out.rd).mono ?_
        rintro x w22 ⟨rfl, hb0⟩
        have hbt : bits .and .i64 (timK (qK k0 a s i) m1 / 2 ^ s) 1 = 1 := stK_on RY.out (by rw [frs_len]; omega)
        generalize timK (qK k0 a s i) m1 = T at *
        replace RQ := Lib.hid (RQ.out.keep (w' := w22) fun q _ h2 => hb0.block q (by omega))
        replace b8 : Bk.Blk w22 (w10.heap.size) 39 #[.slice Aq m1 cq] := Bk.Blk.under hb0 (by exact Bk.sv)
        replace B : Below w.heap.size w w22 := Below.trans (by go_grown) (hb0.mono (by first | omega | (simp [Bk.size_set]; done) | (simp [Bk.size_set]; omega)))
        have z22 := hb0.size
        (try simp only [World.size_alloc, Bk.size_set, World.size_drew, World.drewN] at z22)
        clear hb0
        have l_b8 : w10.heap.size < w22.heap.size := Bk.Blk.lt b8
        have c_b80 : w22.cell? ⟨w10.heap.size, 0, none⟩ = some (.slice Aq m1 cq) := Bk.Blk.cell b8 0
        have f_b80 : w22.frozen? ⟨w10.heap.size, 0, none⟩ = false := Bk.Blk.fro b8 0
        go_wp2_with fail
        clear l_b8 c_b80 f_b80
        refine (validPb_impl Aq m1 cq _ _ RQ.out.rd).mono ?_
        rintro x w23 hsay
        obtain ⟨rfl, hb0⟩ := says_true hsay (qK_good RY.out k9).1
        clear hsay
        replace RQ := Lib.hid (RQ.out.keep (w' := w23) fun q _ h2 => hb0.block q (by omega))
        replace b8 : Bk.Blk w23 (w10.heap.size) 39 #[.slice Aq m1 cq] := Bk.Blk.under hb0 (by exact Bk.sv)
        replace B : Below w.heap.size w w23 := Below.trans (by go_grown) (hb0.mono (by first | omega | (simp [Bk.size_set]; done) | (simp [Bk.size_set]; omega)))
        have z23 := hb0.size
        (try simp only [World.size_alloc, Bk.size_set, World.size_drew, World.drewN] at z23)
        clear hb0
        have l_b8 : w10.heap.size < w23.heap.size := Bk.Blk.lt b8
        have c_b80 : w23.cell? ⟨w10.heap.size, 0, none⟩ = some (.slice Aq m1 cq) := Bk.Blk.cell b8 0
        have f_b80 : w23.frozen? ⟨w10.heap.size, 0, none⟩ = false := Bk.Blk.fro b8 0
        go_wp2_with fail
        clear l_b8 c_b80 f_b80
        refine (poll_q Aq m1 cq k0 a s i _ RY.out k9 k1 RQ.out.rd).mono ?_
        rintro x w24 ⟨A7, c7, D7, m7, d7, rfl, hp7, ⟨hd7, _⟩, hb0⟩
        have R7 := Lib.hid hp7
        have RD7 := Lib.hid hd7
        have hgd := Lib.hid (stK_good (ap := true) (fs := (frs (min i 6)).tail) (lo := ((i - min i 6 : Nat) : Int)) RY.out (by rw [frt_len]; omega) (.inl rfl) (by omega) (by omega) fun k => frt_short _ k)
        have hgw := Lib.hid (stK_good (ap := false) (fs := []) (lo := ((i - min i 6 : Nat) : Int)) RY.out (by simp) (.inr rfl) (by omega) (by omega) fun k => by simp)
        have HT := Lib.hid (fun k (h : k + 1 < min i 6) => frt_at h)
        have HTL := Lib.hid (frt_len (min i 6))
        clear hp7 hd7 RQ b8
        replace B : Below w.heap.size w w24 := Below.trans (by go_grown) (hb0.mono (by first | omega | (simp [Bk.size_set]; done) | (simp [Bk.size_set]; omega)))
        have z24 := hb0.size
        (try simp only [World.size_alloc, Bk.size_set, World.size_drew, World.drewN] at z24)
        clear hb0
        go_wp2_with fail
        generalize hW : World.alloc _ _ = w25
        replace R7 := Lib.hid (R7.out.keep (w' := w25) fun q _ h2 => by rw [← hW]; exact Below.heap_alloc _ _ q h2)
        replace RD7 := Lib.hid (RD7.out.below (show Below w24.heap.size w24 w25 from by rw [← hW]; go_grown))
        replace B : Below w.heap.size w w25 := (by rw [← hW]; go_grown)
        have z25 : w25.heap.size = _ := congrArg (fun W : World => W.heap.size) hW.symm
        (try simp only [World.size_alloc, Bk.size_set, World.size_drew, World.drewN] at z25)
        clear hW
        generalize (frs (min i 6)).tail = rs at *
        generalize ((i - min i 6 : Nat) : Int) = lo2 at *
        refine (wake_q A7 m1 c7 k0 a s rs lo2 _ RY.out hgd.out R7.out.rd).mono ?_
        rintro x w26 ⟨A8, c8, F8, m8, d8, rfl, hp8, hf8, hb0⟩
        have R8 := Lib.hid hp8
        have RF := Lib.hid hf8
        replace RD7 := Lib.hid (RD7.out.below hb0)
        have hml : m8 = min i 6 - 1 := hf8.1.symm.trans HTL.out
        clear hp8 hf8 R7 hgd
        generalize min i 6 = q at *
        generalize hmo : decide (1 < q) = mo at *
        have hmo2 : decide ((1 : Int) < (q : Int)) = mo := by rw [← hmo]; exact decide_eq_decide.2 (by omega)
        have hmo3 : (mo != mo) = false := by cases mo <;> rfl
        have hml2 : ((m8 : Int) != (q : Int) - 1) = false := by rw [bne_eq_false_iff_eq]; omega
        have hm8 : m8 < 6 := by omega
        have HML := Lib.hid hml
        clear hml hmo
        replace B : Below w.heap.size w w26 := Below.trans (by go_grown) (hb0.mono (by first | omega | (simp [Bk.size_set]; done) | (simp [Bk.size_set]; omega)))
        have z26 := hb0.size
        (try simp only [World.size_alloc, Bk.size_set, World.size_drew, World.drewN] at z26)
        clear hb0
        go_wp2_with fail
        generalize hW : World.alloc _ _ = w27
        replace R8 := Lib.hid (R8.out.keep (w' := w27) fun q _ h2 => by rw [← hW]; exact (Below.heap_alloc _ _ q (by simp; omega)).trans (Below.heap_alloc _ _ q h2))
        have hb27 : Below w26.heap.size w26 w27 := by rw [← hW]; go_grown
        replace RD7 := Lib.hid (RD7.out.below hb27)
        replace RF := Lib.hid (RF.out.below hb27)
        have RB := Lib.hid (show Rd w27 1 (some ⟨w26.heap.size + 1, 0, none⟩) 1 1 [.int .u8 0] from by rw [← hW, ← World.size_alloc w26 (.cells #[.slice A8 m1 c8] 39)]; exact Rd.one _ _ _)
        have b9 : Bk.Blk w27 (w26.heap.size) 39 #[.slice A8 m1 c8] := (by rw [← hW]; apply Bk.Blk.to; (focus (exact Bk.sv)); rfl)
        replace B : Below w.heap.size w w27 := (by rw [← hW]; go_grown)
        have z27 : w27.heap.size = _ := congrArg (fun W : World => W.heap.size) hW.symm
        (try simp only [World.size_alloc, Bk.size_set, World.size_drew, World.drewN] at z27)
        clear hW
        clear hb27
        refine (sameBytes_laws D7 m7 d7 [0] _ 1 1 [0] _ RD7.out RB.out).mono ?_
        rintro e w28 ⟨rfl, hb0⟩
        rw [decide_eq_true rfl]
        replace R8 := Lib.hid (R8.out.keep (w' := w28) fun q _ h2 => hb0.block q (by omega))
        replace RF := Lib.hid (RF.out.below hb0)
        clear RD7 RB
        replace b9 : Bk.Blk w28 (w26.heap.size) 39 #[.slice A8 m1 c8] := Bk.Blk.under hb0 (by exact Bk.sv)
        replace B : Below w.heap.size w w28 := Below.trans (by go_grown) (hb0.mono (by first | omega | (simp [Bk.size_set]; done) | (simp [Bk.size_set]; omega)))
        have z28 := hb0.size
        (try simp only [World.size_alloc, Bk.size_set, World.size_drew, World.drewN] at z28)
        clear hb0
        have l_b9 : w26.heap.size < w28.heap.size := Bk.Blk.lt b9
        have c_b90 : w28.cell? ⟨w26.heap.size, 0, none⟩ = some (.slice A8 m1 c8) := Bk.Blk.cell b9 0
        have f_b90 : w28.frozen? ⟨w26.heap.size, 0, none⟩ = false := Bk.Blk.fro b9 0
        go_wp2_with fail
        clear l_b9 c_b90 f_b90
        refine (kept_impl A8 m1 c8 _ s _ R8.out.rd).mono ?_
        rintro x w29 ⟨e, he, rfl, hb0⟩
        rw [show (if e < 0 then (0 : Int) else ((nthK (stK k0 a s false [] lo2) e.toNat).fs.length : Int)) = 0 from kept_st RY.out he]
        replace R8 := Lib.hid (R8.out.keep (w' := w29) fun q _ h2 => hb0.block q (by omega))
        replace RF := Lib.hid (RF.out.below hb0)
        clear he
        replace b9 : Bk.Blk w29 (w26.heap.size) 39 #[.slice A8 m1 c8] := Bk.Blk.under hb0 (by exact Bk.sv)
        replace B : Below w.heap.size w w29 := Below.trans (by go_grown) (hb0.mono (by first | omega | (simp [Bk.size_set]; done) | (simp [Bk.size_set]; omega)))
        have z29 := hb0.size
        (try simp only [World.size_alloc, Bk.size_set, World.size_drew, World.drewN] at z29)
        clear hb0
        have l_b9 : w26.heap.size < w29.heap.size := Bk.Blk.lt b9
        have c_b90 : w29.cell? ⟨w26.heap.size, 0, none⟩ = some (.slice A8 m1 c8) := Bk.Blk.cell b9 0
        have f_b90 : w29.frozen? ⟨w26.heap.size, 0, none⟩ = false := Bk.Blk.fro b9 0
        go_wp2_with fail
        clear l_b9 c_b90 f_b90
        refine (tim_impl A8 m1 c8 _ _ R8.out.rd).mono ?_
        rintro x w30 ⟨rfl, hb0⟩
        have hbt2 : bits .and .i64 (timK (stK k0 a s false [] lo2) m1 / 2 ^ s) 1 = 0 := stK_off RY.out
        generalize timK (stK k0 a s false [] lo2) m1 = T2 at *
        replace R8 := Lib.hid (R8.out.keep (w' := w30) fun q _ h2 => hb0.block q (by omega))
        replace RF := Lib.hid (RF.out.below hb0)
        replace b9 : Bk.Blk w30 (w26.heap.size) 39 #[.slice A8 m1 c8] := Bk.Blk.under hb0 (by exact Bk.sv)
        replace B : Below w.heap.size w w30 := Below.trans (by go_grown) (hb0.mono (by first | omega | (simp [Bk.size_set]; done) | (simp [Bk.size_set]; omega)))
        have z30 := hb0.size
        (try simp only [World.size_alloc, Bk.size_set, World.size_drew, World.drewN] at z30)
        clear hb0
        go_wp2_with fail
        clear hbt hbt2 hmo2 hmo3 hml2
        go_loopw [21] (fun v21 wr => ∃ k : Nat, k ≤ m8 ∧ v21 = .int .i64 (k : Int) ∧ Bk.Blk wr w26.heap.size 39 #[.slice A8 m1 c8] ∧ PbIn wr w25.heap.size w26.heap.size A8 m1 c8 (stK k0 a s false [] lo2) ∧ RdSS wr F8 m8 d8 rs ∧ w30.heap.size ≤ wr.heap.size ∧ Below w.heap.size w wr) (fun v21 _ => m8 - (intOf v21).toNat)
        case atStart => exact ⟨0, Nat.zero_le _, rfl, b9, R8.out, RF.out, Nat.le_refl _, B⟩
        case round =>
          clear b9 R8 RF B
          obtain ⟨k, hk8, rfl, b9, hr8, hrf, z40, B⟩ := hrel
          obtain ⟨w40, hw40⟩ : ∃ W, W = wr := ⟨_, rfl⟩
          subst hw40
          have R8 := Lib.hid hr8
          have RF := Lib.hid hrf
          clear hr8 hrf
          by_cases hlt : k < m8
          · obtain ⟨g, o, A', n', c', rfl, hg, hc, hrd⟩ := RF.out.at_ hlt
            have HRD := Lib.hid hrd
            have HE := Lib.hid (show rs.getD k [] = [((k + 1 : Nat) : Int)] from HT.out k (by have := HML.out; omega))
            have hw8 : IntKind.u8.wrap ((k : Int) + 1) = ((k + 1 : Nat) : Int) := by rw [IntKind.wrap_u8]; omega
            clear hrd
            go_wp2_with fail
            generalize hW : World.alloc _ _ = w41
            have RB := Lib.hid (rd_oneA hW)
            have hb41 : Below w40.heap.size w40 w41 := by rw [← hW]; go_grown
            replace HRD := Lib.hid (HRD.out.below hb41)
            replace R8 := Lib.hid (R8.out.keep (w' := w41) fun q _ h2 => hb41.block q (by omega))
            replace RF := Lib.hid (RF.out.below hb41)
            replace b9 : Bk.Blk w41 (w26.heap.size) 39 #[.slice A8 m1 c8] := (by rw [← hW]; exact Bk.sv)
            replace B : Below w.heap.size w w41 := (by rw [← hW]; go_grown)
            have z41 : w41.heap.size = _ := congrArg (fun W : World => W.heap.size) hW.symm
            (try simp only [World.size_alloc, Bk.size_set, World.size_drew, World.drewN] at z41)
            clear hW
            clear hb41 hc
            refine (sameBytes_laws A' n' c' (rs.getD k []) _ 1 1 [((k + 1 : Nat) : Int)] _ HRD.out RB.out).mono ?_
            rintro e w42 ⟨rfl, hb0⟩
            rw [decide_eq_true HE.out]
            replace R8 := Lib.hid (R8.out.keep (w' := w42) fun q _ h2 => hb0.block q (by omega))
            replace RF := Lib.hid (RF.out.below hb0)
            clear HRD RB HE hw8
            replace b9 : Bk.Blk w42 (w26.heap.size) 39 #[.slice A8 m1 c8] := Bk.Blk.under hb0 (by exact Bk.sv)
            replace B : Below w.heap.size w w42 := Below.trans (by go_grown) (hb0.mono (by first | omega | (simp [Bk.size_set]; done) | (simp [Bk.size_set]; omega)))
            have z42 := hb0.size
            (try simp only [World.size_alloc, Bk.size_set, World.size_drew, World.drewN] at z42)
            clear hb0
            go_wp2_with fail
            go_roundw
            case rel => exact ⟨k + 1, by omega, by go_num, b9, R8.out, RF.out, by omega, B⟩
            case measure => simp [intOf]; omega
          · obtain rfl : k = m8 := by omega
            clear RF
            have l_b9 : w26.heap.size < w40.heap.size := Bk.Blk.lt b9
            have c_b90 : w40.cell? ⟨w26.heap.size, 0, none⟩ = some (.slice A8 m1 c8) := Bk.Blk.cell b9 0
            have f_b90 : w40.frozen? ⟨w26.heap.size, 0, none⟩ = false := Bk.Blk.fro b9 0
            go_wp2_with fail
            clear l_b9 c_b90 f_b90
            refine (eqPb_impl A8 m1 c8 _ _ R8.out.rd).mono ?_
            rintro x w41 ⟨rfl, hb0⟩
            replace R8 := Lib.hid (R8.out.keep (w' := w41) fun q _ h2 => hb0.block q (by omega))
            replace b9 : Bk.Blk w41 (w26.heap.size) 39 #[.slice A8 m1 c8] := Bk.Blk.under hb0 (by exact Bk.sv)
            replace B : Below w.heap.size w w41 := Below.trans (by go_grown) (hb0.mono (by first | omega | (simp [Bk.size_set]; done) | (simp [Bk.size_set]; omega)))
            have z41 := hb0.size
            (try simp only [World.size_alloc, Bk.size_set, World.size_drew, World.drewN] at z41)
            clear hb0
            have l_b9 : w26.heap.size < w41.heap.size := Bk.Blk.lt b9
            have c_b90 : w41.cell? ⟨w26.heap.size, 0, none⟩ = some (.slice A8 m1 c8) := Bk.Blk.cell b9 0
            have f_b90 : w41.frozen? ⟨w26.heap.size, 0, none⟩ = false := Bk.Blk.fro b9 0
            go_wp2_with fail
            clear l_b9 c_b90 f_b90
            refine (validPb_impl A8 m1 c8 _ _ R8.out.rd).mono ?_
            rintro x w42 hsay
            obtain ⟨rfl, hb0⟩ := says_true hsay hgw.out.1
            clear hsay
            replace B : Below w.heap.size w w42 := Below.trans (by go_grown) (hb0.mono (by first | omega | (simp [Bk.size_set]; done) | (simp [Bk.size_set]; omega)))
            have z42 := hb0.size
            (try simp only [World.size_alloc, Bk.size_set, World.size_drew, World.drewN] at z42)
            clear hb0
            go_wp2
            go_ret
            exact ⟨rfl, B⟩
end Go.Proofs.Ythdieeaegplnmaa.Pb
