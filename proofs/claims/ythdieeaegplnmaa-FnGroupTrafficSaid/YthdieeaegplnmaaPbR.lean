/- Power buffers: the program's AddStation that adds. -/
import Derived.Test.YthdieeaegplnmaaPbA
import Derived.Test.YthdieeaegplnmaaKeepA
import Derived.Test.YthdieeaegplnmaaPbP
import Derived.Deep.DeepCutAuto
import Derived.Outline
import Derived.Deep.CutBlock
namespace Go.Proofs.Ythdieeaegplnmaa.Pb
open Go.RowKit
open Go.Proofs.Ythdieeaegplnmaa.Num Go.Proofs.Ythdieeaegplnmaa.Mem Go.Proofs.Ythdieeaegplnmaa.Hsh Go.Proofs.Ythdieeaegplnmaa.Sls Go.Proofs.Ythdieeaegplnmaa.Own Go.Proofs.Ythdieeaegplnmaa.SS Go.Proofs.Ythdieeaegplnmaa.Gb
set_option linter.unusedSimpArgs false
set_option linter.unusedVariables false
/-- a power buffer of one's own and a bool -/
def RetPO (w : World) (n : Nat) (ks : List Kt) (b : Bool) (x : Ending) (w' : World) : Prop :=
  ∃ A c, x = .returned (.tuple #[.agg #[.slice A n c], .bool b]) ∧ OwnPB w' w.heap.size w'.heap.size A n c ks ∧ Below w.heap.size w w'
/-- where a station's entry belongs -/
def AtK (ks : List Kt) (st : Int) (n a : Nat) : Prop := a ≤ n ∧ (∀ l, l < a → (nthK ks l).st < st) ∧ (a < n → ¬ (nthK ks a).st < st)
theorem at_one {ks : List Kt} {st : Int} {n a b : Nat} (h : AtK ks st n a) (h2 : AtK ks st n b) : a = b := by
  obtain ⟨p1, p2, p3⟩ := h
  obtain ⟨q1, q2, q3⟩ := h2
  rcases Nat.lt_trichotomy a b with g | g | g
  · exact absurd (q2 a g) (p3 (by omega))
  · exact g
  · exact absurd (p2 b g) (q3 (by omega))
set_option maxRecDepth 100000 in
set_option maxHeartbeats 8000000 in
theorem addI_ok (A : Option Addr) (n c : Nat) (ks : List Kt) (st : Int) (w : World) (hv : validP ks n) (h0 : 0 ≤ st) (h15 : st ≤ 15) (hF : FindR ks st n (-1)) (hr : RdPB w A n c ks) (hn : n ≤ 1048577) (hs : AllFew ks) :
    Calls Try.prog 38 #[.agg #[.slice A n c], .int .i64 st] w fun x w' => ∃ a, AtK ks st n a ∧ RetPO w (n + 1) (insK ks a ⟨st, false, [], 0⟩) true x w' := by
  obtain ⟨i0, hi, hz0, hz1, hz2⟩ := info_parts ktInfo
  have HR := Lib.hid hr
  have HS := Lib.hid hs
  have HF := Lib.hid hF
  have HV := Lib.hid hv
  have B : Below w.heap.size w w := Below.refl _ _
  clear hr hs hF hv
  go_enter Try.func38, Try.ntmps38
  go_wp2_with fail
  generalize hW : World.alloc _ _ = w1
  have bp : Bk.Blk w1 (w.heap.size) 39 #[.slice A n c] := (by rw [← hW]; apply Bk.Blk.to; (focus (exact Bk.sv)); rfl)
  have r0 : Bk.Blk w1 (w.heap.size + 1) 39 #[.slice none 0 0] := (by rw [← hW]; apply Bk.Blk.to; (focus (exact Bk.sv)); rfl)
  replace B : Below w.heap.size w w1 := (by rw [← hW]; go_grown)
  have z1 : w1.heap.size = _ := congrArg (fun W : World => W.heap.size) hW.symm
  (try simp only [World.size_alloc, Bk.size_set, World.size_drew, World.drewN] at z1)
  clear hW
  refine (copyPb_some A n c ks _ (HR.out.below B) hn HS.out).mono ?_
  rintro x w2 ⟨g, rfl, hown, hb0⟩
  obtain ⟨hk0, cs, es, r, hes, hcs, hrow, hin⟩ := hown.parts
  have HO := Lib.hid hown
  clear hown
  replace bp : Bk.Blk w2 (w.heap.size) 39 #[.slice A n c] := Bk.Blk.under hb0 (by exact Bk.sv)
  replace r0 : Bk.Blk w2 (w.heap.size + 1) 39 #[.slice none 0 0] := Bk.Blk.under hb0 (by exact Bk.sv)
  replace B : Below w.heap.size w w2 := Below.trans (by go_grown) (hb0.mono (by first | omega | (simp [Bk.size_set]; done) | (simp [Bk.size_set]; omega)))
  have z2 := hb0.size
  (try simp only [World.size_alloc, Bk.size_set, World.size_drew, World.drewN] at z2)
  clear hb0
  have hg1 := (blk_of_own hrow g rfl).1
  have hg2 := (blk_of_own hrow g rfl).2
  have HK := Lib.hid hk0
  have HE := Lib.hid hes
  have HC := Lib.hid hcs
  have HW := Lib.hid hrow
  have HI := Lib.hid hin
  clear hk0 hes hcs hrow hin
  have l_bp : w.heap.size < w2.heap.size := Bk.Blk.lt bp
  have c_bp0 : w2.cell? ⟨w.heap.size, 0, none⟩ = some (.slice A n c) := Bk.Blk.cell bp 0
  have f_bp0 : w2.frozen? ⟨w.heap.size, 0, none⟩ = false := Bk.Blk.fro bp 0
  go_wp2_with fail
  clear l_bp c_bp0 f_bp0
  generalize hW : World.alloc _ _ = w3
  replace HO := Lib.hid (HO.out.below (show Below w2.heap.size w2 w3 from by rw [← hW]; go_grown) (Nat.le_refl _))
  replace HW := Lib.hid (own_toA HW.out hW)
  replace HI := Lib.hid (HI.out.keep (w' := w3) fun q _ h2 => by rw [← hW]; exact Below.heap_alloc _ _ q h2)
  have bo : Bk.Blk w3 (w2.heap.size) 39 #[.slice (some ⟨g, 0, none⟩) n n] := (by rw [← hW]; apply Bk.Blk.to; (focus (exact Bk.sv)); rfl)
  replace bp : Bk.Blk w3 (w.heap.size) 39 #[.slice A n c] := (by rw [← hW]; exact Bk.sv)
  replace r0 : Bk.Blk w3 (w.heap.size + 1) 39 #[.slice none 0 0] := (by rw [← hW]; exact Bk.sv)
  replace B : Below w.heap.size w w3 := (by rw [← hW]; go_grown)
  have z3 : w3.heap.size = _ := congrArg (fun W : World => W.heap.size) hW.symm
  (try simp only [World.size_alloc, Bk.size_set, World.size_drew, World.drewN] at z3)
  clear hW
  refine (validPb_impl A n c ks _ (HR.out.below B)).mono ?_
  rintro x w4 hsay
  obtain ⟨rfl, hb0⟩ := says_true hsay HV.out
  clear hsay
  replace HO := Lib.hid (HO.out.below hb0 (by omega))
  replace HW := Lib.hid (own_below HW.out hb0)
  replace HI := Lib.hid (HI.out.keep (w' := w4) fun q _ h2 => hb0.block q (by omega))
  replace bo : Bk.Blk w4 (w2.heap.size) 39 #[.slice (some ⟨g, 0, none⟩) n n] := Bk.Blk.under hb0 (by exact Bk.sv)
  replace bp : Bk.Blk w4 (w.heap.size) 39 #[.slice A n c] := Bk.Blk.under hb0 (by exact Bk.sv)
  replace r0 : Bk.Blk w4 (w.heap.size + 1) 39 #[.slice none 0 0] := Bk.Blk.under hb0 (by exact Bk.sv)
  replace B : Below w.heap.size w w4 := Below.trans (by go_grown) (hb0.mono (by first | omega | (simp [Bk.size_set]; done) | (simp [Bk.size_set]; omega)))
  have z4 := hb0.size
  (try simp only [World.size_alloc, Bk.size_set, World.size_drew, World.drewN] at z4)
  clear hb0
  have l_bp : w.heap.size < w4.heap.size := Bk.Blk.lt bp
  have c_bp0 : w4.cell? ⟨w.heap.size, 0, none⟩ = some (.slice A n c) := Bk.Blk.cell bp 0
  have f_bp0 : w4.frozen? ⟨w.heap.size, 0, none⟩ = false := Bk.Blk.fro bp 0
  go_wp2_with (first | (go_at_call 76; refine (Bcn.station_yes _ _ h0 h15).mono ?_; rintro e w' ⟨rfl, rfl⟩))
  clear l_bp c_bp0 f_bp0
  refine (find_impl A n c ks st _ (HR.out.below B)).mono ?_
  rintro x w5 ⟨i, hi, rfl, hb0⟩
  obtain rfl := find_one HF.out hi
  replace HO := Lib.hid (HO.out.below hb0 (by omega))
  replace HW := Lib.hid (own_below HW.out hb0)
  replace HI := Lib.hid (HI.out.keep (w' := w5) fun q _ h2 => hb0.block q (by omega))
  clear hi
  replace bo : Bk.Blk w5 (w2.heap.size) 39 #[.slice (some ⟨g, 0, none⟩) n n] := Bk.Blk.under hb0 (by exact Bk.sv)
  replace r0 : Bk.Blk w5 (w.heap.size + 1) 39 #[.slice none 0 0] := Bk.Blk.under hb0 (by exact Bk.sv)
  replace B : Below w.heap.size w w5 := Below.trans (by go_grown) (hb0.mono (by first | omega | (simp [Bk.size_set]; done) | (simp [Bk.size_set]; omega)))
  have z5 := hb0.size
  (try simp only [World.size_alloc, Bk.size_set, World.size_drew, World.drewN] at z5)
  clear hb0
  have l_bo : w2.heap.size < w5.heap.size := Bk.Blk.lt bo
  have c_bo0 : w5.cell? ⟨w2.heap.size, 0, none⟩ = some (.slice (some ⟨g, 0, none⟩) n n) := Bk.Blk.cell bo 0
  have f_bo0 : w5.frozen? ⟨w2.heap.size, 0, none⟩ = false := Bk.Blk.fro bo 0
  have hn64 := HR.out.n64
  go_upto_block 0 with fail
  go_cut [7] (fun v7 wr => ∃ a : Nat, AtK ks st n a ∧ v7 = .int .i64 (a : Int) ∧ wr = w5)
  case first =>
    go_wp2_with fail
    go_loop [7] (fun v7 => ∃ k : Nat, k ≤ n ∧ v7 = .int .i64 (k : Int) ∧ ∀ l, l < k → (nthK ks l).st < st) (fun v7 => n - (intOf v7).toNat)
    case atStart => exact ⟨0, Nat.zero_le _, rfl, fun l h => absurd h (by omega)⟩
    case round =>
      obtain ⟨k, hk, rfl, hlo⟩ := hrel
      have HLO := Lib.hid hlo
      clear hlo
      by_cases hlt : k < n
      · obtain ⟨s, d0, _, _, _, _, _⟩ := HO.out.cellsAt hlt
        have i1 : (k : Int) < (n : Int) := by omega
        by_cases hc : (nthK ks k).st < st
        · have HL2 := Lib.hid (show ∀ l, l < k + 1 → (nthK ks l).st < st from fun l hl => by
            rcases Nat.lt_or_ge l k with h | h
            · exact HLO.out l h
            · obtain rfl : l = k := by omega
              exact hc)
          generalize (nthK ks k).st = s0 at d0 hc
          go_wp2_with fail
          go_round
          case rel => exact ⟨k + 1, by omega, by go_num, HL2.out⟩
          case measure => simp [intOf]; omega
        · have HA := Lib.hid (show AtK ks st n k from ⟨hk, HLO.out, fun _ => hc⟩)
          have hc2 : decide ((nthK ks k).st < st) = false := by simpa using hc
          clear hc
          generalize (nthK ks k).st = s0 at d0 hc2
          go_wp2_with fail
          go_meet
          exact ⟨k, HA.out, rfl, rfl⟩
      · obtain rfl : k = n := by omega
        have HA := Lib.hid (show AtK ks st k k from ⟨hk, HLO.out, fun h => absurd h (by omega)⟩)
        go_wp2_with fail
        go_meet
        exact ⟨k, HA.out, rfl, rfl⟩
  case rest =>
    obtain ⟨a, ha, rfl, hwc⟩ := hcut
    subst hwc
    obtain ⟨w5, hw5⟩ : ∃ W, W = wc := ⟨_, rfl⟩
    subst hw5
    have HA := Lib.hid ha
    have han := ha.1
    clear ha
    have i1 : (a : Int) ≤ (n : Int) := by omega
    have i2 : (0 : Int) ≤ (a : Int) := by omega
    have HRW := Lib.hid (Rd.of_own HW.out)
    go_wp2_with (at_make; refine wpList_make_own _ rfl _ _ 37 rfl w5.heap.size 95 i0 (.agg #[.int .i64 0, .bool false, .slice none 0 0, .int .i64 0]) 4 Try.underlying37 hi hz0 hz1 _ _ _ (n + 1) rfl rfl (by go_num) (by rw [hz2]; omega) (by unfold maxLen; omega) (Nat.le_refl _) ?_)
    intro w6 hown6 hgrow6
    have hb0 : Below w5.heap.size w5 w6 := (Below.refl _ _).grown hgrow6 (Nat.le_refl _) (fun k h => by cases h)
    have HB6 := Lib.hid hb0
    replace HI := Lib.hid (HI.out.keep (w' := w6) fun q _ h2 => hb0.block q (by omega))
    replace HRW := Lib.hid (HRW.out.below hb0)
    clear hgrow6
    replace bo : Bk.Blk w6 (w2.heap.size) 39 #[.slice (some ⟨g, 0, none⟩) n n] := Bk.Blk.under hb0 (by exact Bk.sv)
    replace r0 : Bk.Blk w6 (w.heap.size + 1) 39 #[.slice none 0 0] := Bk.Blk.under hb0 (by exact Bk.sv)
    replace B : Below w.heap.size w w6 := Below.trans (by go_grown) (hb0.mono (by first | omega | (simp [Bk.size_set]; done) | (simp [Bk.size_set]; omega)))
    have z6 := hb0.size
    (try simp only [World.size_alloc, Bk.size_set, World.size_drew, World.drewN] at z6)
    clear hb0
    have HM := Lib.hid hown6
    clear hown6
    have l_bo : w2.heap.size < w6.heap.size := Bk.Blk.lt bo
    have c_bo0 : w6.cell? ⟨w2.heap.size, 0, none⟩ = some (.slice (some ⟨g, 0, none⟩) n n) := Bk.Blk.cell bo 0
    have f_bo0 : w6.frozen? ⟨w2.heap.size, 0, none⟩ = false := Bk.Blk.fro bo 0
    have HON := Lib.hid (cells_oneK HC.out)
    go_wp2_with (at_builtin; refine Bk.stopHere ?_)
    show wpList _ _ _ _ _ _
    clear l_bo c_bo0 f_bo0
    refine wpl_app _ rfl _ _ 37 rfl w5.heap.size 95 i0 (.agg #[.int .i64 0, .bool false, .slice none 0 0, .int .i64 0]) 4 48 Try.underlying37 hi hz0 hz1 hz2 rfl (by decide) _ _ _ _ rfl HM.out _ _ _ _ rfl (rd4_take HRW.out han) (one_take HON.out _) (by unfold maxLen; omega) (by omega) (by omega) ?_
    intro A7 c7 w7 hown7 hg7 _
    have hP := own_lo HM.out
    have hgi := Lib.hid (fun q (e : some q = _) => hP q e.symm)
    replace HI := Lib.hid (HI.out.keep (w' := w7) fun q _ h2 => hg7.block q (by omega) (fun e => by have := hP q e.symm; omega))
    replace HRW := Lib.hid (HRW.out.grown hg7 (.inr fun _ e => by have := hP g e.symm; omega))
    replace bo : Bk.Blk w7 (w2.heap.size) 39 #[.slice (some ⟨g, 0, none⟩) n n] := blk_grownA hg7 (own_ne HM.out bo (by decide)) bo
    replace r0 : Bk.Blk w7 (w.heap.size + 1) 39 #[.slice none 0 0] := blk_grownA hg7 (own_ne HM.out r0 (by decide)) r0
    replace B : Below w.heap.size w w7 := Mem.below_app B hg7 (by omega) (by intro q h; have := hP q h; omega)
    have z7 := hg7.size
    clear hgi hP hg7
    (try simp only [Nat.zero_add, List.nil_append] at hown7)
    have HM7 := Lib.hid hown7
    clear hown7 HM HB6
    have l_bo : w2.heap.size < w7.heap.size := Bk.Blk.lt bo
    have c_bo0 : w7.cell? ⟨w2.heap.size, 0, none⟩ = some (.slice (some ⟨g, 0, none⟩) n n) := Bk.Blk.cell bo 0
    have f_bo0 : w7.frozen? ⟨w2.heap.size, 0, none⟩ = false := Bk.Blk.fro bo 0
    go_wp2_with (at_builtin; refine Bk.stopHere ?_)
    show wpList _ _ _ _ _ _
    clear l_bo c_bo0 f_bo0
    generalize hWa : World.alloc w7 _ = wa
    generalize hWb : World.alloc wa _ = w8
    have hba : Below w7.heap.size w7 wa := by rw [← hWa]; go_grown
    have hbb : Below wa.heap.size wa w8 := by rw [← hWb]; go_grown
    have zza : wa.heap.size = w7.heap.size + 1 := by rw [← hWa]; simp
    have zzb : w8.heap.size = wa.heap.size + 1 := by rw [← hWb]; simp
    have HX := own_toA (own_freshA (lo := w7.heap.size) (sz := 1) (e := 25) hWa (Nat.le_refl _)) hWb
    have HM8 := own_toA (own_toA HM7.out hWa) hWb
    have HRL := (show Rd w8 4 (some ⟨wa.heap.size, 0, none⟩) 1 1 (cellsK ⟨st, false, [], 0⟩ (some ⟨w7.heap.size, 0, none⟩, 0, 0)) from hWb ▸ rd_litK wa ⟨st, false, [], 0⟩ (some ⟨w7.heap.size, 0, none⟩, 0, 0) _)
    rw [zza] at HRL
    replace HI := Lib.hid ((HI.out.keep (w' := wa) fun q _ h2 => hba.block q (by omega)).keep (w' := w8) fun q _ h2 => hbb.block q (by omega))
    replace HRW := Lib.hid ((HRW.out.below hba).below hbb)
    replace bo : Bk.Blk w8 (w2.heap.size) 39 #[.slice (some ⟨g, 0, none⟩) n n] := (bo.under hba).under hbb
    replace r0 : Bk.Blk w8 (w.heap.size + 1) 39 #[.slice none 0 0] := (r0.under hba).under hbb
    replace B : Below w.heap.size w w8 := (B.trans (hba.mono (by omega))).trans (hbb.mono (by omega))
    clear hba hbb hWa hWb
    refine wpl_app _ rfl _ _ 37 rfl w5.heap.size 95 i0 (.agg #[.int .i64 0, .bool false, .slice none 0 0, .int .i64 0]) 4 48 Try.underlying37 hi hz0 hz1 hz2 rfl (by decide) _ _ _ _ rfl HM8 _ _ _ _ rfl HRL (one_cellsK _ _) (by unfold maxLen; omega) (by omega) (by omega) ?_
    intro A9 c9 w9 hown9 hg9 _
    have hP := own_lo HM8
    have hgi := Lib.hid (fun q (e : some q = _) => hP q e.symm)
    replace HI := Lib.hid (HI.out.keep (w' := w9) fun q _ h2 => hg9.block q (by omega) (fun e => by have := hP q e.symm; omega))
    replace HRW := Lib.hid (HRW.out.grown hg9 (.inr fun _ e => by have := hP g e.symm; omega))
    replace bo : Bk.Blk w9 (w2.heap.size) 39 #[.slice (some ⟨g, 0, none⟩) n n] := blk_grownA hg9 (own_ne HM8 bo (by decide)) bo
    replace r0 : Bk.Blk w9 (w.heap.size + 1) 39 #[.slice none 0 0] := blk_grownA hg9 (own_ne HM8 r0 (by decide)) r0
    replace B : Below w.heap.size w w9 := Mem.below_app B hg9 (by omega) (by intro q h; have := hP q h; omega)
    have z9 := hg9.size
    replace HX := Lib.hid (own_grownK HX HM8 (by decide) hg9)
    clear hgi hP hg9
    have HM9 := Lib.hid hown9
    clear hown9 HM8 HRL HM7
    by_cases hna : n = a
    · subst hna
      have HDR := Lib.hid (show Rd w9 4 (some ⟨g, 0, none⟩) 0 0 (cs.drop (n * 4)) from by have h := rd4_drop HRW.out (Nat.le_refl n); rw [if_pos rfl, Nat.sub_self] at h; exact h)
      have l_bo : w2.heap.size < w9.heap.size := Bk.Blk.lt bo
      have c_bo0 : w9.cell? ⟨w2.heap.size, 0, none⟩ = some (.slice (some ⟨g, 0, none⟩) n n) := Bk.Blk.cell bo 0
      have f_bo0 : w9.frozen? ⟨w2.heap.size, 0, none⟩ = false := Bk.Blk.fro bo 0
      go_wp2_with (at_builtin; refine Bk.stopHere ?_)
      show wpList _ _ _ _ _ _
      clear l_bo c_bo0 f_bo0
      refine wpl_app _ rfl _ _ 37 rfl w5.heap.size 95 i0 (.agg #[.int .i64 0, .bool false, .slice none 0 0, .int .i64 0]) 4 48 Try.underlying37 hi hz0 hz1 hz2 rfl (by decide) _ _ _ _ rfl HM9.out _ _ _ _ rfl HDR.out (one_drop HON.out _) (by unfold maxLen; omega) (by omega) (by omega) ?_
      intro A10 c10 w10 hown10 hg10 _
      have hP := own_lo HM9.out
      have hgi := Lib.hid (fun q (e : some q = _) => hP q e.symm)
      replace HI := Lib.hid (HI.out.keep (w' := w10) fun q _ h2 => hg10.block q (by omega) (fun e => by have := hP q e.symm; omega))
      replace HRW := Lib.hid (HRW.out.grown hg10 (.inr fun _ e => by have := hP g e.symm; omega))
      replace bo : Bk.Blk w10 (w2.heap.size) 39 #[.slice (some ⟨g, 0, none⟩) n n] := blk_grownA hg10 (own_ne HM9.out bo (by decide)) bo
      replace r0 : Bk.Blk w10 (w.heap.size + 1) 39 #[.slice none 0 0] := blk_grownA hg10 (own_ne HM9.out r0 (by decide)) r0
      replace B : Below w.heap.size w w10 := Mem.below_app B hg10 (by omega) (by intro q h; have := hP q h; omega)
      have z10 := hg10.size
      replace HX := Lib.hid (own_grownK HX.out HM9.out (by decide) hg10)
      clear hgi hP hg10
      have e10 : n + 1 + 0 = n + 1 := rfl
      simp only [e10] at hown10 ⊢
      have HP := Lib.hid (ins_own (L := w1.heap.size) (e := ⟨st, false, [], 0⟩) (s := (some ⟨w7.heap.size, 0, none⟩, 0, 0)) HC.out HK.out HE.out han HI.out ⟨rfl, [], rfl, ⟨own_monoA HX.out (by omega), fun q hq => (blk_of_own HX.out q hq).2⟩, ⟨fun i h => absurd h (Nat.not_lt_zero _), fun i j _ h => absurd h (Nat.not_lt_zero _)⟩⟩ (by omega) (by omega) (Nat.le_refl _) (Nat.le_refl _) (own_monoA hown10 (by omega)))
      clear hown10 e10
      have l_r0 : w.heap.size + 1 < w10.heap.size := Bk.Blk.lt r0
      have c_r00 : w10.cell? ⟨w.heap.size + 1, 0, none⟩ = some (.slice none 0 0) := Bk.Blk.cell r0 0
      have f_r00 : w10.frozen? ⟨w.heap.size + 1, 0, none⟩ = false := Bk.Blk.fro r0 0
      go_wp2_with fail
      clear l_r0 c_r00 f_r00
      generalize hW : World.setCell _ _ _ = w11
      have HP2 := Lib.hid (show OwnPB w11 w1.heap.size w10.heap.size A10 (n + 1) c10 (insK ks n ⟨st, false, [], 0⟩) from by rw [← hW]; exact rd_set_far HP.out (by omega) _)
      replace r0 : Bk.Blk w11 (w.heap.size + 1) 39 #[.slice A10 (n + 1) c10] := (by rw [← hW]; apply Bk.Blk.to; (focus (exact Bk.sv)); rfl)
      replace B : Below w.heap.size w w11 := (by rw [← hW]; go_grown)
      have z11 : w11.heap.size = _ := congrArg (fun W : World => W.heap.size) hW.symm
      (try simp only [World.size_alloc, Bk.size_set, World.size_drew, World.drewN] at z11)
      clear hW
      have l_r0 : w.heap.size + 1 < w11.heap.size := Bk.Blk.lt r0
      have c_r00 : w11.cell? ⟨w.heap.size + 1, 0, none⟩ = some (.slice A10 (n + 1) c10) := Bk.Blk.cell r0 0
      go_wp2
      refine bodyPost_ret (v := .tuple #[.agg #[.slice A10 (n + 1) c10], .bool true]) (by simp [results, Try.results38, go_sem, c_r00]) rfl (⟨n, HA.out, A10, c10, rfl, HP2.out.wider (by omega) (by omega), B⟩)
    · have HDR := Lib.hid (show Rd w9 4 (some ⟨g, a * 4, none⟩) (n - a) (n - a) (cs.drop (a * 4)) from by have h := rd4_drop HRW.out han; rw [if_neg hna] at h; exact h)
      have l_bo : w2.heap.size < w9.heap.size := Bk.Blk.lt bo
      have c_bo0 : w9.cell? ⟨w2.heap.size, 0, none⟩ = some (.slice (some ⟨g, 0, none⟩) n n) := Bk.Blk.cell bo 0
      have f_bo0 : w9.frozen? ⟨w2.heap.size, 0, none⟩ = false := Bk.Blk.fro bo 0
      go_wp2_with (at_builtin; refine Bk.stopHere ?_)
      show wpList _ _ _ _ _ _
      clear l_bo c_bo0 f_bo0
      refine wpl_app _ rfl _ _ 37 rfl w5.heap.size 95 i0 (.agg #[.int .i64 0, .bool false, .slice none 0 0, .int .i64 0]) 4 48 Try.underlying37 hi hz0 hz1 hz2 rfl (by decide) _ _ _ _ rfl HM9.out _ _ _ _ rfl HDR.out (one_drop HON.out _) (by unfold maxLen; omega) (by omega) (by omega) ?_
      intro A10 c10 w10 hown10 hg10 _
      have hP := own_lo HM9.out
      have hgi := Lib.hid (fun q (e : some q = _) => hP q e.symm)
      replace HI := Lib.hid (HI.out.keep (w' := w10) fun q _ h2 => hg10.block q (by omega) (fun e => by have := hP q e.symm; omega))
      replace HRW := Lib.hid (HRW.out.grown hg10 (.inr fun _ e => by have := hP g e.symm; omega))
      replace bo : Bk.Blk w10 (w2.heap.size) 39 #[.slice (some ⟨g, 0, none⟩) n n] := blk_grownA hg10 (own_ne HM9.out bo (by decide)) bo
      replace r0 : Bk.Blk w10 (w.heap.size + 1) 39 #[.slice none 0 0] := blk_grownA hg10 (own_ne HM9.out r0 (by decide)) r0
      replace B : Below w.heap.size w w10 := Mem.below_app B hg10 (by omega) (by intro q h; have := hP q h; omega)
      have z10 := hg10.size
      replace HX := Lib.hid (own_grownK HX.out HM9.out (by decide) hg10)
      clear hgi hP hg10
      have e10 : a + 1 + (n - a) = n + 1 := by omega
      simp only [e10] at hown10 ⊢
      have HP := Lib.hid (ins_own (L := w1.heap.size) (e := ⟨st, false, [], 0⟩) (s := (some ⟨w7.heap.size, 0, none⟩, 0, 0)) HC.out HK.out HE.out han HI.out ⟨rfl, [], rfl, ⟨own_monoA HX.out (by omega), fun q hq => (blk_of_own HX.out q hq).2⟩, ⟨fun i h => absurd h (Nat.not_lt_zero _), fun i j _ h => absurd h (Nat.not_lt_zero _)⟩⟩ (by omega) (by omega) (Nat.le_refl _) (Nat.le_refl _) (own_monoA hown10 (by omega)))
      clear hown10 e10
      have l_r0 : w.heap.size + 1 < w10.heap.size := Bk.Blk.lt r0
      have c_r00 : w10.cell? ⟨w.heap.size + 1, 0, none⟩ = some (.slice none 0 0) := Bk.Blk.cell r0 0
      have f_r00 : w10.frozen? ⟨w.heap.size + 1, 0, none⟩ = false := Bk.Blk.fro r0 0
      go_wp2_with fail
      clear l_r0 c_r00 f_r00
      generalize hW : World.setCell _ _ _ = w11
      have HP2 := Lib.hid (show OwnPB w11 w1.heap.size w10.heap.size A10 (n + 1) c10 (insK ks a ⟨st, false, [], 0⟩) from by rw [← hW]; exact rd_set_far HP.out (by omega) _)
      replace r0 : Bk.Blk w11 (w.heap.size + 1) 39 #[.slice A10 (n + 1) c10] := (by rw [← hW]; apply Bk.Blk.to; (focus (exact Bk.sv)); rfl)
      replace B : Below w.heap.size w w11 := (by rw [← hW]; go_grown)
      have z11 : w11.heap.size = _ := congrArg (fun W : World => W.heap.size) hW.symm
      (try simp only [World.size_alloc, Bk.size_set, World.size_drew, World.drewN] at z11)
      clear hW
      have l_r0 : w.heap.size + 1 < w11.heap.size := Bk.Blk.lt r0
      have c_r00 : w11.cell? ⟨w.heap.size + 1, 0, none⟩ = some (.slice A10 (n + 1) c10) := Bk.Blk.cell r0 0
      go_wp2
      refine bodyPost_ret (v := .tuple #[.agg #[.slice A10 (n + 1) c10], .bool true]) (by simp [results, Try.results38, go_sem, c_r00]) rfl (⟨a, HA.out, A10, c10, rfl, HP2.out.wider (by omega) (by omega), B⟩)
end Go.Proofs.Ythdieeaegplnmaa.Pb
