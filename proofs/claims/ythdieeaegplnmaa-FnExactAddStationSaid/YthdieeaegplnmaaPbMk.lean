/- Power buffers: marks laid into them and read back. -/
import Derived.Test.YthdieeaegplnmaaPbZ
namespace Go.Proofs.Ythdieeaegplnmaa.Pb
open Go.RowKit
open Go.Proofs.Ythdieeaegplnmaa.Num Go.Proofs.Ythdieeaegplnmaa.Mem Go.Proofs.Ythdieeaegplnmaa.Hsh Go.Proofs.Ythdieeaegplnmaa.Sls Go.Proofs.Ythdieeaegplnmaa.Own Go.Proofs.Ythdieeaegplnmaa.SS Go.Proofs.Ythdieeaegplnmaa.Gb
set_option linter.unusedSimpArgs false
set_option linter.unusedVariables false
set_option maxRecDepth 100000 in
set_option maxHeartbeats 4000000 in
theorem markKs_any (A : Option Addr) (n c : Nat) (ks : List Kt) (k : Int) (lo hi : Nat) (w : World) (h : OwnPB w lo hi A n c ks) (k0 : 0 ≤ k) (k1 : k ≤ 8) (ht : n + totK ks n ≤ 1048577) (hh : hi ≤ w.heap.size) :
    Calls Try.prog 85 #[.slice A n c, .int .i64 k] w fun x w' => x = .returned (.int .i64 (k + (offK ks n : Int))) ∧ OwnPB w' lo hi A n c (mKs k ks) ∧ Turned lo hi w w' := by
  have hl := Lib.hid h.1
  have HO := Lib.hid h
  have hT := Lib.hid (offK_tot ks n)
  have hn64 : n ≤ 1048577 := by omega
  clear h
  go_enter Try.func85, Try.ntmps85
  go_wp2
  go_loopw [1, 5] (fun v1 v5 wr => ∃ j : Nat, j ≤ n ∧ v1 = .int .i64 (k + (offK ks j : Int)) ∧ v5 = .int .i64 (j : Int) ∧ OwnPB wr lo hi A n c (mixK k ks j) ∧ Turned lo hi w wr) (fun _ v5 _ => n - (intOf v5).toNat)
  case atStart => exact ⟨0, Nat.zero_le _, by simp [offK], rfl, HO.out, Turned.refl _ _ _⟩
  case round =>
    obtain ⟨j, hj, rfl, rfl, hown, htr⟩ := hrel
    by_cases hlt : j < n
    · obtain ⟨g, rfl, hg1, hg2⟩ := hown.addr (by omega)
      have hof := offK_le ks (a := j + 1) (b := n) hlt
      have hst : offK ks (j + 1) = offK ks j + (3 + totL (nthK ks j).fs) := rfl
      have HE := Lib.hid (show k + (offK ks (j + 1) : Int) = k + (offK ks j : Int) + 2 + (totL (nthK ks j).fs : Int) + 1 by rw [hst]; omega)
      have HS4 := Lib.hid (fun a b f d => set_four (mixK k ks j) j (by rw [mixK_len (by rw [hl.out]; omega), hl.out]; exact hlt) a b f d)
      have HMS := Lib.hid (mixK_step (k := k) (ks := ks) (j := j) (by rw [hl.out]; exact hlt))
      have hMA := mixK_at (k := k) (ks := ks) (j := j) (by rw [hl.out]; exact hlt)
      have hfn : (nthK ks j).fs.length ≤ 2097152 ∧ totL (nthK ks j).fs ≤ 2097152 := by have h1 := totK_at (ks := ks) hlt; omega
      have hKb : k + (offK ks j : Int) + 2 ≤ 4194304 := by have := hT.out; omega
      have hK0 : 0 ≤ k + (offK ks j : Int) := by omega
      have hK3 : k + (offK ks j : Int) + 2 + (totL (nthK ks j).fs : Int) ≤ 8388608 := by omega
      have HMK := Lib.hid (show mK (k + (offK ks j : Int)) (nthK ks j) = ⟨k + (offK ks j : Int), (k + (offK ks j : Int) + 1) % 3 == 0, mSS (k + (offK ks j : Int) + 2) (nthK ks j).fs, k + (offK ks j : Int) + 2 + (totL (nthK ks j).fs : Int)⟩ from rfl)
      clear hof hst
      generalize k + (offK ks j : Int) = K at *
      obtain ⟨s0, d0, d1, d2, d3, hfr, hrs⟩ := hown.cellsAt hlt
      have ho1 := (hown.setSt hlt K).setAp hlt ((K + 1) % 3 == 0)
      have hzs : ((wr.setCell ⟨g, j * 4, none⟩ (.int .i64 K)).setCell ⟨g, j * 4 + 1, none⟩ (.bool ((K + 1) % 3 == 0))).heap.size = wr.heap.size := by rw [Bk.size_set, Bk.size_set]
      obtain ⟨s, r1, r2, hc, hos, hr12, hback⟩ := ho1.markFr hlt (by rw [hzs]; have := htr.size; omega)
      have hc0 : ((wr.setCell ⟨g, j * 4, none⟩ (.int .i64 K)).setCell ⟨g, j * 4 + 1, none⟩ (.bool ((K + 1) % 3 == 0))).cell? ⟨g, j * 4 + 2, none⟩ = some (sl s0) := Gb.set_next (by omega) (Gb.set_next (by omega) d2)
      rw [hc0] at hc
      injection hc with hc
      have d2' : wr.cell? ⟨g, j * 4 + 2, none⟩ = some (.slice s.1 s.2.1 s.2.2) := by rw [d2, hc]
      have hml : j < (mixK k ks j).length := by rw [mixK_len (by rw [hl.out]; omega), hl.out]; exact hlt
      rw [show (nthK (((mixK k ks j).set j { nthK (mixK k ks j) j with st := K }).set j { nthK ((mixK k ks j).set j { nthK (mixK k ks j) j with st := K }) j with ap := ((K + 1) % 3 == 0) }) j).fs = (nthK ks j).fs by
        rw [nthK_set (by rw [List.length_set]; exact hml), if_pos rfl]
        show (nthK ((mixK k ks j).set j { nthK (mixK k ks j) j with st := K }) j).fs = _
        rw [nthK_set hml, if_pos rfl]
        show (nthK (mixK k ks j) j).fs = _
        rw [hMA]] at hos
      have HOS := Lib.hid hos
      have HBK := Lib.hid hback
      have HT1 := Lib.hid (show Turned lo hi w ((wr.setCell ⟨g, j * 4, none⟩ (.int .i64 K)).setCell ⟨g, j * 4 + 1, none⟩ (.bool ((K + 1) % 3 == 0))) from (htr.setCell (p := ⟨g, j * 4, none⟩) hg1 hg2 _).setCell (p := ⟨g, j * 4 + 1, none⟩) hg1 hg2 _)
      clear d2 hc0 hc hos hback htr hrs hown ho1 hzs d3
      generalize (nthK ks j).fs = fs at *
      go_wp2_with fail
      rw [show K + 1 + 1 = K + 2 by omega]
      refine (markSS_kept s.1 s.2.1 s.2.2 fs (K + 2) r1 r2 _ HOS.out (by omega) hKb (by have := HOS.out.1; omega) hfn.2).mono ?_
      rintro x w1 ⟨rfl, hos2, htk, htu⟩
      have ho3 := HBK.out w1 _ hos2 htk htu
      obtain ⟨s1, _, _, _, q3, hfr3, _⟩ := ho3.cellsAt hlt
      have HO4 := Lib.hid (ho3.setLo hlt (K + 2 + (totL fs : Int)))
      have HT4 := Lib.hid (Turned.setCell (p := ⟨g, j * 4 + 3, none⟩) (HT1.out.trans (htu.wider hr12.1 hr12.2.2)) hg1 hg2 (.int .i64 (K + 2 + (totL fs : Int))))
      clear ho3 hos2 htk htu d0 d1 d2' hfr
      generalize hK2 : K + 2 + (totL fs : Int) = K2 at *
      go_wp2
      go_roundw
      case rel => exact ⟨j + 1, by omega, by rw [HE.out], by go_num, by rw [← HMS.out, HMK.out, ← HS4.out]; exact HO4.out, HT4.out⟩
      case measure => simp [intOf]; omega
    · obtain rfl : j = n := by omega
      have HX := Lib.hid (show mixK k ks j = mKs k ks by unfold mixK; rw [List.take_of_length_le (by rw [mKs_len, hl.out]; exact Nat.le_refl _), List.drop_of_length_le (by rw [hl.out]; exact Nat.le_refl _), List.append_nil])
      have HW := Lib.hid hown
      have HY := Lib.hid htr
      clear hown htr
      generalize hKK : k + (offK ks j : Int) = K at *
      have HKK := Lib.hid hKK
      clear hKK
      go_wp2
      go_ret
      exact ⟨by rw [HKK.out]; rfl, by rw [← HX.out]; exact HW.out, HY.out⟩
set_option maxRecDepth 100000 in
set_option maxHeartbeats 4000000 in
theorem heldKs_any (A : Option Addr) (n c : Nat) (ks : List Kt) (k : Int) (w : World) (hk : ks.length = n) (h : RdPB w A n c (mKs k ks)) (k0 : 0 ≤ k) (k1 : k ≤ 8) (ht : n + totK ks n ≤ 1048577) :
    Calls Try.prog 86 #[.slice A n c, .int .i64 k] w fun x w' => x = .returned (.int .i64 (k + (offK ks n : Int))) ∧ w = w' := by
  have hl := Lib.hid hk
  have HR := Lib.hid h
  have hT := Lib.hid (offK_tot ks n)
  have hn64 : n ≤ 1048577 := by omega
  clear h hk
  go_enter Try.func86, Try.ntmps86
  go_wp2
  go_loop [1, 5] (fun v1 v5 => ∃ j : Nat, j ≤ n ∧ v1 = .int .i64 (k + (offK ks j : Int)) ∧ v5 = .int .i64 (j : Int)) (fun _ v5 => n - (intOf v5).toNat)
  case atStart => exact ⟨0, Nat.zero_le _, by simp [offK], rfl⟩
  case round =>
    obtain ⟨j, hj, rfl, rfl⟩ := hrel
    by_cases hlt : j < n
    · obtain ⟨g, o, A', n', c', rfl, hg, d0, d1, d2, d3, hrd⟩ := HR.out.at_ hlt
      rw [mKs_at _ _ _ (by rw [hl.out]; exact hlt)] at d0 d1 d3 hrd
      have hof := offK_le ks (a := j + 1) (b := n) hlt
      have hst : offK ks (j + 1) = offK ks j + (3 + totL (nthK ks j).fs) := rfl
      have HE := Lib.hid (show k + (offK ks (j + 1) : Int) = k + (offK ks j : Int) + 2 + (totL (nthK ks j).fs : Int) + 1 by rw [hst]; omega)
      have hfn : (nthK ks j).fs.length ≤ 2097152 ∧ totL (nthK ks j).fs ≤ 2097152 := by have h1 := totK_at (ks := ks) hlt; omega
      have hKb : k + (offK ks j : Int) + 2 ≤ 4194304 := by have := hT.out; omega
      have hK0 : 0 ≤ k + (offK ks j : Int) := by omega
      have hK3 : k + (offK ks j : Int) + 2 + (totL (nthK ks j).fs : Int) ≤ 8388608 := by omega
      clear hof hst
      simp only [mK] at d0 d1 d3 hrd
      generalize k + (offK ks j : Int) = K at *
      have hn' : n' ≤ 2097152 := by have h1 := hrd.1; rw [mSS_len] at h1; omega
      have HRD := Lib.hid hrd
      clear hrd
      generalize (nthK ks j).fs = fs at *
      generalize hb : ((K + 1) % 3 == 0) = b at *
      go_wp2_with fail
      rw [show K + 1 + 1 = K + 2 by omega]
      refine (heldSS_any A' n' c' fs (K + 2) _ HRD.out (by omega) hKb hn' hfn.2).mono ?_
      rintro x w1 ⟨rfl, rfl⟩
      generalize hK2 : K + 2 + (totL fs : Int) = K2 at *
      go_wp2
      go_round
      case rel => exact ⟨j + 1, by omega, by rw [HE.out], by go_num⟩
      case measure => simp [intOf]; omega
    · obtain rfl : j = n := by omega
      generalize hKK : k + (offK ks j : Int) = K at *
      have HKK := Lib.hid hKK
      clear hKK
      go_wp2
      go_ret
      exact ⟨by rw [HKK.out]; rfl, rfl⟩
set_option maxHeartbeats 2000000 in
theorem markPb_any (A : Option Addr) (n c : Nat) (ks : List Kt) (k : Int) (lo hi : Nat) (w : World) (h : OwnPB w lo hi A n c ks) (k0 : 0 ≤ k) (k1 : k ≤ 8) (ht : n + totK ks n ≤ 1048577) (hh : hi ≤ w.heap.size) :
    Calls Try.prog 39 #[.agg #[.slice A n c], .int .i64 k] w fun x w' => x = .returned (.int .i64 (k + (offK ks n : Int))) ∧ OwnPB w' lo hi A n c (mKs k ks) ∧ Turned lo hi w w' := by
  have HO := Lib.hid h
  have hT := Lib.hid (offK_tot ks n)
  have HK := Lib.hid (show 0 ≤ k + (offK ks n : Int) by omega)
  have HK1 := Lib.hid (show k + (offK ks n : Int) ≤ 8388608 by have := hT.out; omega)
  clear h
  go_enter Try.func39, Try.ntmps39
  go_wp2_with fail
  refine (markKs_any A n c ks k lo hi _ (HO.out.below ((Below.refl _ _).alloc hh _) (Nat.le_refl _)) k0 k1 ht (by simp; omega)).mono ?_
  rintro x w1 ⟨rfl, ho, ht2⟩
  have H1 := Lib.hid ho
  have H2 := Lib.hid (Turned.trans (Turned.of_below ((Below.refl w.heap.size w).alloc (Nat.le_refl _) _) lo hi) ht2)
  clear ho ht2
  generalize hKK : k + (offK ks n : Int) = K at *
  have HKK := Lib.hid hKK
  clear hKK
  go_wp2
  go_ret
  exact ⟨by rw [HKK.out]; rfl, H1.out, H2.out⟩
theorem heldPb_any (A : Option Addr) (n c : Nat) (ks : List Kt) (k : Int) (w : World) (hk : ks.length = n) (h : RdPB w A n c (mKs k ks)) (k0 : 0 ≤ k) (k1 : k ≤ 8) (ht : n + totK ks n ≤ 1048577) :
    Calls Try.prog 40 #[.agg #[.slice A n c], .int .i64 k] w fun x w' => x = .returned (.int .i64 (k + (offK ks n : Int))) ∧ Below w.heap.size w w' := by
  have HR := Lib.hid h
  have hT := Lib.hid (offK_tot ks n)
  have hK0 : 0 ≤ k + (offK ks n : Int) := by omega
  have hK1 : k + (offK ks n : Int) ≤ 8388608 := by have := hT.out; omega
  clear h
  go_enter Try.func40, Try.ntmps40
  go_wp2_with fail
  refine (heldKs_any A n c ks k _ hk (HR.out.alloc _) k0 k1 ht).mono ?_
  rintro x w1 ⟨rfl, rfl⟩
  generalize hKK : k + (offK ks n : Int) = K at *
  have HKK := Lib.hid hKK
  clear hKK
  go_wp2
  go_ret
  exact ⟨by rw [HKK.out]; rfl, by go_grown⟩
end Go.Proofs.Ythdieeaegplnmaa.Pb
