/- Copies of byte slices, of slices of byte slices, of group buffers. -/
import Derived.Test.YthdieeaegplnmaaGb
namespace Go.Proofs.Ythdieeaegplnmaa.Gb
open Go.RowKit
open Go.Proofs.Ythdieeaegplnmaa.Num Go.Proofs.Ythdieeaegplnmaa.Mem Go.Proofs.Ythdieeaegplnmaa.Hsh Go.Proofs.Ythdieeaegplnmaa.Sls Go.Proofs.Ythdieeaegplnmaa.Own Go.Proofs.Ythdieeaegplnmaa.SS Go.Proofs.Ythdieeaegplnmaa.Bcn
set_option linter.unusedSimpArgs false
set_option linter.unusedVariables false
theorem uInfo : (Try.prog.info? 5).map (fun i => (i.zero, i.size, i.bytes)) = some (some (.int .u8 0), 1, 1) := by kernel_rfl
set_option maxHeartbeats 1000000 in
theorem copyB_any (A : Option Addr) (n c : Nat) (zs : List Int) (w : World) (hr : Rd w 1 A n c (zs.map (Value.int .u8))) (hn : n ≤ 2097152) :
    Calls Try.prog 61 #[.slice A n c] w (RetOwn w 5 1 n (zs.map (Value.int .u8))) := by
  obtain ⟨i0, hi, hz0, hz1, hz2⟩ := info_parts uInfo
  have HR := Lib.hid hr
  clear hr
  go_enter Try.func61, Try.ntmps61
  go_wp2_with (at_make; refine wpList_make_full _ rfl _ _ 25 rfl w.heap.size 5 i0 (.int .u8 0) 1 Try.underlying25 hi hz0 hz1 _ _ _ _ n rfl rfl rfl rfl ?b2 ?b3 (Nat.le_refl _) ?_)
  case b2 => rw [hz2]; omega
  case b3 => unfold maxLen; omega
  intro w0 hown0 hgrow0
  have hb0 : Below w.heap.size w w0 := (Below.refl _ _).grown hgrow0 (Nat.le_refl _) (fun k h => by cases h)
  clear hgrow0
  generalize (madeCells #[Value.int IntKind.u8 0] n).toList = Z at hown0
  have HO := Lib.hid hown0
  clear hown0
  go_wp2_with (with_reducible refine wpl_copy (o := ⟨some 9, _, _, _, _, _⟩) _ rfl _ _ 25 25 rfl 5 i0 1 Try.underlying25 hi hz1 w.heap.size 5 w.heap.size n n Z rfl HO.out A c _ rfl (HR.out.below hb0) (one_ints .u8 zs) ?_)
  intro w1 hown1 hgrow1
  have HB := Lib.hid (hb0.grown hgrow1 hb0.size (fun k h => by injection h with h; omega))
  have HO1 := Lib.hid hown1
  clear hgrow1 hown1 hb0
  go_wp2
  go_ret
  exact ⟨_, _, rfl, HO1.out, HB.out⟩
set_option maxHeartbeats 1000000 in
theorem copyFr_any (A : Option Addr) (n c : Nat) (xss : List (List Int)) (w : World) (hr : RdSS w A n c xss) (hn : n ≤ 2097152) (hs : AllShort xss) :
    Calls Try.prog 89 #[.slice A n c] w (RetSS w n xss) := by
  obtain ⟨i0, hi, hz0, hz1, hz2⟩ := info_parts ssInfo
  have hl := Lib.hid hr.1
  have HR := Lib.hid hr
  have HS := Lib.hid hs
  clear hr hs
  go_enter Try.func89, Try.ntmps89
  go_wp2_with (at_make; refine wpList_make_full _ rfl _ _ 22 rfl w.heap.size 25 i0 (.slice none 0 0) 1 Try.underlying22 hi hz0 hz1 _ _ _ _ n rfl rfl rfl rfl ?b2 ?b3 (Nat.le_refl _) ?_)
  case b2 => rw [hz2]; omega
  case b3 => unfold maxLen; omega
  intro w0 hown0 hgrow0
  have hb0 : Below w.heap.size w w0 := (Below.refl _ _).grown hgrow0 (Nat.le_refl _) (fun k h => by cases h)
  clear hgrow0
  have hz' : ((madeCells #[Value.slice none 0 0] n).toList).length = n := by simp [size_madeCells]
  generalize (madeCells #[Value.slice none 0 0] n).toList = Z at hown0 hz'
  have HZ := Lib.hid hz'
  have HO := Lib.hid hown0
  clear hz' hown0
  go_wp2
  go_loopw [11] (fun v4 wr => ∃ (k : Nat) (ss : List Sl), k ≤ n ∧ v4 = .int .i64 (k : Int) ∧ ss.length = k ∧ wr.ownsRow w.heap.size 25 1 (.slice (some ⟨w.heap.size, 0, none⟩) n n) n (ss.map sl ++ Z.drop k) ∧ InSS wr (w.heap.size + 1) wr.heap.size ss xss k ∧ Below w.heap.size w wr) (fun v4 _ => n - (intOf v4).toNat)
  case atStart => exact ⟨0, [], Nat.zero_le _, rfl, rfl, HO.out, ⟨fun i h => absurd h (by omega), fun i j _ h => absurd h (by omega)⟩, hb0⟩
  case round =>
    obtain ⟨k, ss, hk, rfl, hls, hown, hin, hbr⟩ := hrel
    by_cases hlt : k < n
    · obtain ⟨g, o, A', n', c', rfl, hg, hc, hrd⟩ := (HR.out.below hbr).at_ hlt
      have hn' : n' ≤ 2097152 := by have h1 := HS.out k; have h2 := len_ints hrd; omega
      have HO := Lib.hid hown
      have HI := Lib.hid hin
      have HL := Lib.hid hls
      have hw0 := (hown.lt w.heap.size rfl).2
      have HX := Lib.hid (fun s => sl_step (ss := ss) (Z := Z) (k := k) s hls (by rw [HZ.out]; exact hlt))
      clear hown hin hls
      go_wp2_with fail
      refine (copyB_any A' n' c' (xss.getD k []) _ hrd hn').mono ?_
      rintro x w1 ⟨A1, c1, rfl, hown1, hb⟩
      have h1 := own_below HO.out hb
      have hfr := h1.frozenAt k
      have hlen := h1.1
      obtain ⟨u, d0⟩ : ∃ u, w1.cell? ⟨w.heap.size, k, none⟩ = some u := ⟨_, by rw [h1.cellAt k (by omega), List.getElem?_eq_getElem (by omega)]⟩
      have HT := Lib.hid ((h1.stored k (sl (A1, n', c1))).1)
      have HB := Lib.hid ((stepB hbr hb hbr.size).setCell (p := ⟨w.heap.size, k, none⟩) (Nat.le_refl _) (sl (A1, n', c1)))
      have hI1 : InSS w1 (w.heap.size + 1) w1.heap.size (ss ++ [(A1, n', c1)]) xss (k + 1) := in_step (s := (A1, n', c1)) (HI.out.keep fun g _ hg => hb.block g hg) HL.out (Own.of hown1) hw0 hb.size
      have HN := Lib.hid (show InSS (w1.setCell ⟨w.heap.size, k, none⟩ (sl (A1, n', c1))) (w.heap.size + 1) (w1.setCell ⟨w.heap.size, k, none⟩ (sl (A1, n', c1))).heap.size (ss ++ [(A1, n', c1)]) xss (k + 1) from (hI1.keep fun g h1 _ => Below.heap_setCell w1 _ _ g (by simp; omega)).wider (Nat.le_refl _) (by simp [World.setCell]))
      have HL2 := Lib.hid (show (ss ++ [(A1, n', c1)]).length = k + 1 by simp [HL.out])
      have HX2 := Lib.hid (HX.out (A1, n', c1))
      clear h1 hlen hown1 hb hbr hb0 hc hrd hI1 HX
      go_wp2
      go_roundw
      case rel => exact ⟨k + 1, ss ++ [(A1, n', c1)], by omega, by go_num, HL2.out, by rw [← HX2.out]; exact HT.out, HN.out, HB.out⟩
      case measure => simp [intOf]; omega
    · obtain rfl : k = n := by omega
      have HA := Lib.hid (show ss.map sl ++ Z.drop k = ss.map sl by rw [List.drop_of_length_le (by rw [HZ.out]; exact Nat.le_refl _), List.append_nil])
      have HW := Lib.hid hown
      have HI := Lib.hid hin
      have HL := Lib.hid hls
      clear hown hin hls
      go_wp2
      go_ret
      exact ⟨_, _, rfl, ⟨hl.out, ss, HL.out, by have h := HW.out; rw [HA.out] at h; exact Own.of h, HI.out.wider (by omega) (Nat.le_refl _)⟩, hbr⟩
set_option maxHeartbeats 1000000 in
theorem copyGb_any (pe lo : Int) (A : Option Addr) (n c : Nat) (xss : List (List Int)) (w : World) (hr : RdSS w A n c xss) (hn : n ≤ 2097152) (hs : AllShort xss) :
    Calls Try.prog 60 #[.agg #[.int .i64 pe, .slice A n c, .int .i64 lo]] w (RetGb w pe lo n xss) := by
  have HR := Lib.hid hr
  have HS := Lib.hid hs
  clear hr hs
  go_enter Try.func60, Try.ntmps60
  go_wp2_with fail
  refine (copyFr_any A n c xss _ ((HR.out.alloc _).alloc _) hn HS.out).mono ?_
  rintro x w1 ⟨A1, c1, rfl, hown, hb⟩
  obtain ⟨hc, hf⟩ := bcells hb
  have q0 := (hc (w.heap.size) 0 (by simp <;> omega)).trans (show _ = some (.int .i64 pe) from by first | (simp; done) | (simp [World.cell?_alloc_at]; done) | (rw [World.cell?_alloc_old _ _ _ (by simp <;> omega)]; first | (simp; done) | (simp [World.cell?_alloc_at]; done))); have q1 := (hc (w.heap.size) 1 (by simp <;> omega)).trans (show _ = some (.slice A n c) from by first | (simp; done) | (simp [World.cell?_alloc_at]; done) | (rw [World.cell?_alloc_old _ _ _ (by simp <;> omega)]; first | (simp; done) | (simp [World.cell?_alloc_at]; done))); have q2 := (hc (w.heap.size) 2 (by simp <;> omega)).trans (show _ = some (.int .i64 lo) from by first | (simp; done) | (simp [World.cell?_alloc_at]; done) | (rw [World.cell?_alloc_old _ _ _ (by simp <;> omega)]; first | (simp; done) | (simp [World.cell?_alloc_at]; done)))
  have p0 := (hc (w.heap.size + 1) 0 (by simp <;> omega)).trans (show _ = some (.int .i64 0) from by first | (simp; done) | (simp [World.cell?_alloc_at]; done) | (rw [World.cell?_alloc_old _ _ _ (by simp <;> omega)]; first | (simp; done) | (simp [World.cell?_alloc_at]; done))); have p1 := (hc (w.heap.size + 1) 1 (by simp <;> omega)).trans (show _ = some (.slice none 0 0) from by first | (simp; done) | (simp [World.cell?_alloc_at]; done) | (rw [World.cell?_alloc_old _ _ _ (by simp <;> omega)]; first | (simp; done) | (simp [World.cell?_alloc_at]; done))); have p2 := (hc (w.heap.size + 1) 2 (by simp <;> omega)).trans (show _ = some (.int .i64 0) from by first | (simp; done) | (simp [World.cell?_alloc_at]; done) | (rw [World.cell?_alloc_old _ _ _ (by simp <;> omega)]; first | (simp; done) | (simp [World.cell?_alloc_at]; done)))
  have f0 := (hf (w.heap.size) 0 (by simp <;> omega)).trans (show _ = false from by first | (simp; done) | (simp [World.frozen?_alloc_at]; done) | (rw [World.frozen?_alloc_old _ _ _ (by simp <;> omega)]; first | (simp [World.frozen?_alloc_at]; done) | (rw [World.frozen?_alloc_old _ _ _ (by simp <;> omega)]; simp [World.frozen?_alloc_at]; done))); have f1 := (hf (w.heap.size) 1 (by simp <;> omega)).trans (show _ = false from by first | (simp; done) | (simp [World.frozen?_alloc_at]; done) | (rw [World.frozen?_alloc_old _ _ _ (by simp <;> omega)]; first | (simp [World.frozen?_alloc_at]; done) | (rw [World.frozen?_alloc_old _ _ _ (by simp <;> omega)]; simp [World.frozen?_alloc_at]; done))); have f2 := (hf (w.heap.size) 2 (by simp <;> omega)).trans (show _ = false from by first | (simp; done) | (simp [World.frozen?_alloc_at]; done) | (rw [World.frozen?_alloc_old _ _ _ (by simp <;> omega)]; first | (simp [World.frozen?_alloc_at]; done) | (rw [World.frozen?_alloc_old _ _ _ (by simp <;> omega)]; simp [World.frozen?_alloc_at]; done)))
  have r0 := (hf (w.heap.size + 1) 0 (by simp <;> omega)).trans (show _ = false from by first | (simp; done) | (simp [World.frozen?_alloc_at]; done) | (rw [World.frozen?_alloc_old _ _ _ (by simp <;> omega)]; first | (simp [World.frozen?_alloc_at]; done) | (rw [World.frozen?_alloc_old _ _ _ (by simp <;> omega)]; simp [World.frozen?_alloc_at]; done))); have r1 := (hf (w.heap.size + 1) 1 (by simp <;> omega)).trans (show _ = false from by first | (simp; done) | (simp [World.frozen?_alloc_at]; done) | (rw [World.frozen?_alloc_old _ _ _ (by simp <;> omega)]; first | (simp [World.frozen?_alloc_at]; done) | (rw [World.frozen?_alloc_old _ _ _ (by simp <;> omega)]; simp [World.frozen?_alloc_at]; done))); have r2 := (hf (w.heap.size + 1) 2 (by simp <;> omega)).trans (show _ = false from by first | (simp; done) | (simp [World.frozen?_alloc_at]; done) | (rw [World.frozen?_alloc_old _ _ _ (by simp <;> omega)]; first | (simp [World.frozen?_alloc_at]; done) | (rw [World.frozen?_alloc_old _ _ _ (by simp <;> omega)]; simp [World.frozen?_alloc_at]; done)))
  have k1 := set_same (v := .slice A1 n c1) q1
  have HO := Lib.hid (own_set3 (b := w.heap.size + 1) (own_set (b := w.heap.size) (o := 1) hown (by simp <;> omega) (.slice A1 n c1)) (by simp <;> omega) (.int .i64 pe) (.slice A1 n c1) (.int .i64 lo))
  have HB := Lib.hid (below_set3 (b := w.heap.size + 1) ((show Below w.heap.size w w1 from Below.trans (by go_grown) (hb.mono (by simp <;> omega))).setCell (p := ⟨w.heap.size, 1, none⟩) (Nat.le_refl _) (.slice A1 n c1)) (by omega) (.int .i64 pe) (.slice A1 n c1) (.int .i64 lo))
  have HM := Lib.hid (same3 (.int .i64 pe) (.slice A1 n c1) (.int .i64 lo) (set_blk (d := w.heap.size) (o := 1) (v := .slice A1 n c1) (by omega) p0) (set_blk (d := w.heap.size) (o := 1) (v := .slice A1 n c1) (by omega) p1) (set_blk (d := w.heap.size) (o := 1) (v := .slice A1 n c1) (by omega) p2))
  clear hown hb hc hf
  go_wp2
  obtain ⟨m0, m1, m2⟩ := HM.out
  refine bodyPost_ret (v := .agg #[.int .i64 pe, .slice A1 n c1, .int .i64 lo]) (by simp [results, Try.results60, go_sem, m0, m1, m2]) rfl ?_
  exact ⟨_, _, rfl, HO.out.wider (by simp <;> omega) (by simp [World.setCell]), HB.out⟩
end Go.Proofs.Ythdieeaegplnmaa.Gb
