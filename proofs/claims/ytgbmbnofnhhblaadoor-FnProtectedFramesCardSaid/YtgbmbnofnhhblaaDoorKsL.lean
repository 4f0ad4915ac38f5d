/- Contracts of the laws' helpers on key states: conversion, size, comparison, marks. -/
import Derived.Test.YtgbmbnofnhhblaaDoorKs
namespace Go.Proofs.YtgbmbnofnhhblaaDoor.Ks
open Go.RowKit
open Go.Proofs.YtgbmbnofnhhblaaDoor.Num Go.Proofs.YtgbmbnofnhhblaaDoor.Mem Go.Proofs.YtgbmbnofnhhblaaDoor.Sls Go.Proofs.YtgbmbnofnhhblaaDoor.Own
set_option linter.unusedSimpArgs false

/-- N marks from k on -/
def marksL (k : Int) (N : Nat) : List Int := _root_.List.map (fun (i : Nat) => k + (i : Int)) (_root_.List.range N)
theorem marks_len (k : Int) (N : Nat) : (marksL k N).length = N := by simp [marksL]
theorem marks_at (k : Int) (N j : Nat) (h : j < N) : (marksL k N).getD j 0 = k + (j : Int) := by
  simp [marksL, List.getD, h]
theorem ownsRow_succ' {w : World} {base : Nat} {e : TypeId} {size n : Nat} {v : Value} {xs : List Value} (h : w.ownsRow base e size v n xs) (hn : 0 < n) : ∃ g cap, v = .slice (some ⟨g, 0, none⟩) n cap := by
  obtain ⟨_, h2⟩ := h
  rcases h2 with ⟨_, h0⟩ | ⟨g, cap, _, hv, _⟩
  · omega
  · exact ⟨g, cap, hv⟩
set_option maxHeartbeats 1000000 in
theorem markInts_any (A : Option Addr) (n c : Nat) (xs : List Value) (k : Int) (lo hi : Nat) (w : World) (h : Own w lo hi 3 1 A n c xs) (k0 : 0 ≤ k) (k1 : k ≤ 4194304) (hn : n ≤ 2097152) :
    Calls Tryd.prog 42 #[.slice A n c, .int .i64 k] w fun x w' => x = .returned (.int .i64 (k + (n : Int))) ∧ Own w' lo hi 3 1 A n c ((marksL k n).map (Value.int .i64)) ∧ Turned lo hi w w' := by
  have hl := Lib.hid (show xs.length = n by have := h.1.1; simpa using this)
  have HO := Lib.hid h
  clear h
  go_enter Tryd.func42, Tryd.ntmps42
  go_wp2
  go_loopw [1, 5] (fun v1 v5 wr => ∃ j : Nat, j ≤ n ∧ v1 = .int .i64 (k + (j : Int)) ∧ v5 = .int .i64 (j : Int) ∧ Own wr lo hi 3 1 A n c (((marksL k n).take j).map (Value.int .i64) ++ xs.drop j) ∧ Turned lo hi w wr) (fun _ v5 _ => n - (intOf v5).toNat)
  case atStart => exact ⟨0, Nat.zero_le _, by go_num, rfl, HO.out, Turned.refl _ _ _⟩
  case round =>
    obtain ⟨j, hj, rfl, rfl, hown, ht⟩ := hrel
    by_cases hlt : j < n
    · obtain ⟨g, cap, hv⟩ := ownsRow_succ' hown.1 (by omega)
      simp only [Value.slice.injEq, true_and] at hv
      obtain ⟨rfl, rfl⟩ := hv
      have hg1 := (hown.1.lt g rfl).1
      have hg2 := hown.2 g rfl
      have HS := Lib.hid (row_step (k := j) (zs := marksL k n) (Z := xs) (f := Value.int .i64) (by rw [marks_len]; omega) (by rw [hl.out]; omega))
      rw [marks_at _ _ _ hlt] at HS
      have hK0 : 0 ≤ k + (j : Int) := by omega
      have hK1 : k + (j : Int) ≤ 9437184 := by omega
      have HE := Lib.hid (show k + ((j : Int) + 1) = k + (j : Int) + 1 by omega)
      generalize k + (j : Int) = K at *
      have hfr := hown.1.frozenAt
      have hlen := hown.1.1
      obtain ⟨u0, d0⟩ : ∃ u, wr.cell? ⟨g, j, none⟩ = some u := ⟨_, by rw [hown.1.cellAt j (by omega), List.getElem?_eq_getElem (by omega)]⟩
      have HT := Lib.hid ((hown.1.stored j (.int .i64 K)).1)
      have HB := Lib.hid (ht.setCell (p := ⟨g, j, none⟩) hg1 hg2 (.int .i64 K))
      have HA := Lib.hid hown.2
      clear hown ht hlen
      go_wp2
      go_roundw
      case rel => exact ⟨j + 1, by omega, by rw [show ((j + 1 : Nat) : Int) = (j : Int) + 1 from rfl, HE.out], by go_num, ⟨by rw [← HS.out]; exact HT.out, HA.out⟩, HB.out⟩
      case measure => simp [intOf]; omega
    · obtain rfl : j = n := by omega
      have HX := Lib.hid (show ((marksL k j).take j).map (Value.int .i64) ++ xs.drop j = (marksL k j).map (Value.int .i64) by rw [List.take_of_length_le (by rw [marks_len]; exact Nat.le_refl _), List.drop_of_length_le (by rw [hl.out]; exact Nat.le_refl _), List.append_nil])
      have HW := Lib.hid hown
      clear hown
      go_wp2
      go_ret
      exact ⟨rfl, by have h := HW.out; rw [HX.out] at h; exact h, ht⟩
set_option maxHeartbeats 1000000 in
theorem heldInts_any (A : Option Addr) (n c : Nat) (k : Int) (w : World) (h : Rd w 1 A n c ((marksL k n).map (Value.int .i64))) (k0 : 0 ≤ k) (k1 : k ≤ 4194304) (hn : n ≤ 2097152) :
    Calls Tryd.prog 43 #[.slice A n c, .int .i64 k] w fun x w' => x = .returned (.int .i64 (k + (n : Int))) ∧ w = w' := by
  have HR := Lib.hid h
  clear h
  go_enter Tryd.func43, Tryd.ntmps43
  go_wp2
  go_loop [1, 5] (fun v1 v5 => ∃ j : Nat, j ≤ n ∧ v1 = .int .i64 (k + (j : Int)) ∧ v5 = .int .i64 (j : Int)) (fun _ v5 => n - (intOf v5).toNat)
  case atStart => exact ⟨0, Nat.zero_le _, by go_num, rfl⟩
  case round =>
    obtain ⟨j, hj, rfl, rfl⟩ := hrel
    by_cases hlt : j < n
    · obtain ⟨g, o, rfl, hg, c0⟩ := HR.out.int_at hlt
      rw [marks_at _ _ _ hlt] at c0
      have hK0 : 0 ≤ k + (j : Int) := by omega
      have hK1 : k + (j : Int) ≤ 9437184 := by omega
      have HE := Lib.hid (show k + ((j : Int) + 1) = k + (j : Int) + 1 by omega)
      generalize k + (j : Int) = K at *
      go_wp2
      go_round
      case rel => exact ⟨j + 1, by omega, by rw [show ((j + 1 : Nat) : Int) = (j : Int) + 1 from rfl, HE.out], by go_num⟩
      case measure => simp [intOf]; omega
    · obtain rfl : j = n := by omega
      go_wp2
      go_ret
      exact ⟨rfl, rfl⟩
theorem szInts_any (A : Option Addr) (n c : Nat) (left : Int) (w : World) (h0 : 0 ≤ left) (h1 : left ≤ 1048576) (hn : n ≤ 9223372036854775807) : Calls Tryd.prog 31 #[.slice A n c, .int .i64 left] w fun x w' => x = .returned (.int .i64 (if left < n then -1 else left - n)) ∧ w = w' := by
  by_cases h : left < n
  · rw [if_pos h]
    go_enter Tryd.func31, Tryd.ntmps31
    go_wp2
    go_ret
    exact ⟨rfl, rfl⟩
  · rw [if_neg h]
    go_enter Tryd.func31, Tryd.ntmps31
    go_wp2
    go_ret
    exact ⟨rfl, rfl⟩
theorem markKs_any (ke se re : Int) (A : Option Addr) (n c : Nat) (xs : List Value) (k : Int) (lo hi : Nat) (w : World) (h : Own w lo hi 3 1 A n c xs) (k0 : 0 ≤ k) (k1 : k ≤ 4194304) (hn : n ≤ 2097152) (hh : hi ≤ w.heap.size) :
    Calls Tryd.prog 14 #[.agg #[.int .i64 ke, .int .i64 se, .int .i64 re, .slice A n c], .int .i64 k] w fun x w' => x = .returned (.int .i64 (k + (n : Int))) ∧ Own w' lo hi 3 1 A n c ((marksL k n).map (Value.int .i64)) ∧ Turned lo hi w w' := by
  have HO := Lib.hid h
  clear h
  go_enter Tryd.func14, Tryd.ntmps14
  go_wp2_with fail
  refine (markInts_any A n c xs k lo hi _ (HO.out.below ((Below.refl _ _).alloc hh _) (Nat.le_refl _)) k0 k1 hn).mono ?_
  rintro x w1 ⟨rfl, ho, ht⟩
  have H1 := Lib.hid ho
  have H2 := Lib.hid (Turned.trans (Turned.of_below ((Below.refl w.heap.size w).alloc (Nat.le_refl _) _) lo hi) ht)
  clear ho ht
  go_wp2
  go_ret
  exact ⟨rfl, H1.out, H2.out⟩
theorem heldKs_any (ke se re : Int) (A : Option Addr) (n c : Nat) (k : Int) (w : World) (h : Rd w 1 A n c ((marksL k n).map (Value.int .i64))) (k0 : 0 ≤ k) (k1 : k ≤ 4194304) (hn : n ≤ 2097152) :
    Calls Tryd.prog 17 #[.agg #[.int .i64 ke, .int .i64 se, .int .i64 re, .slice A n c], .int .i64 k] w fun x w' => x = .returned (.int .i64 (k + (n : Int))) ∧ Below w.heap.size w w' := by
  have HR := Lib.hid h
  clear h
  go_enter Tryd.func17, Tryd.ntmps17
  go_wp2_with fail
  refine (heldInts_any A n c k _ (HR.out.alloc _) k0 k1 hn).mono ?_
  rintro x w1 ⟨rfl, rfl⟩
  go_wp2
  go_ret
  exact ⟨rfl, by go_grown⟩
theorem szKs_any (ke se re : Int) (A : Option Addr) (n c : Nat) (left : Int) (w : World) (h0 : 0 ≤ left) (h1 : left ≤ 1048576) (hn : n ≤ 9223372036854775807) : Calls Tryd.prog 6 #[.agg #[.int .i64 ke, .int .i64 se, .int .i64 re, .slice A n c], .int .i64 left] w fun x w' => x = .returned (.int .i64 (if left < n then -1 else left - n)) ∧ Below w.heap.size w w' := by
  by_cases h : left < n
  · rw [if_pos h]
    go_enter Tryd.func6, Tryd.ntmps6
    go_wp2_with fail
    refine (szInts_any A n c left _ h0 h1 hn).mono ?_
    rintro x w0 ⟨rfl, rfl⟩
    rw [if_pos h]
    go_wp2
    go_ret
    exact ⟨rfl, by go_grown⟩
  · rw [if_neg h]
    go_enter Tryd.func6, Tryd.ntmps6
    go_wp2_with fail
    refine (szInts_any A n c left _ h0 h1 hn).mono ?_
    rintro x w0 ⟨rfl, rfl⟩
    rw [if_neg (by omega)]
    go_wp2
    go_ret
    exact ⟨rfl, by go_grown⟩
theorem eqKs_same (ke se re : Int) (A : Option Addr) (n c : Nat) (B : Option Addr) (d : Nat) (zs : List Int) (w : World) (hx : Rd w 1 A n c (zs.map (Value.int .i64))) (hy : Rd w 1 B n d (zs.map (Value.int .i64))) :
    Calls Tryd.prog 11 #[.agg #[.int .i64 ke, .int .i64 se, .int .i64 re, .slice A n c], .agg #[.int .i64 ke, .int .i64 se, .int .i64 re, .slice B n d]] w fun x w' => x = .returned (.bool true) ∧ Below w.heap.size w w' := by
  have HX := Lib.hid hx
  have HY := Lib.hid hy
  clear hx hy
  go_enter Tryd.func11, Tryd.ntmps11
  go_wp2_with fail
  refine (eqIntS_laws A n c zs B n d zs _ ((HX.out.alloc _).alloc _) ((HY.out.alloc _).alloc _)).mono ?_
  rintro x w1 ⟨rfl, hb⟩
  rw [decide_eq_true rfl]
  have HB := Lib.hid (show Below w.heap.size w w1 from Below.trans (by go_grown) (hb.mono (by simp <;> omega)))
  clear hb
  go_wp2
  go_ret
  exact ⟨rfl, HB.out⟩
set_option maxHeartbeats 1000000 in
theorem toKs_any (ke se re : Int) (A : Option Addr) (n c : Nat) (zs : List Int) (w : World) (hr : Rd w 1 A n c (zs.map (Value.int .i64))) (hn : n ≤ 2097152) :
    Calls Tryd.prog 8 #[.agg #[.int .i64 ke, .int .i64 se, .int .i64 re, .slice A n c]] w (RetKs w ke se re n zs) := by
  have HR := Lib.hid hr
  clear hr
  go_enter Tryd.func8, Tryd.ntmps8
  go_wp2_with fail
  refine (toIntS_any A n c zs _ (((HR.out.alloc _).alloc _).alloc _) hn).mono ?_
  rintro x w1 ⟨A1, c1, rfl, hown, hb⟩
  obtain ⟨hc, hf⟩ := bcells hb
  have p0 := (hc (w.heap.size + 1) 0 (by simp <;> omega)).trans (show _ = some (.int .i64 0) from by first | (simp; done) | (simp [World.cell?_alloc_at]; done) | (rw [World.cell?_alloc_old _ _ _ (by simp <;> omega)]; first | (simp; done) | (simp [World.cell?_alloc_at]; done))); have p1 := (hc (w.heap.size + 1) 1 (by simp <;> omega)).trans (show _ = some (.int .i64 0) from by first | (simp; done) | (simp [World.cell?_alloc_at]; done) | (rw [World.cell?_alloc_old _ _ _ (by simp <;> omega)]; first | (simp; done) | (simp [World.cell?_alloc_at]; done))); have p2 := (hc (w.heap.size + 1) 2 (by simp <;> omega)).trans (show _ = some (.int .i64 0) from by first | (simp; done) | (simp [World.cell?_alloc_at]; done) | (rw [World.cell?_alloc_old _ _ _ (by simp <;> omega)]; first | (simp; done) | (simp [World.cell?_alloc_at]; done))); have p3 := (hc (w.heap.size + 1) 3 (by simp <;> omega)).trans (show _ = some (.slice none 0 0) from by first | (simp; done) | (simp [World.cell?_alloc_at]; done) | (rw [World.cell?_alloc_old _ _ _ (by simp <;> omega)]; first | (simp; done) | (simp [World.cell?_alloc_at]; done)))
  have q0 := (hc (w.heap.size + 1 + 1) 0 (by simp <;> omega)).trans (show _ = some (.int .i64 ke) from by first | (simp; done) | (simp [World.cell?_alloc_at]; done) | (rw [World.cell?_alloc_old _ _ _ (by simp <;> omega)]; first | (simp; done) | (simp [World.cell?_alloc_at]; done))); have q1 := (hc (w.heap.size + 1 + 1) 1 (by simp <;> omega)).trans (show _ = some (.int .i64 se) from by first | (simp; done) | (simp [World.cell?_alloc_at]; done) | (rw [World.cell?_alloc_old _ _ _ (by simp <;> omega)]; first | (simp; done) | (simp [World.cell?_alloc_at]; done))); have q2 := (hc (w.heap.size + 1 + 1) 2 (by simp <;> omega)).trans (show _ = some (.int .i64 re) from by first | (simp; done) | (simp [World.cell?_alloc_at]; done) | (rw [World.cell?_alloc_old _ _ _ (by simp <;> omega)]; first | (simp; done) | (simp [World.cell?_alloc_at]; done))); have q3 := (hc (w.heap.size + 1 + 1) 3 (by simp <;> omega)).trans (show _ = some (.slice none 0 0) from by first | (simp; done) | (simp [World.cell?_alloc_at]; done) | (rw [World.cell?_alloc_old _ _ _ (by simp <;> omega)]; first | (simp; done) | (simp [World.cell?_alloc_at]; done)))
  have r0 := (hf (w.heap.size + 1) 0 (by simp <;> omega)).trans (show _ = false from by first | (simp; done) | (simp [World.frozen?_alloc_at]; done) | (rw [World.frozen?_alloc_old _ _ _ (by simp <;> omega)]; first | (simp [World.frozen?_alloc_at]; done) | (rw [World.frozen?_alloc_old _ _ _ (by simp <;> omega)]; simp [World.frozen?_alloc_at]; done))); have r1 := (hf (w.heap.size + 1) 1 (by simp <;> omega)).trans (show _ = false from by first | (simp; done) | (simp [World.frozen?_alloc_at]; done) | (rw [World.frozen?_alloc_old _ _ _ (by simp <;> omega)]; first | (simp [World.frozen?_alloc_at]; done) | (rw [World.frozen?_alloc_old _ _ _ (by simp <;> omega)]; simp [World.frozen?_alloc_at]; done))); have r2 := (hf (w.heap.size + 1) 2 (by simp <;> omega)).trans (show _ = false from by first | (simp; done) | (simp [World.frozen?_alloc_at]; done) | (rw [World.frozen?_alloc_old _ _ _ (by simp <;> omega)]; first | (simp [World.frozen?_alloc_at]; done) | (rw [World.frozen?_alloc_old _ _ _ (by simp <;> omega)]; simp [World.frozen?_alloc_at]; done))); have r3 := (hf (w.heap.size + 1) 3 (by simp <;> omega)).trans (show _ = false from by first | (simp; done) | (simp [World.frozen?_alloc_at]; done) | (rw [World.frozen?_alloc_old _ _ _ (by simp <;> omega)]; first | (simp [World.frozen?_alloc_at]; done) | (rw [World.frozen?_alloc_old _ _ _ (by simp <;> omega)]; simp [World.frozen?_alloc_at]; done)))
  have f0 := (hf (w.heap.size + 1 + 1) 0 (by simp <;> omega)).trans (show _ = false from by first | (simp; done) | (simp [World.frozen?_alloc_at]; done) | (rw [World.frozen?_alloc_old _ _ _ (by simp <;> omega)]; first | (simp [World.frozen?_alloc_at]; done) | (rw [World.frozen?_alloc_old _ _ _ (by simp <;> omega)]; simp [World.frozen?_alloc_at]; done))); have f1 := (hf (w.heap.size + 1 + 1) 1 (by simp <;> omega)).trans (show _ = false from by first | (simp; done) | (simp [World.frozen?_alloc_at]; done) | (rw [World.frozen?_alloc_old _ _ _ (by simp <;> omega)]; first | (simp [World.frozen?_alloc_at]; done) | (rw [World.frozen?_alloc_old _ _ _ (by simp <;> omega)]; simp [World.frozen?_alloc_at]; done))); have f2 := (hf (w.heap.size + 1 + 1) 2 (by simp <;> omega)).trans (show _ = false from by first | (simp; done) | (simp [World.frozen?_alloc_at]; done) | (rw [World.frozen?_alloc_old _ _ _ (by simp <;> omega)]; first | (simp [World.frozen?_alloc_at]; done) | (rw [World.frozen?_alloc_old _ _ _ (by simp <;> omega)]; simp [World.frozen?_alloc_at]; done))); have f3 := (hf (w.heap.size + 1 + 1) 3 (by simp <;> omega)).trans (show _ = false from by first | (simp; done) | (simp [World.frozen?_alloc_at]; done) | (rw [World.frozen?_alloc_old _ _ _ (by simp <;> omega)]; first | (simp [World.frozen?_alloc_at]; done) | (rw [World.frozen?_alloc_old _ _ _ (by simp <;> omega)]; simp [World.frozen?_alloc_at]; done)))
  have k3 := set_same (v := .slice A1 n c1) q3
  obtain ⟨m0, m1, m2, m3⟩ := same4 (.int .i64 ke) (.int .i64 se) (.int .i64 re) (.slice A1 n c1) (set_blk (d := w.heap.size + 1 + 1) (o := 3) (v := .slice A1 n c1) (by omega) p0) (set_blk (d := w.heap.size + 1 + 1) (o := 3) (v := .slice A1 n c1) (by omega) p1) (set_blk (d := w.heap.size + 1 + 1) (o := 3) (v := .slice A1 n c1) (by omega) p2) (set_blk (d := w.heap.size + 1 + 1) (o := 3) (v := .slice A1 n c1) (by omega) p3)
  have HO := Lib.hid (own_set4 (b := w.heap.size + 1) (own_set hown (a := ⟨w.heap.size + 1 + 1, 3, none⟩) (by simp <;> omega) (.slice A1 n c1)) (by simp <;> omega) (.int .i64 ke) (.int .i64 se) (.int .i64 re) (.slice A1 n c1))
  have HB := Lib.hid (below_set4 (b := w.heap.size + 1) ((show Below w.heap.size w w1 from Below.trans (by go_grown) (hb.mono (by simp <;> omega))).setCell (p := ⟨w.heap.size + 1 + 1, 3, none⟩) (by simp; omega) (.slice A1 n c1)) (by omega) (.int .i64 ke) (.int .i64 se) (.int .i64 re) (.slice A1 n c1))
  clear hown hb hc hf
  go_wp2
  refine bodyPost_ret (v := .agg #[.int .i64 ke, .int .i64 se, .int .i64 re, .slice A1 n c1]) (by simp [results, Tryd.results8, go_sem, m0, m1, m2, m3]) rfl ?_
  exact ⟨_, _, rfl, ownsRow_mono HO.out (by simp <;> omega), HB.out⟩
end Go.Proofs.YtgbmbnofnhhblaaDoor.Ks
