/- Contracts of the laws' helpers on clients: conversion, size, comparison, marks. -/
import Derived.Test.YtlichendokpicaaClient
namespace Go.Proofs.Ytlichendokpicaa.Cl
open Go.RowKit
open Go.Proofs.Ytlichendokpicaa.Num Go.Proofs.Ytlichendokpicaa.Mem Go.Proofs.Ytlichendokpicaa.Sls Go.Proofs.Ytlichendokpicaa.Scn Go.Proofs.Ytlichendokpicaa.Own
set_option linter.unusedSimpArgs false

/-- N marks from k on -/
def marksL (k : Int) (N : Nat) : List Int := _root_.List.map (fun (i : Nat) => k + (i : Int)) (_root_.List.range N)
theorem marks_len (k : Int) (N : Nat) : (marksL k N).length = N := by simp [marksL]
theorem marks_at (k : Int) (N j : Nat) (h : j < N) : (marksL k N).getD j 0 = k + (j : Int) := by
  simp [marksL, List.getD, h]
theorem fld_marks (k : Int) (N j i : Nat) (h : j * 4 + i < N) : fld (marksL k N) j i = k + ((j : Int) * 4 + (i : Int)) := by
  unfold fld
  rw [marks_at _ _ _ h]
  push_cast
  rfl
theorem ownsRow_succ' {w : World} {base : Nat} {e : TypeId} {size n : Nat} {v : Value} {xs : List Value} (h : w.ownsRow base e size v n xs) (hn : 0 < n) : ∃ g cap, v = .slice (some ⟨g, 0, none⟩) n cap := by
  obtain ⟨_, h2⟩ := h
  rcases h2 with ⟨_, h0⟩ | ⟨g, cap, _, hv, _⟩
  · omega
  · exact ⟨g, cap, hv⟩
set_option maxHeartbeats 1000000 in
theorem markScan_any (A : Option Addr) (n c : Nat) (xs : List Value) (k : Int) (lo hi : Nat) (w : World) (h : Own w lo hi 25 4 A n c xs) (k0 : 0 ≤ k) (k1 : k ≤ 1048576) (hn : n ≤ 2097152) :
    Calls Try.prog 48 #[.slice A n c, .int .i64 k] w fun x w' => x = .returned (.int .i64 (k + (n : Int) * 4)) ∧ Own w' lo hi 25 4 A n c ((marksL k (n * 4)).map (Value.int .i64)) ∧ Turned lo hi w w' := by
  have hl := Lib.hid (show xs.length = n * 4 from h.1.1)
  have HO := Lib.hid h
  clear h
  go_enter Try.func48, Try.ntmps48
  go_wp2
  go_loopw [1, 5] (fun v1 v5 wr => ∃ j : Nat, j ≤ n ∧ v1 = .int .i64 (k + (j : Int) * 4) ∧ v5 = .int .i64 (j : Int) ∧ Own wr lo hi 25 4 A n c (((marksL k (n * 4)).take (j * 4)).map (Value.int .i64) ++ xs.drop (j * 4)) ∧ Turned lo hi w wr) (fun _ v5 _ => n - (intOf v5).toNat)
  case atStart => exact ⟨0, Nat.zero_le _, by go_num, rfl, HO.out, Turned.refl _ _ _⟩
  case round =>
    obtain ⟨j, hj, rfl, rfl, hown, ht⟩ := hrel
    by_cases hlt : j < n
    · obtain ⟨g, cap, hv⟩ := ownsRow_succ' hown.1 (by omega)
      simp only [Value.slice.injEq, true_and] at hv
      obtain ⟨rfl, rfl⟩ := hv
      have hg1 := (hown.1.lt g rfl).1
      have hg2 := hown.2 g rfl
      have HS := Lib.hid (fill_step (k := j) (zs := marksL k (n * 4)) (Z := xs) (f := Value.int .i64) (by rw [marks_len]; omega) (by rw [hl.out]; omega))
      have e0 : fld (marksL k (n * 4)) j 0 = k + (j : Int) * 4 := by rw [fld_marks _ _ _ _ (by omega)]; omega
      have e1 : fld (marksL k (n * 4)) j 1 = k + (j : Int) * 4 + 1 := by rw [fld_marks _ _ _ _ (by omega)]; omega
      have e2 : fld (marksL k (n * 4)) j 2 = k + (j : Int) * 4 + 1 + 1 := by rw [fld_marks _ _ _ _ (by omega)]; omega
      have e3 : fld (marksL k (n * 4)) j 3 = k + (j : Int) * 4 + 1 + 1 + 1 := by rw [fld_marks _ _ _ _ (by omega)]; omega
      have hK0 : 0 ≤ k + (j : Int) * 4 := by omega
      have hK1 : k + (j : Int) * 4 ≤ 9437184 := by omega
      have HE := Lib.hid (show k + ((j : Int) + 1) * 4 = k + (j : Int) * 4 + 1 + 1 + 1 + 1 by omega)
      generalize k + (j : Int) * 4 = K at *
      rw [e0, e1, e2, e3] at HS
      clear e0 e1 e2 e3
      have hfr := hown.1.frozenAt
      obtain ⟨⟨u0, d0⟩, ⟨u1, d1⟩, ⟨u2, d2⟩, ⟨u3, d3⟩, hst⟩ := four_stores hown.1 hlt (.int .i64 K) (.int .i64 (K + 1)) (.int .i64 (K + 1 + 1)) (.int .i64 (K + 1 + 1 + 1))
      have HT := Lib.hid hst
      have HB := Lib.hid ((((ht.setCell (p := ⟨g, j * 4, none⟩) hg1 hg2 (.int .i64 K)).setCell (p := ⟨g, j * 4 + 1, none⟩) hg1 hg2 (.int .i64 (K + 1))).setCell (p := ⟨g, j * 4 + 2, none⟩) hg1 hg2 (.int .i64 (K + 1 + 1))).setCell (p := ⟨g, j * 4 + 3, none⟩) hg1 hg2 (.int .i64 (K + 1 + 1 + 1)))
      have HA := Lib.hid hown.2
      clear hst hown ht
      go_wp2
      go_roundw
      case rel => exact ⟨j + 1, by omega, by rw [show ((j + 1 : Nat) : Int) = (j : Int) + 1 from rfl, HE.out], by go_num, ⟨by rw [← HS.out]; exact HT.out, HA.out⟩, HB.out⟩
      case measure => simp [intOf]; omega
    · obtain rfl : j = n := by omega
      have HX := Lib.hid (show ((marksL k (j * 4)).take (j * 4)).map (Value.int .i64) ++ xs.drop (j * 4) = (marksL k (j * 4)).map (Value.int .i64) by rw [List.take_of_length_le (by rw [marks_len]; exact Nat.le_refl _), List.drop_of_length_le (by rw [hl.out]; exact Nat.le_refl _), List.append_nil])
      have HW := Lib.hid hown
      clear hown
      go_wp2
      go_ret
      exact ⟨rfl, by have h := HW.out; rw [HX.out] at h; exact h, ht⟩
set_option maxHeartbeats 1000000 in
theorem heldScan_any (A : Option Addr) (n c : Nat) (k : Int) (w : World) (h : Rd w 4 A n c ((marksL k (n * 4)).map (Value.int .i64))) (k0 : 0 ≤ k) (k1 : k ≤ 1048576) (hn : n ≤ 2097152) :
    Calls Try.prog 49 #[.slice A n c, .int .i64 k] w fun x w' => x = .returned (.int .i64 (k + (n : Int) * 4)) ∧ w = w' := by
  have HR := Lib.hid h
  clear h
  go_enter Try.func49, Try.ntmps49
  go_wp2
  go_loop [1, 5] (fun v1 v5 => ∃ j : Nat, j ≤ n ∧ v1 = .int .i64 (k + (j : Int) * 4) ∧ v5 = .int .i64 (j : Int)) (fun _ v5 => n - (intOf v5).toNat)
  case atStart => exact ⟨0, Nat.zero_le _, by go_num, rfl⟩
  case round =>
    obtain ⟨j, hj, rfl, rfl⟩ := hrel
    by_cases hlt : j < n
    · obtain ⟨g, o, rfl, hg, c0, c1, c2, c3⟩ := ent_at HR.out hlt
      have e0 : fld (marksL k (n * 4)) j 0 = k + (j : Int) * 4 := by rw [fld_marks _ _ _ _ (by omega)]; omega
      have e1 : fld (marksL k (n * 4)) j 1 = k + (j : Int) * 4 + 1 := by rw [fld_marks _ _ _ _ (by omega)]; omega
      have e2 : fld (marksL k (n * 4)) j 2 = k + (j : Int) * 4 + 1 + 1 := by rw [fld_marks _ _ _ _ (by omega)]; omega
      have e3 : fld (marksL k (n * 4)) j 3 = k + (j : Int) * 4 + 1 + 1 + 1 := by rw [fld_marks _ _ _ _ (by omega)]; omega
      have hK0 : 0 ≤ k + (j : Int) * 4 := by omega
      have hK1 : k + (j : Int) * 4 ≤ 9437184 := by omega
      have HE := Lib.hid (show k + ((j : Int) + 1) * 4 = k + (j : Int) * 4 + 1 + 1 + 1 + 1 by omega)
      rw [e0] at c0
      rw [e1] at c1
      rw [e2] at c2
      rw [e3] at c3
      clear e0 e1 e2 e3
      generalize k + (j : Int) * 4 = K at *
      go_wp2
      go_round
      case rel => exact ⟨j + 1, by omega, by rw [show ((j + 1 : Nat) : Int) = (j : Int) + 1 from rfl, HE.out], by go_num⟩
      case measure => simp [intOf]; omega
    · obtain rfl : j = n := by omega
      go_wp2
      go_ret
      exact ⟨rfl, rfl⟩
theorem markCl_any (st ap si : Int) (A : Option Addr) (n c : Nat) (xs : List Value) (k : Int) (lo hi : Nat) (w : World) (h : Own w lo hi 25 4 A n c xs) (k0 : 0 ≤ k) (k1 : k ≤ 1048576) (hn : n ≤ 2097152) (hh : hi ≤ w.heap.size) :
    Calls Try.prog 25 #[.agg #[.int .i64 st, .int .i64 ap, .int .i64 si, .slice A n c], .int .i64 k] w fun x w' => x = .returned (.int .i64 (k + (n : Int) * 4)) ∧ Own w' lo hi 25 4 A n c ((marksL k (n * 4)).map (Value.int .i64)) ∧ Turned lo hi w w' := by
  have HO := Lib.hid h
  clear h
  go_enter Try.func25, Try.ntmps25
  go_wp2_with fail
  refine (markScan_any A n c xs k lo hi _ (HO.out.below ((Below.refl _ _).alloc hh _) (Nat.le_refl _)) k0 k1 hn).mono ?_
  rintro x w1 ⟨rfl, ho, ht⟩
  have H1 := Lib.hid ho
  have H2 := Lib.hid (Turned.trans (Turned.of_below ((Below.refl w.heap.size w).alloc (Nat.le_refl _) _) lo hi) ht)
  clear ho ht
  go_wp2
  go_ret
  exact ⟨rfl, H1.out, H2.out⟩
theorem heldCl_any (st ap si : Int) (A : Option Addr) (n c : Nat) (k : Int) (w : World) (h : Rd w 4 A n c ((marksL k (n * 4)).map (Value.int .i64))) (k0 : 0 ≤ k) (k1 : k ≤ 1048576) (hn : n ≤ 2097152) :
    Calls Try.prog 26 #[.agg #[.int .i64 st, .int .i64 ap, .int .i64 si, .slice A n c], .int .i64 k] w fun x w' => x = .returned (.int .i64 (k + (n : Int) * 4)) ∧ Below w.heap.size w w' := by
  have HR := Lib.hid h
  clear h
  go_enter Try.func26, Try.ntmps26
  go_wp2_with fail
  refine (heldScan_any A n c k _ (HR.out.alloc _) k0 k1 hn).mono ?_
  rintro x w1 ⟨rfl, rfl⟩
  go_wp2
  go_ret
  exact ⟨rfl, by go_grown⟩
theorem szCl_any (st ap si : Int) (A : Option Addr) (n c : Nat) (left : Int) (w : World) (h0 : 0 ≤ left) (h1 : left ≤ 1048576) (hn : n ≤ 9223372036854775807) : Calls Try.prog 20 #[.agg #[.int .i64 st, .int .i64 ap, .int .i64 si, .slice A n c], .int .i64 left] w fun x w' => x = .returned (.int .i64 (if left < n then -1 else left - n)) ∧ Below w.heap.size w w' := by
  by_cases h : left < n
  · rw [if_pos h]
    go_enter Try.func20, Try.ntmps20
    go_wp2_with fail
    refine (szScan_any A n c left _ h0 h1 hn).mono ?_
    rintro x w0 ⟨rfl, rfl⟩
    rw [if_pos h]
    go_wp2
    go_ret
    exact ⟨rfl, by go_grown⟩
  · rw [if_neg h]
    go_enter Try.func20, Try.ntmps20
    go_wp2_with fail
    refine (szScan_any A n c left _ h0 h1 hn).mono ?_
    rintro x w0 ⟨rfl, rfl⟩
    rw [if_neg (by omega)]
    go_wp2
    go_ret
    exact ⟨rfl, by go_grown⟩
theorem eqCl_same (st ap si : Int) (A : Option Addr) (n c : Nat) (B : Option Addr) (d : Nat) (zs : List Int) (w : World) (hx : Rd w 4 A n c (zs.map (Value.int .i64))) (hy : Rd w 4 B n d (zs.map (Value.int .i64))) :
    Calls Try.prog 24 #[.agg #[.int .i64 st, .int .i64 ap, .int .i64 si, .slice A n c], .agg #[.int .i64 st, .int .i64 ap, .int .i64 si, .slice B n d]] w fun x w' => x = .returned (.bool true) ∧ Below w.heap.size w w' := by
  have HX := Lib.hid hx
  have HY := Lib.hid hy
  clear hx hy
  go_enter Try.func24, Try.ntmps24
  go_wp2_with fail
  refine (eqScan_any A n c zs B n d zs _ ((HX.out.alloc _).alloc _) ((HY.out.alloc _).alloc _)).mono ?_
  rintro x w1 ⟨rfl, hb⟩
  rw [decide_eq_true rfl]
  have HB := Lib.hid (show Below w.heap.size w w1 from Below.trans (by go_grown) (hb.mono (by simp <;> omega)))
  clear hb
  go_wp2
  go_ret
  exact ⟨rfl, HB.out⟩
set_option maxHeartbeats 1000000 in
theorem toCl_any (st ap si : Int) (A : Option Addr) (n c : Nat) (zs : List Int) (w : World) (hr : Rd w 4 A n c (zs.map (Value.int .i64))) (hn : n ≤ 2097152) :
    Calls Try.prog 22 #[.agg #[.int .i64 st, .int .i64 ap, .int .i64 si, .slice A n c]] w (RetCl w st ap si n zs) := by
  have HR := Lib.hid hr
  clear hr
  go_enter Try.func22, Try.ntmps22
  go_wp2_with fail
  refine (toScan_any A n c zs _ (((HR.out.alloc _).alloc _).alloc _) hn).mono ?_
  rintro x w1 ⟨A1, c1, rfl, hown, hb⟩
  obtain ⟨hc, hf⟩ := bcells hb
  have p0 := (hc (w.heap.size + 1) 0 (by simp <;> omega)).trans (show _ = some (.int .i64 0) from by first | (simp; done) | (simp [World.cell?_alloc_at]; done) | (rw [World.cell?_alloc_old _ _ _ (by simp <;> omega)]; first | (simp; done) | (simp [World.cell?_alloc_at]; done))); have p1 := (hc (w.heap.size + 1) 1 (by simp <;> omega)).trans (show _ = some (.int .i64 0) from by first | (simp; done) | (simp [World.cell?_alloc_at]; done) | (rw [World.cell?_alloc_old _ _ _ (by simp <;> omega)]; first | (simp; done) | (simp [World.cell?_alloc_at]; done))); have p2 := (hc (w.heap.size + 1) 2 (by simp <;> omega)).trans (show _ = some (.int .i64 0) from by first | (simp; done) | (simp [World.cell?_alloc_at]; done) | (rw [World.cell?_alloc_old _ _ _ (by simp <;> omega)]; first | (simp; done) | (simp [World.cell?_alloc_at]; done))); have p3 := (hc (w.heap.size + 1) 3 (by simp <;> omega)).trans (show _ = some (.slice none 0 0) from by first | (simp; done) | (simp [World.cell?_alloc_at]; done) | (rw [World.cell?_alloc_old _ _ _ (by simp <;> omega)]; first | (simp; done) | (simp [World.cell?_alloc_at]; done)))
  have q0 := (hc (w.heap.size + 1 + 1) 0 (by simp <;> omega)).trans (show _ = some (.int .i64 st) from by first | (simp; done) | (simp [World.cell?_alloc_at]; done) | (rw [World.cell?_alloc_old _ _ _ (by simp <;> omega)]; first | (simp; done) | (simp [World.cell?_alloc_at]; done))); have q1 := (hc (w.heap.size + 1 + 1) 1 (by simp <;> omega)).trans (show _ = some (.int .i64 ap) from by first | (simp; done) | (simp [World.cell?_alloc_at]; done) | (rw [World.cell?_alloc_old _ _ _ (by simp <;> omega)]; first | (simp; done) | (simp [World.cell?_alloc_at]; done))); have q2 := (hc (w.heap.size + 1 + 1) 2 (by simp <;> omega)).trans (show _ = some (.int .i64 si) from by first | (simp; done) | (simp [World.cell?_alloc_at]; done) | (rw [World.cell?_alloc_old _ _ _ (by simp <;> omega)]; first | (simp; done) | (simp [World.cell?_alloc_at]; done))); have q3 := (hc (w.heap.size + 1 + 1) 3 (by simp <;> omega)).trans (show _ = some (.slice none 0 0) from by first | (simp; done) | (simp [World.cell?_alloc_at]; done) | (rw [World.cell?_alloc_old _ _ _ (by simp <;> omega)]; first | (simp; done) | (simp [World.cell?_alloc_at]; done)))
  have r0 := (hf (w.heap.size + 1) 0 (by simp <;> omega)).trans (show _ = false from by first | (simp; done) | (simp [World.frozen?_alloc_at]; done) | (rw [World.frozen?_alloc_old _ _ _ (by simp <;> omega)]; first | (simp [World.frozen?_alloc_at]; done) | (rw [World.frozen?_alloc_old _ _ _ (by simp <;> omega)]; simp [World.frozen?_alloc_at]; done))); have r1 := (hf (w.heap.size + 1) 1 (by simp <;> omega)).trans (show _ = false from by first | (simp; done) | (simp [World.frozen?_alloc_at]; done) | (rw [World.frozen?_alloc_old _ _ _ (by simp <;> omega)]; first | (simp [World.frozen?_alloc_at]; done) | (rw [World.frozen?_alloc_old _ _ _ (by simp <;> omega)]; simp [World.frozen?_alloc_at]; done))); have r2 := (hf (w.heap.size + 1) 2 (by simp <;> omega)).trans (show _ = false from by first | (simp; done) | (simp [World.frozen?_alloc_at]; done) | (rw [World.frozen?_alloc_old _ _ _ (by simp <;> omega)]; first | (simp [World.frozen?_alloc_at]; done) | (rw [World.frozen?_alloc_old _ _ _ (by simp <;> omega)]; simp [World.frozen?_alloc_at]; done))); have r3 := (hf (w.heap.size + 1) 3 (by simp <;> omega)).trans (show _ = false from by first | (simp; done) | (simp [World.frozen?_alloc_at]; done) | (rw [World.frozen?_alloc_old _ _ _ (by simp <;> omega)]; first | (simp [World.frozen?_alloc_at]; done) | (rw [World.frozen?_alloc_old _ _ _ (by simp <;> omega)]; simp [World.frozen?_alloc_at]; done)))
  have f0 := (hf (w.heap.size + 1 + 1) 0 (by simp <;> omega)).trans (show _ = false from by first | (simp; done) | (simp [World.frozen?_alloc_at]; done) | (rw [World.frozen?_alloc_old _ _ _ (by simp <;> omega)]; first | (simp [World.frozen?_alloc_at]; done) | (rw [World.frozen?_alloc_old _ _ _ (by simp <;> omega)]; simp [World.frozen?_alloc_at]; done))); have f1 := (hf (w.heap.size + 1 + 1) 1 (by simp <;> omega)).trans (show _ = false from by first | (simp; done) | (simp [World.frozen?_alloc_at]; done) | (rw [World.frozen?_alloc_old _ _ _ (by simp <;> omega)]; first | (simp [World.frozen?_alloc_at]; done) | (rw [World.frozen?_alloc_old _ _ _ (by simp <;> omega)]; simp [World.frozen?_alloc_at]; done))); have f2 := (hf (w.heap.size + 1 + 1) 2 (by simp <;> omega)).trans (show _ = false from by first | (simp; done) | (simp [World.frozen?_alloc_at]; done) | (rw [World.frozen?_alloc_old _ _ _ (by simp <;> omega)]; first | (simp [World.frozen?_alloc_at]; done) | (rw [World.frozen?_alloc_old _ _ _ (by simp <;> omega)]; simp [World.frozen?_alloc_at]; done))); have f3 := (hf (w.heap.size + 1 + 1) 3 (by simp <;> omega)).trans (show _ = false from by first | (simp; done) | (simp [World.frozen?_alloc_at]; done) | (rw [World.frozen?_alloc_old _ _ _ (by simp <;> omega)]; first | (simp [World.frozen?_alloc_at]; done) | (rw [World.frozen?_alloc_old _ _ _ (by simp <;> omega)]; simp [World.frozen?_alloc_at]; done)))
  have k3 := set_same (v := .slice A1 n c1) q3
  obtain ⟨m0, m1, m2, m3⟩ := same4 (.int .i64 st) (.int .i64 ap) (.int .i64 si) (.slice A1 n c1) (set_blk (d := w.heap.size + 1 + 1) (o := 3) (v := .slice A1 n c1) (by omega) p0) (set_blk (d := w.heap.size + 1 + 1) (o := 3) (v := .slice A1 n c1) (by omega) p1) (set_blk (d := w.heap.size + 1 + 1) (o := 3) (v := .slice A1 n c1) (by omega) p2) (set_blk (d := w.heap.size + 1 + 1) (o := 3) (v := .slice A1 n c1) (by omega) p3)
  have HO := Lib.hid (own_set4 (b := w.heap.size + 1) (own_set hown (a := ⟨w.heap.size + 1 + 1, 3, none⟩) (by simp <;> omega) (.slice A1 n c1)) (by simp <;> omega) (.int .i64 st) (.int .i64 ap) (.int .i64 si) (.slice A1 n c1))
  have HB := Lib.hid (below_set4 (b := w.heap.size + 1) ((show Below w.heap.size w w1 from Below.trans (by go_grown) (hb.mono (by simp <;> omega))).setCell (p := ⟨w.heap.size + 1 + 1, 3, none⟩) (by simp; omega) (.slice A1 n c1)) (by omega) (.int .i64 st) (.int .i64 ap) (.int .i64 si) (.slice A1 n c1))
  clear hown hb hc hf
  go_wp2
  refine bodyPost_ret (v := .agg #[.int .i64 st, .int .i64 ap, .int .i64 si, .slice A1 n c1]) (by simp [results, Try.results22, go_sem, m0, m1, m2, m3]) rfl ?_
  exact ⟨_, _, rfl, ownsRow_mono HO.out (by simp <;> omega), HB.out⟩
end Go.Proofs.Ytlichendokpicaa.Cl
