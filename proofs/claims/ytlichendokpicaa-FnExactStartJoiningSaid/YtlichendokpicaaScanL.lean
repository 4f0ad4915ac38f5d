/- Contracts of the laws' helpers on scans: conversion, comparison, size; and the chosen access point. -/
import Derived.Test.YtlichendokpicaaScore
import Derived.Test.YtlichendokpicaaSlices
import Derived.Test.YtlichendokpicaaReg
namespace Go.Proofs.Ytlichendokpicaa.Scn
open Go.RowKit
open Go.Proofs.Ytlichendokpicaa.Num Go.Proofs.Ytlichendokpicaa.Mem Go.Proofs.Ytlichendokpicaa.Sls
set_option linter.unusedSimpArgs false

theorem toEnt_any (a q l s : Int) (w : World) : Calls Try.prog 11 #[.agg #[.int .i64 a, .int .i64 q, .int .i64 l, .int .i64 s]] w fun x w' => x = .returned (.agg #[.int .i64 a, .int .i64 q, .int .i64 l, .int .i64 s]) ∧ Below w.heap.size w w' := by
  go_enter Try.func11, Try.ntmps11
  go_wp2
  refine bodyPost_ret (v := .agg #[.int .i64 a, .int .i64 q, .int .i64 l, .int .i64 s]) (by simp [results, Try.results11, go_sem]) rfl ?_
  exact ⟨rfl, by go_grown⟩
/-- what one owns is kept by what leaves all old blocks as they were -/
theorem own_below {w w' : World} {base : Nat} {e : TypeId} {sz : Nat} {v : Value} {n : Nat} {xs : List Value} (h : w.ownsRow base e sz v n xs) (hb : Below w.heap.size w w') : w'.ownsRow base e sz v n xs :=
  h.kept (row := none) ⟨hb.os, hb.tape, hb.output, hb.size, fun k hk _ => hb.block k hk⟩ (by cases hv : v.ownBlock <;> simp)
theorem four_stores {w : World} {base : Nat} {e : TypeId} {g n c k : Nat} {xs : List Value} (h : w.ownsRow base e 4 (.slice (some ⟨g, 0, none⟩) n c) n xs) (hk : k < n) (v0 v1 v2 v3 : Value) :
    (∃ u, w.cell? ⟨g, k * 4, none⟩ = some u) ∧ (∃ u, w.cell? ⟨g, k * 4 + 1, none⟩ = some u) ∧ (∃ u, w.cell? ⟨g, k * 4 + 2, none⟩ = some u) ∧ (∃ u, w.cell? ⟨g, k * 4 + 3, none⟩ = some u) ∧
    ((((w.setCell ⟨g, k * 4, none⟩ v0).setCell ⟨g, k * 4 + 1, none⟩ v1).setCell ⟨g, k * 4 + 2, none⟩ v2).setCell ⟨g, k * 4 + 3, none⟩ v3).ownsRow base e 4 (.slice (some ⟨g, 0, none⟩) n c) n ((((xs.set (k * 4) v0).set (k * 4 + 1) v1).set (k * 4 + 2) v2).set (k * 4 + 3) v3) := by
  have hl := h.1
  have H : ∀ j, j < n * 4 → ∃ u, w.cell? ⟨g, j, none⟩ = some u := fun j hj => ⟨xs[j]'(by omega), by rw [h.cellAt j hj, List.getElem?_eq_getElem (by omega)]⟩
  exact ⟨H _ (by omega), H _ (by omega), H _ (by omega), H _ (by omega), ((((h.stored _ v0).1.stored _ v1).1.stored _ v2).1.stored _ v3).1⟩
theorem fill_step {f : Int → Value} {zs : List Int} {Z : List Value} {k : Nat} (h1 : k * 4 + 3 < zs.length) (h2 : k * 4 + 3 < Z.length) :
    ((((((zs.take (k * 4)).map f ++ Z.drop (k * 4)).set (k * 4) (f (fld zs k 0))).set (k * 4 + 1) (f (fld zs k 1))).set (k * 4 + 2) (f (fld zs k 2))).set (k * 4 + 3) (f (fld zs k 3))) = (zs.take ((k + 1) * 4)).map f ++ Z.drop ((k + 1) * 4) := by
  have e : (k + 1) * 4 = k * 4 + 3 + 1 := by omega
  rw [e, ← row_step (k := k * 4 + 3) (f := f) h1 h2, ← row_step (k := k * 4 + 2) (f := f) (by omega) (by omega), ← row_step (k := k * 4 + 1) (f := f) (by omega) (by omega), ← row_step (k := k * 4) (f := f) (by omega) (by omega)]
  rfl
theorem scanInfo : (Try.prog.info? 25).map (fun i => (i.zero, i.size, i.bytes)) = some (some (.agg #[.int .i64 0, .int .i64 0, .int .i64 0, .int .i64 0]), 4, 32) := by kernel_rfl
set_option maxHeartbeats 1000000 in
theorem toScan_any (A : Option Addr) (n c : Nat) (zs : List Int) (w : World) (hr : Rd w 4 A n c (zs.map (Value.int .i64))) (hn : n ≤ 2097152) :
    Calls Try.prog 15 #[.slice A n c] w (RetOwn w 25 4 n (zs.map (Value.int .i64))) := by
  obtain ⟨i0, hi, hz0, hz1, hz2⟩ := info_parts scanInfo
  have hl := Lib.hid (show zs.length = n * 4 by have := hr.1; simpa using this)
  have HR := Lib.hid hr
  clear hr
  go_enter Try.func15, Try.ntmps15
  go_wp2_with (at_make; refine wpList_make_full _ rfl _ _ 31 rfl w.heap.size 25 i0 (.agg #[.int .i64 0, .int .i64 0, .int .i64 0, .int .i64 0]) 4 Try.underlying31 hi hz0 hz1 _ _ _ _ n rfl rfl rfl rfl ?b2 ?b3 (Nat.le_refl _) ?_)
  case b2 => rw [hz2]; omega
  case b3 => unfold maxLen; omega
  intro w0 hown0 hgrow0
  have hb0 : Below w.heap.size w w0 := (Below.refl _ _).grown hgrow0 (Nat.le_refl _) (fun k h => by cases h)
  clear hgrow0
  have hz' : ((madeCells #[Value.int IntKind.i64 0, Value.int IntKind.i64 0, Value.int IntKind.i64 0, Value.int IntKind.i64 0] (n * 4)).toList).length = n * 4 := by simp [size_madeCells]
  generalize (madeCells #[Value.int IntKind.i64 0, Value.int IntKind.i64 0, Value.int IntKind.i64 0, Value.int IntKind.i64 0] (n * 4)).toList = Z at hown0 hz'
  have HZ := Lib.hid hz'
  have HO := Lib.hid hown0
  clear hz' hown0
  go_wp2
  go_loopw [4] (fun v4 wr => ∃ k : Nat, k ≤ n ∧ v4 = .int .i64 (k : Int) ∧ wr.ownsRow w.heap.size 25 4 (.slice (some ⟨w.heap.size, 0, none⟩) n n) n ((zs.take (k * 4)).map (Value.int .i64) ++ Z.drop (k * 4)) ∧ Below w.heap.size w wr) (fun v4 _ => n - (intOf v4).toNat)
  case atStart => exact ⟨0, Nat.zero_le _, rfl, HO.out, hb0⟩
  case round =>
    obtain ⟨k, hk, rfl, hown, hbr⟩ := hrel
    by_cases hlt : k < n
    · obtain ⟨g, o, rfl, hg, c0, c1, c2, c3⟩ := ent_at (HR.out.below hbr) hlt
      have HO := Lib.hid hown
      have HS := Lib.hid (fill_step (k := k) (zs := zs) (Z := Z) (f := Value.int .i64) (by rw [hl.out]; omega) (by rw [HZ.out]; omega))
      generalize fld zs k 0 = f0 at *
      generalize fld zs k 1 = f1 at *
      generalize fld zs k 2 = f2 at *
      generalize fld zs k 3 = f3 at *
      clear hown
      go_wp2_with fail
      refine (toEnt_any f0 f1 f2 f3 _).mono ?_
      rintro x w1 ⟨rfl, hb⟩
      have h1 := own_below HO.out hb
      have hfr := h1.frozenAt
      obtain ⟨⟨u0, d0⟩, ⟨u1, d1⟩, ⟨u2, d2⟩, ⟨u3, d3⟩, hst⟩ := four_stores h1 hlt (.int .i64 f0) (.int .i64 f1) (.int .i64 f2) (.int .i64 f3)
      have HT := Lib.hid hst
      have HB := Lib.hid (((((stepB hbr hb hbr.size).setCell (p := ⟨w.heap.size, k * 4, none⟩) (Nat.le_refl _) (.int .i64 f0)).setCell (p := ⟨w.heap.size, k * 4 + 1, none⟩) (Nat.le_refl _) (.int .i64 f1)).setCell (p := ⟨w.heap.size, k * 4 + 2, none⟩) (Nat.le_refl _) (.int .i64 f2)).setCell (p := ⟨w.heap.size, k * 4 + 3, none⟩) (Nat.le_refl _) (.int .i64 f3))
      clear h1 hst hb hbr hb0 c0 c1 c2 c3
      go_wp2
      go_roundw
      case rel => exact ⟨k + 1, by omega, by go_num, by rw [← HS.out]; exact HT.out, HB.out⟩
      case measure => simp [intOf]; omega
    · obtain rfl : k = n := by omega
      have HA := Lib.hid (show (zs.take (k * 4)).map (Value.int .i64) ++ Z.drop (k * 4) = zs.map (Value.int .i64) by rw [List.take_of_length_le (by rw [hl.out]; exact Nat.le_refl _), List.drop_of_length_le (by rw [HZ.out]; exact Nat.le_refl _), List.append_nil])
      have HW := Lib.hid hown
      clear hown
      go_wp2
      go_ret
      exact ⟨_, _, rfl, by have h := HW.out; rw [HA.out] at h; exact h, hbr⟩
theorem szScan_any (A : Option Addr) (n c : Nat) (left : Int) (w : World) (h0 : 0 ≤ left) (h1 : left ≤ 1048576) (hn : n ≤ 9223372036854775807) : Calls Try.prog 13 #[.slice A n c, .int .i64 left] w fun x w' => x = .returned (.int .i64 (if left < n then -1 else left - n)) ∧ w = w' := by
  by_cases h : left < n
  · rw [if_pos h]
    go_enter Try.func13, Try.ntmps13
    go_wp2
    go_ret
    exact ⟨rfl, rfl⟩
  · rw [if_neg h]
    go_enter Try.func13, Try.ntmps13
    go_wp2
    go_ret
    exact ⟨rfl, rfl⟩
theorem eqEnt_any (a q l s a' q' l' s' : Int) (w : World) : Calls Try.prog 41 #[.agg #[.int .i64 a, .int .i64 q, .int .i64 l, .int .i64 s], .agg #[.int .i64 a', .int .i64 q', .int .i64 l', .int .i64 s']] w (Says (a = a' ∧ q = q' ∧ l = l' ∧ s = s') w) := by
  by_cases h0 : a = a'
  · by_cases h1 : q = q'
    · by_cases h2 : l = l'
      · by_cases h3 : s = s'
        · subst h0 h1 h2 h3
          go_enter Try.func41, Try.ntmps41
          go_wp2
          go_ret
          exact says_yes ⟨rfl, rfl, rfl, rfl⟩ (by go_grown)
        · have HN := Lib.hid (show ¬ (a = a' ∧ q = q' ∧ l = l' ∧ s = s') from fun h => h3 h.2.2.2)
          have e3 : (s != s') = true := by simpa using h3
          clear h3
          subst h0 h1 h2
          go_enter Try.func41, Try.ntmps41
          go_wp2
          go_ret
          exact says_no (by simpa using HN.out) (by go_grown)
      · have HN := Lib.hid (show ¬ (a = a' ∧ q = q' ∧ l = l' ∧ s = s') from fun h => h2 h.2.2.1)
        have e2 : (l != l') = true := by simpa using h2
        clear h2
        subst h0 h1
        go_enter Try.func41, Try.ntmps41
        go_wp2
        go_ret
        exact says_no (by simpa using HN.out) (by go_grown)
    · have HN := Lib.hid (show ¬ (a = a' ∧ q = q' ∧ l = l' ∧ s = s') from fun h => h1 h.2.1)
      have e1 : (q != q') = true := by simpa using h1
      clear h1
      subst h0
      go_enter Try.func41, Try.ntmps41
      go_wp2
      go_ret
      exact says_no (by simpa using HN.out) (by go_grown)
  · have HN := Lib.hid (show ¬ (a = a' ∧ q = q' ∧ l = l' ∧ s = s') from fun h => h0 h.1)
    have e0 : (a != a') = true := by simpa using h0
    clear h0
    go_enter Try.func41, Try.ntmps41
    go_wp2
    go_ret
    exact says_no (by simpa using HN.out) (by go_grown)
theorem ent_eq_step {xs ys : List Int} {k : Nat} (h1 : k * 4 + 3 < xs.length) (h2 : k * 4 + 3 < ys.length) (h : xs.take (k * 4) = ys.take (k * 4)) (he : fld xs k 0 = fld ys k 0 ∧ fld xs k 1 = fld ys k 1 ∧ fld xs k 2 = fld ys k 2 ∧ fld xs k 3 = fld ys k 3) : xs.take ((k + 1) * 4) = ys.take ((k + 1) * 4) := by
  have e : (k + 1) * 4 = k * 4 + 3 + 1 := by omega
  rw [e]
  exact eq_step h1 h2 (eq_step (k := k * 4 + 2) (by omega) (by omega) (eq_step (k := k * 4 + 1) (by omega) (by omega) (eq_step (k := k * 4) (by omega) (by omega) h he.1) he.2.1) he.2.2.1) he.2.2.2
set_option maxHeartbeats 1000000 in
theorem eqScan_any (A : Option Addr) (n c : Nat) (xs : List Int) (B : Option Addr) (m d : Nat) (ys : List Int) (w : World) (hx : Rd w 4 A n c (xs.map (Value.int .i64))) (hy : Rd w 4 B m d (ys.map (Value.int .i64))) :
    Calls Try.prog 17 #[.slice A n c, .slice B m d] w (Says (xs = ys) w) := by
  have hl := Lib.hid (show xs.length = n * 4 by have := hx.1; simpa using this)
  have hk := Lib.hid (show ys.length = m * 4 by have := hy.1; simpa using this)
  have hn : n ≤ 9223372036854775807 := by have h1 := hx.2.1; have h2 := hx.2.2.1; unfold maxLen at h2; omega
  have HX := Lib.hid hx
  have HY := Lib.hid hy
  clear hx hy
  by_cases hnm : n = m
  · obtain rfl : m = n := hnm.symm
    go_enter Try.func17, Try.ntmps17
    go_wp2
    go_loopw [5] (fun v5 wr => ∃ k : Nat, k ≤ m ∧ v5 = .int .i64 (k : Int) ∧ xs.take (k * 4) = ys.take (k * 4) ∧ Below w.heap.size w wr) (fun v5 _ => m - (intOf v5).toNat)
    case atStart => exact ⟨0, Nat.zero_le _, rfl, rfl, Below.refl _ _⟩
    case round =>
      obtain ⟨k, hkm, rfl, heq, hbr⟩ := hrel
      have HE := Lib.hid heq
      clear heq
      by_cases hlt : k < m
      · obtain ⟨g, o, rfl, hg, c0, c1, c2, c3⟩ := ent_at (HX.out.below hbr) hlt
        obtain ⟨g2, o2, rfl, hg2, d0, d1, d2, d3⟩ := ent_at (HY.out.below hbr) hlt
        have HS := Lib.hid (fun he => ent_eq_step (k := k) (xs := xs) (ys := ys) (by rw [hl.out]; omega) (by rw [hk.out]; omega) HE.out he)
        have HN := Lib.hid (fun (hne : ¬ (fld xs k 0 = fld ys k 0 ∧ fld xs k 1 = fld ys k 1 ∧ fld xs k 2 = fld ys k 2 ∧ fld xs k 3 = fld ys k 3)) (e : xs = ys) => hne (by rw [e]; exact ⟨rfl, rfl, rfl, rfl⟩))
        have i0 : (0 : Int) ≤ (k : Int) := by omega
        have i1 : (k : Int) < (m : Int) := by omega
        have HB := Lib.hid hbr
        clear hbr hg hg2
        generalize fld xs k 0 = x0 at *
        generalize fld xs k 1 = x1 at *
        generalize fld xs k 2 = x2 at *
        generalize fld xs k 3 = x3 at *
        generalize fld ys k 0 = y0 at *
        generalize fld ys k 1 = y1 at *
        generalize fld ys k 2 = y2 at *
        generalize fld ys k 3 = y3 at *
        have HC := Lib.hid (eqEnt_any x0 x1 x2 x3 y0 y1 y2 y3)
        by_cases hxy : x0 = y0 ∧ x1 = y1 ∧ x2 = y2 ∧ x3 = y3
        · have HY2 := Lib.hid (HS.out hxy)
          have HD := Lib.hid (decide_eq_true hxy)
          clear HS HN hxy
          go_wp2
          refine wp_region_held_drew (S := (fun w' => w'.cell? ⟨g, o + k * 4, none⟩ = some (.int .i64 x0) ∧ w'.cell? ⟨g, o + k * 4 + 1, none⟩ = some (.int .i64 x1) ∧ w'.cell? ⟨g, o + k * 4 + 2, none⟩ = some (.int .i64 x2) ∧ w'.cell? ⟨g, o + k * 4 + 3, none⟩ = some (.int .i64 x3) ∧ w'.cell? ⟨g2, o2 + k * 4, none⟩ = some (.int .i64 y0) ∧ w'.cell? ⟨g2, o2 + k * 4 + 1, none⟩ = some (.int .i64 y1) ∧ w'.cell? ⟨g2, o2 + k * 4 + 2, none⟩ = some (.int .i64 y2) ∧ w'.cell? ⟨g2, o2 + k * 4 + 3, none⟩ = some (.int .i64 y3))) (by kernel_rfl) ?_ (fun hHeld => ?_)
          · (try dsimp only); exact ⟨c0, c1, c2, c3, d0, d1, d2, d3⟩
          first | (refine wpAnyH_take (i := 0) (v := ?_) (Reg.get rfl) (by kernel_rfl) (by kernel_rfl) (by kernel_rfl) (fun _ _ _ h => h) (Or.inl ⟨by rfl, ?_⟩) hHeld ?_; rotate_left 1; (focus (intro w hSw; (try dsimp only at hSw); go_simp <;> with_reducible rfl))) | (refine wpAnyH_take (i := 0) (v := undef) (Reg.get rfl) (by kernel_rfl) (by kernel_rfl) (by kernel_rfl) (fun _ _ _ h => h) (Or.inr ⟨by rfl, rfl⟩) hHeld ?_)
          try simp only [Act.put, List.setIfInBounds_toArray, List.set_cons_zero, List.set_cons_succ]
          first | (refine wpAnyH_take (i := 1) (v := ?_) (Reg.get rfl) (by kernel_rfl) (by kernel_rfl) (by kernel_rfl) (fun _ _ _ h => h) (Or.inl ⟨by rfl, ?_⟩) hHeld ?_; rotate_left 1; (focus (intro w hSw; (try dsimp only at hSw); go_simp <;> with_reducible rfl))) | (refine wpAnyH_take (i := 1) (v := undef) (Reg.get rfl) (by kernel_rfl) (by kernel_rfl) (by kernel_rfl) (fun _ _ _ h => h) (Or.inr ⟨by rfl, rfl⟩) hHeld ?_)
          try simp only [Act.put, List.setIfInBounds_toArray, List.set_cons_zero, List.set_cons_succ]
          first | (refine wpAnyH_take (i := 2) (v := ?_) (Reg.get rfl) (by kernel_rfl) (by kernel_rfl) (by kernel_rfl) (fun _ _ _ h => h) (Or.inl ⟨by rfl, ?_⟩) hHeld ?_; rotate_left 1; (focus (intro w hSw; (try dsimp only at hSw); go_simp <;> with_reducible rfl))) | (refine wpAnyH_take (i := 2) (v := undef) (Reg.get rfl) (by kernel_rfl) (by kernel_rfl) (by kernel_rfl) (fun _ _ _ h => h) (Or.inr ⟨by rfl, rfl⟩) hHeld ?_)
          try simp only [Act.put, List.setIfInBounds_toArray, List.set_cons_zero, List.set_cons_succ]
          first | (refine wpAnyH_take (i := 3) (v := ?_) (Reg.get rfl) (by kernel_rfl) (by kernel_rfl) (by kernel_rfl) (fun _ _ _ h => h) (Or.inl ⟨by rfl, ?_⟩) hHeld ?_; rotate_left 1; (focus (intro w hSw; (try dsimp only at hSw); go_simp <;> with_reducible rfl))) | (refine wpAnyH_take (i := 3) (v := undef) (Reg.get rfl) (by kernel_rfl) (by kernel_rfl) (by kernel_rfl) (fun _ _ _ h => h) (Or.inr ⟨by rfl, rfl⟩) hHeld ?_)
          try simp only [Act.put, List.setIfInBounds_toArray, List.set_cons_zero, List.set_cons_succ]
          first | (refine wpAnyH_take (i := 4) (v := ?_) (Reg.get rfl) (by kernel_rfl) (by kernel_rfl) (by kernel_rfl) (fun _ _ _ h => h) (Or.inl ⟨by rfl, ?_⟩) hHeld ?_; rotate_left 1; (focus (intro w hSw; (try dsimp only at hSw); go_simp <;> with_reducible rfl))) | (refine wpAnyH_take (i := 4) (v := undef) (Reg.get rfl) (by kernel_rfl) (by kernel_rfl) (by kernel_rfl) (fun _ _ _ h => h) (Or.inr ⟨by rfl, rfl⟩) hHeld ?_)
          try simp only [Act.put, List.setIfInBounds_toArray, List.set_cons_zero, List.set_cons_succ]
          first | (refine wpAnyH_take (i := 5) (v := ?_) (Reg.get rfl) (by kernel_rfl) (by kernel_rfl) (by kernel_rfl) (fun _ _ _ h => h) (Or.inl ⟨by rfl, ?_⟩) hHeld ?_; rotate_left 1; (focus (intro w hSw; (try dsimp only at hSw); go_simp <;> with_reducible rfl))) | (refine wpAnyH_take (i := 5) (v := undef) (Reg.get rfl) (by kernel_rfl) (by kernel_rfl) (by kernel_rfl) (fun _ _ _ h => h) (Or.inr ⟨by rfl, rfl⟩) hHeld ?_)
          try simp only [Act.put, List.setIfInBounds_toArray, List.set_cons_zero, List.set_cons_succ]
          first | (refine wpAnyH_take (i := 6) (v := ?_) (Reg.get rfl) (by kernel_rfl) (by kernel_rfl) (by kernel_rfl) (fun _ _ _ h => h) (Or.inl ⟨by rfl, ?_⟩) hHeld ?_; rotate_left 1; (focus (intro w hSw; (try dsimp only at hSw); go_simp <;> with_reducible rfl))) | (refine wpAnyH_take (i := 6) (v := undef) (Reg.get rfl) (by kernel_rfl) (by kernel_rfl) (by kernel_rfl) (fun _ _ _ h => h) (Or.inr ⟨by rfl, rfl⟩) hHeld ?_)
          try simp only [Act.put, List.setIfInBounds_toArray, List.set_cons_zero, List.set_cons_succ]
          first | (refine wpAnyH_take (i := 7) (v := ?_) (Reg.get rfl) (by kernel_rfl) (by kernel_rfl) (by kernel_rfl) (fun _ _ _ h => h) (Or.inl ⟨by rfl, ?_⟩) hHeld ?_; rotate_left 1; (focus (intro w hSw; (try dsimp only at hSw); go_simp <;> with_reducible rfl))) | (refine wpAnyH_take (i := 7) (v := undef) (Reg.get rfl) (by kernel_rfl) (by kernel_rfl) (by kernel_rfl) (fun _ _ _ h => h) (Or.inr ⟨by rfl, rfl⟩) hHeld ?_)
          try simp only [Act.put, List.setIfInBounds_toArray, List.set_cons_zero, List.set_cons_succ]
          first | ((refine wpAnyH_take (i := 8) (v := undef) (Reg.get rfl) (by kernel_rfl) (by kernel_rfl) (by kernel_rfl) (fun _ _ _ h => h) (Or.inr ⟨by rfl, rfl⟩) hHeld ?_)) | (refine wpAnyH_ready (rs := [8]) (by kernel_rfl) (by simp) ?_; refine AllReadyH.cons (Reg.get rfl) (fun K hK => ?_) AllReadyH.nil; clear hHeld; go_simp; (first | ((go_at_call 41; refine (HC.out _).mono ?_; rintro x wn ⟨rfl, hb⟩; rw [HD.out]; replace c0 := Mem.lift hb c0; replace c1 := Mem.lift hb c1; replace c2 := Mem.lift hb c2; replace c3 := Mem.lift hb c3; replace d0 := Mem.lift hb d0; replace d1 := Mem.lift hb d1; replace d2 := Mem.lift hb d2; replace d3 := Mem.lift hb d3; have HB2 := Lib.hid (stepB (below_drewN HB.out 1) hb HB.out.size); clear hb))); refine hK.out _ _ ?_ (fun hHeld => ?_); ((try dsimp only); exact ⟨c0, c1, c2, c3, d0, d1, d2, d3⟩); clear hK K)
          try simp only [Act.put, List.setIfInBounds_toArray, List.set_cons_zero, List.set_cons_succ]
          first | (refine wpAnyH_take (i := 9) (v := ?_) (Reg.get rfl) (by kernel_rfl) (by kernel_rfl) (by kernel_rfl) (fun _ _ _ h => h) (Or.inl ⟨by rfl, ?_⟩) hHeld ?_; rotate_left 1; (focus (intro w hSw; (try dsimp only at hSw); go_simp <;> with_reducible rfl))) | (refine wpAnyH_take (i := 9) (v := undef) (Reg.get rfl) (by kernel_rfl) (by kernel_rfl) (by kernel_rfl) (fun _ _ _ h => h) (Or.inr ⟨by rfl, rfl⟩) hHeld ?_)
          try simp only [Act.put, List.setIfInBounds_toArray, List.set_cons_zero, List.set_cons_succ]
          refine wpAnyH_done (by kernel_rfl) ?_ _
          go_wp2
          go_roundw
          case rel => exact ⟨k + 1, by omega, by go_num, HY2.out, HB2.out⟩
          case measure => simp [intOf]; omega
        · have HN2 := Lib.hid (HN.out hxy)
          have HD := Lib.hid (decide_eq_false hxy)
          clear HS HN hxy
          go_wp2
          refine wp_region_held_drew (S := (fun w' => w'.cell? ⟨g, o + k * 4, none⟩ = some (.int .i64 x0) ∧ w'.cell? ⟨g, o + k * 4 + 1, none⟩ = some (.int .i64 x1) ∧ w'.cell? ⟨g, o + k * 4 + 2, none⟩ = some (.int .i64 x2) ∧ w'.cell? ⟨g, o + k * 4 + 3, none⟩ = some (.int .i64 x3) ∧ w'.cell? ⟨g2, o2 + k * 4, none⟩ = some (.int .i64 y0) ∧ w'.cell? ⟨g2, o2 + k * 4 + 1, none⟩ = some (.int .i64 y1) ∧ w'.cell? ⟨g2, o2 + k * 4 + 2, none⟩ = some (.int .i64 y2) ∧ w'.cell? ⟨g2, o2 + k * 4 + 3, none⟩ = some (.int .i64 y3))) (by kernel_rfl) ?_ (fun hHeld => ?_)
          · (try dsimp only); exact ⟨c0, c1, c2, c3, d0, d1, d2, d3⟩
          first | (refine wpAnyH_take (i := 0) (v := ?_) (Reg.get rfl) (by kernel_rfl) (by kernel_rfl) (by kernel_rfl) (fun _ _ _ h => h) (Or.inl ⟨by rfl, ?_⟩) hHeld ?_; rotate_left 1; (focus (intro w hSw; (try dsimp only at hSw); go_simp <;> with_reducible rfl))) | (refine wpAnyH_take (i := 0) (v := undef) (Reg.get rfl) (by kernel_rfl) (by kernel_rfl) (by kernel_rfl) (fun _ _ _ h => h) (Or.inr ⟨by rfl, rfl⟩) hHeld ?_)
          try simp only [Act.put, List.setIfInBounds_toArray, List.set_cons_zero, List.set_cons_succ]
          first | (refine wpAnyH_take (i := 1) (v := ?_) (Reg.get rfl) (by kernel_rfl) (by kernel_rfl) (by kernel_rfl) (fun _ _ _ h => h) (Or.inl ⟨by rfl, ?_⟩) hHeld ?_; rotate_left 1; (focus (intro w hSw; (try dsimp only at hSw); go_simp <;> with_reducible rfl))) | (refine wpAnyH_take (i := 1) (v := undef) (Reg.get rfl) (by kernel_rfl) (by kernel_rfl) (by kernel_rfl) (fun _ _ _ h => h) (Or.inr ⟨by rfl, rfl⟩) hHeld ?_)
          try simp only [Act.put, List.setIfInBounds_toArray, List.set_cons_zero, List.set_cons_succ]
          first | (refine wpAnyH_take (i := 2) (v := ?_) (Reg.get rfl) (by kernel_rfl) (by kernel_rfl) (by kernel_rfl) (fun _ _ _ h => h) (Or.inl ⟨by rfl, ?_⟩) hHeld ?_; rotate_left 1; (focus (intro w hSw; (try dsimp only at hSw); go_simp <;> with_reducible rfl))) | (refine wpAnyH_take (i := 2) (v := undef) (Reg.get rfl) (by kernel_rfl) (by kernel_rfl) (by kernel_rfl) (fun _ _ _ h => h) (Or.inr ⟨by rfl, rfl⟩) hHeld ?_)
          try simp only [Act.put, List.setIfInBounds_toArray, List.set_cons_zero, List.set_cons_succ]
          first | (refine wpAnyH_take (i := 3) (v := ?_) (Reg.get rfl) (by kernel_rfl) (by kernel_rfl) (by kernel_rfl) (fun _ _ _ h => h) (Or.inl ⟨by rfl, ?_⟩) hHeld ?_; rotate_left 1; (focus (intro w hSw; (try dsimp only at hSw); go_simp <;> with_reducible rfl))) | (refine wpAnyH_take (i := 3) (v := undef) (Reg.get rfl) (by kernel_rfl) (by kernel_rfl) (by kernel_rfl) (fun _ _ _ h => h) (Or.inr ⟨by rfl, rfl⟩) hHeld ?_)
          try simp only [Act.put, List.setIfInBounds_toArray, List.set_cons_zero, List.set_cons_succ]
          first | (refine wpAnyH_take (i := 4) (v := ?_) (Reg.get rfl) (by kernel_rfl) (by kernel_rfl) (by kernel_rfl) (fun _ _ _ h => h) (Or.inl ⟨by rfl, ?_⟩) hHeld ?_; rotate_left 1; (focus (intro w hSw; (try dsimp only at hSw); go_simp <;> with_reducible rfl))) | (refine wpAnyH_take (i := 4) (v := undef) (Reg.get rfl) (by kernel_rfl) (by kernel_rfl) (by kernel_rfl) (fun _ _ _ h => h) (Or.inr ⟨by rfl, rfl⟩) hHeld ?_)
          try simp only [Act.put, List.setIfInBounds_toArray, List.set_cons_zero, List.set_cons_succ]
          first | (refine wpAnyH_take (i := 5) (v := ?_) (Reg.get rfl) (by kernel_rfl) (by kernel_rfl) (by kernel_rfl) (fun _ _ _ h => h) (Or.inl ⟨by rfl, ?_⟩) hHeld ?_; rotate_left 1; (focus (intro w hSw; (try dsimp only at hSw); go_simp <;> with_reducible rfl))) | (refine wpAnyH_take (i := 5) (v := undef) (Reg.get rfl) (by kernel_rfl) (by kernel_rfl) (by kernel_rfl) (fun _ _ _ h => h) (Or.inr ⟨by rfl, rfl⟩) hHeld ?_)
          try simp only [Act.put, List.setIfInBounds_toArray, List.set_cons_zero, List.set_cons_succ]
          first | (refine wpAnyH_take (i := 6) (v := ?_) (Reg.get rfl) (by kernel_rfl) (by kernel_rfl) (by kernel_rfl) (fun _ _ _ h => h) (Or.inl ⟨by rfl, ?_⟩) hHeld ?_; rotate_left 1; (focus (intro w hSw; (try dsimp only at hSw); go_simp <;> with_reducible rfl))) | (refine wpAnyH_take (i := 6) (v := undef) (Reg.get rfl) (by kernel_rfl) (by kernel_rfl) (by kernel_rfl) (fun _ _ _ h => h) (Or.inr ⟨by rfl, rfl⟩) hHeld ?_)
          try simp only [Act.put, List.setIfInBounds_toArray, List.set_cons_zero, List.set_cons_succ]
          first | (refine wpAnyH_take (i := 7) (v := ?_) (Reg.get rfl) (by kernel_rfl) (by kernel_rfl) (by kernel_rfl) (fun _ _ _ h => h) (Or.inl ⟨by rfl, ?_⟩) hHeld ?_; rotate_left 1; (focus (intro w hSw; (try dsimp only at hSw); go_simp <;> with_reducible rfl))) | (refine wpAnyH_take (i := 7) (v := undef) (Reg.get rfl) (by kernel_rfl) (by kernel_rfl) (by kernel_rfl) (fun _ _ _ h => h) (Or.inr ⟨by rfl, rfl⟩) hHeld ?_)
          try simp only [Act.put, List.setIfInBounds_toArray, List.set_cons_zero, List.set_cons_succ]
          first | ((refine wpAnyH_take (i := 8) (v := undef) (Reg.get rfl) (by kernel_rfl) (by kernel_rfl) (by kernel_rfl) (fun _ _ _ h => h) (Or.inr ⟨by rfl, rfl⟩) hHeld ?_)) | (refine wpAnyH_ready (rs := [8]) (by kernel_rfl) (by simp) ?_; refine AllReadyH.cons (Reg.get rfl) (fun K hK => ?_) AllReadyH.nil; clear hHeld; go_simp; (first | ((go_at_call 41; refine (HC.out _).mono ?_; rintro x wn ⟨rfl, hb⟩; rw [HD.out]; replace c0 := Mem.lift hb c0; replace c1 := Mem.lift hb c1; replace c2 := Mem.lift hb c2; replace c3 := Mem.lift hb c3; replace d0 := Mem.lift hb d0; replace d1 := Mem.lift hb d1; replace d2 := Mem.lift hb d2; replace d3 := Mem.lift hb d3; have HB2 := Lib.hid (stepB (below_drewN HB.out 1) hb HB.out.size); clear hb))); refine hK.out _ _ ?_ (fun hHeld => ?_); ((try dsimp only); exact ⟨c0, c1, c2, c3, d0, d1, d2, d3⟩); clear hK K)
          try simp only [Act.put, List.setIfInBounds_toArray, List.set_cons_zero, List.set_cons_succ]
          first | (refine wpAnyH_take (i := 9) (v := ?_) (Reg.get rfl) (by kernel_rfl) (by kernel_rfl) (by kernel_rfl) (fun _ _ _ h => h) (Or.inl ⟨by rfl, ?_⟩) hHeld ?_; rotate_left 1; (focus (intro w hSw; (try dsimp only at hSw); go_simp <;> with_reducible rfl))) | (refine wpAnyH_take (i := 9) (v := undef) (Reg.get rfl) (by kernel_rfl) (by kernel_rfl) (by kernel_rfl) (fun _ _ _ h => h) (Or.inr ⟨by rfl, rfl⟩) hHeld ?_)
          try simp only [Act.put, List.setIfInBounds_toArray, List.set_cons_zero, List.set_cons_succ]
          refine wpAnyH_done (by kernel_rfl) ?_ _
          go_wp2
          go_ret
          exact says_no HN2.out HB2.out
      · have HA := Lib.hid (show xs = ys by
          have h := HE.out
          rw [List.take_of_length_le (by rw [hl.out]; omega), List.take_of_length_le (by rw [hk.out]; omega)] at h
          exact h)
        have HB := Lib.hid hbr
        clear hbr
        go_wp2
        go_ret
        exact says_yes HA.out HB.out
  · have h1 : ((n : Int) == (m : Int)) = false := by rw [beq_eq_false_iff_ne]; omega
    have h2 : ((n : Int) != (m : Int)) = true := by rw [bne_iff_ne]; omega
    have hne := Lib.hid (show ¬ xs = ys from fun e => hnm (by have h3 := hl.out; have h4 := hk.out; rw [e] at h3; omega))
    clear hnm
    go_enter Try.func17, Try.ntmps17
    go_wp2
    go_ret
    exact says_no hne.out (Below.refl _ _)
/-- the access point of the best entry, or -1 -/
def chooseM (zs : List Int) (t : Int) (n : Nat) : Int := if bestM zs t n < 0 then -1 else fld zs (bestM zs t n).toNat 0
theorem choose_spec (hbest : ∀ (A : Option Addr) (n c : Nat) (zs : List Int) (now win : Int) (w : World), Rd w 4 A n c (zs.map (Value.int .i64)) → Calls Try.prog 42 #[.slice A n c, .int .i64 now, .int .i64 win] w fun x w' => x = .returned (.int .i64 (bestM zs (wrap64 (now - win)) n)) ∧ Below w.heap.size w w')
    (A : Option Addr) (n c : Nat) (zs : List Int) (now win : Int) (w : World) (hr : Rd w 4 A n c (zs.map (Value.int .i64))) :
    Calls Try.prog 18 #[.slice A n c, .int .i64 now, .int .i64 win] w fun x w' => x = .returned (.int .i64 (chooseM zs (wrap64 (now - win)) n)) ∧ Below w.heap.size w w' := by
  have hn : n ≤ 9223372036854775807 := by have h1 := hr.2.1; have h2 := hr.2.2.1; unfold maxLen at h2; omega
  have hbd := bestM_bd zs (wrap64 (now - win)) n
  have HH := Lib.hid (hbest A n c zs now win)
  have HR := Lib.hid hr
  clear hbest hr
  unfold chooseM
  generalize bestM zs (wrap64 (now - win)) n = m at *
  by_cases h : m < 0
  · rw [if_pos h]
    go_enter Try.func18, Try.ntmps18
    go_wp2_with fail
    refine (HH.out _ HR.out).mono ?_
    rintro x w1 ⟨rfl, hb⟩
    go_wp2
    go_ret
    exact ⟨rfl, hb⟩
  · rw [if_neg h]
    obtain ⟨b, rfl⟩ := Int.eq_ofNat_of_zero_le (show 0 ≤ m by omega)
    obtain ⟨g, o, rfl, hg, c0, _, _, _⟩ := ent_at HR.out (k := b) (by omega)
    rw [Int.toNat_natCast]
    generalize fld zs b 0 = f0 at *
    go_enter Try.func18, Try.ntmps18
    go_wp2_with fail
    refine (HH.out _ HR.out).mono ?_
    rintro x w1 ⟨rfl, hb⟩
    replace c0 := Mem.lift hb c0
    go_wp2
    go_ret
    exact ⟨rfl, hb⟩
theorem choose_impl (hbest : ∀ (A : Option Addr) (n c : Nat) (zs : List Int) (now win : Int) (w : World), Rd w 4 A n c (zs.map (Value.int .i64)) → Calls Try.prog 43 #[.slice A n c, .int .i64 now, .int .i64 win] w fun x w' => x = .returned (.int .i64 (bestM zs (wrap64 (now - win)) n)) ∧ Below w.heap.size w w')
    (A : Option Addr) (n c : Nat) (zs : List Int) (now win : Int) (w : World) (hr : Rd w 4 A n c (zs.map (Value.int .i64))) :
    Calls Try.prog 19 #[.slice A n c, .int .i64 now, .int .i64 win] w fun x w' => x = .returned (.int .i64 (chooseM zs (wrap64 (now - win)) n)) ∧ Below w.heap.size w w' := by
  have hn : n ≤ 9223372036854775807 := by have h1 := hr.2.1; have h2 := hr.2.2.1; unfold maxLen at h2; omega
  have hbd := bestM_bd zs (wrap64 (now - win)) n
  have HH := Lib.hid (hbest A n c zs now win)
  have HR := Lib.hid hr
  clear hbest hr
  unfold chooseM
  generalize bestM zs (wrap64 (now - win)) n = m at *
  by_cases h : m < 0
  · rw [if_pos h]
    go_enter Try.func19, Try.ntmps19
    go_wp2_with fail
    refine (HH.out _ HR.out).mono ?_
    rintro x w1 ⟨rfl, hb⟩
    go_wp2
    go_ret
    exact ⟨rfl, hb⟩
  · rw [if_neg h]
    obtain ⟨b, rfl⟩ := Int.eq_ofNat_of_zero_le (show 0 ≤ m by omega)
    obtain ⟨g, o, rfl, hg, c0, _, _, _⟩ := ent_at HR.out (k := b) (by omega)
    rw [Int.toNat_natCast]
    generalize fld zs b 0 = f0 at *
    go_enter Try.func19, Try.ntmps19
    go_wp2_with fail
    refine (HH.out _ HR.out).mono ?_
    rintro x w1 ⟨rfl, hb⟩
    replace c0 := Mem.lift hb c0
    go_wp2
    go_ret
    exact ⟨rfl, hb⟩
end Go.Proofs.Ytlichendokpicaa.Scn
