import Derived.Test.YthdieeaegplnmaaAt
import Derived.Test.YthdieeaegplnmaaBaseS
import Derived.Laws.BytesArg
/- Contracts of the beacons' numbers: the next slot, the count to the next delivery, the delay of group frames. -/
namespace Go.Proofs.Ythdieeaegplnmaa.Bcn
open Go.RowKit
open Go.Proofs.Ythdieeaegplnmaa.Num Go.Proofs.Ythdieeaegplnmaa.Mem Go.Proofs.Ythdieeaegplnmaa.Hsh
set_option linter.unusedSimpArgs false

def nextS (now : Int) : Int := (now / 10 + 1) * 10
def dcount (s p : Int) : Int := if (0 ≤ s ∧ s ≤ 1000000000000 ∧ s % 10 = 0) ∧ 1 ≤ p ∧ p ≤ 8 then modI (-(s / 10)) p else -1
theorem modI_in {x p : Int} (h1 : 1 ≤ p) (h2 : p ≤ 1000000000000) : modI x p = x % p := by unfold modI; rw [if_pos ⟨h1, h2⟩]
theorem dcount_in {s p : Int} (h : 0 ≤ s ∧ s ≤ 1000000000000 ∧ s % 10 = 0) (h1 : 1 ≤ p) (h2 : p ≤ 8) : dcount s p = (-(s / 10)) % p := by unfold dcount; rw [if_pos ⟨h, h1, h2⟩, modI_in h1 (by omega)]
theorem slot_yes (s : Int) (w : World) (h0 : 0 ≤ s) (h1 : s ≤ 1000000000000) (h2 : (s % 10 == 0) = true) : Calls Try.prog 77 #[.int .i64 s] w fun x w' => x = .returned (.bool true) ∧ w = w' := by
  go_enter Try.func77, Try.ntmps77
  go_wp2_with (first | (go_at_call 74; refine (in_impl_yes _ _ _ _ (by omega) (by omega)).mono ?_; rintro e w' ⟨rfl, rfl⟩))
  go_ret
  exact ⟨rfl, rfl⟩
theorem slot_out (s : Int) (w : World) (h : s < 0 ∨ 1000000000000 < s) : Calls Try.prog 77 #[.int .i64 s] w fun x w' => x = .returned (.bool false) ∧ w = w' := by
  go_enter Try.func77, Try.ntmps77
  go_wp2_with (first | (go_at_call 74; refine (in_impl_no _ _ _ _ (by omega)).mono ?_; rintro e w' ⟨rfl, rfl⟩))
  go_ret
  exact ⟨rfl, rfl⟩
theorem slot_off (s : Int) (w : World) (h0 : 0 ≤ s) (h1 : s ≤ 1000000000000) (h2 : (s % 10 == 0) = false) : Calls Try.prog 77 #[.int .i64 s] w fun x w' => x = .returned (.bool false) ∧ w = w' := by
  go_enter Try.func77, Try.ntmps77
  go_wp2_with (first | (go_at_call 74; refine (in_impl_yes _ _ _ _ (by omega) (by omega)).mono ?_; rintro e w' ⟨rfl, rfl⟩))
  go_ret
  exact ⟨rfl, rfl⟩
theorem dtim_any (s p : Int) (w : World) (hs : -9223372036854775808 ≤ s ∧ s ≤ 9223372036854775807) : Calls Try.prog 69 #[.int .i64 s, .int .i64 p] w fun x w' => x = .returned (.int .i64 (dcount s p)) ∧ w = w' := by
  unfold dcount
  by_cases h : 0 ≤ s ∧ s ≤ 1000000000000
  · by_cases h2 : s % 10 = 0
    · have d : (s % 10 == 0) = true := by simpa using h2
      by_cases h3 : 1 ≤ p ∧ p ≤ 8
      · rw [if_pos ⟨⟨h.1, h.2, h2⟩, h3⟩]
        obtain ⟨h0, h1⟩ := h
        obtain ⟨h4, h5⟩ := h3
        have hq0 : 0 ≤ s / 10 := by omega
        have hq1 : s / 10 ≤ 1000000000000 := by omega
        have HM := Lib.hid (mod_impl (-(s / 10)) p)
        clear h2
        go_enter Try.func69, Try.ntmps69
        go_wp2_with (first
          | (go_at_call 77; refine (slot_yes _ _ h0 h1 d).mono ?_; rintro e w' ⟨rfl, rfl⟩)
          | (go_at_call 74; refine (in_impl_yes _ _ _ _ (by omega) (by omega)).mono ?_; rintro e w' ⟨rfl, rfl⟩)
          | (go_at_call 96; refine (HM.out _ (by omega) (by omega)).mono ?_; rintro e w' ⟨rfl, rfl⟩))
        go_ret
        exact ⟨rfl, rfl⟩
      · rw [if_neg (fun hh => h3 hh.2)]
        obtain ⟨h0, h1⟩ := h
        have h6 : p < 1 ∨ 8 < p := by omega
        clear h2 h3
        go_enter Try.func69, Try.ntmps69
        go_wp2_with (first
          | (go_at_call 77; refine (slot_yes _ _ h0 h1 d).mono ?_; rintro e w' ⟨rfl, rfl⟩)
          | (go_at_call 74; refine (in_impl_no _ _ _ _ (by omega)).mono ?_; rintro e w' ⟨rfl, rfl⟩))
        go_ret
        exact ⟨rfl, rfl⟩
    · rw [if_neg (fun hh => h2 hh.1.2.2)]
      have d : (s % 10 == 0) = false := by simpa using h2
      obtain ⟨h0, h1⟩ := h
      clear h2
      go_enter Try.func69, Try.ntmps69
      go_wp2_with (first | (go_at_call 77; refine (slot_off _ _ h0 h1 d).mono ?_; rintro e w' ⟨rfl, rfl⟩))
      go_ret
      exact ⟨rfl, rfl⟩
  · rw [if_neg (fun hh => h ⟨hh.1.1, hh.1.2.1⟩)]
    have h6 : s < 0 ∨ 1000000000000 < s := by omega
    clear h
    go_enter Try.func69, Try.ntmps69
    go_wp2_with (first | (go_at_call 77; refine (slot_out _ _ h6).mono ?_; rintro e w' ⟨rfl, rfl⟩))
    go_ret
    exact ⟨rfl, rfl⟩
theorem station_yes (n : Int) (w : World) (h1 : 0 ≤ n) (h2 : n ≤ 15) : Calls Try.prog 76 #[.int .i64 n] w fun e w' => e = .returned (.bool true) ∧ w = w' := by
  go_enter Try.func76, Try.ntmps76
  go_wp2_with (first | (go_at_call 74; refine (in_impl_yes _ _ _ _ (by omega) (by omega)).mono ?_; rintro e w' ⟨rfl, rfl⟩))
  go_ret
  exact ⟨rfl, rfl⟩
theorem station_no (n : Int) (w : World) (h : n < 0 ∨ 15 < n) : Calls Try.prog 76 #[.int .i64 n] w fun e w' => e = .returned (.bool false) ∧ w = w' := by
  go_enter Try.func76, Try.ntmps76
  go_wp2_with (first | (go_at_call 74; refine (in_impl_no _ _ _ _ (by omega)).mono ?_; rintro e w' ⟨rfl, rfl⟩))
  go_ret
  exact ⟨rfl, rfl⟩
end Go.Proofs.Ythdieeaegplnmaa.Bcn

/- Contracts on group buffers: conversion, size, comparison, validity, equality. -/
namespace Go.Proofs.Ythdieeaegplnmaa.Gb
open Go.RowKit
open Go.Proofs.Ythdieeaegplnmaa.Num Go.Proofs.Ythdieeaegplnmaa.Mem Go.Proofs.Ythdieeaegplnmaa.Hsh Go.Proofs.Ythdieeaegplnmaa.Sls Go.Proofs.Ythdieeaegplnmaa.Own Go.Proofs.Ythdieeaegplnmaa.SS Go.Proofs.Ythdieeaegplnmaa.Bcn
set_option linter.unusedSimpArgs false

/-- the call hands back a group buffer in new memory -/
def RetGb (w : World) (pe lo : Int) (n : Nat) (xss : List (List Int)) (x : Ending) (w' : World) : Prop :=
  ∃ A c, x = .returned (.agg #[.int .i64 pe, .slice A n c, .int .i64 lo]) ∧ OwnSS w' w.heap.size w'.heap.size A n c xss ∧ Below w.heap.size w w'
theorem set_same {w : World} {b o : Nat} {u v : Value} (h : w.cell? ⟨b, o, none⟩ = some u) : (w.setCell ⟨b, o, none⟩ v).cell? ⟨b, o, none⟩ = some v := World.cell?_setCell_same _ _ _ h
theorem set_next {w : World} {b o p : Nat} {u v : Value} (hne : o ≠ p) (h : w.cell? ⟨b, p, none⟩ = some u) : (w.setCell ⟨b, o, none⟩ v).cell? ⟨b, p, none⟩ = some u := (World.cell?_setCell_other w _ _ v (fun e => hne (by injection e))).trans h
theorem set_blk {w : World} {b d o p : Nat} {u v : Value} (hne : d ≠ b) (h : w.cell? ⟨b, p, none⟩ = some u) : (w.setCell ⟨d, o, none⟩ v).cell? ⟨b, p, none⟩ = some u := (World.cell?_setCell_other w _ _ v (fun e => hne (by injection e))).trans h
theorem same3 {w : World} {b : Nat} {u0 u1 u2 : Value} (v0 v1 v2 : Value) (h0 : w.cell? ⟨b, 0, none⟩ = some u0) (h1 : w.cell? ⟨b, 1, none⟩ = some u1) (h2 : w.cell? ⟨b, 2, none⟩ = some u2) :
    (w.setCell ⟨b, 0, none⟩ v0).cell? ⟨b, 0, none⟩ = some v0 ∧ ((w.setCell ⟨b, 0, none⟩ v0).setCell ⟨b, 1, none⟩ v1).cell? ⟨b, 1, none⟩ = some v1 ∧ (((w.setCell ⟨b, 0, none⟩ v0).setCell ⟨b, 1, none⟩ v1).setCell ⟨b, 2, none⟩ v2).cell? ⟨b, 2, none⟩ = some v2 :=
  ⟨set_same h0, set_same (set_next (by omega) h1), set_same (set_next (by omega) (set_next (by omega) h2))⟩
theorem own_set {w : World} {lo hi : Nat} {A : Option Addr} {n c : Nat} {xss : List (List Int)} (h : OwnSS w lo hi A n c xss) {b o : Nat} (hb : b < lo) (u : Value) : OwnSS (w.setCell ⟨b, o, none⟩ u) lo hi A n c xss := h.keep fun g h1 _ => Below.heap_setCell w _ _ g (by simp; omega)
theorem own_set3 {w : World} {lo hi b : Nat} {A : Option Addr} {n c : Nat} {xss : List (List Int)} (h : OwnSS w lo hi A n c xss) (hb : b < lo) (v0 v1 v2 : Value) : OwnSS (((w.setCell ⟨b, 0, none⟩ v0).setCell ⟨b, 1, none⟩ v1).setCell ⟨b, 2, none⟩ v2) lo hi A n c xss :=
  own_set (own_set (own_set h hb v0) hb v1) hb v2
theorem below_set3 {B : Nat} {a w : World} (h : Below B a w) {b : Nat} (hb : B ≤ b) (v0 v1 v2 : Value) : Below B a (((w.setCell ⟨b, 0, none⟩ v0).setCell ⟨b, 1, none⟩ v1).setCell ⟨b, 2, none⟩ v2) := ((h.setCell hb v0).setCell hb v1).setCell hb v2
set_option maxHeartbeats 1000000 in
theorem toGb_any (pe lo : Int) (A : Option Addr) (n c : Nat) (xss : List (List Int)) (w : World) (hr : RdSS w A n c xss) (hn : n ≤ 2097152) (hs : AllShort xss) :
    Calls Try.prog 11 #[.agg #[.int .i64 pe, .slice A n c, .int .i64 lo]] w (RetGb w pe lo n xss) := by
  have HR := Lib.hid hr
  have HS := Lib.hid hs
  clear hr hs
  go_enter Try.func11, Try.ntmps11
  go_wp2_with fail
  refine (toSS_any A n c xss _ (((HR.out.alloc _).alloc _).alloc _) hn HS.out).mono ?_
  rintro x w1 ⟨A1, c1, rfl, hown, hb⟩
  obtain ⟨hc, hf⟩ := bcells hb
  have a0 := (hc (w.heap.size) 0 (by simp <;> omega)).trans (show _ = some (.int .i64 pe) from by first | (simp; done) | (simp [World.cell?_alloc_at]; done) | (rw [World.cell?_alloc_old _ _ _ (by simp <;> omega)]; first | (simp; done) | (simp [World.cell?_alloc_at]; done))); have a1 := (hc (w.heap.size) 1 (by simp <;> omega)).trans (show _ = some (.slice A n c) from by first | (simp; done) | (simp [World.cell?_alloc_at]; done) | (rw [World.cell?_alloc_old _ _ _ (by simp <;> omega)]; first | (simp; done) | (simp [World.cell?_alloc_at]; done))); have a2 := (hc (w.heap.size) 2 (by simp <;> omega)).trans (show _ = some (.int .i64 lo) from by first | (simp; done) | (simp [World.cell?_alloc_at]; done) | (rw [World.cell?_alloc_old _ _ _ (by simp <;> omega)]; first | (simp; done) | (simp [World.cell?_alloc_at]; done)))
  have p0 := (hc (w.heap.size + 1) 0 (by simp <;> omega)).trans (show _ = some (.int .i64 0) from by first | (simp; done) | (simp [World.cell?_alloc_at]; done) | (rw [World.cell?_alloc_old _ _ _ (by simp <;> omega)]; first | (simp; done) | (simp [World.cell?_alloc_at]; done))); have p1 := (hc (w.heap.size + 1) 1 (by simp <;> omega)).trans (show _ = some (.slice none 0 0) from by first | (simp; done) | (simp [World.cell?_alloc_at]; done) | (rw [World.cell?_alloc_old _ _ _ (by simp <;> omega)]; first | (simp; done) | (simp [World.cell?_alloc_at]; done))); have p2 := (hc (w.heap.size + 1) 2 (by simp <;> omega)).trans (show _ = some (.int .i64 0) from by first | (simp; done) | (simp [World.cell?_alloc_at]; done) | (rw [World.cell?_alloc_old _ _ _ (by simp <;> omega)]; first | (simp; done) | (simp [World.cell?_alloc_at]; done)))
  have q0 := (hc (w.heap.size + 1 + 1) 0 (by simp <;> omega)).trans (show _ = some (.int .i64 pe) from by first | (simp; done) | (simp [World.cell?_alloc_at]; done) | (rw [World.cell?_alloc_old _ _ _ (by simp <;> omega)]; first | (simp; done) | (simp [World.cell?_alloc_at]; done))); have q1 := (hc (w.heap.size + 1 + 1) 1 (by simp <;> omega)).trans (show _ = some (.slice none 0 0) from by first | (simp; done) | (simp [World.cell?_alloc_at]; done) | (rw [World.cell?_alloc_old _ _ _ (by simp <;> omega)]; first | (simp; done) | (simp [World.cell?_alloc_at]; done))); have q2 := (hc (w.heap.size + 1 + 1) 2 (by simp <;> omega)).trans (show _ = some (.int .i64 0) from by first | (simp; done) | (simp [World.cell?_alloc_at]; done) | (rw [World.cell?_alloc_old _ _ _ (by simp <;> omega)]; first | (simp; done) | (simp [World.cell?_alloc_at]; done)))
  have r0 := (hf (w.heap.size + 1) 0 (by simp <;> omega)).trans (show _ = false from by first | (simp; done) | (simp [World.frozen?_alloc_at]; done) | (rw [World.frozen?_alloc_old _ _ _ (by simp <;> omega)]; first | (simp [World.frozen?_alloc_at]; done) | (rw [World.frozen?_alloc_old _ _ _ (by simp <;> omega)]; simp [World.frozen?_alloc_at]; done))); have r1 := (hf (w.heap.size + 1) 1 (by simp <;> omega)).trans (show _ = false from by first | (simp; done) | (simp [World.frozen?_alloc_at]; done) | (rw [World.frozen?_alloc_old _ _ _ (by simp <;> omega)]; first | (simp [World.frozen?_alloc_at]; done) | (rw [World.frozen?_alloc_old _ _ _ (by simp <;> omega)]; simp [World.frozen?_alloc_at]; done))); have r2 := (hf (w.heap.size + 1) 2 (by simp <;> omega)).trans (show _ = false from by first | (simp; done) | (simp [World.frozen?_alloc_at]; done) | (rw [World.frozen?_alloc_old _ _ _ (by simp <;> omega)]; first | (simp [World.frozen?_alloc_at]; done) | (rw [World.frozen?_alloc_old _ _ _ (by simp <;> omega)]; simp [World.frozen?_alloc_at]; done)))
  have f0 := (hf (w.heap.size + 1 + 1) 0 (by simp <;> omega)).trans (show _ = false from by first | (simp; done) | (simp [World.frozen?_alloc_at]; done) | (rw [World.frozen?_alloc_old _ _ _ (by simp <;> omega)]; first | (simp [World.frozen?_alloc_at]; done) | (rw [World.frozen?_alloc_old _ _ _ (by simp <;> omega)]; simp [World.frozen?_alloc_at]; done))); have f1 := (hf (w.heap.size + 1 + 1) 1 (by simp <;> omega)).trans (show _ = false from by first | (simp; done) | (simp [World.frozen?_alloc_at]; done) | (rw [World.frozen?_alloc_old _ _ _ (by simp <;> omega)]; first | (simp [World.frozen?_alloc_at]; done) | (rw [World.frozen?_alloc_old _ _ _ (by simp <;> omega)]; simp [World.frozen?_alloc_at]; done))); have f2 := (hf (w.heap.size + 1 + 1) 2 (by simp <;> omega)).trans (show _ = false from by first | (simp; done) | (simp [World.frozen?_alloc_at]; done) | (rw [World.frozen?_alloc_old _ _ _ (by simp <;> omega)]; first | (simp [World.frozen?_alloc_at]; done) | (rw [World.frozen?_alloc_old _ _ _ (by simp <;> omega)]; simp [World.frozen?_alloc_at]; done)))
  have HO := Lib.hid (own_set3 (b := w.heap.size + 1) (own_set (b := w.heap.size + 1 + 1) (o := 2) (own_set (b := w.heap.size + 1 + 1) (o := 1) hown (by simp) (.slice A1 n c1)) (by simp) (.int .i64 lo)) (by simp <;> omega) (.int .i64 pe) (.slice A1 n c1) (.int .i64 lo))
  have HB := Lib.hid (below_set3 (b := w.heap.size + 1) (((show Below w.heap.size w w1 from Below.trans (by go_grown) (hb.mono (by simp <;> omega))).setCell (p := ⟨w.heap.size + 1 + 1, 1, none⟩) (by simp; omega) (.slice A1 n c1)).setCell (p := ⟨w.heap.size + 1 + 1, 2, none⟩) (by simp; omega) (.int .i64 lo)) (by omega) (.int .i64 pe) (.slice A1 n c1) (.int .i64 lo))
  have HM := Lib.hid (same3 (.int .i64 pe) (.slice A1 n c1) (.int .i64 lo) (set_blk (d := w.heap.size + 1 + 1) (o := 2) (v := .int .i64 lo) (by omega) (set_blk (d := w.heap.size + 1 + 1) (o := 1) (v := .slice A1 n c1) (by omega) p0)) (set_blk (d := w.heap.size + 1 + 1) (o := 2) (v := .int .i64 lo) (by omega) (set_blk (d := w.heap.size + 1 + 1) (o := 1) (v := .slice A1 n c1) (by omega) p1)) (set_blk (d := w.heap.size + 1 + 1) (o := 2) (v := .int .i64 lo) (by omega) (set_blk (d := w.heap.size + 1 + 1) (o := 1) (v := .slice A1 n c1) (by omega) p2)))
  clear hown hb hc hf
  go_wp2
  obtain ⟨m0, m1, m2⟩ := HM.out
  refine bodyPost_ret (v := .agg #[.int .i64 pe, .slice A1 n c1, .int .i64 lo]) (by simp [results, Try.results11, go_sem, m0, m1, m2]) rfl ?_
  exact ⟨_, _, rfl, HO.out.wider (by simp <;> omega) (by simp [World.setCell]), HB.out⟩
theorem szGb_any (pe lo : Int) (A : Option Addr) (n c : Nat) (xss : List (List Int)) (left : Int) (w : World) (hr : RdSS w A n c xss) (h0 : 0 ≤ left) (h1 : left ≤ 1048576) : Calls Try.prog 9 #[.agg #[.int .i64 pe, .slice A n c, .int .i64 lo], .int .i64 left] w fun x w' => x = .returned (.int .i64 (szOf left (n + totL xss))) ∧ Below w.heap.size w w' := by
  have HR := Lib.hid hr
  clear hr
  by_cases h : left < ((n + totL xss : Nat) : Int)
  · have HE := Lib.hid (szOf_lt h)
    clear h
    go_enter Try.func9, Try.ntmps9
    go_wp2_with fail
    refine (szSS_any A n c xss left _ (HR.out.alloc _) h0 h1).mono ?_
    rintro x w0 ⟨rfl, rfl⟩
    rw [HE.out]
    go_wp2
    go_ret
    exact ⟨by rw [HE.out]; rfl, by go_grown⟩
  · have HE := Lib.hid (szOf_ge h)
    have g0 : 0 ≤ left - ((n + totL xss : Nat) : Int) := by omega
    clear h
    go_enter Try.func9, Try.ntmps9
    go_wp2_with fail
    refine (szSS_any A n c xss left _ (HR.out.alloc _) h0 h1).mono ?_
    rintro x w0 ⟨rfl, rfl⟩
    rw [HE.out]
    generalize left - ((n + totL xss : Nat) : Int) = L at *
    go_wp2
    go_ret
    exact ⟨by rw [HE.out]; rfl, by go_grown⟩
theorem eqGb_same (pe lo : Int) (A : Option Addr) (n c : Nat) (B : Option Addr) (d : Nat) (xss : List (List Int)) (w : World) (hx : RdSS w A n c xss) (hy : RdSS w B n d xss) :
    Calls Try.prog 14 #[.agg #[.int .i64 pe, .slice A n c, .int .i64 lo], .agg #[.int .i64 pe, .slice B n d, .int .i64 lo]] w fun x w' => x = .returned (.bool true) ∧ Below w.heap.size w w' := by
  have HX := Lib.hid hx
  have HY := Lib.hid hy
  clear hx hy
  go_enter Try.func14, Try.ntmps14
  go_wp2_with fail
  refine (eqSS_laws A n c xss B n d xss _ ((HX.out.alloc _).alloc _) ((HY.out.alloc _).alloc _)).mono ?_
  rintro x w1 ⟨rfl, hb⟩
  rw [decide_eq_true rfl]
  obtain ⟨hc, hf⟩ := bcells hb
  have a0 := (hc (w.heap.size) 0 (by simp <;> omega)).trans (show _ = some (.int .i64 pe) from by first | (simp; done) | (simp [World.cell?_alloc_at]; done) | (rw [World.cell?_alloc_old _ _ _ (by simp <;> omega)]; first | (simp; done) | (simp [World.cell?_alloc_at]; done))); have a1 := (hc (w.heap.size) 1 (by simp <;> omega)).trans (show _ = some (.slice A n c) from by first | (simp; done) | (simp [World.cell?_alloc_at]; done) | (rw [World.cell?_alloc_old _ _ _ (by simp <;> omega)]; first | (simp; done) | (simp [World.cell?_alloc_at]; done))); have a2 := (hc (w.heap.size) 2 (by simp <;> omega)).trans (show _ = some (.int .i64 lo) from by first | (simp; done) | (simp [World.cell?_alloc_at]; done) | (rw [World.cell?_alloc_old _ _ _ (by simp <;> omega)]; first | (simp; done) | (simp [World.cell?_alloc_at]; done)))
  have b0 := (hc (w.heap.size + 1) 0 (by simp <;> omega)).trans (show _ = some (.int .i64 pe) from by first | (simp; done) | (simp [World.cell?_alloc_at]; done) | (rw [World.cell?_alloc_old _ _ _ (by simp <;> omega)]; first | (simp; done) | (simp [World.cell?_alloc_at]; done))); have b1 := (hc (w.heap.size + 1) 1 (by simp <;> omega)).trans (show _ = some (.slice B n d) from by first | (simp; done) | (simp [World.cell?_alloc_at]; done) | (rw [World.cell?_alloc_old _ _ _ (by simp <;> omega)]; first | (simp; done) | (simp [World.cell?_alloc_at]; done))); have b2 := (hc (w.heap.size + 1) 2 (by simp <;> omega)).trans (show _ = some (.int .i64 lo) from by first | (simp; done) | (simp [World.cell?_alloc_at]; done) | (rw [World.cell?_alloc_old _ _ _ (by simp <;> omega)]; first | (simp; done) | (simp [World.cell?_alloc_at]; done)))
  have HB := Lib.hid (show Below w.heap.size w w1 from Below.trans (by go_grown) (hb.mono (by simp <;> omega)))
  clear hb hc hf
  go_wp2
  go_ret
  exact ⟨rfl, HB.out⟩
/-- a group buffer is valid -/
def okF (xss : List (List Int)) (k : Nat) : Prop := ∀ i, i < k → (xss.getD i []).length ≤ 100
theorem okF_zero (xss : List (List Int)) : okF xss 0 := fun i h => absurd h (by omega)
theorem okF_succ {xss : List (List Int)} {k : Nat} (h : okF xss k) (h1 : (xss.getD k []).length ≤ 100) : okF xss (k + 1) := fun i hi => by
  rcases Nat.lt_or_ge i k with h3 | h3
  · exact h i h3
  · obtain rfl : i = k := by omega
    exact h1
def validG (pe lo : Int) (xss : List (List Int)) (n : Nat) : Prop := ((1 ≤ pe ∧ pe ≤ 8) ∧ n ≤ 6 ∧ 0 ≤ lo) ∧ okF xss n
def SaysG (b : Prop) (w : World) (e : Ending) (w' : World) : Prop := ∃ b' : Bool, (b' = true ↔ b) ∧ e = .returned (.bool b') ∧ Below w.heap.size w w'
theorem saysG_yes {b : Prop} {w w' : World} (h : b) (hb : Below w.heap.size w w') : SaysG b w (.returned (.bool true)) w' := ⟨true, by simp [h], rfl, hb⟩
theorem saysG_no {b : Prop} {w w' : World} (h : ¬ b) (hb : Below w.heap.size w w') : SaysG b w (.returned (.bool false)) w' := ⟨false, by simp [h], rfl, hb⟩
set_option maxHeartbeats 1000000 in
theorem validGb_impl (pe lo : Int) (A : Option Addr) (n c : Nat) (xss : List (List Int)) (w : World) (hr : RdSS w A n c xss) :
    Calls Try.prog 26 #[.agg #[.int .i64 pe, .slice A n c, .int .i64 lo]] w (SaysG (validG pe lo xss n) w) := by
  have hn : n ≤ 9223372036854775807 := by have h1 := hr.2.1; have h2 := hr.2.2.1; unfold maxLen at h2; omega
  have HR := Lib.hid hr
  clear hr
  by_cases h : (1 ≤ pe ∧ pe ≤ 8) ∧ n ≤ 6 ∧ 0 ≤ lo
  · have HV := Lib.hid h
    obtain ⟨⟨p1, p8⟩, n6, l0⟩ := h
    go_enter Try.func26, Try.ntmps26
    go_wp2_with (first | (go_at_call 74; refine (in_impl_yes _ _ _ _ (by omega) (by omega)).mono ?_; rintro e w' ⟨rfl, rfl⟩))
    go_loop [23] (fun v => ∃ k : Nat, k ≤ n ∧ v = .int .i64 (k : Int) ∧ okF xss k) (fun v => n - (intOf v).toNat)
    case atStart => exact ⟨0, Nat.zero_le _, rfl, okF_zero _⟩
    case round =>
      obtain ⟨k, hk, rfl, hok⟩ := hrel
      have HO := Lib.hid hok
      clear hok
      by_cases hlt : k < n
      · obtain ⟨g, o, A', n', c', rfl, hg, hc, hrd⟩ := (HR.out.alloc (.cells #[.int .i64 pe, .slice A n c, .int .i64 lo] 27)).at_ hlt
        have HN := Lib.hid (len_ints hrd)
        have hm' : n' ≤ 9223372036854775807 := by have h1 := hrd.2.1; have h2 := hrd.2.2.1; unfold maxLen at h2; omega
        clear hrd
        by_cases h100 : n' ≤ 100
        · have HX := Lib.hid (okF_succ HO.out (by rw [HN.out]; exact h100))
          go_wp2
          go_round
          case rel => exact ⟨k + 1, by omega, by go_num, HX.out⟩
          case measure => simp [intOf]; omega
        · have HX := Lib.hid (show ¬ validG pe lo xss n from fun hv => by have h1 := hv.2 k hlt; have h2 := HN.out; omega)
          go_wp2
          go_ret
          exact saysG_no HX.out (by go_grown)
      · obtain rfl : k = n := by omega
        go_wp2
        go_ret
        exact saysG_yes ⟨HV.out, HO.out⟩ (by go_grown)
  · have HN := Lib.hid (show ¬ validG pe lo xss n from fun hv => h hv.1)
    have hE : (pe < 1 ∨ 8 < pe) ∨ ((1 ≤ pe ∧ pe ≤ 8) ∧ 6 < n) ∨ ((1 ≤ pe ∧ pe ≤ 8) ∧ n ≤ 6 ∧ lo < 0) := by omega
    clear h
    rcases hE with h1 | ⟨⟨h1, h2⟩, h3⟩ | ⟨⟨h1, h2⟩, h3, h4⟩
    all_goals
      go_enter Try.func26, Try.ntmps26
      go_wp2_with (first | (go_at_call 74; (first | (refine (in_impl_yes _ _ _ _ (by omega) (by omega)).mono ?_) | (refine (in_impl_no _ _ _ _ (by omega)).mono ?_)); rintro e w' ⟨rfl, rfl⟩))
      go_ret
      exact saysG_no HN.out (by go_grown)
set_option maxHeartbeats 1000000 in
theorem validGb_spec (pe lo : Int) (A : Option Addr) (n c : Nat) (xss : List (List Int)) (w : World) (hr : RdSS w A n c xss) :
    Calls Try.prog 24 #[.agg #[.int .i64 pe, .slice A n c, .int .i64 lo]] w (SaysG (validG pe lo xss n) w) := by
  have hn : n ≤ 9223372036854775807 := by have h1 := hr.2.1; have h2 := hr.2.2.1; unfold maxLen at h2; omega
  have HR := Lib.hid hr
  clear hr
  go_enter Try.func24, Try.ntmps24
  go_wp2
  go_loop [3] (fun v => ∃ k : Nat, k ≤ n ∧ v = .int .i64 (k : Int) ∧ okF xss k) (fun v => n - (intOf v).toNat)
  case atStart => exact ⟨0, Nat.zero_le _, rfl, okF_zero _⟩
  case round =>
    obtain ⟨k, hk, rfl, hok⟩ := hrel
    have HO := Lib.hid hok
    clear hok
    by_cases hlt : k < n
    · obtain ⟨g, o, A', n', c', rfl, hg, hc, hrd⟩ := (HR.out.alloc (.cells #[.int .i64 pe, .slice A n c, .int .i64 lo] 27)).at_ hlt
      have HN := Lib.hid (len_ints hrd)
      have hm' : n' ≤ 9223372036854775807 := by have h1 := hrd.2.1; have h2 := hrd.2.2.1; unfold maxLen at h2; omega
      clear hrd
      by_cases h100 : n' ≤ 100
      · have HX := Lib.hid (okF_succ HO.out (by rw [HN.out]; exact h100))
        go_wp2
        go_round
        case rel => exact ⟨k + 1, by omega, by go_num, HX.out⟩
        case measure => simp [intOf]; omega
      · have HX := Lib.hid (show ¬ validG pe lo xss n from fun hv => by have h1 := hv.2 k hlt; have h2 := HN.out; omega)
        go_wp2
        go_ret
        exact saysG_no HX.out (by go_grown)
    · obtain rfl : k = n := by omega
      by_cases h : (1 ≤ pe ∧ pe ≤ 8) ∧ k ≤ 6 ∧ 0 ≤ lo
      · have HV := Lib.hid h
        obtain ⟨⟨p1, p8⟩, n6, l0⟩ := h
        go_wp2_with (first | (go_at_call 72; refine (in_spec_yes _ _ _ _ (by omega) (by omega)).mono ?_; rintro e w' ⟨rfl, rfl⟩))
        go_ret
        exact saysG_yes ⟨HV.out, HO.out⟩ (by go_grown)
      · have HN := Lib.hid (show ¬ validG pe lo xss k from fun hv => h hv.1)
        have hE : (pe < 1 ∨ 8 < pe) ∨ ((1 ≤ pe ∧ pe ≤ 8) ∧ (6 : Int) < (k : Int)) ∨ ((1 ≤ pe ∧ pe ≤ 8) ∧ (k : Int) ≤ 6 ∧ lo < 0) := by omega
        clear h
        rcases hE with h1 | ⟨⟨h1, h2⟩, h3⟩ | ⟨⟨h1, h2⟩, h3, h4⟩
        all_goals
          try have d1 : decide ((k : Int) ≤ 6) = false := decide_eq_false (by omega)
          try have d2 : decide (0 ≤ lo) = false := decide_eq_false (by omega)
          go_wp2_with (first | (go_at_call 72; (first | (refine (in_spec_yes _ _ _ _ (by omega) (by omega)).mono ?_) | (refine (in_spec_no _ _ _ _ (by omega)).mono ?_)); rintro e w' ⟨rfl, rfl⟩))
          go_ret
          exact saysG_no HN.out (by go_grown)
end Go.Proofs.Ythdieeaegplnmaa.Gb

/- The reference's comparison of byte slices: they are turned into strings, and these are compared. -/
namespace Go.Proofs.Ythdieeaegplnmaa.SS
open Go.RowKit
open Go.Proofs.Ythdieeaegplnmaa.Num Go.Proofs.Ythdieeaegplnmaa.Mem Go.Proofs.Ythdieeaegplnmaa.Hsh Go.Proofs.Ythdieeaegplnmaa.Sls Go.Proofs.Ythdieeaegplnmaa.Own
set_option linter.unusedSimpArgs false

theorem conv_rd {P : Program} {w : World} {A : Option Addr} {n c : Nat} {xs : List Int} (hr : Rd w 1 A n c (xs.map (Value.int .u8))) (src e : TypeId) (hs : P.underlying src = some (.slice e)) (he : P.underlying e = some (.int .u8)) :
    ∀ dst, P.underlying dst = some .string → (convert src dst (.slice A n c)).run P w = .ok (.string (strOfNums xs)) w := by
  intro dst hd
  have hlen := len_ints hr
  cases A with
  | none =>
    have h1 := hr.2.2.2.1 rfl
    have h2 := hr.2.1
    have : xs = [] := List.eq_nil_of_length_eq_zero (by omega)
    subst this
    exact run_convert_bytes_nil w src e hs he n c dst hd
  | some ad =>
    have hl : (loadCells ad n).run P w = .ok (xs.map (Value.int .u8)).toArray w := by
      have := run_loadCells_list (P := P) w ad (xs.map (Value.int .u8)) (fun j v hj => by
        have hjl : j < (xs.map (Value.int .u8)).length := (List.getElem?_eq_some_iff.1 hj).1
        obtain ⟨g, o, he', hc⟩ := hr.2.2.2.2 (by omega)
        injection he' with he'
        subst he'
        have ha : (⟨g, o, none⟩ : Addr).add j = ⟨g, o + j, none⟩ := by unfold Addr.add; split <;> simp_all
        rw [ha, hc j hjl, hj])
      simpa [hlen] using this
    rw [run_convert_bytes_string w src dst e _ n c hs he hd, run_bytesToString w _ n c xs hl, foldl_push_bytes]
    simp [strOfNums, ByteArray.empty, ByteArray.emptyWithCapacity]
    rfl
theorem byte_inj {a b : Int} (ha : 0 ≤ a ∧ a ≤ 255) (hb : 0 ≤ b ∧ b ≤ 255) (h : UInt8.ofNat a.toNat = UInt8.ofNat b.toNat) : a = b := by
  have h1 := congrArg UInt8.toNat h
  simp only [UInt8.toNat_ofNat'] at h1
  omega
theorem str_inj : ∀ {xs ys : List Int}, AllBytes xs → AllBytes ys → xs.map (fun n => UInt8.ofNat n.toNat) = ys.map (fun n => UInt8.ofNat n.toNat) → xs = ys
  | [], [], _, _, _ => rfl
  | [], _ :: _, _, _, h => by simp at h
  | _ :: _, [], _, _, h => by simp at h
  | x :: xs, y :: ys, hx, hy, h => by
    simp only [List.map_cons, List.cons.injEq] at h
    rw [byte_inj (hx x (by simp)) (hy y (by simp)) h.1, str_inj (fun z hz => hx z (by simp [hz])) (fun z hz => hy z (by simp [hz])) h.2]
def AllB (xss : List (List Int)) : Prop := ∀ i, AllBytes (xss.getD i [])
end Go.Proofs.Ythdieeaegplnmaa.SS

/- Contracts of EqualGroupBuffers. -/
namespace Go.Proofs.Ythdieeaegplnmaa.Gb
open Go.RowKit
open Go.Proofs.Ythdieeaegplnmaa.Num Go.Proofs.Ythdieeaegplnmaa.Mem Go.Proofs.Ythdieeaegplnmaa.Hsh Go.Proofs.Ythdieeaegplnmaa.Sls Go.Proofs.Ythdieeaegplnmaa.Own Go.Proofs.Ythdieeaegplnmaa.SS Go.Proofs.Ythdieeaegplnmaa.Bcn
set_option linter.unusedSimpArgs false
set_option linter.unusedVariables false
set_option maxHeartbeats 1000000 in
theorem eqgb_impl (pe lo : Int) (A : Option Addr) (n c : Nat) (xs : List (List Int)) (pe' lo' : Int) (B : Option Addr) (m d : Nat) (ys : List (List Int)) (w : World) (hx : RdSS w A n c xs) (hy : RdSS w B m d ys) (bx : AllB xs) (by_ : AllB ys) :
    Calls Try.prog 25 #[.agg #[.int .i64 pe, .slice A n c, .int .i64 lo], .agg #[.int .i64 pe', .slice B m d, .int .i64 lo']] w (Says (pe = pe' ∧ lo = lo' ∧ xs = ys) w) := by
  have HX := Lib.hid hx
  have HY := Lib.hid hy
  have HC := Lib.hid (fun w h1 h2 => eqSS_impl A n c xs B m d ys w h1 h2)
  clear hx hy bx by_
  by_cases h0 : pe = pe'
  · by_cases h1 : lo = lo'
    · subst h0 h1
      by_cases h3 : xs = ys
      · have HD := Lib.hid (decide_eq_true h3)
        have HE := Lib.hid h3
        clear h3
        go_enter Try.func25, Try.ntmps25
        go_wp2_with fail
        refine (HC.out _ ((HX.out.alloc _).alloc _) ((HY.out.alloc _).alloc _)).mono ?_
        rintro x w1 ⟨rfl, hb⟩
        rw [HD.out]
        have HB := Lib.hid (show Below w.heap.size w w1 from Below.trans (by go_grown) (hb.mono (by simp <;> omega)))
        clear hb
        go_wp2
        go_ret
        exact says_yes ⟨rfl, rfl, HE.out⟩ HB.out
      · have HD := Lib.hid (decide_eq_false h3)
        have HE := Lib.hid h3
        clear h3
        go_enter Try.func25, Try.ntmps25
        go_wp2_with fail
        refine (HC.out _ ((HX.out.alloc _).alloc _) ((HY.out.alloc _).alloc _)).mono ?_
        rintro x w1 ⟨rfl, hb⟩
        rw [HD.out]
        have HB := Lib.hid (show Below w.heap.size w w1 from Below.trans (by go_grown) (hb.mono (by simp <;> omega)))
        clear hb
        go_wp2
        go_ret
        exact says_no (fun h => HE.out h.2.2) HB.out
    · have HN := Lib.hid (show ¬ (pe = pe' ∧ lo = lo' ∧ xs = ys) from fun h => h1 h.2.1)
      have e1 : (lo == lo') = false := by simpa using h1
      clear h1
      subst h0
      go_enter Try.func25, Try.ntmps25
      go_wp2
      go_ret
      exact says_no (by simpa using HN.out) (by go_grown)
  · have HN := Lib.hid (show ¬ (pe = pe' ∧ lo = lo' ∧ xs = ys) from fun h => h0 h.1)
    have e0 : (pe == pe') = false := by simpa using h0
    clear h0
    go_enter Try.func25, Try.ntmps25
    go_wp2
    go_ret
    exact says_no (by simpa using HN.out) (by go_grown)
end Go.Proofs.Ythdieeaegplnmaa.Gb

/- Copies of byte slices, of slices of byte slices, of group buffers. -/
namespace Go.Proofs.Ythdieeaegplnmaa.Gb
open Go.RowKit
open Go.Proofs.Ythdieeaegplnmaa.Num Go.Proofs.Ythdieeaegplnmaa.Mem Go.Proofs.Ythdieeaegplnmaa.Hsh Go.Proofs.Ythdieeaegplnmaa.Sls Go.Proofs.Ythdieeaegplnmaa.Own Go.Proofs.Ythdieeaegplnmaa.SS Go.Proofs.Ythdieeaegplnmaa.Bcn
set_option linter.unusedSimpArgs false
set_option linter.unusedVariables false
theorem uInfo : (Try.prog.info? 5).map (fun i => (i.zero, i.size, i.bytes)) = some (some (.int .u8 0), 1, 1) := by kernel_rfl
set_option maxHeartbeats 1000000 in
theorem copyB_any (A : Option Addr) (n c : Nat) (zs : List Int) (w : World) (hr : Rd w 1 A n c (zs.map (Value.int .u8))) (hn : n ≤ 2097152) :
    Calls Try.prog 61 #[.slice A n c] w (RetOwn w 5 1 n (zs.map (Value.int .u8))) := by
  obtain ⟨i0, hi, hz0, hz1, hz2⟩ := info_parts uInfo
  have HR := Lib.hid hr
  clear hr
  go_enter Try.func61, Try.ntmps61
  go_wp2_with (at_make; refine wpList_make_full _ rfl _ _ 25 rfl w.heap.size 5 i0 (.int .u8 0) 1 Try.underlying25 hi hz0 hz1 _ _ _ _ n rfl rfl rfl rfl ?b2 ?b3 (Nat.le_refl _) ?_)
  case b2 => rw [hz2]; omega
  case b3 => unfold maxLen; omega
  intro w0 hown0 hgrow0
  have hb0 : Below w.heap.size w w0 := (Below.refl _ _).grown hgrow0 (Nat.le_refl _) (fun k h => by cases h)
  clear hgrow0
  generalize (madeCells #[Value.int IntKind.u8 0] n).toList = Z at hown0
  have HO := Lib.hid hown0
  clear hown0
  go_wp2_with (with_reducible refine wpl_copy (o := ⟨some 9, _, _, _, _, _⟩) _ rfl _ _ 25 25 rfl 5 i0 1 Try.underlying25 hi hz1 w.heap.size 5 w.heap.size n n Z rfl HO.out A c _ rfl (HR.out.below hb0) (one_ints .u8 zs) ?_)
  intro w1 hown1 hgrow1
  have HB := Lib.hid (hb0.grown hgrow1 hb0.size (fun k h => by injection h with h; omega))
  have HO1 := Lib.hid hown1
  clear hgrow1 hown1 hb0
  go_wp2
  go_ret
  exact ⟨_, _, rfl, HO1.out, HB.out⟩
set_option maxHeartbeats 1000000 in
theorem copyFr_any (A : Option Addr) (n c : Nat) (xss : List (List Int)) (w : World) (hr : RdSS w A n c xss) (hn : n ≤ 2097152) (hs : AllShort xss) :
    Calls Try.prog 89 #[.slice A n c] w (RetSS w n xss) := by
  obtain ⟨i0, hi, hz0, hz1, hz2⟩ := info_parts ssInfo
  have hl := Lib.hid hr.1
  have HR := Lib.hid hr
  have HS := Lib.hid hs
  clear hr hs
  go_enter Try.func89, Try.ntmps89
  go_wp2_with (at_make; refine wpList_make_full _ rfl _ _ 22 rfl w.heap.size 25 i0 (.slice none 0 0) 1 Try.underlying22 hi hz0 hz1 _ _ _ _ n rfl rfl rfl rfl ?b2 ?b3 (Nat.le_refl _) ?_)
  case b2 => rw [hz2]; omega
  case b3 => unfold maxLen; omega
  intro w0 hown0 hgrow0
  have hb0 : Below w.heap.size w w0 := (Below.refl _ _).grown hgrow0 (Nat.le_refl _) (fun k h => by cases h)
  clear hgrow0
  have hz' : ((madeCells #[Value.slice none 0 0] n).toList).length = n := by simp [size_madeCells]
  generalize (madeCells #[Value.slice none 0 0] n).toList = Z at hown0 hz'
  have HZ := Lib.hid hz'
  have HO := Lib.hid hown0
  clear hz' hown0
  go_wp2
  go_loopw [11] (fun v4 wr => ∃ (k : Nat) (ss : List Sl), k ≤ n ∧ v4 = .int .i64 (k : Int) ∧ ss.length = k ∧ wr.ownsRow w.heap.size 25 1 (.slice (some ⟨w.heap.size, 0, none⟩) n n) n (ss.map sl ++ Z.drop k) ∧ InSS wr (w.heap.size + 1) wr.heap.size ss xss k ∧ Below w.heap.size w wr) (fun v4 _ => n - (intOf v4).toNat)
  case atStart => exact ⟨0, [], Nat.zero_le _, rfl, rfl, HO.out, ⟨fun i h => absurd h (by omega), fun i j _ h => absurd h (by omega)⟩, hb0⟩
  case round =>
    obtain ⟨k, ss, hk, rfl, hls, hown, hin, hbr⟩ := hrel
    by_cases hlt : k < n
    · obtain ⟨g, o, A', n', c', rfl, hg, hc, hrd⟩ := (HR.out.below hbr).at_ hlt
      have hn' : n' ≤ 2097152 := by have h1 := HS.out k; have h2 := len_ints hrd; omega
      have HO := Lib.hid hown
      have HI := Lib.hid hin
      have HL := Lib.hid hls
      have hw0 := (hown.lt w.heap.size rfl).2
      have HX := Lib.hid (fun s => sl_step (ss := ss) (Z := Z) (k := k) s hls (by rw [HZ.out]; exact hlt))
      clear hown hin hls
      go_wp2_with fail
      refine (copyB_any A' n' c' (xss.getD k []) _ hrd hn').mono ?_
      rintro x w1 ⟨A1, c1, rfl, hown1, hb⟩
      have h1 := own_below HO.out hb
      have hfr := h1.frozenAt k
      have hlen := h1.1
      obtain ⟨u, d0⟩ : ∃ u, w1.cell? ⟨w.heap.size, k, none⟩ = some u := ⟨_, by rw [h1.cellAt k (by omega), List.getElem?_eq_getElem (by omega)]⟩
      have HT := Lib.hid ((h1.stored k (sl (A1, n', c1))).1)
      have HB := Lib.hid ((stepB hbr hb hbr.size).setCell (p := ⟨w.heap.size, k, none⟩) (Nat.le_refl _) (sl (A1, n', c1)))
      have hI1 : InSS w1 (w.heap.size + 1) w1.heap.size (ss ++ [(A1, n', c1)]) xss (k + 1) := in_step (s := (A1, n', c1)) (HI.out.keep fun g _ hg => hb.block g hg) HL.out (Own.of hown1) hw0 hb.size
      have HN := Lib.hid (show InSS (w1.setCell ⟨w.heap.size, k, none⟩ (sl (A1, n', c1))) (w.heap.size + 1) (w1.setCell ⟨w.heap.size, k, none⟩ (sl (A1, n', c1))).heap.size (ss ++ [(A1, n', c1)]) xss (k + 1) from (hI1.keep fun g h1 _ => Below.heap_setCell w1 _ _ g (by simp; omega)).wider (Nat.le_refl _) (by simp [World.setCell]))
      have HL2 := Lib.hid (show (ss ++ [(A1, n', c1)]).length = k + 1 by simp [HL.out])
      have HX2 := Lib.hid (HX.out (A1, n', c1))
      clear h1 hlen hown1 hb hbr hb0 hc hrd hI1 HX
      go_wp2
      go_roundw
      case rel => exact ⟨k + 1, ss ++ [(A1, n', c1)], by omega, by go_num, HL2.out, by rw [← HX2.out]; exact HT.out, HN.out, HB.out⟩
      case measure => simp [intOf]; omega
    · obtain rfl : k = n := by omega
      have HA := Lib.hid (show ss.map sl ++ Z.drop k = ss.map sl by rw [List.drop_of_length_le (by rw [HZ.out]; exact Nat.le_refl _), List.append_nil])
      have HW := Lib.hid hown
      have HI := Lib.hid hin
      have HL := Lib.hid hls
      clear hown hin hls
      go_wp2
      go_ret
      exact ⟨_, _, rfl, ⟨hl.out, ss, HL.out, by have h := HW.out; rw [HA.out] at h; exact Own.of h, HI.out.wider (by omega) (Nat.le_refl _)⟩, hbr⟩
set_option maxHeartbeats 1000000 in
theorem copyGb_any (pe lo : Int) (A : Option Addr) (n c : Nat) (xss : List (List Int)) (w : World) (hr : RdSS w A n c xss) (hn : n ≤ 2097152) (hs : AllShort xss) :
    Calls Try.prog 60 #[.agg #[.int .i64 pe, .slice A n c, .int .i64 lo]] w (RetGb w pe lo n xss) := by
  have HR := Lib.hid hr
  have HS := Lib.hid hs
  clear hr hs
  go_enter Try.func60, Try.ntmps60
  go_wp2_with fail
  refine (copyFr_any A n c xss _ ((HR.out.alloc _).alloc _) hn HS.out).mono ?_
  rintro x w1 ⟨A1, c1, rfl, hown, hb⟩
  obtain ⟨hc, hf⟩ := bcells hb
  have q0 := (hc (w.heap.size) 0 (by simp <;> omega)).trans (show _ = some (.int .i64 pe) from by first | (simp; done) | (simp [World.cell?_alloc_at]; done) | (rw [World.cell?_alloc_old _ _ _ (by simp <;> omega)]; first | (simp; done) | (simp [World.cell?_alloc_at]; done))); have q1 := (hc (w.heap.size) 1 (by simp <;> omega)).trans (show _ = some (.slice A n c) from by first | (simp; done) | (simp [World.cell?_alloc_at]; done) | (rw [World.cell?_alloc_old _ _ _ (by simp <;> omega)]; first | (simp; done) | (simp [World.cell?_alloc_at]; done))); have q2 := (hc (w.heap.size) 2 (by simp <;> omega)).trans (show _ = some (.int .i64 lo) from by first | (simp; done) | (simp [World.cell?_alloc_at]; done) | (rw [World.cell?_alloc_old _ _ _ (by simp <;> omega)]; first | (simp; done) | (simp [World.cell?_alloc_at]; done)))
  have p0 := (hc (w.heap.size + 1) 0 (by simp <;> omega)).trans (show _ = some (.int .i64 0) from by first | (simp; done) | (simp [World.cell?_alloc_at]; done) | (rw [World.cell?_alloc_old _ _ _ (by simp <;> omega)]; first | (simp; done) | (simp [World.cell?_alloc_at]; done))); have p1 := (hc (w.heap.size + 1) 1 (by simp <;> omega)).trans (show _ = some (.slice none 0 0) from by first | (simp; done) | (simp [World.cell?_alloc_at]; done) | (rw [World.cell?_alloc_old _ _ _ (by simp <;> omega)]; first | (simp; done) | (simp [World.cell?_alloc_at]; done))); have p2 := (hc (w.heap.size + 1) 2 (by simp <;> omega)).trans (show _ = some (.int .i64 0) from by first | (simp; done) | (simp [World.cell?_alloc_at]; done) | (rw [World.cell?_alloc_old _ _ _ (by simp <;> omega)]; first | (simp; done) | (simp [World.cell?_alloc_at]; done)))
  have f0 := (hf (w.heap.size) 0 (by simp <;> omega)).trans (show _ = false from by first | (simp; done) | (simp [World.frozen?_alloc_at]; done) | (rw [World.frozen?_alloc_old _ _ _ (by simp <;> omega)]; first | (simp [World.frozen?_alloc_at]; done) | (rw [World.frozen?_alloc_old _ _ _ (by simp <;> omega)]; simp [World.frozen?_alloc_at]; done))); have f1 := (hf (w.heap.size) 1 (by simp <;> omega)).trans (show _ = false from by first | (simp; done) | (simp [World.frozen?_alloc_at]; done) | (rw [World.frozen?_alloc_old _ _ _ (by simp <;> omega)]; first | (simp [World.frozen?_alloc_at]; done) | (rw [World.frozen?_alloc_old _ _ _ (by simp <;> omega)]; simp [World.frozen?_alloc_at]; done))); have f2 := (hf (w.heap.size) 2 (by simp <;> omega)).trans (show _ = false from by first | (simp; done) | (simp [World.frozen?_alloc_at]; done) | (rw [World.frozen?_alloc_old _ _ _ (by simp <;> omega)]; first | (simp [World.frozen?_alloc_at]; done) | (rw [World.frozen?_alloc_old _ _ _ (by simp <;> omega)]; simp [World.frozen?_alloc_at]; done)))
  have r0 := (hf (w.heap.size + 1) 0 (by simp <;> omega)).trans (show _ = false from by first | (simp; done) | (simp [World.frozen?_alloc_at]; done) | (rw [World.frozen?_alloc_old _ _ _ (by simp <;> omega)]; first | (simp [World.frozen?_alloc_at]; done) | (rw [World.frozen?_alloc_old _ _ _ (by simp <;> omega)]; simp [World.frozen?_alloc_at]; done))); have r1 := (hf (w.heap.size + 1) 1 (by simp <;> omega)).trans (show _ = false from by first | (simp; done) | (simp [World.frozen?_alloc_at]; done) | (rw [World.frozen?_alloc_old _ _ _ (by simp <;> omega)]; first | (simp [World.frozen?_alloc_at]; done) | (rw [World.frozen?_alloc_old _ _ _ (by simp <;> omega)]; simp [World.frozen?_alloc_at]; done))); have r2 := (hf (w.heap.size + 1) 2 (by simp <;> omega)).trans (show _ = false from by first | (simp; done) | (simp [World.frozen?_alloc_at]; done) | (rw [World.frozen?_alloc_old _ _ _ (by simp <;> omega)]; first | (simp [World.frozen?_alloc_at]; done) | (rw [World.frozen?_alloc_old _ _ _ (by simp <;> omega)]; simp [World.frozen?_alloc_at]; done)))
  have k1 := set_same (v := .slice A1 n c1) q1
  have HO := Lib.hid (own_set3 (b := w.heap.size + 1) (own_set (b := w.heap.size) (o := 1) hown (by simp <;> omega) (.slice A1 n c1)) (by simp <;> omega) (.int .i64 pe) (.slice A1 n c1) (.int .i64 lo))
  have HB := Lib.hid (below_set3 (b := w.heap.size + 1) ((show Below w.heap.size w w1 from Below.trans (by go_grown) (hb.mono (by simp <;> omega))).setCell (p := ⟨w.heap.size, 1, none⟩) (Nat.le_refl _) (.slice A1 n c1)) (by omega) (.int .i64 pe) (.slice A1 n c1) (.int .i64 lo))
  have HM := Lib.hid (same3 (.int .i64 pe) (.slice A1 n c1) (.int .i64 lo) (set_blk (d := w.heap.size) (o := 1) (v := .slice A1 n c1) (by omega) p0) (set_blk (d := w.heap.size) (o := 1) (v := .slice A1 n c1) (by omega) p1) (set_blk (d := w.heap.size) (o := 1) (v := .slice A1 n c1) (by omega) p2))
  clear hown hb hc hf
  go_wp2
  obtain ⟨m0, m1, m2⟩ := HM.out
  refine bodyPost_ret (v := .agg #[.int .i64 pe, .slice A1 n c1, .int .i64 lo]) (by simp [results, Try.results60, go_sem, m0, m1, m2]) rfl ?_
  exact ⟨_, _, rfl, HO.out.wider (by simp <;> omega) (by simp [World.setCell]), HB.out⟩
end Go.Proofs.Ythdieeaegplnmaa.Gb

/- Marks laid into byte slices, and into slices of byte slices; what the laws read back. -/
namespace Go.Proofs.Ythdieeaegplnmaa.SS
open Go.RowKit
open Go.Proofs.Ythdieeaegplnmaa.Num Go.Proofs.Ythdieeaegplnmaa.Mem Go.Proofs.Ythdieeaegplnmaa.Hsh Go.Proofs.Ythdieeaegplnmaa.Sls Go.Proofs.Ythdieeaegplnmaa.Own
set_option linter.unusedSimpArgs false
/-- N marks from k on, as bytes -/
def bmarks (k : Int) (N : Nat) : List Int := _root_.List.map (fun (i : Nat) => (k + (i : Int)) % 256) (_root_.List.range N)
theorem bmarks_len (k : Int) (N : Nat) : (bmarks k N).length = N := by simp [bmarks]
theorem bmarks_at (k : Int) (N j : Nat) (h : j < N) : (bmarks k N).getD j 0 = (k + (j : Int)) % 256 := by simp [bmarks, List.getD, h]
theorem ownsRow_succ' {w : World} {base : Nat} {e : TypeId} {size n : Nat} {v : Value} {xs : List Value} (h : w.ownsRow base e size v n xs) (hn : 0 < n) : ∃ g cap, v = .slice (some ⟨g, 0, none⟩) n cap := by
  obtain ⟨_, h2⟩ := h
  rcases h2 with ⟨_, h0⟩ | ⟨g, cap, _, hv, _⟩
  · omega
  · exact ⟨g, cap, hv⟩
/-- only the slice's own block has turned -/
def Only (A : Option Addr) (w w' : World) : Prop := w.grownBy w' (blk A)
theorem only_set {A : Option Addr} {w w' : World} {g : Nat} (h : Only A w w') (hA : blk A = some g) (o : Nat) (u : Value) : Only A w (w'.setCell ⟨g, o, none⟩ u) :=
  ⟨h.os, h.tape, h.output, by simpa [World.setCell] using h.size, fun k hk hne => (Below.heap_setCell w' _ u k (fun e => hne (by rw [hA, e]))).trans (h.block k hk hne)⟩
set_option maxHeartbeats 1000000 in
theorem markB_any (A : Option Addr) (n c : Nat) (xs : List Value) (k : Int) (lo hi : Nat) (w : World) (h : Own w lo hi 5 1 A n c xs) (k0 : 0 ≤ k) (k1 : k ≤ 16777216) (hn : n ≤ 2097152) :
    Calls Try.prog 17 #[.slice A n c, .int .i64 k] w fun x w' => x = .returned (.int .i64 (k + (n : Int))) ∧ Own w' lo hi 5 1 A n c ((bmarks k n).map (Value.int .u8)) ∧ Only A w w' := by
  have hl := Lib.hid (show xs.length = n by have := h.1.1; simpa using this)
  have HO := Lib.hid h
  clear h
  go_enter Try.func17, Try.ntmps17
  go_wp2
  go_loopw [1, 5] (fun v1 v5 wr => ∃ j : Nat, j ≤ n ∧ v1 = .int .i64 (k + (j : Int)) ∧ v5 = .int .i64 (j : Int) ∧ Own wr lo hi 5 1 A n c (((bmarks k n).take j).map (Value.int .u8) ++ xs.drop j) ∧ Only A w wr) (fun _ v5 _ => n - (intOf v5).toNat)
  case atStart => exact ⟨0, Nat.zero_le _, by go_num, rfl, HO.out, World.grownBy.refl w _⟩
  case round =>
    obtain ⟨j, hj, rfl, rfl, hown, ht⟩ := hrel
    by_cases hlt : j < n
    · obtain ⟨g, cap, hv⟩ := ownsRow_succ' hown.1 (by omega)
      simp only [Value.slice.injEq, true_and] at hv
      obtain ⟨rfl, rfl⟩ := hv
      have HS := Lib.hid (row_step (k := j) (zs := bmarks k n) (Z := xs) (f := Value.int .u8) (by rw [bmarks_len]; omega) (by rw [hl.out]; omega))
      rw [bmarks_at _ _ _ hlt] at HS
      have hK0 : 0 ≤ k + (j : Int) := by omega
      have hK1 : k + (j : Int) ≤ 33554432 := by omega
      have HE := Lib.hid (show k + ((j : Int) + 1) = k + (j : Int) + 1 by omega)
      generalize k + (j : Int) = K at *
      have hfr := hown.1.frozenAt
      have hlen := hown.1.1
      obtain ⟨u0, d0⟩ : ∃ u, wr.cell? ⟨g, j, none⟩ = some u := ⟨_, by rw [hown.1.cellAt j (by omega), List.getElem?_eq_getElem (by omega)]⟩
      have HT := Lib.hid ((hown.1.stored j (.int .u8 (K % 256))).1)
      have HB := Lib.hid (only_set ht rfl j (.int .u8 (K % 256)))
      have HA := Lib.hid hown.2
      clear hown ht hlen
      go_wp2
      go_roundw
      case rel => exact ⟨j + 1, by omega, by rw [show ((j + 1 : Nat) : Int) = (j : Int) + 1 from rfl, HE.out], by go_num, ⟨by rw [← HS.out]; exact HT.out, HA.out⟩, HB.out⟩
      case measure => simp [intOf]; omega
    · obtain rfl : j = n := by omega
      have HX := Lib.hid (show ((bmarks k j).take j).map (Value.int .u8) ++ xs.drop j = (bmarks k j).map (Value.int .u8) by rw [List.take_of_length_le (by rw [bmarks_len]; exact Nat.le_refl _), List.drop_of_length_le (by rw [hl.out]; exact Nat.le_refl _), List.append_nil])
      have HW := Lib.hid hown
      clear hown
      go_wp2
      go_ret
      exact ⟨rfl, by have h := HW.out; rw [HX.out] at h; exact h, ht⟩
set_option maxHeartbeats 1000000 in
theorem heldB_any (A : Option Addr) (n c : Nat) (k : Int) (w : World) (h : Rd w 1 A n c ((bmarks k n).map (Value.int .u8))) (k0 : 0 ≤ k) (k1 : k ≤ 16777216) (hn : n ≤ 2097152) :
    Calls Try.prog 94 #[.slice A n c, .int .i64 k] w fun x w' => x = .returned (.int .i64 (k + (n : Int))) ∧ w = w' := by
  have HR := Lib.hid h
  clear h
  go_enter Try.func94, Try.ntmps94
  go_wp2
  go_loop [1, 5] (fun v1 v5 => ∃ j : Nat, j ≤ n ∧ v1 = .int .i64 (k + (j : Int)) ∧ v5 = .int .i64 (j : Int)) (fun _ v5 => n - (intOf v5).toNat)
  case atStart => exact ⟨0, Nat.zero_le _, by go_num, rfl⟩
  case round =>
    obtain ⟨j, hj, rfl, rfl⟩ := hrel
    by_cases hlt : j < n
    · obtain ⟨g, o, rfl, hg, c0⟩ := HR.out.int_at hlt
      rw [bmarks_at _ _ _ hlt] at c0
      have hK0 : 0 ≤ k + (j : Int) := by omega
      have hK1 : k + (j : Int) ≤ 33554432 := by omega
      have HE := Lib.hid (show k + ((j : Int) + 1) = k + (j : Int) + 1 by omega)
      generalize k + (j : Int) = K at *
      go_wp2
      go_round
      case rel => exact ⟨j + 1, by omega, by rw [show ((j + 1 : Nat) : Int) = (j : Int) + 1 from rfl, HE.out], by go_num⟩
      case measure => simp [intOf]; omega
    · obtain rfl : j = n := by omega
      go_wp2
      go_ret
      exact ⟨rfl, rfl⟩
/-- the marks of a slice of byte slices, from k on -/
def mSS (k : Int) (xss : List (List Int)) : List (List Int) := _root_.List.map (fun (i : Nat) => bmarks (k + (totL (xss.take i) : Int)) (xss.getD i []).length) (_root_.List.range xss.length)
theorem mSS_len (k : Int) (xss : List (List Int)) : (mSS k xss).length = xss.length := by simp [mSS]
theorem mSS_at (k : Int) (xss : List (List Int)) (j : Nat) (h : j < xss.length) : (mSS k xss).getD j [] = bmarks (k + (totL (xss.take j) : Int)) (xss.getD j []).length := by simp [mSS, List.getD, h]
theorem mix_old {xs ys : List (List Int)} {i j : Nat} (hl : xs.length = ys.length) (hj : j ≤ xs.length) (h : i < j) : (xs.take j ++ ys.drop j).getD i [] = xs.getD i [] := by
  simp only [List.getD]
  rw [List.getElem?_append_left (by simp; omega), List.getElem?_take, if_pos h]
theorem mix_new {xs ys : List (List Int)} {i j : Nat} (hl : xs.length = ys.length) (hj : j ≤ xs.length) (h : j ≤ i) : (xs.take j ++ ys.drop j).getD i [] = ys.getD i [] := by
  simp only [List.getD]
  rw [List.getElem?_append_right (by simp; omega), List.getElem?_drop]
  congr 2
  simp; omega
theorem own_only {w w' : World} {lo hi : Nat} {e : TypeId} {sz : Nat} {A : Option Addr} {n c : Nat} {xs : List Value} {row : Option Nat} (h : Own w lo hi e sz A n c xs) (hg : w.grownBy w' row) (hne : ∀ g, blk A = some g → row ≠ some g) : Own w' lo hi e sz A n c xs := by
  obtain ⟨h1, h2⟩ := h
  refine ⟨h1.kept hg ?_, h2⟩
  cases A with
  | none => exact .inl rfl
  | some a => exact .inr (fun e => hne a.block rfl e.symm)
theorem own_kinds {w : World} {lo hi lo' hi' : Nat} {e e' : TypeId} {sz sz' : Nat} {A B : Option Addr} {n c m d : Nat} {xs ys : List Value} (h : Own w lo hi e sz A n c xs) (h' : Own w lo' hi' e' sz' B m d ys) (hne : e ≠ e') : ∀ g, blk A = some g → blk B ≠ some g := by
  intro g hA hB
  rcases h.1.2 with ⟨hv, _⟩ | ⟨g1, _, cur, hv, _, hh, _⟩
  · injection hv with hv; rw [hv] at hA; cases hA
  rcases h'.1.2 with ⟨hv', _⟩ | ⟨g2, _, cur', hv', _, hh', _⟩
  · injection hv' with hv'; rw [hv'] at hB; cases hB
  injection hv with hv
  injection hv' with hv'
  rw [hv] at hA
  rw [hv'] at hB
  simp only [blk, Option.map_some, Option.some.injEq] at hA hB
  subst hA hB
  rw [hh] at hh'
  injection hh' with hh'
  injection hh' with _ ht
  exact hne ht
set_option maxHeartbeats 2000000 in
theorem markSS_any (A : Option Addr) (n c : Nat) (xss : List (List Int)) (k : Int) (lo hi : Nat) (w : World) (h : OwnSS w lo hi A n c xss) (k0 : 0 ≤ k) (k1 : k ≤ 4194304) (hn : n ≤ 2097152) (ht : totL xss ≤ 2097152) :
    Calls Try.prog 63 #[.slice A n c, .int .i64 k] w fun x w' => x = .returned (.int .i64 (k + (totL xss : Int))) ∧ OwnSS w' lo hi A n c (mSS k xss) ∧ Turned lo hi w w' := by
  obtain ⟨h0, ss, h1, h2, h3⟩ := h
  have HL := Lib.hid h0
  have HS := Lib.hid h1
  have HO := Lib.hid h2
  have HI := Lib.hid h3
  have HT := Lib.hid (show ∀ j, totL (xss.take j) ≤ totL xss from totL_le xss)
  have HF := Lib.hid (show totL (xss.take n) = totL xss by rw [List.take_of_length_le (by rw [HL.out]; exact Nat.le_refl _)])
  have HM := Lib.hid (mSS_len k xss)
  clear h0 h1 h2 h3
  go_enter Try.func63, Try.ntmps63
  go_wp2
  go_loopw [1, 5] (fun v1 v5 wr => ∃ j : Nat, j ≤ n ∧ v1 = .int .i64 (k + (totL (xss.take j) : Int)) ∧ v5 = .int .i64 (j : Int) ∧ Own wr lo hi 25 1 A n c (ss.map sl) ∧ InSS wr lo hi ss ((mSS k xss).take j ++ xss.drop j) n ∧ Turned lo hi w wr) (fun _ v5 _ => n - (intOf v5).toNat)
  case atStart => exact ⟨0, Nat.zero_le _, by simp [totL], rfl, HO.out, HI.out, Turned.refl _ _ _⟩
  case round =>
    obtain ⟨j, hj, rfl, rfl, hown, hin, htr⟩ := hrel
    by_cases hlt : j < n
    · have hr := hown.rd
      obtain ⟨g, o, rfl, hg, hc⟩ := hr.at_ (k := j) (by rw [List.length_map, HS.out]; exact hlt)
      have hcell := hc j (by rw [List.length_map, HS.out]; exact hlt)
      rw [nth_map (by rw [HS.out]; exact hlt)] at hcell
      have hinj := hin.1 j hlt
      rw [mix_new (by rw [HM.out]) (by rw [HM.out, HL.out]; omega) (Nat.le_refl _)] at hinj
      have HC := Lib.hid (show wr.cell? ⟨g, o + j, none⟩ = some (.slice (nth ss j).1 (nth ss j).2.1 (nth ss j).2.2) from hcell)
      have HJ := Lib.hid hinj
      have HN := Lib.hid (len_ints hinj.rd)
      have HO1 := Lib.hid hown
      have HI1 := Lib.hid hin
      have HT1 := Lib.hid htr
      have HST := Lib.hid (totL_step (xss := xss) (k := j) (by rw [HL.out]; exact hlt))
      have hq := HT.out (j + 1)
      have hq' : totL (xss.take j) + (nth ss j).2.1 ≤ 2097152 := by have := HST.out; have := HN.out; omega
      have HMA := Lib.hid (mSS_at k xss j (by rw [HL.out]; exact hlt))
      clear hr hc hcell hinj hown hin htr hq
      have hcell := HC.out
      generalize hsj : nth ss j = s at *
      have HSJ := Lib.hid hsj
      clear hsj
      obtain ⟨A', n', c'⟩ := s
      have hK0 : 0 ≤ k + (totL (xss.take j) : Int) := by omega
      have hK1 : k + (totL (xss.take j) : Int) ≤ 16777216 := by omega
      have hn' : n' ≤ 2097152 := by simp only at hq'; omega
      have HE := Lib.hid (show k + (totL (xss.take (j + 1)) : Int) = k + (totL (xss.take j) : Int) + (n' : Int) by have h1 := HST.out; have h2 := HN.out; simp only at h2; rw [h2] at h1; omega)
      generalize k + (totL (xss.take j) : Int) = K at *
      simp only at hcell
      go_wp2_with fail
      refine (markB_any A' n' c' _ K lo hi _ HJ.out hK0 hK1 hn').mono ?_
      rintro x w1 ⟨rfl, ho, hon⟩
      have HX1 := Lib.hid (own_only HO1.out hon (fun g hg e => own_kinds HO1.out HJ.out (by decide) g hg e))
      have HX2 := Lib.hid (show InSS w1 lo hi ss ((mSS k xss).take (j + 1) ++ xss.drop (j + 1)) n from ⟨fun i hi' => by
        rcases Nat.lt_trichotomy i j with h | h | h
        · have h1 := HI1.out.1 i hi'
          rw [mix_old (by rw [HM.out]) (by rw [HM.out, HL.out]; omega) h] at h1
          rw [mix_old (by rw [HM.out]) (by rw [HM.out, HL.out]; omega) (by omega)]
          exact own_only h1 hon (fun g hg e => HI1.out.2 i j h hlt g hg (by rw [HSJ.out]; exact e))
        · subst h
          rw [mix_old (by rw [HM.out]) (by rw [HM.out, HL.out]; omega) (by omega), HMA.out, HSJ.out]
          have h2 := HN.out
          simp only at h2 ⊢
          rw [h2]
          exact ho
        · have h1 := HI1.out.1 i hi'
          rw [mix_new (by rw [HM.out]) (by rw [HM.out, HL.out]; omega) (by omega)] at h1
          rw [mix_new (by rw [HM.out]) (by rw [HM.out, HL.out]; omega) (by omega)]
          exact own_only h1 hon (fun g hg e => HI1.out.2 j i h hi' g (by rw [HSJ.out]; exact e) hg), HI1.out.2⟩)
      have HX3 := Lib.hid (HT1.out.grown hon (fun g hg => ⟨(blk_of_own HJ.out.1 g hg).1, HJ.out.2 g hg⟩))
      clear ho hon hcell
      go_wp2
      go_roundw
      case rel => exact ⟨j + 1, by omega, by rw [HE.out], by go_num, HX1.out, HX2.out, HX3.out⟩
      case measure => simp [intOf]; omega
    · obtain rfl : j = n := by omega
      have HW := Lib.hid hown
      have HQ := Lib.hid hin
      have HX := Lib.hid (show (mSS k xss).take j ++ xss.drop j = mSS k xss by rw [List.take_of_length_le (by rw [HM.out, HL.out]; exact Nat.le_refl _), List.drop_of_length_le (by rw [HL.out]; exact Nat.le_refl _), List.append_nil])
      have HY := Lib.hid htr
      have HE := Lib.hid (show k + (totL (xss.take j) : Int) = k + (totL xss : Int) by rw [HF.out])
      clear hown hin htr
      generalize k + (totL (xss.take j) : Int) = K at *
      go_wp2
      go_ret
      exact ⟨by rw [← HE.out]; rfl, ⟨by rw [HM.out, HL.out], ss, HS.out, HW.out, by have h := HQ.out; rw [HX.out] at h; exact h⟩, HY.out⟩
set_option maxHeartbeats 2000000 in
theorem heldSS_any (A : Option Addr) (n c : Nat) (xss : List (List Int)) (k : Int) (w : World) (h : RdSS w A n c (mSS k xss)) (k0 : 0 ≤ k) (k1 : k ≤ 4194304) (hn : n ≤ 2097152) (ht : totL xss ≤ 2097152) :
    Calls Try.prog 64 #[.slice A n c, .int .i64 k] w fun x w' => x = .returned (.int .i64 (k + (totL xss : Int))) ∧ w = w' := by
  have HL := Lib.hid (show xss.length = n by have := h.1; rw [mSS_len] at this; exact this)
  have HR := Lib.hid h
  have HT := Lib.hid (show ∀ j, totL (xss.take j) ≤ totL xss from totL_le xss)
  have HF := Lib.hid (show totL (xss.take n) = totL xss by rw [List.take_of_length_le (by rw [HL.out]; exact Nat.le_refl _)])
  clear h
  go_enter Try.func64, Try.ntmps64
  go_wp2
  go_loop [1, 5] (fun v1 v5 => ∃ j : Nat, j ≤ n ∧ v1 = .int .i64 (k + (totL (xss.take j) : Int)) ∧ v5 = .int .i64 (j : Int)) (fun _ v5 => n - (intOf v5).toNat)
  case atStart => exact ⟨0, Nat.zero_le _, by simp [totL], rfl⟩
  case round =>
    obtain ⟨j, hj, rfl, rfl⟩ := hrel
    by_cases hlt : j < n
    · obtain ⟨g, o, A', n', c', rfl, hg, hc, hrd⟩ := HR.out.at_ hlt
      rw [mSS_at _ _ _ (by rw [HL.out]; exact hlt)] at hrd
      have HN := Lib.hid (show (xss.getD j []).length = n' by have := len_ints hrd; rw [bmarks_len] at this; exact this)
      rw [HN.out] at hrd
      have HJ := Lib.hid hrd
      have HST := Lib.hid (totL_step (xss := xss) (k := j) (by rw [HL.out]; exact hlt))
      have hq := HT.out (j + 1)
      have hq' : totL (xss.take j) + n' ≤ 2097152 := by have := HST.out; have := HN.out; omega
      have hK0 : 0 ≤ k + (totL (xss.take j) : Int) := by omega
      have hK1 : k + (totL (xss.take j) : Int) ≤ 16777216 := by omega
      have hn' : n' ≤ 2097152 := by omega
      have HE := Lib.hid (show k + (totL (xss.take (j + 1)) : Int) = k + (totL (xss.take j) : Int) + (n' : Int) by have h1 := HST.out; have h2 := HN.out; rw [h2] at h1; omega)
      clear hrd hq
      generalize k + (totL (xss.take j) : Int) = K at *
      go_wp2_with (first | (go_at_call 94; refine (heldB_any A' n' c' K _ HJ.out hK0 hK1 hn').mono ?_; rintro x w' ⟨rfl, rfl⟩))
      go_round
      case rel => exact ⟨j + 1, by omega, by rw [HE.out], by go_num⟩
      case measure => simp [intOf]; omega
    · obtain rfl : j = n := by omega
      have HE := Lib.hid (show k + (totL (xss.take j) : Int) = k + (totL xss : Int) by rw [HF.out])
      generalize k + (totL (xss.take j) : Int) = K at *
      go_wp2
      go_ret
      exact ⟨by rw [← HE.out]; rfl, rfl⟩
end Go.Proofs.Ythdieeaegplnmaa.SS

/- The reference's copy of frames: two appends in each round; the copy of a group buffer. -/
namespace Go.Proofs.Ythdieeaegplnmaa.Gb
open Go.RowKit
open Go.Proofs.Ythdieeaegplnmaa.Num Go.Proofs.Ythdieeaegplnmaa.Mem Go.Proofs.Ythdieeaegplnmaa.Hsh Go.Proofs.Ythdieeaegplnmaa.Sls Go.Proofs.Ythdieeaegplnmaa.Own Go.Proofs.Ythdieeaegplnmaa.SS Go.Proofs.Ythdieeaegplnmaa.Bcn
set_option linter.unusedSimpArgs false
set_option linter.unusedVariables false
theorem in_only {w w' : World} {lo hi l2 h2 m c : Nat} {A : Option Addr} {ys : List Value} {ss : List Sl} {xss : List (List Int)} {k : Nat} (h : InSS w lo hi ss xss k) (hA : Own w l2 h2 25 1 A m c ys) (hg : w.grownBy w' (blk A)) : InSS w' lo hi ss xss k :=
  ⟨fun i hi' => own_only (h.1 i hi') hg (fun g hg => own_kinds (h.1 i hi') hA (by decide) g hg), h.2⟩
set_option maxHeartbeats 2000000 in
theorem frames_spec (A : Option Addr) (n c : Nat) (xss : List (List Int)) (w : World) (hr : RdSS w A n c xss) (hn : n ≤ 2097152) (hs : AllShort xss) :
    Calls Try.prog 93 #[.slice A n c] w (RetSS w n xss) := by
  obtain ⟨iu, hiu, hu0, hu1, hu2⟩ := info_parts uInfo
  obtain ⟨ip, hip, hp0, hp1, hp2⟩ := info_parts ssInfo
  have hl := Lib.hid hr.1
  have HR := Lib.hid hr
  have HS := Lib.hid hs
  clear hr hs
  go_enter Try.func93, Try.ntmps93
  go_wp2
  go_loopw [3, 4] (fun v3 v4 wr => ∃ (k : Nat) (ss : List Sl) (A3 : Option Addr) (c3 : Nat), k ≤ n ∧ v3 = .slice A3 k c3 ∧ v4 = .int .i64 (k : Int) ∧ ss.length = k ∧ Own wr w.heap.size wr.heap.size 25 1 A3 k c3 (ss.map sl) ∧ InSS wr w.heap.size wr.heap.size ss xss k ∧ Below w.heap.size w wr) (fun _ v4 _ => n - (intOf v4).toNat)
  case atStart => exact ⟨0, [], some ⟨w.heap.size, 0, none⟩, 0, Nat.zero_le _, rfl, rfl, rfl, Own.of (own_empty w w.heap.size w.heap.size _ 1 rfl (Nat.le_refl _)), ⟨fun i h => absurd h (by omega), fun i j _ h => absurd h (by omega)⟩, by go_grown⟩
  case round =>
    obtain ⟨k, ss, A3, c3, hk, rfl, rfl, hls, hown, hin, hbr⟩ := hrel
    by_cases hlt : k < n
    · obtain ⟨g, o, A', n', c', rfl, hg, hc, hrd⟩ := (HR.out.below hbr).at_ hlt
      have hn' : n' ≤ 2097152 := by have h1 := HS.out k; have h2 := len_ints hrd; omega
      have HO := Lib.hid hown
      have HI := Lib.hid hin
      have HL := Lib.hid hls
      have HB := Lib.hid hbr
      have HE := Lib.hid (own_empty wr wr.heap.size wr.heap.size 5 1 rfl (Nat.le_refl _))
      have HRD := Lib.hid (show Rd (wr.alloc (.cells #[] 5)) 1 A' n' c' ((xss.getD k []).map (Value.int .u8)) from hrd.keep fun _ g' _ hlt => Below.heap_alloc wr _ g' hlt)
      clear hown hin hls hbr hrd
      go_wp2_with (first
        | (at_builtin; refine wpl_app _ rfl _ _ 25 rfl wr.heap.size 5 iu (.int .u8 0) 1 1 Try.underlying25 hiu hu0 hu1 hu2 rfl (by decide) _ _ _ _ rfl HE.out A' n' c' _ rfl HRD.out (one_ints .u8 _) (by unfold maxLen; omega) (by omega) (by simp) ?_; intro A1 c1 w1 hown1 hg1 hat1; simp only [Nat.zero_add, List.nil_append] at hown1; have HB1 := Lib.hid (show Below wr.heap.size wr w1 from below_app (Below.alloc (Below.refl _ _) (Nat.le_refl _) _) hg1 (by simp) (fun g hg => (blk_of_own HE.out g hg).1)); have HO1 := Lib.hid hown1; clear hown1 hg1 hat1; have HP := Lib.hid (show (w1.alloc (.cells #[.slice A1 n' c1] 25)).ownsRow w.heap.size 25 1 (.slice A3 k c3) k (ss.map sl) from (own_below HO.out.1 HB1.out).alloc _))
        | (at_builtin; refine wpl_app _ rfl _ _ 22 rfl w.heap.size 25 ip (.slice none 0 0) 1 24 Try.underlying22 hip hp0 hp1 hp2 rfl (by decide) _ _ _ _ rfl HP.out _ 1 1 [.slice A1 n' c1] rfl (Rd.one _ _ _) (fun u hu => by simp at hu; subst hu; rfl) (by unfold maxLen; omega) (by omega) (by have := HB.out.size; have := HB1.out.size; simp; omega) ?_; intro A2 c2 w2 hown2 hg2 hat2))
      have HL2 := Lib.hid (show (ss ++ [(A1, n', c1)]).length = k + 1 by simp [HL.out])
      have HM := Lib.hid (show Own w2 w.heap.size w2.heap.size 25 1 A2 (k + 1) c2 ((ss ++ [(A1, n', c1)]).map sl) from Own.of (by rw [List.map_append]; exact hown2))
      have HN := Lib.hid (show InSS w2 w.heap.size w2.heap.size (ss ++ [(A1, n', c1)]) xss (k + 1) from (in_only (((in_step (s := (A1, n', c1)) (HI.out.keep fun g _ hg => HB1.out.block g hg) HL.out (Own.of HO1.out) HB.out.size HB1.out.size)).keep fun g _ hg => Below.heap_alloc w1 _ g hg) (Own.of HP.out) hg2).wider (Nat.le_refl _) (by have := hg2.size; simp at this; omega))
      have HB2 := Lib.hid (show Below w.heap.size w w2 from below_app ((stepB HB.out HB1.out HB.out.size).alloc (Nat.le_trans HB.out.size HB1.out.size) _) hg2 (by have := HB.out.size; have := HB1.out.size; simp; omega) (fun g hg => (blk_of_own HP.out g hg).1))
      clear hown2 hg2 hat2 hc
      go_wp2
      go_roundw
      case rel => exact ⟨k + 1, ss ++ [(A1, n', c1)], A2, c2, by omega, rfl, by go_num, HL2.out, HM.out, HN.out, HB2.out⟩
      case measure => simp [intOf]; omega
    · obtain rfl : k = n := by omega
      have HW := Lib.hid hown
      have HI := Lib.hid hin
      have HL := Lib.hid hls
      have HB := Lib.hid hbr
      clear hown hin hls hbr
      go_wp2
      go_ret
      exact ⟨_, _, rfl, ⟨hl.out, ss, HL.out, HW.out, HI.out⟩, HB.out⟩
end Go.Proofs.Ythdieeaegplnmaa.Gb

/- The reference's copy of a group buffer: its region draws its order. -/
namespace Go.Proofs.Ythdieeaegplnmaa.Gb
open Go.RowKit
open Go.Proofs.Ythdieeaegplnmaa.Num Go.Proofs.Ythdieeaegplnmaa.Mem Go.Proofs.Ythdieeaegplnmaa.Hsh Go.Proofs.Ythdieeaegplnmaa.Sls Go.Proofs.Ythdieeaegplnmaa.Own Go.Proofs.Ythdieeaegplnmaa.SS Go.Proofs.Ythdieeaegplnmaa.Bcn
set_option linter.unusedSimpArgs false
set_option linter.unusedVariables false
set_option maxHeartbeats 2000000 in
theorem copyGb_spec (pe lo : Int) (A : Option Addr) (n c : Nat) (xss : List (List Int)) (w : World) (hr : RdSS w A n c xss) (hn : n ≤ 2097152) (hs : AllShort xss) :
    Calls Try.prog 58 #[.agg #[.int .i64 pe, .slice A n c, .int .i64 lo]] w (RetGb w pe lo n xss) := by
  have HR := Lib.hid hr
  have HS := Lib.hid hs
  obtain ⟨w0, hW⟩ : ∃ W, W = (w.alloc (.cells #[.int .i64 pe, .slice A n c, .int .i64 lo] 27)).alloc (.cells #[.int .i64 0, .slice none 0 0, .int .i64 0] 27) := ⟨_, rfl⟩
  have hc : ∀ b o, b < w.heap.size + 2 → w0.cell? ⟨b, o, none⟩ = ((w.alloc (.cells #[.int .i64 pe, .slice A n c, .int .i64 lo] 27)).alloc (.cells #[.int .i64 0, .slice none 0 0, .int .i64 0] 27)).cell? ⟨b, o, none⟩ := fun b o _ => by rw [hW]
  have hf : ∀ b o, b < w.heap.size + 2 → w0.frozen? ⟨b, o, none⟩ = ((w.alloc (.cells #[.int .i64 pe, .slice A n c, .int .i64 lo] 27)).alloc (.cells #[.int .i64 0, .slice none 0 0, .int .i64 0] 27)).frozen? ⟨b, o, none⟩ := fun b o _ => by rw [hW]
  have q0 := (hc (w.heap.size) 0 (by simp <;> omega)).trans (show _ = some (.int .i64 pe) from by first | (simp; done) | (simp [World.cell?_alloc_at]; done) | (rw [World.cell?_alloc_old _ _ _ (by simp <;> omega)]; first | (simp; done) | (simp [World.cell?_alloc_at]; done))); have q1 := (hc (w.heap.size) 1 (by simp <;> omega)).trans (show _ = some (.slice A n c) from by first | (simp; done) | (simp [World.cell?_alloc_at]; done) | (rw [World.cell?_alloc_old _ _ _ (by simp <;> omega)]; first | (simp; done) | (simp [World.cell?_alloc_at]; done))); have q2 := (hc (w.heap.size) 2 (by simp <;> omega)).trans (show _ = some (.int .i64 lo) from by first | (simp; done) | (simp [World.cell?_alloc_at]; done) | (rw [World.cell?_alloc_old _ _ _ (by simp <;> omega)]; first | (simp; done) | (simp [World.cell?_alloc_at]; done)))
  have p0 := (hc (w.heap.size + 1) 0 (by simp <;> omega)).trans (show _ = some (.int .i64 0) from by first | (simp; done) | (simp [World.cell?_alloc_at]; done) | (rw [World.cell?_alloc_old _ _ _ (by simp <;> omega)]; first | (simp; done) | (simp [World.cell?_alloc_at]; done))); have p1 := (hc (w.heap.size + 1) 1 (by simp <;> omega)).trans (show _ = some (.slice none 0 0) from by first | (simp; done) | (simp [World.cell?_alloc_at]; done) | (rw [World.cell?_alloc_old _ _ _ (by simp <;> omega)]; first | (simp; done) | (simp [World.cell?_alloc_at]; done))); have p2 := (hc (w.heap.size + 1) 2 (by simp <;> omega)).trans (show _ = some (.int .i64 0) from by first | (simp; done) | (simp [World.cell?_alloc_at]; done) | (rw [World.cell?_alloc_old _ _ _ (by simp <;> omega)]; first | (simp; done) | (simp [World.cell?_alloc_at]; done)))
  have r0 := (hf (w.heap.size + 1) 0 (by simp <;> omega)).trans (show _ = false from by first | (simp; done) | (simp [World.frozen?_alloc_at]; done) | (rw [World.frozen?_alloc_old _ _ _ (by simp <;> omega)]; first | (simp [World.frozen?_alloc_at]; done) | (rw [World.frozen?_alloc_old _ _ _ (by simp <;> omega)]; simp [World.frozen?_alloc_at]; done))); have r1 := (hf (w.heap.size + 1) 1 (by simp <;> omega)).trans (show _ = false from by first | (simp; done) | (simp [World.frozen?_alloc_at]; done) | (rw [World.frozen?_alloc_old _ _ _ (by simp <;> omega)]; first | (simp [World.frozen?_alloc_at]; done) | (rw [World.frozen?_alloc_old _ _ _ (by simp <;> omega)]; simp [World.frozen?_alloc_at]; done))); have r2 := (hf (w.heap.size + 1) 2 (by simp <;> omega)).trans (show _ = false from by first | (simp; done) | (simp [World.frozen?_alloc_at]; done) | (rw [World.frozen?_alloc_old _ _ _ (by simp <;> omega)]; first | (simp [World.frozen?_alloc_at]; done) | (rw [World.frozen?_alloc_old _ _ _ (by simp <;> omega)]; simp [World.frozen?_alloc_at]; done)))
  have hz : w0.heap.size = w.heap.size + 1 + 1 := by rw [hW]; simp
  have HB0 := Lib.hid (show Below w.heap.size w w0 by rw [hW]; exact ((Below.refl _ _).alloc (Nat.le_refl _) _).alloc (by simp) _)
  have HR := Lib.hid (show RdSS w0 A n c xss by rw [hW]; exact (hr.alloc _).alloc _)
  have HZ := Lib.hid hz
  have HW := Lib.hid hW
  clear hr hs hW hc hf hz
  go_enter Try.func58, Try.ntmps58
  go_wp2_with fail
  rw [← HW.out]
  clear HW
  refine wp_region_held_drew (S := (fun w' => w'.cell? ⟨w.heap.size, 0, none⟩ = some (.int .i64 pe) ∧ w'.cell? ⟨w.heap.size, 1, none⟩ = some (.slice A n c) ∧ w'.cell? ⟨w.heap.size, 2, none⟩ = some (.int .i64 lo))) (by kernel_rfl) ?_ (fun hHeld => ?_)
  · (try dsimp only); first | exact ⟨q0, q1, q2⟩ | exact ⟨set_blk (by omega) (set_blk (by omega) (set_blk (by omega) q0)), set_blk (by omega) (set_blk (by omega) (set_blk (by omega) q1)), set_blk (by omega) (set_blk (by omega) (set_blk (by omega) q2))⟩
  first | refine Reg.tkA 0 (Reg.get rfl) hHeld ?_ | refine Reg.tkB 0 (Reg.get rfl) hHeld ?_
  try simp only [Act.put, List.setIfInBounds_toArray, List.set_cons_zero, List.set_cons_succ]
  first | refine Reg.tkA 1 (Reg.get rfl) hHeld ?_ | refine Reg.tkB 1 (Reg.get rfl) hHeld ?_
  try simp only [Act.put, List.setIfInBounds_toArray, List.set_cons_zero, List.set_cons_succ]
  first | refine Reg.tkA 2 (Reg.get rfl) hHeld ?_ | refine Reg.tkB 2 (Reg.get rfl) hHeld ?_
  try simp only [Act.put, List.setIfInBounds_toArray, List.set_cons_zero, List.set_cons_succ]
  first | refine Reg.tkA 3 (Reg.get rfl) hHeld ?_ | refine Reg.tkB 3 (Reg.get rfl) hHeld ?_
  try simp only [Act.put, List.setIfInBounds_toArray, List.set_cons_zero, List.set_cons_succ]
  first | refine Reg.tkA 5 (Reg.get rfl) hHeld ?_ | refine Reg.tkB 5 (Reg.get rfl) hHeld ?_
  try simp only [Act.put, List.setIfInBounds_toArray, List.set_cons_zero, List.set_cons_succ]
  first | refine Reg.tkA 6 (Reg.get rfl) hHeld ?_ | refine Reg.tkB 6 (Reg.get rfl) hHeld ?_
  try simp only [Act.put, List.setIfInBounds_toArray, List.set_cons_zero, List.set_cons_succ]
  first | ((refine Reg.tkB 4 (Reg.get rfl) hHeld ?_)) | (refine wpAnyH_ready (rs := [4]) (by kernel_rfl) (by simp) ?_; refine AllReadyH.cons (Reg.get rfl) (fun K hK => ?_) AllReadyH.nil; clear hHeld; go_simp; ((go_at_call 93; refine (frames_spec A n c xss _ (HR.out.drewN 1) hn HS.out).mono ?_; rintro x w1 ⟨A1, c1, rfl, hown, hb⟩; obtain ⟨hc, hf⟩ := bcells hb; replace r0 := (hf _ _ (by have := HZ.out; simp; omega)).trans r0; replace r1 := (hf _ _ (by have := HZ.out; simp; omega)).trans r1; replace r2 := (hf _ _ (by have := HZ.out; simp; omega)).trans r2; replace q0 := Mem.lift hb q0; replace q1 := Mem.lift hb q1; replace q2 := Mem.lift hb q2; replace p0 := Mem.lift hb p0; replace p1 := Mem.lift hb p1; replace p2 := Mem.lift hb p2; have z0 := HZ.out; have HM := Lib.hid (same3 (.int .i64 pe) (.slice A1 n c1) (.int .i64 lo) p0 p1 p2); have HO := Lib.hid (own_set3 (b := w.heap.size + 1) hown (by simp; omega) (.int .i64 pe) (.slice A1 n c1) (.int .i64 lo)); have HB := Lib.hid (below_set3 (b := w.heap.size + 1) (show Below w.heap.size w w1 from Below.trans (Sls.below_drewN HB0.out 1) (hb.mono (by simp; omega))) (by omega) (.int .i64 pe) (.slice A1 n c1) (.int .i64 lo)); clear hown hb hc hf)); refine hK.out _ _ ?_ (fun hHeld => ?_); ((try dsimp only); first | exact ⟨q0, q1, q2⟩ | exact ⟨set_blk (by omega) (set_blk (by omega) (set_blk (by omega) q0)), set_blk (by omega) (set_blk (by omega) (set_blk (by omega) q1)), set_blk (by omega) (set_blk (by omega) (set_blk (by omega) q2))⟩); clear hK K)
  try simp only [Act.put, List.setIfInBounds_toArray, List.set_cons_zero, List.set_cons_succ]
  first | refine Reg.tkA 7 (Reg.get rfl) hHeld ?_ | refine Reg.tkB 7 (Reg.get rfl) hHeld ?_
  try simp only [Act.put, List.setIfInBounds_toArray, List.set_cons_zero, List.set_cons_succ]
  first | ((refine Reg.tkB 8 (Reg.get rfl) hHeld ?_)) | (refine wpAnyH_ready (rs := [8]) (by kernel_rfl) (by simp) ?_; refine AllReadyH.cons (Reg.get rfl) (fun K hK => ?_) AllReadyH.nil; clear hHeld; go_simp; (skip); refine hK.out _ _ ?_ (fun hHeld => ?_); ((try dsimp only); first | exact ⟨q0, q1, q2⟩ | exact ⟨set_blk (by omega) (set_blk (by omega) (set_blk (by omega) q0)), set_blk (by omega) (set_blk (by omega) (set_blk (by omega) q1)), set_blk (by omega) (set_blk (by omega) (set_blk (by omega) q2))⟩); clear hK K)
  try simp only [Act.put, List.setIfInBounds_toArray, List.set_cons_zero, List.set_cons_succ]
  refine wpAnyH_done (by kernel_rfl) ?_ _
  go_wp2
  obtain ⟨m0, m1, m2⟩ := HM.out
  refine bodyPost_ret (v := .agg #[.int .i64 pe, .slice A1 n c1, .int .i64 lo]) (by simp [results, Try.results58, go_sem, m0, m1, m2]) rfl ?_
  exact ⟨_, _, rfl, HO.out.wider (by simp; omega) (by simp [World.setCell]), HB.out⟩
end Go.Proofs.Ythdieeaegplnmaa.Gb

/- ReleaseGroup: what both sides hand back. -/
namespace Go.Proofs.Ythdieeaegplnmaa.Gb
open Go.RowKit
open Go.Proofs.Ythdieeaegplnmaa.Num Go.Proofs.Ythdieeaegplnmaa.Mem Go.Proofs.Ythdieeaegplnmaa.Hsh Go.Proofs.Ythdieeaegplnmaa.Sls Go.Proofs.Ythdieeaegplnmaa.Own Go.Proofs.Ythdieeaegplnmaa.SS Go.Proofs.Ythdieeaegplnmaa.Bcn
set_option linter.unusedSimpArgs false
set_option linter.unusedVariables false
theorem dtim_spec (s p : Int) (w : World) (hs : -9223372036854775808 ≤ s ∧ s ≤ 9223372036854775807) : Calls Try.prog 27 #[.int .i64 s, .int .i64 p] w fun x w' => x = .returned (.int .i64 (dcount s p)) ∧ w = w' := by
  unfold dcount
  by_cases h : 0 ≤ s ∧ s ≤ 1000000000000
  · by_cases h2 : s % 10 = 0
    · have d : (s % 10 != 0) = false := by simpa using h2
      have d1 : (s % 10 == 0) = true := by simpa using h2
      by_cases h3 : 1 ≤ p ∧ p ≤ 8
      · rw [if_pos ⟨⟨h.1, h.2, h2⟩, h3⟩]
        obtain ⟨h0, h1⟩ := h
        obtain ⟨h4, h5⟩ := h3
        have hq0 : 0 ≤ s / 10 := by omega
        have hq1 : s / 10 ≤ 1000000000000 := by omega
        have HM := Lib.hid (mod_spec (-(s / 10)) p)
        clear h2
        go_enter Try.func27, Try.ntmps27
        go_wp2_with (first
          | (go_at_call 72; refine (in_spec_yes _ _ _ _ (by omega) (by omega)).mono ?_; rintro e w' ⟨rfl, rfl⟩)
          | (go_at_call 75; refine (HM.out _ (by omega) (by omega)).mono ?_; rintro e w' ⟨rfl, rfl⟩))
        go_ret
        exact ⟨rfl, rfl⟩
      · rw [if_neg (fun hh => h3 hh.2)]
        obtain ⟨h0, h1⟩ := h
        have h6 : p < 1 ∨ 8 < p := by omega
        clear h2 h3
        go_enter Try.func27, Try.ntmps27
        go_wp2_with (first
          | (go_at_call 72; (first | (refine (in_spec_yes _ _ _ _ (by omega) (by omega)).mono ?_) | (refine (in_spec_no _ _ _ _ (by omega)).mono ?_)); rintro e w' ⟨rfl, rfl⟩))
        go_ret
        exact ⟨rfl, rfl⟩
    · rw [if_neg (fun hh => h2 hh.1.2.2)]
      have d : (s % 10 != 0) = true := by simpa using h2
      have d1 : (s % 10 == 0) = false := by simpa using h2
      obtain ⟨h0, h1⟩ := h
      clear h2
      go_enter Try.func27, Try.ntmps27
      go_wp2_with (first | (go_at_call 72; refine (in_spec_yes _ _ _ _ (by omega) (by omega)).mono ?_; rintro e w' ⟨rfl, rfl⟩))
      go_ret
      exact ⟨rfl, rfl⟩
  · rw [if_neg (fun hh => h ⟨hh.1.1, hh.1.2.1⟩)]
    have h6 : s < 0 ∨ 1000000000000 < s := by omega
    clear h
    go_enter Try.func27, Try.ntmps27
    go_wp2_with (first | (go_at_call 72; refine (in_spec_no _ _ _ _ (by omega)).mono ?_; rintro e w' ⟨rfl, rfl⟩))
    go_ret
    exact ⟨rfl, rfl⟩
/-- one of the two slices is one's own, the other is empty -/
def Own2 (w : World) (lo hi : Nat) (A : Option Addr) (n c : Nat) (xs : List (List Int)) (B : Option Addr) (m d : Nat) (ys : List (List Int)) : Prop :=
  (OwnSS w lo hi A n c xs ∧ m = 0 ∧ d = 0 ∧ ys = []) ∨ (OwnSS w lo hi B m d ys ∧ n = 0 ∧ c = 0 ∧ xs = [])
theorem rdNil (w : World) (A : Option Addr) : RdSS w A 0 0 [] := ⟨rfl, Nat.le_refl _, by omega, fun h => absurd h (by omega)⟩
section
variable {w w' : World} {lo hi l2 h2 K : Nat} {A B : Option Addr} {n c m d : Nat} {xs ys : List (List Int)}
theorem Own2.rdx (h : Own2 w lo hi A n c xs B m d ys) : RdSS w A n c xs := by
  rcases h with ⟨h, _⟩ | ⟨_, rfl, rfl, rfl⟩
  · exact h.rd
  · exact rdNil _ _
theorem Own2.rdy (h : Own2 w lo hi A n c xs B m d ys) : RdSS w B m d ys := by
  rcases h with ⟨_, rfl, rfl, rfl⟩ | ⟨h, _⟩
  · exact rdNil _ _
  · exact h.rd
theorem Own2.below (h : Own2 w lo hi A n c xs B m d ys) (hb : Below K w w') (hB : hi ≤ K) : Own2 w' lo hi A n c xs B m d ys := by
  rcases h with ⟨h, r⟩ | ⟨h, r⟩
  · exact .inl ⟨h.below hb hB, r⟩
  · exact .inr ⟨h.below hb hB, r⟩
theorem Own2.turned (h : Own2 w lo hi A n c xs B m d ys) (ht : Turned l2 h2 w w') (hd : hi ≤ l2 ∨ h2 ≤ lo) (hs : hi ≤ w.heap.size) : Own2 w' lo hi A n c xs B m d ys := by
  rcases h with ⟨h, r⟩ | ⟨h, r⟩
  · exact .inl ⟨h.turned ht hd hs, r⟩
  · exact .inr ⟨h.turned ht hd hs, r⟩
end
theorem mSS_nil (k : Int) : mSS k [] = [] := rfl
theorem tot_nil : totL [] = 0 := rfl
theorem markSS_nil (A : Option Addr) (k : Int) (w : World) : Calls Try.prog 63 #[.slice A 0 0, .int .i64 k] w fun x w' => x = .returned (.int .i64 k) ∧ w = w' := by
  go_enter Try.func63, Try.ntmps63
  go_wp2
  go_loop [1, 5] (fun v1 v5 => v1 = .int .i64 k ∧ v5 = .int .i64 0) (fun _ _ => 0)
  case atStart => exact ⟨rfl, rfl⟩
  case round =>
    obtain ⟨rfl, rfl⟩ := hrel
    go_wp2
    go_ret
    exact ⟨rfl, rfl⟩
theorem markY (A : Option Addr) (n c : Nat) (xs : List (List Int)) (B : Option Addr) (m d : Nat) (ys : List (List Int)) (k : Int) (lo hi : Nat) (w : World) (h : Own2 w lo hi A n c xs B m d ys) (k0 : 0 ≤ k) (k1 : k ≤ 4194304) (hm : m ≤ 2097152) (ht : totL ys ≤ 2097152) :
    Calls Try.prog 63 #[.slice B m d, .int .i64 k] w fun x w' => x = .returned (.int .i64 (k + (totL ys : Int))) ∧ Own2 w' lo hi A n c xs B m d (mSS k ys) ∧ Turned lo hi w w' := by
  rcases h with ⟨h, rfl, rfl, rfl⟩ | ⟨h, r⟩
  · refine (markSS_nil B k w).mono ?_
    rintro x w' ⟨rfl, rfl⟩
    exact ⟨by rw [tot_nil]; simp, .inl ⟨h, rfl, rfl, rfl⟩, Turned.refl _ _ _⟩
  · refine (markSS_any B m d ys k lo hi w h k0 k1 hm ht).mono ?_
    rintro x w' ⟨rfl, ho, hT⟩
    exact ⟨rfl, .inr ⟨ho, r⟩, hT⟩
theorem markX (A : Option Addr) (n c : Nat) (xs : List (List Int)) (B : Option Addr) (m d : Nat) (ys : List (List Int)) (k : Int) (lo hi : Nat) (w : World) (h : Own2 w lo hi A n c xs B m d ys) (k0 : 0 ≤ k) (k1 : k ≤ 4194304) (hm : n ≤ 2097152) (ht : totL xs ≤ 2097152) :
    Calls Try.prog 63 #[.slice A n c, .int .i64 k] w fun x w' => x = .returned (.int .i64 (k + (totL xs : Int))) ∧ Own2 w' lo hi A n c (mSS k xs) B m d ys ∧ Turned lo hi w w' := by
  refine (markY B m d ys A n c xs k lo hi w (Or.symm h) k0 k1 hm ht).mono ?_
  rintro x w' ⟨rfl, ho, hT⟩
  exact ⟨rfl, Or.symm ho, hT⟩
theorem markGb2 (pe l : Int) (A : Option Addr) (n c : Nat) (xs : List (List Int)) (B : Option Addr) (m d : Nat) (ys : List (List Int)) (k : Int) (lo hi : Nat) (w : World) (h : Own2 w lo hi A n c xs B m d ys) (k0 : 0 ≤ k) (k1 : k ≤ 4194304) (hm : n ≤ 2097152) (ht : totL xs ≤ 2097152) (hh : hi ≤ w.heap.size) :
    Calls Try.prog 16 #[.agg #[.int .i64 pe, .slice A n c, .int .i64 l], .int .i64 k] w fun x w' => x = .returned (.int .i64 (k + (totL xs : Int))) ∧ Own2 w' lo hi A n c (mSS k xs) B m d ys ∧ Turned lo hi w w' := by
  have HO := Lib.hid h
  have HT := Lib.hid ht
  have HK := Lib.hid (show 0 ≤ k + (totL xs : Int) by omega)
  have HK1 := Lib.hid (show k + (totL xs : Int) ≤ 8388608 by omega)
  clear h ht
  go_enter Try.func16, Try.ntmps16
  go_wp2_with fail
  refine (markX A n c xs B m d ys k lo hi _ (HO.out.below ((Below.refl _ _).alloc hh _) (Nat.le_refl _)) k0 k1 hm HT.out).mono ?_
  rintro x w1 ⟨rfl, ho, ht⟩
  have H1 := Lib.hid ho
  have H2 := Lib.hid (Turned.trans (Turned.of_below ((Below.refl w.heap.size w).alloc (Nat.le_refl _) _) lo hi) ht)
  clear ho ht
  go_wp2
  go_ret
  exact ⟨rfl, H1.out, H2.out⟩
theorem heldGb_any (pe l : Int) (A : Option Addr) (n c : Nat) (xss : List (List Int)) (k : Int) (w : World) (h : RdSS w A n c (mSS k xss)) (k0 : 0 ≤ k) (k1 : k ≤ 4194304) (hn : n ≤ 2097152) (ht : totL xss ≤ 2097152) :
    Calls Try.prog 18 #[.agg #[.int .i64 pe, .slice A n c, .int .i64 l], .int .i64 k] w fun x w' => x = .returned (.int .i64 (k + (totL xss : Int))) ∧ Below w.heap.size w w' := by
  have HR := Lib.hid h
  have hK0 : 0 ≤ k + (totL xss : Int) := by omega
  have HT := Lib.hid ht
  have HE := Lib.hid (show ∀ w, RdSS w A n c (mSS k xss) → Calls Try.prog 64 #[.slice A n c, .int .i64 k] w fun x w' => x = .returned (.int .i64 (k + (totL xss : Int))) ∧ w = w' from fun w h => heldSS_any A n c xss k w h k0 k1 hn ht)
  clear h ht
  generalize k + (totL xss : Int) = K at *
  go_enter Try.func18, Try.ntmps18
  go_wp2_with fail
  refine (HE.out _ (HR.out.alloc _)).mono ?_
  rintro x w1 ⟨rfl, rfl⟩
  go_wp2
  go_ret
  exact ⟨rfl, by go_grown⟩
/-- the release: the frames go, or stay -/
def Goes (pe lo s : Int) (xss : List (List Int)) (n gn : Nat) (gs : List (List Int)) (ln : Nat) (ls : List (List Int)) : Prop :=
  ((validG pe lo xss n ∧ dcount s pe = 0) ∧ 0 = gn ∧ [] = gs ∧ n = ln ∧ xss = ls) ∨ (¬ (validG pe lo xss n ∧ dcount s pe = 0) ∧ n = gn ∧ xss = gs ∧ 0 = ln ∧ [] = ls)
def RelI (w : World) (pe lo : Int) (gn : Nat) (gs : List (List Int)) (ln : Nat) (ls : List (List Int)) (x : Ending) (w' : World) : Prop :=
  ∃ A c B d, x = .returned (.tuple #[.agg #[.int .i64 pe, .slice A gn c, .int .i64 lo], .slice B ln d]) ∧ Own2 w' w.heap.size w'.heap.size A gn c gs B ln d ls ∧ Below w.heap.size w w'
def RelS (w : World) (pe lo : Int) (gn : Nat) (gs : List (List Int)) (ln : Nat) (ls : List (List Int)) (x : Ending) (w' : World) : Prop :=
  ∃ A c B d, x = .returned (.tuple #[.agg #[.int .i64 pe, .slice A gn c, .int .i64 lo], .slice B ln d]) ∧ RdSS w' A gn c gs ∧ RdSS w' B ln d ls ∧ Below w.heap.size w w'
theorem says_true {b : Prop} {w w' : World} {x : Ending} (h : SaysG b w x w') (hb : b) : x = .returned (.bool true) ∧ Below w.heap.size w w' := by
  obtain ⟨b', h1, rfl, h2⟩ := h
  exact ⟨by rw [h1.2 hb], h2⟩
theorem says_false {b : Prop} {w w' : World} {x : Ending} (h : SaysG b w x w') (hb : ¬ b) : x = .returned (.bool false) ∧ Below w.heap.size w w' := by
  obtain ⟨b', h1, rfl, h2⟩ := h
  have : b' = false := by cases b' with | false => rfl | true => exact absurd (h1.1 rfl) hb
  exact ⟨by rw [this], h2⟩
theorem own_setH {w : World} {lo hi : Nat} {A : Option Addr} {n c : Nat} {xss : List (List Int)} (h : OwnSS w lo hi A n c xss) {b o : Nat} (hb : hi ≤ b) (u : Value) : OwnSS (w.setCell ⟨b, o, none⟩ u) lo hi A n c xss := h.keep fun g _ h2 => Below.heap_setCell w _ _ g (by simp; omega)
theorem own_alloc {w : World} {lo hi : Nat} {A : Option Addr} {n c : Nat} {xss : List (List Int)} (h : OwnSS w lo hi A n c xss) (o : Obj) (hh : hi ≤ w.heap.size) : OwnSS (w.alloc o) lo hi A n c xss := h.keep fun g _ h2 => Below.heap_alloc w o g (by omega)
theorem all3 {w : World} {b : Nat} {u0 u1 u2 : Value} (v0 v1 v2 : Value) (h0 : w.cell? ⟨b, 0, none⟩ = some u0) (h1 : w.cell? ⟨b, 1, none⟩ = some u1) (h2 : w.cell? ⟨b, 2, none⟩ = some u2) :
    (((w.setCell ⟨b, 0, none⟩ v0).setCell ⟨b, 1, none⟩ v1).setCell ⟨b, 2, none⟩ v2).cell? ⟨b, 0, none⟩ = some v0 ∧ (((w.setCell ⟨b, 0, none⟩ v0).setCell ⟨b, 1, none⟩ v1).setCell ⟨b, 2, none⟩ v2).cell? ⟨b, 1, none⟩ = some v1 ∧ (((w.setCell ⟨b, 0, none⟩ v0).setCell ⟨b, 1, none⟩ v1).setCell ⟨b, 2, none⟩ v2).cell? ⟨b, 2, none⟩ = some v2 := by
  obtain ⟨k0, k1, k2⟩ := same3 v0 v1 v2 h0 h1 h2
  exact ⟨set_next (by omega) (set_next (by omega) k0), set_next (by omega) k1, k2⟩
set_option maxHeartbeats 4000000 in
theorem rel_impl (pe lo s : Int) (A : Option Addr) (n c : Nat) (xss : List (List Int)) (gn : Nat) (gs : List (List Int)) (ln : Nat) (ls : List (List Int)) (w : World) (hgl : Goes pe lo s xss n gn gs ln ls) (hr : RdSS w A n c xss) (hn : n ≤ 2097152) (hs : AllShort xss) (hsl : -9223372036854775808 ≤ s ∧ s ≤ 9223372036854775807) :
    Calls Try.prog 23 #[.agg #[.int .i64 pe, .slice A n c, .int .i64 lo], .int .i64 s] w (RelI w pe lo gn gs ln ls) := by
  have HR := Lib.hid hr
  have HS := Lib.hid hs
  clear hr hs
  have HD := Lib.hid (fun w => dtim_any s pe w hsl)
  rcases hgl with ⟨⟨hv, hd⟩, rfl, rfl, rfl, rfl⟩ | ⟨hne, rfl, rfl, rfl, rfl⟩
  · have HV := Lib.hid hv
    rw [hd] at HD
    clear hv hd
    go_enter Try.func23, Try.ntmps23
    go_wp2_with fail
    refine (copyGb_any pe lo A n c xss _ ((HR.out.alloc _).alloc _) hn HS.out).mono ?_
    rintro x w1 ⟨A1, c1, rfl, hown, hb⟩
    obtain ⟨hc, hf⟩ := bcells hb
    have q0 := (hc (w.heap.size) 0 (by simp <;> omega)).trans (show _ = some (.int .i64 pe) from by first | (simp; done) | (simp [World.cell?_alloc_at]; done) | (rw [World.cell?_alloc_old _ _ _ (by simp <;> omega)]; first | (simp; done) | (simp [World.cell?_alloc_at]; done))); have q1 := (hc (w.heap.size) 1 (by simp <;> omega)).trans (show _ = some (.slice A n c) from by first | (simp; done) | (simp [World.cell?_alloc_at]; done) | (rw [World.cell?_alloc_old _ _ _ (by simp <;> omega)]; first | (simp; done) | (simp [World.cell?_alloc_at]; done))); have q2 := (hc (w.heap.size) 2 (by simp <;> omega)).trans (show _ = some (.int .i64 lo) from by first | (simp; done) | (simp [World.cell?_alloc_at]; done) | (rw [World.cell?_alloc_old _ _ _ (by simp <;> omega)]; first | (simp; done) | (simp [World.cell?_alloc_at]; done)))
    have p0 := (hc (w.heap.size + 1) 0 (by simp <;> omega)).trans (show _ = some (.int .i64 0) from by first | (simp; done) | (simp [World.cell?_alloc_at]; done) | (rw [World.cell?_alloc_old _ _ _ (by simp <;> omega)]; first | (simp; done) | (simp [World.cell?_alloc_at]; done))); have p1 := (hc (w.heap.size + 1) 1 (by simp <;> omega)).trans (show _ = some (.slice none 0 0) from by first | (simp; done) | (simp [World.cell?_alloc_at]; done) | (rw [World.cell?_alloc_old _ _ _ (by simp <;> omega)]; first | (simp; done) | (simp [World.cell?_alloc_at]; done))); have p2 := (hc (w.heap.size + 1) 2 (by simp <;> omega)).trans (show _ = some (.int .i64 0) from by first | (simp; done) | (simp [World.cell?_alloc_at]; done) | (rw [World.cell?_alloc_old _ _ _ (by simp <;> omega)]; first | (simp; done) | (simp [World.cell?_alloc_at]; done)))
    have r0 := (hf (w.heap.size + 1) 0 (by simp <;> omega)).trans (show _ = false from by first | (simp; done) | (simp [World.frozen?_alloc_at]; done) | (rw [World.frozen?_alloc_old _ _ _ (by simp <;> omega)]; first | (simp [World.frozen?_alloc_at]; done) | (rw [World.frozen?_alloc_old _ _ _ (by simp <;> omega)]; simp [World.frozen?_alloc_at]; done))); have r1 := (hf (w.heap.size + 1) 1 (by simp <;> omega)).trans (show _ = false from by first | (simp; done) | (simp [World.frozen?_alloc_at]; done) | (rw [World.frozen?_alloc_old _ _ _ (by simp <;> omega)]; first | (simp [World.frozen?_alloc_at]; done) | (rw [World.frozen?_alloc_old _ _ _ (by simp <;> omega)]; simp [World.frozen?_alloc_at]; done))); have r2 := (hf (w.heap.size + 1) 2 (by simp <;> omega)).trans (show _ = false from by first | (simp; done) | (simp [World.frozen?_alloc_at]; done) | (rw [World.frozen?_alloc_old _ _ _ (by simp <;> omega)]; first | (simp [World.frozen?_alloc_at]; done) | (rw [World.frozen?_alloc_old _ _ _ (by simp <;> omega)]; simp [World.frozen?_alloc_at]; done)))
    have hR1 : RdSS w1 A n c xss := ((HR.out.alloc _).alloc _).below hb
    have z0 : w.heap.size + 1 < w1.heap.size := World.block_lt_of_cell? w1 _ p0
    have z00 : w.heap.size < w1.heap.size := World.block_lt_of_cell? w1 _ q0
    have B := (show Below w.heap.size w w1 from Below.trans (by go_grown) (hb.mono (by simp <;> omega)))
    have HO := Lib.hid hown
    clear hb hc hf hown
    go_wp2_with fail
    refine (validGb_impl pe lo A n c xss _ (hR1.alloc _)).mono ?_
    rintro x w2 hsay
    obtain ⟨rfl, hb⟩ := says_true hsay HV.out
    clear hsay
    obtain ⟨hc, hf⟩ := bcells hb
    replace q0 := (hc _ _ (by simp <;> omega)).trans ((World.cell?_alloc_old _ _ _ (by simp <;> omega)).trans q0); replace q1 := (hc _ _ (by simp <;> omega)).trans ((World.cell?_alloc_old _ _ _ (by simp <;> omega)).trans q1); replace q2 := (hc _ _ (by simp <;> omega)).trans ((World.cell?_alloc_old _ _ _ (by simp <;> omega)).trans q2); replace p0 := (hc _ _ (by simp <;> omega)).trans ((World.cell?_alloc_old _ _ _ (by simp <;> omega)).trans p0); replace p1 := (hc _ _ (by simp <;> omega)).trans ((World.cell?_alloc_old _ _ _ (by simp <;> omega)).trans p1); replace p2 := (hc _ _ (by simp <;> omega)).trans ((World.cell?_alloc_old _ _ _ (by simp <;> omega)).trans p2)
    replace r0 := (hf _ _ (by simp <;> omega)).trans ((World.frozen?_alloc_old _ _ _ (by simp <;> omega)).trans r0); replace r1 := (hf _ _ (by simp <;> omega)).trans ((World.frozen?_alloc_old _ _ _ (by simp <;> omega)).trans r1); replace r2 := (hf _ _ (by simp <;> omega)).trans ((World.frozen?_alloc_old _ _ _ (by simp <;> omega)).trans r2)
    have o0 := (hc (w1.heap.size) 0 (by simp <;> omega)).trans (show _ = some (.int .i64 pe) from by first | (simp; done) | (simp [World.cell?_alloc_at]; done) | (rw [World.cell?_alloc_old _ _ _ (by simp <;> omega)]; first | (simp; done) | (simp [World.cell?_alloc_at]; done))); have o1 := (hc (w1.heap.size) 1 (by simp <;> omega)).trans (show _ = some (.slice A1 n c1) from by first | (simp; done) | (simp [World.cell?_alloc_at]; done) | (rw [World.cell?_alloc_old _ _ _ (by simp <;> omega)]; first | (simp; done) | (simp [World.cell?_alloc_at]; done))); have o2 := (hc (w1.heap.size) 2 (by simp <;> omega)).trans (show _ = some (.int .i64 lo) from by first | (simp; done) | (simp [World.cell?_alloc_at]; done) | (rw [World.cell?_alloc_old _ _ _ (by simp <;> omega)]; first | (simp; done) | (simp [World.cell?_alloc_at]; done)))
    have f0 := (hf (w1.heap.size) 0 (by simp <;> omega)).trans (show _ = false from by first | (simp; done) | (simp [World.frozen?_alloc_at]; done) | (rw [World.frozen?_alloc_old _ _ _ (by simp <;> omega)]; first | (simp [World.frozen?_alloc_at]; done) | (rw [World.frozen?_alloc_old _ _ _ (by simp <;> omega)]; simp [World.frozen?_alloc_at]; done))); have f1 := (hf (w1.heap.size) 1 (by simp <;> omega)).trans (show _ = false from by first | (simp; done) | (simp [World.frozen?_alloc_at]; done) | (rw [World.frozen?_alloc_old _ _ _ (by simp <;> omega)]; first | (simp [World.frozen?_alloc_at]; done) | (rw [World.frozen?_alloc_old _ _ _ (by simp <;> omega)]; simp [World.frozen?_alloc_at]; done))); have f2 := (hf (w1.heap.size) 2 (by simp <;> omega)).trans (show _ = false from by first | (simp; done) | (simp [World.frozen?_alloc_at]; done) | (rw [World.frozen?_alloc_old _ _ _ (by simp <;> omega)]; first | (simp [World.frozen?_alloc_at]; done) | (rw [World.frozen?_alloc_old _ _ _ (by simp <;> omega)]; simp [World.frozen?_alloc_at]; done)))
    have z1 : w1.heap.size < w2.heap.size := World.block_lt_of_cell? w2 _ o0
    have z2 : w.heap.size + 1 < w2.heap.size := World.block_lt_of_cell? w2 _ p0
    have z3 : w.heap.size < w2.heap.size := World.block_lt_of_cell? w2 _ q0
    have hb1 : Below w1.heap.size w1 w2 := Below.trans (by go_grown) (hb.mono (by simp <;> omega))
    have HO2 := Lib.hid (HO.out.below hb1 (Nat.le_refl _))
    replace B := stepW B hb1
    clear hb hb1 hc hf hR1 HO
    go_wp2_with (first | (go_at_call 69; refine (HD.out _).mono ?_; rintro x w' ⟨rfl, rfl⟩))
    have z4 : w.heap.size + 1 < w1.heap.size := z0
    obtain ⟨m0, m1, m2⟩ := all3 (.int .i64 pe) (.slice (some ⟨w2.heap.size, 0, none⟩) 0 0) (.int .i64 lo) (set_blk (d := w1.heap.size) (o := 1) (v := .slice (some ⟨w2.heap.size, 0, none⟩) 0 0) (by omega) p0) (set_blk (d := w1.heap.size) (o := 1) (v := .slice (some ⟨w2.heap.size, 0, none⟩) 0 0) (by omega) p1) (set_blk (d := w1.heap.size) (o := 1) (v := .slice (some ⟨w2.heap.size, 0, none⟩) 0 0) (by omega) p2)
    have n0 := (World.cell?_alloc_old _ (.cells #[] 25) _ (Nat.ne_of_lt (World.block_lt_of_cell? _ _ m0))).trans m0
    have n1 := (World.cell?_alloc_old _ (.cells #[] 25) _ (Nat.ne_of_lt (World.block_lt_of_cell? _ _ m1))).trans m1
    have n2 := (World.cell?_alloc_old _ (.cells #[] 25) _ (Nat.ne_of_lt (World.block_lt_of_cell? _ _ m2))).trans m2
    refine bodyPost_ret (v := .tuple #[.agg #[.int .i64 pe, .slice (some ⟨w2.heap.size, 0, none⟩) 0 0, .int .i64 lo], .slice A1 n c1]) (by simp [results, Try.results23, go_sem, n0, n1, n2]) rfl ?_
    refine ⟨_, _, _, _, rfl, .inr ⟨?_, rfl, rfl, rfl⟩, ?_⟩
    · exact (own_alloc (own_set3 (b := w.heap.size + 1) (own_setH (b := w1.heap.size) (o := 1) HO2.out (Nat.le_refl _) (.slice (some ⟨w2.heap.size, 0, none⟩) 0 0)) (by simp) (.int .i64 pe) (.slice (some ⟨w2.heap.size, 0, none⟩) 0 0) (.int .i64 lo)) _ (by simp [World.setCell]; omega)).wider (by simp <;> omega) (by simp [World.setCell]; omega)
    · exact (below_set3 (b := w.heap.size + 1) (B.setCell (p := ⟨w1.heap.size, 1, none⟩) (by simp; omega) _) (by omega) _ _ _).alloc (by simp [World.setCell]; omega) _
  · have hE : (¬ validG pe lo xss n) ∨ (validG pe lo xss n ∧ (dcount s pe != 0) = true) := by
      by_cases h : validG pe lo xss n
      · exact .inr ⟨h, by simpa using fun e => hne ⟨h, e⟩⟩
      · exact .inl h
    generalize dcount s pe = dc at *
    rcases hE with hV | ⟨hV, hdc⟩
    all_goals
      have HV := Lib.hid hV
      clear hV hne
      go_enter Try.func23, Try.ntmps23
      go_wp2_with fail
      refine (copyGb_any pe lo A n c xss _ ((HR.out.alloc _).alloc _) hn HS.out).mono ?_
      rintro x w1 ⟨A1, c1, rfl, hown, hb⟩
      obtain ⟨hc, hf⟩ := bcells hb
      have q0 := (hc (w.heap.size) 0 (by simp <;> omega)).trans (show _ = some (.int .i64 pe) from by first | (simp; done) | (simp [World.cell?_alloc_at]; done) | (rw [World.cell?_alloc_old _ _ _ (by simp <;> omega)]; first | (simp; done) | (simp [World.cell?_alloc_at]; done))); have q1 := (hc (w.heap.size) 1 (by simp <;> omega)).trans (show _ = some (.slice A n c) from by first | (simp; done) | (simp [World.cell?_alloc_at]; done) | (rw [World.cell?_alloc_old _ _ _ (by simp <;> omega)]; first | (simp; done) | (simp [World.cell?_alloc_at]; done))); have q2 := (hc (w.heap.size) 2 (by simp <;> omega)).trans (show _ = some (.int .i64 lo) from by first | (simp; done) | (simp [World.cell?_alloc_at]; done) | (rw [World.cell?_alloc_old _ _ _ (by simp <;> omega)]; first | (simp; done) | (simp [World.cell?_alloc_at]; done)))
      have p0 := (hc (w.heap.size + 1) 0 (by simp <;> omega)).trans (show _ = some (.int .i64 0) from by first | (simp; done) | (simp [World.cell?_alloc_at]; done) | (rw [World.cell?_alloc_old _ _ _ (by simp <;> omega)]; first | (simp; done) | (simp [World.cell?_alloc_at]; done))); have p1 := (hc (w.heap.size + 1) 1 (by simp <;> omega)).trans (show _ = some (.slice none 0 0) from by first | (simp; done) | (simp [World.cell?_alloc_at]; done) | (rw [World.cell?_alloc_old _ _ _ (by simp <;> omega)]; first | (simp; done) | (simp [World.cell?_alloc_at]; done))); have p2 := (hc (w.heap.size + 1) 2 (by simp <;> omega)).trans (show _ = some (.int .i64 0) from by first | (simp; done) | (simp [World.cell?_alloc_at]; done) | (rw [World.cell?_alloc_old _ _ _ (by simp <;> omega)]; first | (simp; done) | (simp [World.cell?_alloc_at]; done)))
      have r0 := (hf (w.heap.size + 1) 0 (by simp <;> omega)).trans (show _ = false from by first | (simp; done) | (simp [World.frozen?_alloc_at]; done) | (rw [World.frozen?_alloc_old _ _ _ (by simp <;> omega)]; first | (simp [World.frozen?_alloc_at]; done) | (rw [World.frozen?_alloc_old _ _ _ (by simp <;> omega)]; simp [World.frozen?_alloc_at]; done))); have r1 := (hf (w.heap.size + 1) 1 (by simp <;> omega)).trans (show _ = false from by first | (simp; done) | (simp [World.frozen?_alloc_at]; done) | (rw [World.frozen?_alloc_old _ _ _ (by simp <;> omega)]; first | (simp [World.frozen?_alloc_at]; done) | (rw [World.frozen?_alloc_old _ _ _ (by simp <;> omega)]; simp [World.frozen?_alloc_at]; done))); have r2 := (hf (w.heap.size + 1) 2 (by simp <;> omega)).trans (show _ = false from by first | (simp; done) | (simp [World.frozen?_alloc_at]; done) | (rw [World.frozen?_alloc_old _ _ _ (by simp <;> omega)]; first | (simp [World.frozen?_alloc_at]; done) | (rw [World.frozen?_alloc_old _ _ _ (by simp <;> omega)]; simp [World.frozen?_alloc_at]; done)))
      have hR1 : RdSS w1 A n c xss := ((HR.out.alloc _).alloc _).below hb
      have z0 : w.heap.size + 1 < w1.heap.size := World.block_lt_of_cell? w1 _ p0
      have z00 : w.heap.size < w1.heap.size := World.block_lt_of_cell? w1 _ q0
      have B := (show Below w.heap.size w w1 from Below.trans (by go_grown) (hb.mono (by simp <;> omega)))
      have HO := Lib.hid hown
      clear hb hc hf hown
      go_wp2_with fail
      refine (validGb_impl pe lo A n c xss _ (hR1.alloc _)).mono ?_
      rintro x w2 hsay
      first
        | (replace hsay := says_true hsay HV.out)
        | (replace hsay := says_false hsay HV.out)
      obtain ⟨rfl, hb⟩ := hsay
      obtain ⟨hc, hf⟩ := bcells hb
      replace q0 := (hc _ _ (by simp <;> omega)).trans ((World.cell?_alloc_old _ _ _ (by simp <;> omega)).trans q0); replace q1 := (hc _ _ (by simp <;> omega)).trans ((World.cell?_alloc_old _ _ _ (by simp <;> omega)).trans q1); replace q2 := (hc _ _ (by simp <;> omega)).trans ((World.cell?_alloc_old _ _ _ (by simp <;> omega)).trans q2); replace p0 := (hc _ _ (by simp <;> omega)).trans ((World.cell?_alloc_old _ _ _ (by simp <;> omega)).trans p0); replace p1 := (hc _ _ (by simp <;> omega)).trans ((World.cell?_alloc_old _ _ _ (by simp <;> omega)).trans p1); replace p2 := (hc _ _ (by simp <;> omega)).trans ((World.cell?_alloc_old _ _ _ (by simp <;> omega)).trans p2)
      replace r0 := (hf _ _ (by simp <;> omega)).trans ((World.frozen?_alloc_old _ _ _ (by simp <;> omega)).trans r0); replace r1 := (hf _ _ (by simp <;> omega)).trans ((World.frozen?_alloc_old _ _ _ (by simp <;> omega)).trans r1); replace r2 := (hf _ _ (by simp <;> omega)).trans ((World.frozen?_alloc_old _ _ _ (by simp <;> omega)).trans r2)
      have o0 := (hc (w1.heap.size) 0 (by simp <;> omega)).trans (show _ = some (.int .i64 pe) from by first | (simp; done) | (simp [World.cell?_alloc_at]; done) | (rw [World.cell?_alloc_old _ _ _ (by simp <;> omega)]; first | (simp; done) | (simp [World.cell?_alloc_at]; done))); have o1 := (hc (w1.heap.size) 1 (by simp <;> omega)).trans (show _ = some (.slice A1 n c1) from by first | (simp; done) | (simp [World.cell?_alloc_at]; done) | (rw [World.cell?_alloc_old _ _ _ (by simp <;> omega)]; first | (simp; done) | (simp [World.cell?_alloc_at]; done))); have o2 := (hc (w1.heap.size) 2 (by simp <;> omega)).trans (show _ = some (.int .i64 lo) from by first | (simp; done) | (simp [World.cell?_alloc_at]; done) | (rw [World.cell?_alloc_old _ _ _ (by simp <;> omega)]; first | (simp; done) | (simp [World.cell?_alloc_at]; done)))
      have z1 : w1.heap.size < w2.heap.size := World.block_lt_of_cell? w2 _ o0
      have z2 : w.heap.size + 1 < w2.heap.size := World.block_lt_of_cell? w2 _ p0
      have z3 : w.heap.size < w2.heap.size := World.block_lt_of_cell? w2 _ q0
      have hb1 : Below w1.heap.size w1 w2 := Below.trans (by go_grown) (hb.mono (by simp <;> omega))
      have HO2 := Lib.hid (HO.out.below hb1 (Nat.le_refl _))
      replace B := stepW B hb1
      clear hb hb1 hc hf hR1 HO
      go_wp2_with (first | (go_at_call 69; refine (HD.out _).mono ?_; rintro x w' ⟨rfl, rfl⟩))
      obtain ⟨m0, m1, m2⟩ := all3 (.int .i64 pe) (.slice A1 n c1) (.int .i64 lo) p0 p1 p2
      have n0 := (World.cell?_alloc_old _ (.cells #[] 25) _ (Nat.ne_of_lt (World.block_lt_of_cell? _ _ m0))).trans m0
      have n1 := (World.cell?_alloc_old _ (.cells #[] 25) _ (Nat.ne_of_lt (World.block_lt_of_cell? _ _ m1))).trans m1
      have n2 := (World.cell?_alloc_old _ (.cells #[] 25) _ (Nat.ne_of_lt (World.block_lt_of_cell? _ _ m2))).trans m2
      refine bodyPost_ret (v := .tuple #[.agg #[.int .i64 pe, .slice A1 n c1, .int .i64 lo], .slice (some ⟨w2.heap.size, 0, none⟩) 0 0]) (by simp [results, Try.results23, go_sem, n0, n1, n2]) rfl ?_
      refine ⟨_, _, _, _, rfl, .inl ⟨?_, rfl, rfl, rfl⟩, ?_⟩
      · exact (own_alloc (own_set3 (b := w.heap.size + 1) HO2.out (by simp) (.int .i64 pe) (.slice A1 n c1) (.int .i64 lo)) _ (by simp [World.setCell]; omega)).wider (by simp <;> omega) (by simp [World.setCell]; omega)
      · exact (below_set3 (b := w.heap.size + 1) B (by omega) _ _ _).alloc (by simp [World.setCell]; omega) _
end Go.Proofs.Ythdieeaegplnmaa.Gb

/- ReleaseGroup of the reference. -/
namespace Go.Proofs.Ythdieeaegplnmaa.Gb
open Go.RowKit
open Go.Proofs.Ythdieeaegplnmaa.Num Go.Proofs.Ythdieeaegplnmaa.Mem Go.Proofs.Ythdieeaegplnmaa.Hsh Go.Proofs.Ythdieeaegplnmaa.Sls Go.Proofs.Ythdieeaegplnmaa.Own Go.Proofs.Ythdieeaegplnmaa.SS Go.Proofs.Ythdieeaegplnmaa.Bcn
set_option linter.unusedSimpArgs false
set_option linter.unusedVariables false
end Go.Proofs.Ythdieeaegplnmaa.Gb
