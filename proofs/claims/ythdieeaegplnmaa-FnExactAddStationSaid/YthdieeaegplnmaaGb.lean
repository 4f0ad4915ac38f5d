/- Contracts on group buffers: conversion, size, comparison, validity, equality. -/
import Derived.Test.YthdieeaegplnmaaSS
import Derived.Test.YthdieeaegplnmaaBeacon
namespace Go.Proofs.Ythdieeaegplnmaa.Gb
open Go.RowKit
open Go.Proofs.Ythdieeaegplnmaa.Num Go.Proofs.Ythdieeaegplnmaa.Mem Go.Proofs.Ythdieeaegplnmaa.Hsh Go.Proofs.Ythdieeaegplnmaa.Sls Go.Proofs.Ythdieeaegplnmaa.Own Go.Proofs.Ythdieeaegplnmaa.SS Go.Proofs.Ythdieeaegplnmaa.Bcn
set_option linter.unusedSimpArgs false

/-- the call hands back a group buffer in new memory -/
def RetGb (w : World) (pe lo : Int) (n : Nat) (xss : List (List Int)) (x : Ending) (w' : World) : Prop :=
  ∃ A c, x = .returned (.agg #[.int .i64 pe, .slice A n c, .int .i64 lo]) ∧ OwnSS w' w.heap.size w'.heap.size A n c xss ∧ Below w.heap.size w w'
theorem set_same {w : World} {b o : Nat} {u v : Value} (h : w.cell? ⟨b, o, none⟩ = some u) : (w.setCell ⟨b, o, none⟩ v).cell? ⟨b, o, none⟩ = some v := World.cell?_setCell_same _ _ _ h
theorem set_next {w : World} {b o p : Nat} {u v : Value} (hne : o ≠ p) (h : w.cell? ⟨b, p, none⟩ = some u) : (w.setCell ⟨b, o, none⟩ v).cell? ⟨b, p, none⟩ = some u := (World.cell?_setCell_other w _ _ v (fun e => hne (by injection e))).trans h
theorem set_blk {w : World} {b d o p : Nat} {u v : Value} (hne : d ≠ b) (h : w.cell? ⟨b, p, none⟩ = some u) : (w.setCell ⟨d, o, none⟩ v).cell? ⟨b, p, none⟩ = some u := (World.cell?_setCell_other w _ _ v (fun e => hne (by injection e))).trans h
theorem same3 {w : World} {b : Nat} {u0 u1 u2 : Value} (v0 v1 v2 : Value) (h0 : w.cell? ⟨b, 0, none⟩ = some u0) (h1 : w.cell? ⟨b, 1, none⟩ = some u1) (h2 : w.cell? ⟨b, 2, none⟩ = some u2) :
    (w.setCell ⟨b, 0, none⟩ v0).cell? ⟨b, 0, none⟩ = some v0 ∧ ((w.setCell ⟨b, 0, none⟩ v0).setCell ⟨b, 1, none⟩ v1).cell? ⟨b, 1, none⟩ = some v1 ∧ (((w.setCell ⟨b, 0, none⟩ v0).setCell ⟨b, 1, none⟩ v1).setCell ⟨b, 2, none⟩ v2).cell? ⟨b, 2, none⟩ = some v2 :=
  ⟨set_same h0, set_same (set_next (by omega) h1), set_same (set_next (by omega) (set_next (by omega) h2))⟩
theorem own_set {w : World} {lo hi : Nat} {A : Option Addr} {n c : Nat} {xss : List (List Int)} (h : OwnSS w lo hi A n c xss) {b o : Nat} (hb : b < lo) (u : Value) : OwnSS (w.setCell ⟨b, o, none⟩ u) lo hi A n c xss := h.keep fun g h1 _ => Below.heap_setCell w _ _ g (by simp; omega)
theorem own_set3 {w : World} {lo hi b : Nat} {A : Option Addr} {n c : Nat} {xss : List (List Int)} (h : OwnSS w lo hi A n c xss) (hb : b < lo) (v0 v1 v2 : Value) : OwnSS (((w.setCell ⟨b, 0, none⟩ v0).setCell ⟨b, 1, none⟩ v1).setCell ⟨b, 2, none⟩ v2) lo hi A n c xss :=
  own_set (own_set (own_set h hb v0) hb v1) hb v2
theorem below_set3 {B : Nat} {a w : World} (h : Below B a w) {b : Nat} (hb : B ≤ b) (v0 v1 v2 : Value) : Below B a (((w.setCell ⟨b, 0, none⟩ v0).setCell ⟨b, 1, none⟩ v1).setCell ⟨b, 2, none⟩ v2) := ((h.setCell hb v0).setCell hb v1).setCell hb v2
set_option maxHeartbeats 1000000 in
theorem toGb_any (pe lo : Int) (A : Option Addr) (n c : Nat) (xss : List (List Int)) (w : World) (hr : RdSS w A n c xss) (hn : n ≤ 2097152) (hs : AllShort xss) :
    Calls Try.prog 11 #[.agg #[.int .i64 pe, .slice A n c, .int .i64 lo]] w (RetGb w pe lo n xss) := by
  have HR := Lib.hid hr
  have HS := Lib.hid hs
  clear hr hs
  go_enter Try.func11, Try.ntmps11
  go_wp2_with fail
  refine (toSS_any A n c xss _ (((HR.out.alloc _).alloc _).alloc _) hn HS.out).mono ?_
  rintro x w1 ⟨A1, c1, rfl, hown, hb⟩
  obtain ⟨hc, hf⟩ := bcells hb
  have a0 := (hc (w.heap.size) 0 (by simp <;> omega)).trans (show _ = some (.int .i64 pe) from by first | (simp; done) | (simp [World.cell?_alloc_at]; done) | (rw [World.cell?_alloc_old _ _ _ (by simp <;> omega)]; first | (simp; done) | (simp [World.cell?_alloc_at]; done))); have a1 := (hc (w.heap.size) 1 (by simp <;> omega)).trans (show _ = some (.slice A n c) from by first | (simp; done) | (simp [World.cell?_alloc_at]; done) | (rw [World.cell?_alloc_old _ _ _ (by simp <;> omega)]; first | (simp; done) | (simp [World.cell?_alloc_at]; done))); have a2 := (hc (w.heap.size) 2 (by simp <;> omega)).trans (show _ = some (.int .i64 lo) from by first | (simp; done) | (simp [World.cell?_alloc_at]; done) | (rw [World.cell?_alloc_old _ _ _ (by simp <;> omega)]; first | (simp; done) | (simp [World.cell?_alloc_at]; done)))
  have p0 := (hc (w.heap.size + 1) 0 (by simp <;> omega)).trans (show _ = some (.int .i64 0) from by first | (simp; done) | (simp [World.cell?_alloc_at]; done) | (rw [World.cell?_alloc_old _ _ _ (by simp <;> omega)]; first | (simp; done) | (simp [World.cell?_alloc_at]; done))); have p1 := (hc (w.heap.size + 1) 1 (by simp <;> omega)).trans (show _ = some (.slice none 0 0) from by first | (simp; done) | (simp [World.cell?_alloc_at]; done) | (rw [World.cell?_alloc_old _ _ _ (by simp <;> omega)]; first | (simp; done) | (simp [World.cell?_alloc_at]; done))); have p2 := (hc (w.heap.size + 1) 2 (by simp <;> omega)).trans (show _ = some (.int .i64 0) from by first | (simp; done) | (simp [World.cell?_alloc_at]; done) | (rw [World.cell?_alloc_old _ _ _ (by simp <;> omega)]; first | (simp; done) | (simp [World.cell?_alloc_at]; done)))
  have q0 := (hc (w.heap.size + 1 + 1) 0 (by simp <;> omega)).trans (show _ = some (.int .i64 pe) from by first | (simp; done) | (simp [World.cell?_alloc_at]; done) | (rw [World.cell?_alloc_old _ _ _ (by simp <;> omega)]; first | (simp; done) | (simp [World.cell?_alloc_at]; done))); have q1 := (hc (w.heap.size + 1 + 1) 1 (by simp <;> omega)).trans (show _ = some (.slice none 0 0) from by first | (simp; done) | (simp [World.cell?_alloc_at]; done) | (rw [World.cell?_alloc_old _ _ _ (by simp <;> omega)]; first | (simp; done) | (simp [World.cell?_alloc_at]; done))); have q2 := (hc (w.heap.size + 1 + 1) 2 (by simp <;> omega)).trans (show _ = some (.int .i64 0) from by first | (simp; done) | (simp [World.cell?_alloc_at]; done) | (rw [World.cell?_alloc_old _ _ _ (by simp <;> omega)]; first | (simp; done) | (simp [World.cell?_alloc_at]; done)))
  have r0 := (hf (w.heap.size + 1) 0 (by simp <;> omega)).trans (show _ = false from by first | (simp; done) | (simp [World.frozen?_alloc_at]; done) | (rw [World.frozen?_alloc_old _ _ _ (by simp <;> omega)]; first | (simp [World.frozen?_alloc_at]; done) | (rw [World.frozen?_alloc_old _ _ _ (by simp <;> omega)]; simp [World.frozen?_alloc_at]; done))); have r1 := (hf (w.heap.size + 1) 1 (by simp <;> omega)).trans (show _ = false from by first | (simp; done) | (simp [World.frozen?_alloc_at]; done) | (rw [World.frozen?_alloc_old _ _ _ (by simp <;> omega)]; first | (simp [World.frozen?_alloc_at]; done) | (rw [World.frozen?_alloc_old _ _ _ (by simp <;> omega)]; simp [World.frozen?_alloc_at]; done))); have r2 := (hf (w.heap.size + 1) 2 (by simp <;> omega)).trans (show _ = false from by first | (simp; done) | (simp [World.frozen?_alloc_at]; done) | (rw [World.frozen?_alloc_old _ _ _ (by simp <;> omega)]; first | (simp [World.frozen?_alloc_at]; done) | (rw [World.frozen?_alloc_old _ _ _ (by simp <;> omega)]; simp [World.frozen?_alloc_at]; done)))
  have f0 := (hf (w.heap.size + 1 + 1) 0 (by simp <;> omega)).trans (show _ = false from by first | (simp; done) | (simp [World.frozen?_alloc_at]; done) | (rw [World.frozen?_alloc_old _ _ _ (by simp <;> omega)]; first | (simp [World.frozen?_alloc_at]; done) | (rw [World.frozen?_alloc_old _ _ _ (by simp <;> omega)]; simp [World.frozen?_alloc_at]; done))); have f1 := (hf (w.heap.size + 1 + 1) 1 (by simp <;> omega)).trans (show _ = false from by first | (simp; done) | (simp [World.frozen?_alloc_at]; done) | (rw [World.frozen?_alloc_old _ _ _ (by simp <;> omega)]; first | (simp [World.frozen?_alloc_at]; done) | (rw [World.frozen?_alloc_old _ _ _ (by simp <;> omega)]; simp [World.frozen?_alloc_at]; done))); have f2 := (hf (w.heap.size + 1 + 1) 2 (by simp <;> omega)).trans (show _ = false from by first | (simp; done) | (simp [World.frozen?_alloc_at]; done) | (rw [World.frozen?_alloc_old _ _ _ (by simp <;> omega)]; first | (simp [World.frozen?_alloc_at]; done) | (rw [World.frozen?_alloc_old _ _ _ (by simp <;> omega)]; simp [World.frozen?_alloc_at]; done)))
  have HO := Lib.hid (own_set3 (b := w.heap.size + 1) (own_set (b := w.heap.size + 1 + 1) (o := 2) (own_set (b := w.heap.size + 1 + 1) (o := 1) hown (by simp) (.slice A1 n c1)) (by simp) (.int .i64 lo)) (by simp <;> omega) (.int .i64 pe) (.slice A1 n c1) (.int .i64 lo))
  have HB := Lib.hid (below_set3 (b := w.heap.size + 1) (((show Below w.heap.size w w1 from Below.trans (by go_grown) (hb.mono (by simp <;> omega))).setCell (p := ⟨w.heap.size + 1 + 1, 1, none⟩) (by simp; omega) (.slice A1 n c1)).setCell (p := ⟨w.heap.size + 1 + 1, 2, none⟩) (by simp; omega) (.int .i64 lo)) (by omega) (.int .i64 pe) (.slice A1 n c1) (.int .i64 lo))
  have HM := Lib.hid (same3 (.int .i64 pe) (.slice A1 n c1) (.int .i64 lo) (set_blk (d := w.heap.size + 1 + 1) (o := 2) (v := .int .i64 lo) (by omega) (set_blk (d := w.heap.size + 1 + 1) (o := 1) (v := .slice A1 n c1) (by omega) p0)) (set_blk (d := w.heap.size + 1 + 1) (o := 2) (v := .int .i64 lo) (by omega) (set_blk (d := w.heap.size + 1 + 1) (o := 1) (v := .slice A1 n c1) (by omega) p1)) (set_blk (d := w.heap.size + 1 + 1) (o := 2) (v := .int .i64 lo) (by omega) (set_blk (d := w.heap.size + 1 + 1) (o := 1) (v := .slice A1 n c1) (by omega) p2)))
  clear hown hb hc hf
  go_wp2
  obtain ⟨m0, m1, m2⟩ := HM.out
  refine bodyPost_ret (v := .agg #[.int .i64 pe, .slice A1 n c1, .int .i64 lo]) (by simp [results, Try.results11, go_sem, m0, m1, m2]) rfl ?_
  exact ⟨_, _, rfl, HO.out.wider (by simp <;> omega) (by simp [World.setCell]), HB.out⟩
theorem szGb_any (pe lo : Int) (A : Option Addr) (n c : Nat) (xss : List (List Int)) (left : Int) (w : World) (hr : RdSS w A n c xss) (h0 : 0 ≤ left) (h1 : left ≤ 1048576) : Calls Try.prog 9 #[.agg #[.int .i64 pe, .slice A n c, .int .i64 lo], .int .i64 left] w fun x w' => x = .returned (.int .i64 (szOf left (n + totL xss))) ∧ Below w.heap.size w w' := by
  have HR := Lib.hid hr
  clear hr
  by_cases h : left < ((n + totL xss : Nat) : Int)
  · have HE := Lib.hid (szOf_lt h)
    clear h
    go_enter Try.func9, Try.ntmps9
    go_wp2_with fail
    refine (szSS_any A n c xss left _ (HR.out.alloc _) h0 h1).mono ?_
    rintro x w0 ⟨rfl, rfl⟩
    rw [HE.out]
    go_wp2
    go_ret
    exact ⟨by rw [HE.out]; rfl, by go_grown⟩
  · have HE := Lib.hid (szOf_ge h)
    have g0 : 0 ≤ left - ((n + totL xss : Nat) : Int) := by omega
    clear h
    go_enter Try.func9, Try.ntmps9
    go_wp2_with fail
    refine (szSS_any A n c xss left _ (HR.out.alloc _) h0 h1).mono ?_
    rintro x w0 ⟨rfl, rfl⟩
    rw [HE.out]
    generalize left - ((n + totL xss : Nat) : Int) = L at *
    go_wp2
    go_ret
    exact ⟨by rw [HE.out]; rfl, by go_grown⟩
theorem eqGb_same (pe lo : Int) (A : Option Addr) (n c : Nat) (B : Option Addr) (d : Nat) (xss : List (List Int)) (w : World) (hx : RdSS w A n c xss) (hy : RdSS w B n d xss) :
    Calls Try.prog 14 #[.agg #[.int .i64 pe, .slice A n c, .int .i64 lo], .agg #[.int .i64 pe, .slice B n d, .int .i64 lo]] w fun x w' => x = .returned (.bool true) ∧ Below w.heap.size w w' := by
  have HX := Lib.hid hx
  have HY := Lib.hid hy
  clear hx hy
  go_enter Try.func14, Try.ntmps14
  go_wp2_with fail
  refine (eqSS_laws A n c xss B n d xss _ ((HX.out.alloc _).alloc _) ((HY.out.alloc _).alloc _)).mono ?_
  rintro x w1 ⟨rfl, hb⟩
  rw [decide_eq_true rfl]
  obtain ⟨hc, hf⟩ := bcells hb
  have a0 := (hc (w.heap.size) 0 (by simp <;> omega)).trans (show _ = some (.int .i64 pe) from by first | (simp; done) | (simp [World.cell?_alloc_at]; done) | (rw [World.cell?_alloc_old _ _ _ (by simp <;> omega)]; first | (simp; done) | (simp [World.cell?_alloc_at]; done))); have a1 := (hc (w.heap.size) 1 (by simp <;> omega)).trans (show _ = some (.slice A n c) from by first | (simp; done) | (simp [World.cell?_alloc_at]; done) | (rw [World.cell?_alloc_old _ _ _ (by simp <;> omega)]; first | (simp; done) | (simp [World.cell?_alloc_at]; done))); have a2 := (hc (w.heap.size) 2 (by simp <;> omega)).trans (show _ = some (.int .i64 lo) from by first | (simp; done) | (simp [World.cell?_alloc_at]; done) | (rw [World.cell?_alloc_old _ _ _ (by simp <;> omega)]; first | (simp; done) | (simp [World.cell?_alloc_at]; done)))
  have b0 := (hc (w.heap.size + 1) 0 (by simp <;> omega)).trans (show _ = some (.int .i64 pe) from by first | (simp; done) | (simp [World.cell?_alloc_at]; done) | (rw [World.cell?_alloc_old _ _ _ (by simp <;> omega)]; first | (simp; done) | (simp [World.cell?_alloc_at]; done))); have b1 := (hc (w.heap.size + 1) 1 (by simp <;> omega)).trans (show _ = some (.slice B n d) from by first | (simp; done) | (simp [World.cell?_alloc_at]; done) | (rw [World.cell?_alloc_old _ _ _ (by simp <;> omega)]; first | (simp; done) | (simp [World.cell?_alloc_at]; done))); have b2 := (hc (w.heap.size + 1) 2 (by simp <;> omega)).trans (show _ = some (.int .i64 lo) from by first | (simp; done) | (simp [World.cell?_alloc_at]; done) | (rw [World.cell?_alloc_old _ _ _ (by simp <;> omega)]; first | (simp; done) | (simp [World.cell?_alloc_at]; done)))
  have HB := Lib.hid (show Below w.heap.size w w1 from Below.trans (by go_grown) (hb.mono (by simp <;> omega)))
  clear hb hc hf
  go_wp2
  go_ret
  exact ⟨rfl, HB.out⟩
/-- a group buffer is valid -/
def okF (xss : List (List Int)) (k : Nat) : Prop := ∀ i, i < k → (xss.getD i []).length ≤ 100
theorem okF_zero (xss : List (List Int)) : okF xss 0 := fun i h => absurd h (by omega)
theorem okF_succ {xss : List (List Int)} {k : Nat} (h : okF xss k) (h1 : (xss.getD k []).length ≤ 100) : okF xss (k + 1) := fun i hi => by
  rcases Nat.lt_or_ge i k with h3 | h3
  · exact h i h3
  · obtain rfl : i = k := by omega
    exact h1
def validG (pe lo : Int) (xss : List (List Int)) (n : Nat) : Prop := ((1 ≤ pe ∧ pe ≤ 8) ∧ n ≤ 6 ∧ 0 ≤ lo) ∧ okF xss n
def SaysG (b : Prop) (w : World) (e : Ending) (w' : World) : Prop := ∃ b' : Bool, (b' = true ↔ b) ∧ e = .returned (.bool b') ∧ Below w.heap.size w w'
theorem saysG_yes {b : Prop} {w w' : World} (h : b) (hb : Below w.heap.size w w') : SaysG b w (.returned (.bool true)) w' := ⟨true, by simp [h], rfl, hb⟩
theorem saysG_no {b : Prop} {w w' : World} (h : ¬ b) (hb : Below w.heap.size w w') : SaysG b w (.returned (.bool false)) w' := ⟨false, by simp [h], rfl, hb⟩
set_option maxHeartbeats 1000000 in
theorem validGb_impl (pe lo : Int) (A : Option Addr) (n c : Nat) (xss : List (List Int)) (w : World) (hr : RdSS w A n c xss) :
    Calls Try.prog 26 #[.agg #[.int .i64 pe, .slice A n c, .int .i64 lo]] w (SaysG (validG pe lo xss n) w) := by
  have hn : n ≤ 9223372036854775807 := by have h1 := hr.2.1; have h2 := hr.2.2.1; unfold maxLen at h2; omega
  have HR := Lib.hid hr
  clear hr
  by_cases h : (1 ≤ pe ∧ pe ≤ 8) ∧ n ≤ 6 ∧ 0 ≤ lo
  · have HV := Lib.hid h
    obtain ⟨⟨p1, p8⟩, n6, l0⟩ := h
    go_enter Try.func26, Try.ntmps26
    go_wp2_with (first | (go_at_call 74; refine (in_impl_yes _ _ _ _ (by omega) (by omega)).mono ?_; rintro e w' ⟨rfl, rfl⟩))
    go_loop [23] (fun v => ∃ k : Nat, k ≤ n ∧ v = .int .i64 (k : Int) ∧ okF xss k) (fun v => n - (intOf v).toNat)
    case atStart => exact ⟨0, Nat.zero_le _, rfl, okF_zero _⟩
    case round =>
      obtain ⟨k, hk, rfl, hok⟩ := hrel
      have HO := Lib.hid hok
      clear hok
      by_cases hlt : k < n
      · obtain ⟨g, o, A', n', c', rfl, hg, hc, hrd⟩ := (HR.out.alloc (.cells #[.int .i64 pe, .slice A n c, .int .i64 lo] 27)).at_ hlt
        have HN := Lib.hid (len_ints hrd)
        have hm' : n' ≤ 9223372036854775807 := by have h1 := hrd.2.1; have h2 := hrd.2.2.1; unfold maxLen at h2; omega
        clear hrd
        by_cases h100 : n' ≤ 100
        · have HX := Lib.hid (okF_succ HO.out (by rw [HN.out]; exact h100))
          go_wp2
          go_round
          case rel => exact ⟨k + 1, by omega, by go_num, HX.out⟩
          case measure => simp [intOf]; omega
        · have HX := Lib.hid (show ¬ validG pe lo xss n from fun hv => by have h1 := hv.2 k hlt; have h2 := HN.out; omega)
          go_wp2
          go_ret
          exact saysG_no HX.out (by go_grown)
      · obtain rfl : k = n := by omega
        go_wp2
        go_ret
        exact saysG_yes ⟨HV.out, HO.out⟩ (by go_grown)
  · have HN := Lib.hid (show ¬ validG pe lo xss n from fun hv => h hv.1)
    have hE : (pe < 1 ∨ 8 < pe) ∨ ((1 ≤ pe ∧ pe ≤ 8) ∧ 6 < n) ∨ ((1 ≤ pe ∧ pe ≤ 8) ∧ n ≤ 6 ∧ lo < 0) := by omega
    clear h
    rcases hE with h1 | ⟨⟨h1, h2⟩, h3⟩ | ⟨⟨h1, h2⟩, h3, h4⟩
    all_goals
      go_enter Try.func26, Try.ntmps26
      go_wp2_with (first | (go_at_call 74; (first | (refine (in_impl_yes _ _ _ _ (by omega) (by omega)).mono ?_) | (refine (in_impl_no _ _ _ _ (by omega)).mono ?_)); rintro e w' ⟨rfl, rfl⟩))
      go_ret
      exact saysG_no HN.out (by go_grown)
set_option maxHeartbeats 1000000 in
theorem validGb_spec (pe lo : Int) (A : Option Addr) (n c : Nat) (xss : List (List Int)) (w : World) (hr : RdSS w A n c xss) :
    Calls Try.prog 24 #[.agg #[.int .i64 pe, .slice A n c, .int .i64 lo]] w (SaysG (validG pe lo xss n) w) := by
  have hn : n ≤ 9223372036854775807 := by have h1 := hr.2.1; have h2 := hr.2.2.1; unfold maxLen at h2; omega
  have HR := Lib.hid hr
  clear hr
  go_enter Try.func24, Try.ntmps24
  go_wp2
  go_loop [3] (fun v => ∃ k : Nat, k ≤ n ∧ v = .int .i64 (k : Int) ∧ okF xss k) (fun v => n - (intOf v).toNat)
  case atStart => exact ⟨0, Nat.zero_le _, rfl, okF_zero _⟩
  case round =>
    obtain ⟨k, hk, rfl, hok⟩ := hrel
    have HO := Lib.hid hok
    clear hok
    by_cases hlt : k < n
    · obtain ⟨g, o, A', n', c', rfl, hg, hc, hrd⟩ := (HR.out.alloc (.cells #[.int .i64 pe, .slice A n c, .int .i64 lo] 27)).at_ hlt
      have HN := Lib.hid (len_ints hrd)
      have hm' : n' ≤ 9223372036854775807 := by have h1 := hrd.2.1; have h2 := hrd.2.2.1; unfold maxLen at h2; omega
      clear hrd
      by_cases h100 : n' ≤ 100
      · have HX := Lib.hid (okF_succ HO.out (by rw [HN.out]; exact h100))
        go_wp2
        go_round
        case rel => exact ⟨k + 1, by omega, by go_num, HX.out⟩
        case measure => simp [intOf]; omega
      · have HX := Lib.hid (show ¬ validG pe lo xss n from fun hv => by have h1 := hv.2 k hlt; have h2 := HN.out; omega)
        go_wp2
        go_ret
        exact saysG_no HX.out (by go_grown)
    · obtain rfl : k = n := by omega
      by_cases h : (1 ≤ pe ∧ pe ≤ 8) ∧ k ≤ 6 ∧ 0 ≤ lo
      · have HV := Lib.hid h
        obtain ⟨⟨p1, p8⟩, n6, l0⟩ := h
        go_wp2_with (first | (go_at_call 72; refine (in_spec_yes _ _ _ _ (by omega) (by omega)).mono ?_; rintro e w' ⟨rfl, rfl⟩))
        go_ret
        exact saysG_yes ⟨HV.out, HO.out⟩ (by go_grown)
      · have HN := Lib.hid (show ¬ validG pe lo xss k from fun hv => h hv.1)
        have hE : (pe < 1 ∨ 8 < pe) ∨ ((1 ≤ pe ∧ pe ≤ 8) ∧ (6 : Int) < (k : Int)) ∨ ((1 ≤ pe ∧ pe ≤ 8) ∧ (k : Int) ≤ 6 ∧ lo < 0) := by omega
        clear h
        rcases hE with h1 | ⟨⟨h1, h2⟩, h3⟩ | ⟨⟨h1, h2⟩, h3, h4⟩
        all_goals
          try have d1 : decide ((k : Int) ≤ 6) = false := decide_eq_false (by omega)
          try have d2 : decide (0 ≤ lo) = false := decide_eq_false (by omega)
          go_wp2_with (first | (go_at_call 72; (first | (refine (in_spec_yes _ _ _ _ (by omega) (by omega)).mono ?_) | (refine (in_spec_no _ _ _ _ (by omega)).mono ?_)); rintro e w' ⟨rfl, rfl⟩))
          go_ret
          exact saysG_no HN.out (by go_grown)
end Go.Proofs.Ythdieeaegplnmaa.Gb
