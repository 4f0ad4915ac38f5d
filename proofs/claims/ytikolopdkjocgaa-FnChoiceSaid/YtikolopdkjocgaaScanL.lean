/- Contracts of the laws' helpers on scans: conversion, comparison, size; and the chosen access point. -/
import Derived.Test.YtikolopdkjocgaaScore
import Derived.Test.YtikolopdkjocgaaSlices
import Derived.Test.YtikolopdkjocgaaReg
namespace Go.Proofs.Ytikolopdkjocgaa.Scn
open Go.RowKit
open Go.Proofs.Ytikolopdkjocgaa.Num Go.Proofs.Ytikolopdkjocgaa.Mem Go.Proofs.Ytikolopdkjocgaa.Sls
set_option linter.unusedSimpArgs false

/-- what one owns is kept by what leaves all old blocks as they were -/
theorem own_below {w w' : World} {base : Nat} {e : TypeId} {sz : Nat} {v : Value} {n : Nat} {xs : List Value} (h : w.ownsRow base e sz v n xs) (hb : Below w.heap.size w w') : w'.ownsRow base e sz v n xs :=
  h.kept (row := none) ⟨hb.os, hb.tape, hb.output, hb.size, fun k hk _ => hb.block k hk⟩ (by cases hv : v.ownBlock <;> simp)
theorem four_stores {w : World} {base : Nat} {e : TypeId} {g n c k : Nat} {xs : List Value} (h : w.ownsRow base e 4 (.slice (some ⟨g, 0, none⟩) n c) n xs) (hk : k < n) (v0 v1 v2 v3 : Value) :
    (∃ u, w.cell? ⟨g, k * 4, none⟩ = some u) ∧ (∃ u, w.cell? ⟨g, k * 4 + 1, none⟩ = some u) ∧ (∃ u, w.cell? ⟨g, k * 4 + 2, none⟩ = some u) ∧ (∃ u, w.cell? ⟨g, k * 4 + 3, none⟩ = some u) ∧
    ((((w.setCell ⟨g, k * 4, none⟩ v0).setCell ⟨g, k * 4 + 1, none⟩ v1).setCell ⟨g, k * 4 + 2, none⟩ v2).setCell ⟨g, k * 4 + 3, none⟩ v3).ownsRow base e 4 (.slice (some ⟨g, 0, none⟩) n c) n ((((xs.set (k * 4) v0).set (k * 4 + 1) v1).set (k * 4 + 2) v2).set (k * 4 + 3) v3) := by
  have hl := h.1
  have H : ∀ j, j < n * 4 → ∃ u, w.cell? ⟨g, j, none⟩ = some u := fun j hj => ⟨xs[j]'(by omega), by rw [h.cellAt j hj, List.getElem?_eq_getElem (by omega)]⟩
  exact ⟨H _ (by omega), H _ (by omega), H _ (by omega), H _ (by omega), ((((h.stored _ v0).1.stored _ v1).1.stored _ v2).1.stored _ v3).1⟩
theorem fill_step {f : Int → Value} {zs : List Int} {Z : List Value} {k : Nat} (h1 : k * 4 + 3 < zs.length) (h2 : k * 4 + 3 < Z.length) :
    ((((((zs.take (k * 4)).map f ++ Z.drop (k * 4)).set (k * 4) (f (fld zs k 0))).set (k * 4 + 1) (f (fld zs k 1))).set (k * 4 + 2) (f (fld zs k 2))).set (k * 4 + 3) (f (fld zs k 3))) = (zs.take ((k + 1) * 4)).map f ++ Z.drop ((k + 1) * 4) := by
  have e : (k + 1) * 4 = k * 4 + 3 + 1 := by omega
  rw [e, ← row_step (k := k * 4 + 3) (f := f) h1 h2, ← row_step (k := k * 4 + 2) (f := f) (by omega) (by omega), ← row_step (k := k * 4 + 1) (f := f) (by omega) (by omega), ← row_step (k := k * 4) (f := f) (by omega) (by omega)]
  rfl
theorem scanInfo : (Try.prog.info? 30).map (fun i => (i.zero, i.size, i.bytes)) = some (some (.agg #[.int .i64 0, .int .i64 0, .int .i64 0, .int .i64 0]), 4, 32) := by kernel_rfl
/-- the access point of the best entry, or -1 -/
def chooseM (zs : List Int) (t : Int) (n : Nat) : Int := if bestM zs t n < 0 then -1 else fld zs (bestM zs t n).toNat 0
theorem choose_spec (hbest : ∀ (A : Option Addr) (n c : Nat) (zs : List Int) (now win : Int) (w : World), Rd w 4 A n c (zs.map (Value.int .i64)) → Calls Try.prog 30 #[.slice A n c, .int .i64 now, .int .i64 win] w fun x w' => x = .returned (.int .i64 (bestM zs (wrap64 (now - win)) n)) ∧ Below w.heap.size w w')
    (A : Option Addr) (n c : Nat) (zs : List Int) (now win : Int) (w : World) (hr : Rd w 4 A n c (zs.map (Value.int .i64))) :
    Calls Try.prog 18 #[.slice A n c, .int .i64 now, .int .i64 win] w fun x w' => x = .returned (.int .i64 (chooseM zs (wrap64 (now - win)) n)) ∧ Below w.heap.size w w' := by
  have hn : n ≤ 9223372036854775807 := by have h1 := hr.2.1; have h2 := hr.2.2.1; unfold maxLen at h2; omega
  have hbd := bestM_bd zs (wrap64 (now - win)) n
  have HH := Lib.hid (hbest A n c zs now win)
  have HR := Lib.hid hr
  clear hbest hr
  unfold chooseM
  generalize bestM zs (wrap64 (now - win)) n = m at *
  by_cases h : m < 0
  · rw [if_pos h]
    go_enter Try.func18, Try.ntmps18
    go_wp2_with fail
    refine (HH.out _ HR.out).mono ?_
    rintro x w1 ⟨rfl, hb⟩
    go_wp2
    go_ret
    exact ⟨rfl, hb⟩
  · rw [if_neg h]
    obtain ⟨b, rfl⟩ := Int.eq_ofNat_of_zero_le (show 0 ≤ m by omega)
    obtain ⟨g, o, rfl, hg, c0, _, _, _⟩ := ent_at HR.out (k := b) (by omega)
    rw [Int.toNat_natCast]
    generalize fld zs b 0 = f0 at *
    go_enter Try.func18, Try.ntmps18
    go_wp2_with fail
    refine (HH.out _ HR.out).mono ?_
    rintro x w1 ⟨rfl, hb⟩
    replace c0 := Mem.lift hb c0
    go_wp2
    go_ret
    exact ⟨rfl, hb⟩
theorem choose_impl (hbest : ∀ (A : Option Addr) (n c : Nat) (zs : List Int) (now win : Int) (w : World), Rd w 4 A n c (zs.map (Value.int .i64)) → Calls Try.prog 24 #[.slice A n c, .int .i64 now, .int .i64 win] w fun x w' => x = .returned (.int .i64 (bestM zs (wrap64 (now - win)) n)) ∧ Below w.heap.size w w')
    (A : Option Addr) (n c : Nat) (zs : List Int) (now win : Int) (w : World) (hr : Rd w 4 A n c (zs.map (Value.int .i64))) :
    Calls Try.prog 7 #[.slice A n c, .int .i64 now, .int .i64 win] w fun x w' => x = .returned (.int .i64 (chooseM zs (wrap64 (now - win)) n)) ∧ Below w.heap.size w w' := by
  have hn : n ≤ 9223372036854775807 := by have h1 := hr.2.1; have h2 := hr.2.2.1; unfold maxLen at h2; omega
  have hbd := bestM_bd zs (wrap64 (now - win)) n
  have HH := Lib.hid (hbest A n c zs now win)
  have HR := Lib.hid hr
  clear hbest hr
  unfold chooseM
  generalize bestM zs (wrap64 (now - win)) n = m at *
  by_cases h : m < 0
  · rw [if_pos h]
    go_enter Try.func7, Try.ntmps7
    go_wp2_with fail
    refine (HH.out _ HR.out).mono ?_
    rintro x w1 ⟨rfl, hb⟩
    go_wp2
    go_ret
    exact ⟨rfl, hb⟩
  · rw [if_neg h]
    obtain ⟨b, rfl⟩ := Int.eq_ofNat_of_zero_le (show 0 ≤ m by omega)
    obtain ⟨g, o, rfl, hg, c0, _, _, _⟩ := ent_at HR.out (k := b) (by omega)
    rw [Int.toNat_natCast]
    generalize fld zs b 0 = f0 at *
    go_enter Try.func7, Try.ntmps7
    go_wp2_with fail
    refine (HH.out _ HR.out).mono ?_
    rintro x w1 ⟨rfl, hb⟩
    replace c0 := Mem.lift hb c0
    go_wp2
    go_ret
    exact ⟨rfl, hb⟩
end Go.Proofs.Ytikolopdkjocgaa.Scn
