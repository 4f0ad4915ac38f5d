/- Contracts of the small functions on entries of a scan: the score, whether an entry is considered, conversion, comparison. -/
import Derived.Test.YtikolopdkjocgaaMem
import Derived.Test.YtikolopdkjocgaaNum
import Derived.Deep.RegionHeld3
import Derived.BigQuiet
import Derived.Deep.QuietTactic
namespace Go.Proofs.Ytikolopdkjocgaa.Scn
open Go.RowKit
open Go.Proofs.Ytikolopdkjocgaa.Num Go.Proofs.Ytikolopdkjocgaa.Mem
set_option linter.unusedSimpArgs false

def scoreM (q l : Int) : Int := if q < 15 ∨ 8 ≤ l then -1 else wrap64 (q - wrap64 (2 * l))
theorem score_impl (a q l s : Int) (w : World) : Calls Try.prog 10 #[.agg #[.int .i64 a, .int .i64 q, .int .i64 l, .int .i64 s]] w fun x w' => x = .returned (.int .i64 (scoreM q l)) ∧ Below w.heap.size w w' := by
  unfold scoreM
  by_cases h1 : q < 15
  · rw [if_pos (.inl h1)]
    go_enter Try.func10, Try.ntmps10
    go_wp2
    go_ret
    exact ⟨rfl, by go_grown⟩
  · by_cases h2 : 8 ≤ l
    · rw [if_pos (.inr h2)]
      go_enter Try.func10, Try.ntmps10
      go_wp2
      go_ret
      exact ⟨rfl, by go_grown⟩
    · rw [if_neg (by omega)]
      go_enter Try.func10, Try.ntmps10
      go_wp2
      go_ret
      exact ⟨rfl, by go_grown⟩
theorem score_spec (a q l s : Int) (w : World) : Calls Try.prog 31 #[.agg #[.int .i64 a, .int .i64 q, .int .i64 l, .int .i64 s]] w fun x w' => x = .returned (.int .i64 (scoreM q l)) ∧ Below w.heap.size w w' := by
  unfold scoreM
  by_cases h1 : q < 15
  · rw [if_pos (.inl h1)]
    go_enter Try.func31, Try.ntmps31
    go_wp2
    go_ret
    exact ⟨rfl, by go_grown⟩
  · by_cases h2 : 8 ≤ l
    · rw [if_pos (.inr h2)]
      go_enter Try.func31, Try.ntmps31
      go_wp2
      go_ret
      exact ⟨rfl, by go_grown⟩
    · rw [if_neg (by omega)]
      go_enter Try.func31, Try.ntmps31
      go_wp2
      go_ret
      exact ⟨rfl, by go_grown⟩
/-- an entry that may be chosen -/
def consB (q l s t : Int) : Bool := decide (0 ≤ scoreM q l) && decide (t ≤ s)
theorem cons_any (a q l s now win : Int) (w : World) : Calls Try.prog 25 #[.agg #[.int .i64 a, .int .i64 q, .int .i64 l, .int .i64 s], .int .i64 now, .int .i64 win] w fun x w' => x = .returned (.bool (consB q l s (wrap64 (now - win)))) ∧ Below w.heap.size w w' := by
  have HS := Lib.hid (score_impl a q l s)
  unfold consB
  generalize scoreM q l = sc at HS
  by_cases h1 : 0 ≤ sc
  all_goals
    go_enter Try.func25, Try.ntmps25
    go_wp2_with fail
    refine (HS.out _).mono ?_
    rintro x w1 ⟨rfl, hb⟩
    obtain ⟨hc, hf⟩ := bcells hb
    go_wp2
    go_ret
    have hb2 : Below w.heap.size w w1 := Below.trans (by go_grown) (hb.mono (by simp))
    clear hc hf hb
    exact ⟨by first | (simp [h1]; done) | (rw [show decide (0 ≤ sc) = false by simpa using h1]; rfl), hb2⟩
/-- field j of entry k -/
def fld (zs : List Int) (k j : Nat) : Int := zs.getD (k * 4 + j) 0
theorem ent_at {w : World} {A : Option Addr} {n c k : Nat} {zs : List Int} (h : Rd w 4 A n c (zs.map (Value.int .i64))) (hk : k < n) :
    ∃ g o, A = some ⟨g, o, none⟩ ∧ g < w.heap.size ∧ w.cell? ⟨g, o + k * 4, none⟩ = some (.int .i64 (fld zs k 0)) ∧ w.cell? ⟨g, o + k * 4 + 1, none⟩ = some (.int .i64 (fld zs k 1)) ∧ w.cell? ⟨g, o + k * 4 + 2, none⟩ = some (.int .i64 (fld zs k 2)) ∧ w.cell? ⟨g, o + k * 4 + 3, none⟩ = some (.int .i64 (fld zs k 3)) := by
  have hl : zs.length = n * 4 := by have := h.1; simpa using this
  obtain ⟨g, o, rfl, hg, hc⟩ := h.at_ (k := k * 4) (by simp; omega)
  have H : ∀ j, j < 4 → w.cell? ⟨g, o + (k * 4 + j), none⟩ = some (.int .i64 (fld zs k j)) := by
    intro j hj
    rw [hc (k * 4 + j) (by simp; omega), List.getElem?_map, List.getElem?_eq_getElem (by omega)]
    simp [fld, List.getD, show k * 4 + j < zs.length by omega]
  exact ⟨g, o, rfl, hg, H 0 (by omega), by rw [Nat.add_assoc]; exact H 1 (by omega), by rw [Nat.add_assoc]; exact H 2 (by omega), by rw [Nat.add_assoc]; exact H 3 (by omega)⟩
def entScore (zs : List Int) (k : Nat) : Int := scoreM (fld zs k 1) (fld zs k 2)
def entCons (zs : List Int) (t : Int) (k : Nat) : Bool := consB (fld zs k 1) (fld zs k 2) (fld zs k 3) t
/-- the index of the first entry with the greatest score among the first k that can be chosen, or -1 -/
def bestM (zs : List Int) (t : Int) : Nat → Int
  | 0 => -1
  | k + 1 => if entCons zs t k = true ∧ (bestM zs t k < 0 ∨ entScore zs (bestM zs t k).toNat < entScore zs k) then (k : Int) else bestM zs t k
theorem bestM_bd (zs : List Int) (t : Int) (k : Nat) : -1 ≤ bestM zs t k ∧ bestM zs t k < k := by
  induction k with
  | zero => simp [bestM]
  | succ k ih => unfold bestM; split <;> omega
theorem bestM_yes {zs : List Int} {t : Int} {k : Nat} (h : entCons zs t k = true ∧ (bestM zs t k < 0 ∨ entScore zs (bestM zs t k).toNat < entScore zs k)) : bestM zs t (k + 1) = (k : Int) := by
  rw [bestM, if_pos h]
theorem bestM_no {zs : List Int} {t : Int} {k : Nat} (h : ¬ (entCons zs t k = true ∧ (bestM zs t k < 0 ∨ entScore zs (bestM zs t k).toNat < entScore zs k))) : bestM zs t (k + 1) = bestM zs t k := by
  rw [bestM, if_neg h]
theorem cons_iff (zs : List Int) (t : Int) (k : Nat) : entCons zs t k = true ↔ 0 ≤ scoreM (fld zs k 1) (fld zs k 2) ∧ t ≤ fld zs k 3 := by
  simp [entCons, consB]
theorem below_drewN {B : Nat} {a w : World} (h : Below B a w) (k : Nat) : Below B a (w.drewN k) := ⟨h.os, h.tape, h.output, h.size, h.block⟩
/-- entry k is in its ranges, and its access point is greater than that of the entry before -/
def okE (zs : List Int) (k : Nat) : Prop := (0 ≤ fld zs k 0 ∧ fld zs k 0 ≤ 15) ∧ (k = 0 ∨ fld zs (k - 1) 0 < fld zs k 0) ∧ (0 ≤ fld zs k 1 ∧ fld zs k 1 ≤ 100) ∧ (0 ≤ fld zs k 2 ∧ fld zs k 2 ≤ 8) ∧ (0 ≤ fld zs k 3 ∧ fld zs k 3 ≤ 1000000000000)
def validS (zs : List Int) (n : Nat) : Prop := ∀ k, k < n → okE zs k
theorem valid_zero (zs : List Int) : validS zs 0 := fun k h => absurd h (by omega)
theorem valid_succ {zs : List Int} {k : Nat} (h : validS zs k) (hk : okE zs k) : validS zs (k + 1) := fun j hj => by
  rcases Nat.lt_or_ge j k with h1 | h1
  · exact h j h1
  · obtain rfl : j = k := by omega
    exact hk
theorem valid_not {zs : List Int} {k n : Nat} (hk : k < n) (h : ¬ okE zs k) : ¬ validS zs n := fun hv => h (hv k hk)
/-- the answer of IsValidScan; all that was there is as it was -/
def SaysV (zs : List Int) (n : Nat) (w : World) (e : Ending) (w' : World) : Prop := ∃ b : Bool, (b = true ↔ validS zs n) ∧ e = .returned (.bool b) ∧ Below w.heap.size w w'
theorem saysV_yes {zs : List Int} {n : Nat} {w w' : World} (h : validS zs n) (hb : Below w.heap.size w w') : SaysV zs n w (.returned (.bool true)) w' := ⟨true, by simp [h], rfl, hb⟩
theorem saysV_no {zs : List Int} {n : Nat} {w w' : World} (h : ¬ validS zs n) (hb : Below w.heap.size w w') : SaysV zs n w (.returned (.bool false)) w' := ⟨false, by simp [h], rfl, hb⟩
end Go.Proofs.Ytikolopdkjocgaa.Scn
