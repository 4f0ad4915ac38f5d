/- Contracts of ShouldSwitch, of the program and of the reference; plain facts on the greatest score of some entries. -/
import Derived.Test.YtikolopdkjocgaaScanL
import Derived.Test.YtikolopdkjocgaaBestS
import Derived.Test.YtikolopdkjocgaaBestI
import Derived.Test.YtikolopdkjocgaaHash
import Derived.Test.YtikolopdkjocgaaBlk
import Derived.Test.YtikolopdkjocgaaLay
namespace Go.Proofs.Ytikolopdkjocgaa.Scn
open Go.RowKit
open Go.Proofs.Ytikolopdkjocgaa.Num Go.Proofs.Ytikolopdkjocgaa.Mem Go.Proofs.Ytikolopdkjocgaa.Hsh
set_option linter.unusedSimpArgs false
set_option linter.unusedVariables false
/-- the greatest score among the first k entries of which P holds, or -1 -/
def scS (zs : List Int) (P : Nat → Bool) : Nat → Int
  | 0 => -1
  | k + 1 => if P k = true then maxI (scS zs P k) (entScore zs k) else scS zs P k
theorem scS_yes {zs : List Int} {P : Nat → Bool} {k : Nat} (h : P k = true) : scS zs P (k + 1) = maxI (scS zs P k) (entScore zs k) := by rw [scS, if_pos h]
theorem scS_no {zs : List Int} {P : Nat → Bool} {k : Nat} (h : P k = false) : scS zs P (k + 1) = scS zs P k := by rw [scS, if_neg (by simp [h])]
theorem scS_ge (zs : List Int) (P : Nat → Bool) (k : Nat) : -1 ≤ scS zs P k := by
  induction k with
  | zero => simp [scS]
  | succ k ih => unfold scS maxI; split <;> (try split) <;> omega
def seenP (zs : List Int) (t : Int) (k : Nat) : Bool := decide (t ≤ fld zs k 3)
def mineP (zs : List Int) (cur t : Int) (k : Nat) : Bool := fld zs k 0 == cur && decide (t ≤ fld zs k 3)
theorem best_is (zs : List Int) (t : Int) (k : Nat) : (bestM zs t k < 0 → scS zs (seenP zs t) k = -1) ∧ (0 ≤ bestM zs t k → scS zs (seenP zs t) k = entScore zs (bestM zs t k).toNat ∧ 0 ≤ entScore zs (bestM zs t k).toNat) := by
  induction k with
  | zero => exact ⟨fun _ => rfl, fun h => by simp [bestM] at h⟩
  | succ k ih =>
    have hge := scS_ge zs (seenP zs t) k
    have hc := cons_iff zs t k
    have he : entScore zs k = scoreM (fld zs k 1) (fld zs k 2) := rfl
    rw [← he] at hc
    by_cases hs : t ≤ fld zs k 3
    · rw [scS_yes (by simp [seenP, hs])]
      by_cases hb : entCons zs t k = true ∧ (bestM zs t k < 0 ∨ entScore zs (bestM zs t k).toNat < entScore zs k)
      · rw [bestM_yes hb]
        have h1 := (hc.1 hb.1).1
        refine ⟨fun h => by omega, fun _ => ?_⟩
        rw [Int.toNat_natCast]
        refine ⟨?_, h1⟩
        unfold maxI
        rcases hb.2 with h2 | h2
        · rw [ih.1 h2, if_pos (by omega)]
        · by_cases h3 : bestM zs t k < 0
          · rw [ih.1 h3, if_pos (by omega)]
          · rw [(ih.2 (by omega)).1, if_pos h2]
      · rw [bestM_no hb]
        have hx : entScore zs k < 0 ∨ (0 ≤ bestM zs t k ∧ entScore zs k ≤ entScore zs (bestM zs t k).toNat) := by
          by_cases h1 : 0 ≤ entScore zs k
          · right
            have h2 := hc.2 ⟨h1, hs⟩
            have h3 : ¬ (bestM zs t k < 0 ∨ entScore zs (bestM zs t k).toNat < entScore zs k) := fun h => hb ⟨h2, h⟩
            omega
          · left; omega
        unfold maxI
        constructor
        · intro h; rw [ih.1 h, if_neg (by omega)]
        · intro h
          obtain ⟨i1, i2⟩ := ih.2 h
          rw [i1, if_neg (by omega)]
          exact ⟨rfl, i2⟩
    · rw [scS_no (by simp [seenP]; omega), bestM_no (fun h => hs ((hc.1 h.1).2))]
      exact ih
/-- the access point to change to, or -1 -/
def switchM (zs : List Int) (cur t : Int) (n : Nat) : Int :=
  if bestM zs t n < 0 then -1 else if fld zs (bestM zs t n).toNat 0 = cur then -1 else
  if 0 ≤ scS zs (mineP zs cur t) n ∧ entScore zs (bestM zs t n).toNat < wrap64 (scS zs (mineP zs cur t) n + 10) then -1 else fld zs (bestM zs t n).toNat 0
theorem switch_law (zs : List Int) (cur t : Int) (n : Nat) : switchM zs cur t n = -1 ∨ (switchM zs cur t n ≠ -1 ∧ switchM zs cur t n = chooseM zs t n ∧ switchM zs cur t n ≠ cur ∧ 0 ≤ scS zs (seenP zs t) n ∧ (scS zs (mineP zs cur t) n < 0 ∨ wrap64 (scS zs (mineP zs cur t) n + 10) ≤ scS zs (seenP zs t) n)) := by
  by_cases h : switchM zs cur t n = -1
  · exact .inl h
  · refine .inr ⟨h, ?_⟩
    unfold switchM at h ⊢
    unfold chooseM
    split at h
    · exact absurd rfl h
    · rename_i h1
      split at h
      · exact absurd rfl h
      · rename_i h2
        split at h
        · exact absurd rfl h
        · rename_i h3
          obtain ⟨b1, b2⟩ := (best_is zs t n).2 (by omega)
          rw [if_neg h1, if_neg h2, if_neg h3, if_neg h1]
          refine ⟨rfl, h2, by omega, by omega⟩
theorem choose_law (zs : List Int) (t : Int) (n : Nat) (hv : validS zs n) : chooseM zs t n = -1 ↔ scS zs (seenP zs t) n < 0 := by
  have h := best_is zs t n
  have hb := bestM_bd zs t n
  unfold chooseM
  by_cases h1 : bestM zs t n < 0
  · rw [if_pos h1, h.1 h1]; simp
  · rw [if_neg h1]
    obtain ⟨h2, h3⟩ := h.2 (by omega)
    have h4 := (hv (bestM zs t n).toNat (by omega)).1
    constructor <;> intro h5 <;> omega
theorem sw_none {zs : List Int} {cur t : Int} {n : Nat} (h : bestM zs t n < 0) : switchM zs cur t n = -1 := by unfold switchM; rw [if_pos h]
theorem sw_same {zs : List Int} {cur t : Int} {n b : Nat} (h : bestM zs t n = (b : Int)) (h2 : fld zs b 0 = cur) : switchM zs cur t n = -1 := by
  unfold switchM; rw [h, if_neg (by omega), Int.toNat_natCast, if_pos h2]
theorem sw_stay {zs : List Int} {cur t : Int} {n b : Nat} (h : bestM zs t n = (b : Int)) (h2 : ¬ fld zs b 0 = cur) (h3 : 0 ≤ scS zs (mineP zs cur t) n) (h4 : entScore zs b < wrap64 (scS zs (mineP zs cur t) n + 10)) : switchM zs cur t n = -1 := by
  unfold switchM; rw [h, if_neg (by omega), Int.toNat_natCast, if_neg h2, if_pos ⟨h3, h4⟩]
theorem sw_go {zs : List Int} {cur t : Int} {n b : Nat} (h : bestM zs t n = (b : Int)) (h2 : ¬ fld zs b 0 = cur) (h3 : ¬ (0 ≤ scS zs (mineP zs cur t) n ∧ entScore zs b < wrap64 (scS zs (mineP zs cur t) n + 10))) : switchM zs cur t n = fld zs b 0 := by
  unfold switchM; rw [h, if_neg (by omega), Int.toNat_natCast, if_neg h2, if_neg h3]
theorem mine_yes {zs : List Int} {cur t : Int} {k : Nat} (h1 : fld zs k 0 = cur) (h2 : t ≤ fld zs k 3) : scS zs (mineP zs cur t) (k + 1) = maxI (scS zs (mineP zs cur t) k) (scoreM (fld zs k 1) (fld zs k 2)) := scS_yes (by simp [mineP, h1, h2])
theorem mine_no {zs : List Int} {cur t : Int} {k : Nat} (h : ¬ fld zs k 0 = cur ∨ fld zs k 3 < t) : scS zs (mineP zs cur t) (k + 1) = scS zs (mineP zs cur t) k := scS_no (by simp only [mineP, Bool.and_eq_false_iff, beq_eq_false_iff_ne, decide_eq_false_iff_not]; rcases h with h | h; exact .inl h; exact .inr (by omega))
set_option maxHeartbeats 4000000 in
theorem switch_spec (A : Option Addr) (n c : Nat) (zs : List Int) (cur now win : Int) (w : World) (hr : Rd w 4 A n c (zs.map (Value.int .i64))) :
    Calls Try.prog 15 #[.slice A n c, .int .i64 cur, .int .i64 now, .int .i64 win] w fun x w' => x = .returned (.int .i64 (switchM zs cur (wrap64 (now - win)) n)) ∧ Below w.heap.size w w' := by
  have HR := Lib.hid hr
  have hn : n ≤ 9223372036854775807 := by have h1 := hr.2.1; have h2 := hr.2.2.1; unfold maxLen at h2; omega
  clear hr
  have hbd := bestM_bd zs (wrap64 (now - win)) n
  have HB := Lib.hid (best_spec A n c zs now win)
  generalize h0 : bestM zs (wrap64 (now - win)) n = m at HB hbd
  have HM := Lib.hid h0
  clear h0
  go_enter Try.func15, Try.ntmps15
  go_wp2_with fail
  refine (HB.out _ HR.out).mono ?_
  rintro x w1 ⟨rfl, hb1⟩
  clear HB
  by_cases hm : m < 0
  · have HF := Lib.hid (sw_none (cur := cur) (Int.lt_of_le_of_lt (Int.le_of_eq HM.out) hm))
    go_wp2
    go_ret
    exact ⟨by rw [HF.out]; rfl, hb1⟩
  · obtain ⟨b, rfl⟩ := Int.eq_ofNat_of_zero_le (show 0 ≤ m by omega)
    have hbn : b < n := by omega
    obtain ⟨g, o, rfl, hg, d0, d1, d2, d3⟩ := ent_at (HR.out.below hb1) hbn
    by_cases hc : fld zs b 0 = cur
    · have HF := Lib.hid (sw_same HM.out hc)
      have e1 : (fld zs b 0 == cur) = true := by simpa using hc
      clear hc
      generalize fld zs b 0 = f0 at *
      go_wp2
      go_ret
      exact ⟨by rw [HF.out]; rfl, hb1⟩
    · have e1 : (fld zs b 0 == cur) = false := by simpa using hc
      have HC := Lib.hid hc
      have HBN := Lib.hid hbn
      have i0 : (0 : Int) ≤ (b : Int) := by omega
      have i1 : (b : Int) < (n : Int) := by omega
      have hm2 : ¬ (b : Int) < 0 := by omega
      have HB1 := Lib.hid hb1
      have HW1 := Lib.hid (show w.heap.size ≤ w1.heap.size from hb1.size)
      have e2 := e1
      generalize hf0 : fld zs b 0 = f0 at d0 e2
      clear hc hbd hb1 hbn e1 d1 d2 d3
      go_wp2_with fail
      clear d0 e2 hf0 i0 i1 hm2 hg
      go_loopw [10, 11] (fun v10 v11 wr => ∃ k : Nat, k ≤ n ∧ v10 = .int .i64 (scS zs (mineP zs cur (wrap64 (now - win))) k) ∧ v11 = .int .i64 (k : Int) ∧ Below w.heap.size w wr) (fun _ v11 _ => n - (intOf v11).toNat)
      case atStart => exact ⟨0, Nat.zero_le _, rfl, rfl, HB1.out⟩
      case round =>
        clear HB1 HW1
        obtain ⟨k, hk, rfl, rfl, hbr⟩ := hrel
        by_cases hlt : k < n
        · obtain ⟨g', o', hgo, hg, c0, c1, c2, c3⟩ := ent_at (HR.out.below hbr) hlt
          simp only [Option.some.injEq, Addr.mk.injEq, and_true] at hgo
          obtain ⟨rfl, rfl⟩ := hgo
          have HY := Lib.hid (@mine_yes zs cur (wrap64 (now - win)) k)
          have HN := Lib.hid (@mine_no zs cur (wrap64 (now - win)) k)
          have HS := Lib.hid (score_spec (fld zs k 0) (fld zs k 1) (fld zs k 2) (fld zs k 3))
          generalize scS zs (mineP zs cur (wrap64 (now - win))) k = sk at *
          generalize fld zs k 0 = f0 at *
          generalize fld zs k 1 = f1 at *
          generalize fld zs k 2 = f2 at *
          generalize fld zs k 3 = f3 at *
          generalize scoreM f1 f2 = sc at *
          by_cases h1 : f0 = cur
          · have e1 : (f0 == cur) = true := by simpa using h1
            by_cases h2 : wrap64 (now - win) ≤ f3
            · have HF := Lib.hid (HY.out h1 h2)
              clear HY HN h1
              go_wp2_with fail
              refine (HS.out _).mono ?_
              rintro x w3 ⟨rfl, hb⟩
              replace hbr := stepB hbr hb hbr.size
              clear hb c0 c1 c2 c3
              go_wp2_with fail
              refine (max_spec _ _ _).mono ?_
              rintro x w4 ⟨rfl, rfl⟩
              go_wp2
              go_roundw
              case rel => exact ⟨k + 1, by omega, by rw [HF.out], by go_num, hbr⟩
              case measure => simp [intOf]; omega
            · have HF := Lib.hid (HN.out (.inr (by omega)))
              clear HY HN h1
              go_wp2
              go_roundw
              case rel => exact ⟨k + 1, by omega, by rw [HF.out], by go_num, hbr⟩
              case measure => simp [intOf]; omega
          · have e1 : (f0 == cur) = false := by simpa using h1
            have HF := Lib.hid (HN.out (.inl h1))
            clear HY HN h1
            go_wp2
            go_roundw
            case rel => exact ⟨k + 1, by omega, by rw [HF.out], by go_num, hbr⟩
            case measure => simp [intOf]; omega
        · obtain rfl : k = n := by omega
          have hbn := HBN.out
          obtain ⟨g', o', hgo, hg, d0, d1, d2, d3⟩ := ent_at (HR.out.below hbr) hbn
          simp only [Option.some.injEq, Addr.mk.injEq, and_true] at hgo
          obtain ⟨rfl, rfl⟩ := hgo
          have i0 : (0 : Int) ≤ (b : Int) := by omega
          have i1 : (b : Int) < (k : Int) := by omega
          have HS := Lib.hid (score_spec (fld zs b 0) (fld zs b 1) (fld zs b 2) (fld zs b 3))
          have HG := Lib.hid (show entScore zs b = scoreM (fld zs b 1) (fld zs b 2) from rfl)
          have HT := Lib.hid (sw_stay HM.out HC.out)
          have HU := Lib.hid (sw_go HM.out HC.out)
          generalize scS zs (mineP zs cur (wrap64 (now - win))) k = sk at *
          generalize fld zs b 0 = f0 at *
          generalize fld zs b 1 = f1 at *
          generalize fld zs b 2 = f2 at *
          generalize fld zs b 3 = f3 at *
          generalize scoreM f1 f2 = sc at *
          generalize entScore zs b = es at *
          obtain rfl := HG.out
          by_cases h1 : 0 ≤ sk
          · by_cases h2 : es < wrap64 (sk + 10)
            · have HF := Lib.hid (HT.out h1 h2)
              clear HT HU
              go_wp2_with fail
              refine (HS.out _).mono ?_
              rintro x w3 ⟨rfl, hb⟩
              replace hbr := stepB hbr hb hbr.size
              clear hb d0 d1 d2 d3
              go_wp2
              go_ret
              exact ⟨by rw [HF.out]; rfl, hbr⟩
            · have HF := Lib.hid (HU.out (by omega))
              clear HT HU
              go_wp2_with fail
              refine (HS.out _).mono ?_
              rintro x w3 ⟨rfl, hb⟩
              replace d0 := Mem.lift hb d0; replace d1 := Mem.lift hb d1; replace d2 := Mem.lift hb d2; replace d3 := Mem.lift hb d3
              replace hbr := stepB hbr hb hbr.size
              clear hb
              go_wp2
              go_ret
              exact ⟨by rw [HF.out]; rfl, hbr⟩
          · have HF := Lib.hid (HU.out (by omega))
            clear HT HU
            go_wp2
            go_ret
            exact ⟨by rw [HF.out]; rfl, hbr⟩
/-- what the program keeps of the greatest score so far -/
def Kept2 (f : Bool) (q s : Int) : Prop := (f = true ∧ 0 ≤ s ∧ q = s) ∨ (f = false ∧ s < 0 ∧ q = 0)
theorem kept_same {f : Bool} {q s s' : Int} (h : Kept2 f q s) (e : s' = s ∨ (∃ c, c < 0 ∧ s' = maxI s c)) : Kept2 f q s' := by
  rcases e with rfl | ⟨c, hc, rfl⟩
  · exact h
  · unfold maxI
    rcases h with ⟨h1, h2, h3⟩ | ⟨h1, h2, h3⟩
    · rw [if_neg (by omega)]; exact .inl ⟨h1, h2, h3⟩
    · split
      · exact .inr ⟨h1, by omega, h3⟩
      · exact .inr ⟨h1, h2, h3⟩
theorem kept_new {s s' c : Int} (hc : 0 ≤ c) (h : s < c) (e : s' = maxI s c) : Kept2 true c s' := by subst e; unfold maxI; rw [if_pos h]; exact .inl ⟨rfl, hc, rfl⟩
theorem kept_old {s s' c : Int} (hs : 0 ≤ s) (h : ¬ s < c) (e : s' = maxI s c) : Kept2 true s s' := by subst e; unfold maxI; rw [if_neg h]; exact .inl ⟨rfl, hs, rfl⟩
set_option maxHeartbeats 4000000 in
theorem switch_impl (A : Option Addr) (n c : Nat) (zs : List Int) (cur now win : Int) (w : World) (hr : Rd w 4 A n c (zs.map (Value.int .i64))) :
    Calls Try.prog 8 #[.slice A n c, .int .i64 cur, .int .i64 now, .int .i64 win] w fun x w' => x = .returned (.int .i64 (switchM zs cur (wrap64 (now - win)) n)) ∧ Below w.heap.size w w' := by
  have HR := Lib.hid hr
  have hn : n ≤ 9223372036854775807 := by have h1 := hr.2.1; have h2 := hr.2.2.1; unfold maxLen at h2; omega
  clear hr
  have hbd := bestM_bd zs (wrap64 (now - win)) n
  have HB := Lib.hid (best_impl A n c zs now win)
  generalize h0 : bestM zs (wrap64 (now - win)) n = m at HB hbd
  have HM := Lib.hid h0
  clear h0
  go_enter Try.func8, Try.ntmps8
  go_wp2_with fail
  refine (HB.out _ HR.out).mono ?_
  rintro x w1 ⟨rfl, hb1⟩
  clear HB
  by_cases hm : m < 0
  · have HF := Lib.hid (sw_none (cur := cur) (Int.lt_of_le_of_lt (Int.le_of_eq HM.out) hm))
    go_wp2
    go_ret
    exact ⟨by rw [HF.out]; rfl, hb1⟩
  · obtain ⟨b, rfl⟩ := Int.eq_ofNat_of_zero_le (show 0 ≤ m by omega)
    have hbn : b < n := by omega
    obtain ⟨g, o, rfl, hg, d0, d1, d2, d3⟩ := ent_at (HR.out.below hb1) hbn
    by_cases hc : fld zs b 0 = cur
    · have HF := Lib.hid (sw_same HM.out hc)
      have e1 : (fld zs b 0 == cur) = true := by simpa using hc
      clear hc
      generalize fld zs b 0 = f0 at *
      go_wp2
      go_ret
      exact ⟨by rw [HF.out]; rfl, hb1⟩
    · have e1 : (fld zs b 0 == cur) = false := by simpa using hc
      have HC := Lib.hid hc
      have HBN := Lib.hid hbn
      have i0 : (0 : Int) ≤ (b : Int) := by omega
      have i1 : (b : Int) < (n : Int) := by omega
      have hm2 : ¬ (b : Int) < 0 := by omega
      have HB1 := Lib.hid hb1
      have e2 := e1
      generalize hf0 : fld zs b 0 = f0 at d0 e2
      clear hc hbd hb1 hbn e1 d1 d2 d3
      go_wp2_with fail
      clear d0 e2 hf0 i0 i1 hm2 hg
      go_loopw [10, 11, 31] (fun v10 v11 v31 wr => ∃ (k : Nat) (f : Bool) (q : Int), k ≤ n ∧ Kept2 f q (scS zs (mineP zs cur (wrap64 (now - win))) k) ∧ v10 = .bool f ∧ v11 = .int .i64 q ∧ v31 = .int .i64 (k : Int) ∧ Below w.heap.size w wr) (fun _ _ v31 _ => n - (intOf v31).toNat)
      case atStart => exact ⟨0, false, 0, Nat.zero_le _, .inr ⟨rfl, by simp [scS], rfl⟩, rfl, rfl, rfl, HB1.out⟩
      case round =>
        clear HB1
        obtain ⟨k, f, q, hk, hkp, rfl, rfl, rfl, B⟩ := hrel
        have HK := Lib.hid hkp
        have zr := B.size
        clear hkp
        by_cases hlt : k < n
        · obtain ⟨g', o', hgo, hg, c0, c1, c2, c3⟩ := ent_at (HR.out.below B) hlt
          simp only [Option.some.injEq, Addr.mk.injEq, and_true] at hgo
          obtain ⟨rfl, rfl⟩ := hgo
          have HY := Lib.hid (@mine_yes zs cur (wrap64 (now - win)) k)
          have HN := Lib.hid (@mine_no zs cur (wrap64 (now - win)) k)
          have HS := Lib.hid (score_impl (fld zs k 0) (fld zs k 1) (fld zs k 2) (fld zs k 3))
          have HQ := Lib.hid (cons_any (fld zs k 0) (fld zs k 1) (fld zs k 2) (fld zs k 3) now win)
          have hcb : consB (fld zs k 1) (fld zs k 2) (fld zs k 3) (wrap64 (now - win)) = true ↔ 0 ≤ scoreM (fld zs k 1) (fld zs k 2) ∧ wrap64 (now - win) ≤ fld zs k 3 := by simp [consB]
          have HCB := Lib.hid hcb
          clear hcb
          generalize scS zs (mineP zs cur (wrap64 (now - win))) k = sk at *
          generalize fld zs k 0 = f0 at *
          generalize fld zs k 1 = f1 at *
          generalize fld zs k 2 = f2 at *
          generalize fld zs k 3 = f3 at *
          generalize scoreM f1 f2 = sc at *
          generalize consB f1 f2 f3 (wrap64 (now - win)) = cb at *
          have i2 : (0 : Int) ≤ (k : Int) := by omega
          have i3 : (k : Int) < (n : Int) := by omega
          by_cases h1 : f0 = cur
          · have e1 : (f0 == cur) = true := by simpa using h1
            cases cb
            · have HF := Lib.hid (kept_same HK.out (by
                by_cases h2 : wrap64 (now - win) ≤ f3
                · by_cases h3 : 0 ≤ sc
                  · have := HCB.out.2 ⟨h3, h2⟩; cases this
                  · exact .inr ⟨sc, by omega, HY.out h1 h2⟩
                · exact .inl (HN.out (.inr (by omega)))))
              clear HY HN h1 HCB HK
              go_wp2_with fail
              refine (HQ.out _).mono ?_
              rintro x w2 ⟨rfl, hb0⟩
              replace B : Below w.heap.size w w2 := Below.trans (by go_grown) (hb0.mono (by first | omega | (simp [Bk.size_set]; done) | (simp [Bk.size_set]; omega)))
              have z2 := hb0.size
              (try simp only [World.size_alloc, Bk.size_set, World.size_drew, World.drewN] at z2)
              clear hb0
              go_wp2
              go_roundw
              case rel => exact ⟨k + 1, f, q, by omega, HF.out, rfl, rfl, by go_num, B⟩
              case measure => simp [intOf]; omega
            · obtain ⟨p1, p2⟩ := HCB.out.1 rfl
              have hS := HY.out h1 p2
              clear HY HN h1 HCB
              rcases HK.out with ⟨rfl, h2, rfl⟩ | ⟨rfl, h2, rfl⟩
              · by_cases h4 : q < sc
                · have HF := Lib.hid (kept_new p1 h4 hS)
                  clear hS HK p1 p2 h2
                  go_wp2_with fail
                  refine (HQ.out _).mono ?_
                  rintro x w2 ⟨rfl, hb0⟩
                  have be : Bk.Blk w2 (wr.heap.size) 30 #[.int .i64 f0, .int .i64 f1, .int .i64 f2, .int .i64 f3] := (by apply Bk.Blk.to; (focus (apply Bk.Blk.under hb0; (repeat (first | with_reducible assumption | (with_reducible apply Bk.Blk.newAt; focus (first | (simp [Bk.size_set]; done) | (simp [Bk.size_set]; omega))) | with_reducible apply Bk.Blk.drewN | with_reducible apply Bk.Blk.drew | with_reducible apply Bk.Blk.set_ | (with_reducible apply Bk.Blk.far; focus (dsimp only; first | omega | (simp; omega) | (simp; done))) | with_reducible apply Bk.Blk.alloc)))); rfl)
                  replace B : Below w.heap.size w w2 := Below.trans (by go_grown) (hb0.mono (by first | omega | (simp [Bk.size_set]; done) | (simp [Bk.size_set]; omega)))
                  have z2 := hb0.size
                  (try simp only [World.size_alloc, Bk.size_set, World.size_drew, World.drewN] at z2)
                  clear hb0
                  have L_be := Lay.f4 be
                  go_wp2_with fail
                  clear L_be
                  refine (HS.out _).mono ?_
                  rintro x w3 ⟨rfl, hb0⟩
                  replace be : Bk.Blk w3 (wr.heap.size) 30 #[.int .i64 f0, .int .i64 f1, .int .i64 f2, .int .i64 f3] := Bk.Blk.under hb0 (by (repeat (first | with_reducible assumption | (with_reducible apply Bk.Blk.newAt; focus (first | (simp [Bk.size_set]; done) | (simp [Bk.size_set]; omega))) | with_reducible apply Bk.Blk.drewN | with_reducible apply Bk.Blk.drew | with_reducible apply Bk.Blk.set_ | (with_reducible apply Bk.Blk.far; focus (dsimp only; first | omega | (simp; omega) | (simp; done))) | with_reducible apply Bk.Blk.alloc)))
                  replace B : Below w.heap.size w w3 := Below.trans (by go_grown) (hb0.mono (by first | omega | (simp [Bk.size_set]; done) | (simp [Bk.size_set]; omega)))
                  have z3 := hb0.size
                  (try simp only [World.size_alloc, Bk.size_set, World.size_drew, World.drewN] at z3)
                  clear hb0
                  have L_be := Lay.f4 be
                  go_wp2_with fail
                  clear L_be
                  refine (HS.out _).mono ?_
                  rintro x w4 ⟨rfl, hb0⟩
                  replace B : Below w.heap.size w w4 := Below.trans (by go_grown) (hb0.mono (by first | omega | (simp [Bk.size_set]; done) | (simp [Bk.size_set]; omega)))
                  have z4 := hb0.size
                  (try simp only [World.size_alloc, Bk.size_set, World.size_drew, World.drewN] at z4)
                  clear hb0
                  go_wp2
                  go_roundw
                  case rel => exact ⟨k + 1, true, sc, by omega, HF.out, rfl, rfl, by go_num, B⟩
                  case measure => simp [intOf]; omega
                · have HF := Lib.hid (kept_old h2 h4 hS)
                  clear hS HK p1 p2 h2
                  go_wp2_with fail
                  refine (HQ.out _).mono ?_
                  rintro x w2 ⟨rfl, hb0⟩
                  replace be : Bk.Blk w2 (wr.heap.size) 30 #[.int .i64 f0, .int .i64 f1, .int .i64 f2, .int .i64 f3] := (by apply Bk.Blk.to; (focus (apply Bk.Blk.under hb0; (repeat (first | with_reducible assumption | (with_reducible apply Bk.Blk.newAt; focus (first | (simp [Bk.size_set]; done) | (simp [Bk.size_set]; omega))) | with_reducible apply Bk.Blk.drewN | with_reducible apply Bk.Blk.drew | with_reducible apply Bk.Blk.set_ | (with_reducible apply Bk.Blk.far; focus (dsimp only; first | omega | (simp; omega) | (simp; done))) | with_reducible apply Bk.Blk.alloc)))); rfl)
                  replace B : Below w.heap.size w w2 := Below.trans (by go_grown) (hb0.mono (by first | omega | (simp [Bk.size_set]; done) | (simp [Bk.size_set]; omega)))
                  have z2 := hb0.size
                  (try simp only [World.size_alloc, Bk.size_set, World.size_drew, World.drewN] at z2)
                  clear hb0
                  have L_be := Lay.f4 be
                  go_wp2_with fail
                  clear L_be
                  refine (HS.out _).mono ?_
                  rintro x w3 ⟨rfl, hb0⟩
                  replace be : Bk.Blk w3 (wr.heap.size) 30 #[.int .i64 f0, .int .i64 f1, .int .i64 f2, .int .i64 f3] := Bk.Blk.under hb0 (by (repeat (first | with_reducible assumption | (with_reducible apply Bk.Blk.newAt; focus (first | (simp [Bk.size_set]; done) | (simp [Bk.size_set]; omega))) | with_reducible apply Bk.Blk.drewN | with_reducible apply Bk.Blk.drew | with_reducible apply Bk.Blk.set_ | (with_reducible apply Bk.Blk.far; focus (dsimp only; first | omega | (simp; omega) | (simp; done))) | with_reducible apply Bk.Blk.alloc)))
                  replace B : Below w.heap.size w w3 := Below.trans (by go_grown) (hb0.mono (by first | omega | (simp [Bk.size_set]; done) | (simp [Bk.size_set]; omega)))
                  have z3 := hb0.size
                  (try simp only [World.size_alloc, Bk.size_set, World.size_drew, World.drewN] at z3)
                  clear hb0
                  have L_be := Lay.f4 be
                  go_wp2
                  go_roundw
                  case rel => exact ⟨k + 1, true, q, by omega, HF.out, rfl, rfl, by go_num, B⟩
                  case measure => simp [intOf]; omega
              · have HF := Lib.hid (kept_new p1 (by omega) hS)
                clear hS HK p1 p2 h2
                go_wp2_with fail
                refine (HQ.out _).mono ?_
                rintro x w2 ⟨rfl, hb0⟩
                replace be : Bk.Blk w2 (wr.heap.size) 30 #[.int .i64 f0, .int .i64 f1, .int .i64 f2, .int .i64 f3] := (by apply Bk.Blk.to; (focus (apply Bk.Blk.under hb0; (repeat (first | with_reducible assumption | (with_reducible apply Bk.Blk.newAt; focus (first | (simp [Bk.size_set]; done) | (simp [Bk.size_set]; omega))) | with_reducible apply Bk.Blk.drewN | with_reducible apply Bk.Blk.drew | with_reducible apply Bk.Blk.set_ | (with_reducible apply Bk.Blk.far; focus (dsimp only; first | omega | (simp; omega) | (simp; done))) | with_reducible apply Bk.Blk.alloc)))); rfl)
                replace B : Below w.heap.size w w2 := Below.trans (by go_grown) (hb0.mono (by first | omega | (simp [Bk.size_set]; done) | (simp [Bk.size_set]; omega)))
                have z2 := hb0.size
                (try simp only [World.size_alloc, Bk.size_set, World.size_drew, World.drewN] at z2)
                clear hb0
                have L_be := Lay.f4 be
                go_wp2_with fail
                clear L_be
                refine (HS.out _).mono ?_
                rintro x w3 ⟨rfl, hb0⟩
                replace B : Below w.heap.size w w3 := Below.trans (by go_grown) (hb0.mono (by first | omega | (simp [Bk.size_set]; done) | (simp [Bk.size_set]; omega)))
                have z3 := hb0.size
                (try simp only [World.size_alloc, Bk.size_set, World.size_drew, World.drewN] at z3)
                clear hb0
                go_wp2
                go_roundw
                case rel => exact ⟨k + 1, true, sc, by omega, HF.out, rfl, rfl, by go_num, B⟩
                case measure => simp [intOf]; omega
          · have e1 : (f0 == cur) = false := by simpa using h1
            have HF := Lib.hid (kept_same HK.out (.inl (HN.out (.inl h1))))
            clear HY HN h1 HCB HK
            go_wp2
            go_roundw
            case rel => exact ⟨k + 1, f, q, by omega, HF.out, rfl, rfl, by go_num, by go_grown⟩
            case measure => simp [intOf]; omega
        · obtain rfl : k = n := by omega
          have hbn := HBN.out
          obtain ⟨g', o', hgo, hg, d0, d1, d2, d3⟩ := ent_at (HR.out.below B) hbn
          simp only [Option.some.injEq, Addr.mk.injEq, and_true] at hgo
          obtain ⟨rfl, rfl⟩ := hgo
          have i0 : (0 : Int) ≤ (b : Int) := by omega
          have i1 : (b : Int) < (k : Int) := by omega
          have HS := Lib.hid (score_impl (fld zs b 0) (fld zs b 1) (fld zs b 2) (fld zs b 3))
          have HG := Lib.hid (show entScore zs b = scoreM (fld zs b 1) (fld zs b 2) from rfl)
          have HT := Lib.hid (sw_stay HM.out HC.out)
          have HU := Lib.hid (sw_go HM.out HC.out)
          generalize scS zs (mineP zs cur (wrap64 (now - win))) k = sk at *
          generalize fld zs b 0 = f0 at *
          generalize fld zs b 1 = f1 at *
          generalize fld zs b 2 = f2 at *
          generalize fld zs b 3 = f3 at *
          generalize scoreM f1 f2 = sc at *
          generalize entScore zs b = es at *
          obtain rfl := HG.out
          rcases HK.out with ⟨rfl, h2, rfl⟩ | ⟨rfl, h2, rfl⟩
          · by_cases h3 : es < wrap64 (q + 10)
            · have HF := Lib.hid (HT.out h2 h3)
              clear HT HU HK
              go_wp2_with fail
              refine (HS.out _).mono ?_
              rintro x w3 ⟨rfl, hb⟩
              replace B := stepB B hb B.size
              clear hb d0 d1 d2 d3
              go_wp2
              go_ret
              exact ⟨by rw [HF.out]; rfl, B⟩
            · have HF := Lib.hid (HU.out (by omega))
              clear HT HU HK
              go_wp2_with fail
              refine (HS.out _).mono ?_
              rintro x w3 ⟨rfl, hb⟩
              replace d0 := Mem.lift hb d0; replace d1 := Mem.lift hb d1; replace d2 := Mem.lift hb d2; replace d3 := Mem.lift hb d3
              replace B := stepB B hb B.size
              clear hb
              go_wp2
              go_ret
              exact ⟨by rw [HF.out]; rfl, B⟩
          · have HF := Lib.hid (HU.out (by omega))
            clear HT HU HK
            go_wp2
            go_ret
            exact ⟨by rw [HF.out]; rfl, B⟩
end Go.Proofs.Ytikolopdkjocgaa.Scn
