/- Power buffers: a row of what is kept for each station; what it reads as; the laws' helpers on it (size, conversion, comparison). -/
import Derived.Test.YthdieeaegplnmaaBaseG
import Derived.Test.YthdieeaegplnmaaBaseB
namespace Go.Proofs.Ythdieeaegplnmaa.Pb
open Go.RowKit
open Go.Proofs.Ythdieeaegplnmaa.Num Go.Proofs.Ythdieeaegplnmaa.Mem Go.Proofs.Ythdieeaegplnmaa.Hsh Go.Proofs.Ythdieeaegplnmaa.Sls Go.Proofs.Ythdieeaegplnmaa.Own Go.Proofs.Ythdieeaegplnmaa.SS Go.Proofs.Ythdieeaegplnmaa.Gb
set_option linter.unusedSimpArgs false
set_option linter.unusedVariables false
/-- what is kept for one station -/
structure Kt where
  st : Int
  ap : Bool
  fs : List (List Int)
  lo : Int
def nthK (ks : List Kt) (i : Nat) : Kt := ks.getD i ⟨0, false, [], 0⟩
/-- the slice value '.slice A n c' reads as the entries ks -/
def RdPB (w : World) (A : Option Addr) (n c : Nat) (ks : List Kt) : Prop :=
  ks.length = n ∧ n ≤ c ∧ c ≤ maxLen ∧
  (0 < n → ∃ g o, A = some ⟨g, o, none⟩ ∧ ∀ j, j < n → ∃ A' n' c', w.cell? ⟨g, o + j * 4, none⟩ = some (.int .i64 (nthK ks j).st) ∧ w.cell? ⟨g, o + j * 4 + 1, none⟩ = some (.bool (nthK ks j).ap) ∧ w.cell? ⟨g, o + j * 4 + 2, none⟩ = some (.slice A' n' c') ∧ w.cell? ⟨g, o + j * 4 + 3, none⟩ = some (.int .i64 (nthK ks j).lo) ∧ RdSS w A' n' c' (nthK ks j).fs)
section
variable {w w' : World} {A : Option Addr} {n c k : Nat} {ks : List Kt}
theorem RdPB.at_ (h : RdPB w A n c ks) (hk : k < n) :
    ∃ g o A' n' c', A = some ⟨g, o, none⟩ ∧ g < w.heap.size ∧ w.cell? ⟨g, o + k * 4, none⟩ = some (.int .i64 (nthK ks k).st) ∧ w.cell? ⟨g, o + k * 4 + 1, none⟩ = some (.bool (nthK ks k).ap) ∧ w.cell? ⟨g, o + k * 4 + 2, none⟩ = some (.slice A' n' c') ∧ w.cell? ⟨g, o + k * 4 + 3, none⟩ = some (.int .i64 (nthK ks k).lo) ∧ RdSS w A' n' c' (nthK ks k).fs := by
  obtain ⟨g, o, rfl, hc⟩ := h.2.2.2 (by omega)
  obtain ⟨A', n', c', h1, h2⟩ := hc k hk
  exact ⟨g, o, A', n', c', rfl, World.block_lt_of_cell? _ _ h1, h1, h2⟩
theorem RdPB.keep (h : RdPB w A n c ks) (hk : ∀ g, g < w.heap.size → w'.heap[g]? = w.heap[g]?) : RdPB w' A n c ks := by
  obtain ⟨h1, h2, h3, h4⟩ := h
  refine ⟨h1, h2, h3, fun hp => ?_⟩
  obtain ⟨g, o, rfl, hc⟩ := h4 hp
  refine ⟨g, o, rfl, fun j hj => ?_⟩
  obtain ⟨A', n', c', k1, k2, k3, k4, k5⟩ := hc j hj
  have hg : w'.heap[g]? = w.heap[g]? := hk g (World.block_lt_of_cell? _ _ k1)
  exact ⟨A', n', c', (World.cell?_of_block (a := ⟨g, o + j * 4, none⟩) hg).trans k1, (World.cell?_of_block (a := ⟨g, o + j * 4 + 1, none⟩) hg).trans k2, (World.cell?_of_block (a := ⟨g, o + j * 4 + 2, none⟩) hg).trans k3, (World.cell?_of_block (a := ⟨g, o + j * 4 + 3, none⟩) hg).trans k4, k5.keep hk⟩
theorem RdPB.below (h : RdPB w A n c ks) (hb : Below w.heap.size w w') : RdPB w' A n c ks := h.keep fun g hg => hb.block g hg
theorem RdPB.alloc (h : RdPB w A n c ks) (o : Obj) : RdPB (w.alloc o) A n c ks := h.keep fun g hg => Below.heap_alloc w o g hg
theorem RdPB.drewN (h : RdPB w A n c ks) (k : Nat) : RdPB (w.drewN k) A n c ks := h.keep fun _ _ => rfl
theorem RdPB.drew (h : RdPB w A n c ks) : RdPB w.drew A n c ks := h.keep fun _ _ => rfl
theorem RdPB.n64 (h : RdPB w A n c ks) : n ≤ 9223372036854775807 := by have h1 := h.2.1; have h2 := h.2.2.1; unfold maxLen at h2; omega
theorem ss64 {xss : List (List Int)} (h : RdSS w A n c xss) : n ≤ 9223372036854775807 := by have h1 := h.2.1; have h2 := h.2.2.1; unfold maxLen at h2; omega
end
/-- the frames of the first k entries, and their bytes -/
def totK (ks : List Kt) : Nat → Nat
  | 0 => 0
  | k + 1 => totK ks k + ((nthK ks k).fs.length + totL (nthK ks k).fs)
theorem totK_le (ks : List Kt) {k m : Nat} (h : k ≤ m) : totK ks k ≤ totK ks m := by
  induction m with
  | zero => obtain rfl : k = 0 := by omega
            exact Nat.le_refl _
  | succ m ih =>
    rcases Nat.lt_or_ge k (m + 1) with h1 | h1
    · have := ih (by omega)
      simp only [totK]; omega
    · obtain rfl : k = m + 1 := by omega
      exact Nat.le_refl _
theorem totK_at {ks : List Kt} {k n : Nat} (h : k < n) : (nthK ks k).fs.length + totL (nthK ks k).fs ≤ totK ks n := by
  have := totK_le ks (k := k + 1) (m := n) h
  simp only [totK] at this
  omega
set_option maxHeartbeats 1000000 in
theorem szKt_any (st lo : Int) (ap : Bool) (A : Option Addr) (n c : Nat) (xss : List (List Int)) (left : Int) (w : World) (hr : RdSS w A n c xss) (h0 : 0 ≤ left) (h1 : left ≤ 1048576) : Calls Try.prog 98 #[.agg #[.int .i64 st, .bool ap, .slice A n c, .int .i64 lo], .int .i64 left] w fun x w' => x = .returned (.int .i64 (szOf left (n + totL xss))) ∧ Below w.heap.size w w' := by
  have HR := Lib.hid hr
  clear hr
  by_cases h : left < ((n + totL xss : Nat) : Int)
  · have HE := Lib.hid (szOf_lt h)
    clear h
    go_enter Try.func98, Try.ntmps98
    go_wp2_with fail
    refine (szSS_any A n c xss left _ (HR.out.alloc _) h0 h1).mono ?_
    rintro x w0 ⟨rfl, rfl⟩
    rw [HE.out]
    go_wp2
    go_ret
    exact ⟨by rw [HE.out]; rfl, by go_grown⟩
  · have HE := Lib.hid (szOf_ge h)
    have g0 : 0 ≤ left - ((n + totL xss : Nat) : Int) := by omega
    clear h
    go_enter Try.func98, Try.ntmps98
    go_wp2_with fail
    refine (szSS_any A n c xss left _ (HR.out.alloc _) h0 h1).mono ?_
    rintro x w0 ⟨rfl, rfl⟩
    rw [HE.out]
    generalize left - ((n + totL xss : Nat) : Int) = L at *
    go_wp2
    go_ret
    exact ⟨by rw [HE.out]; rfl, by go_grown⟩
set_option maxHeartbeats 2000000 in
theorem szKs_any (A : Option Addr) (n c : Nat) (ks : List Kt) (left : Int) (w : World) (hr : RdPB w A n c ks) (h0 : 0 ≤ left) (h1 : left ≤ 1048576) : Calls Try.prog 78 #[.slice A n c, .int .i64 left] w fun x w' => x = .returned (.int .i64 (szOf left (n + totK ks n))) ∧ Below w.heap.size w w' := by
  have hm := hr.n64
  have HR := Lib.hid hr
  clear hr
  by_cases h : left < n
  · rw [szOf_lt (by omega)]
    go_enter Try.func78, Try.ntmps78
    go_wp2
    go_ret
    exact ⟨rfl, Below.refl _ _⟩
  · go_enter Try.func78, Try.ntmps78
    go_wp2
    go_loopw [1, 5] (fun v1 v5 wr => ∃ k : Nat, k ≤ n ∧ ((n + totK ks k : Nat) : Int) ≤ left ∧ v1 = .int .i64 (left - ((n + totK ks k : Nat) : Int)) ∧ v5 = .int .i64 (k : Int) ∧ Below w.heap.size w wr) (fun _ v5 _ => n - (intOf v5).toNat)
    case atStart => exact ⟨0, Nat.zero_le _, by simp [totK]; omega, by simp [totK], rfl, Below.refl _ _⟩
    case round =>
      obtain ⟨k, hk, hle, rfl, rfl, hbr⟩ := hrel
      by_cases hlt : k < n
      · obtain ⟨g, o, A', n', c', rfl, hg, c0, c1, c2, c3, hrd⟩ := (HR.out.below hbr).at_ hlt
        have HQ := Lib.hid (totK_le ks (k := k + 1) (m := n) hlt)
        have HN := Lib.hid hrd.1
        have HT := Lib.hid (show totK ks (k + 1) = totK ks k + ((nthK ks k).fs.length + totL (nthK ks k).fs) from rfl)
        have HB := Lib.hid hbr
        have HZ := Lib.hid (fun st lo ap L w h0 h1 hr => szKt_any st lo ap A' n' c' (nthK ks k).fs L w hr h0 h1)
        have HRD := Lib.hid hrd
        generalize (nthK ks k).st = st at *
        generalize (nthK ks k).ap = ap at *
        generalize (nthK ks k).lo = lo at *
        generalize (nthK ks k).fs = fs at *
        have g0 : 0 ≤ left - ((n + totK ks k : Nat) : Int) := by omega
        have g1 : left - ((n + totK ks k : Nat) : Int) ≤ 1048576 := by omega
        clear hrd hbr
        by_cases hx : left - ((n + totK ks k : Nat) : Int) < ((n' + totL fs : Nat) : Int)
        · have HG := Lib.hid (show left < ((n + totK ks n : Nat) : Int) by have h1 := HT.out; have h2 := HN.out; have h3 := HQ.out; omega)
          have HE := Lib.hid (szOf_lt hx)
          clear hx
          generalize left - ((n + totK ks k : Nat) : Int) = L at *
          go_wp2_with fail
          refine (HZ.out st lo ap L _ g0 g1 HRD.out).mono ?_
          rintro x w1 ⟨rfl, hb⟩
          rw [HE.out]
          have HB2 := Lib.hid (stepB HB.out hb HB.out.size)
          clear hb
          go_wp2
          go_ret
          exact ⟨by rw [szOf_lt (by have := HG.out; omega)]; rfl, HB2.out⟩
        · have HE := Lib.hid (szOf_ge hx)
          have HE2 := Lib.hid (show left - ((n + totK ks (k + 1) : Nat) : Int) = left - ((n + totK ks k : Nat) : Int) - ((n' + totL fs : Nat) : Int) by have h1 := HT.out; have h2 := HN.out; omega)
          have HL := Lib.hid (show ((n + totK ks (k + 1) : Nat) : Int) ≤ left by have h1 := HT.out; have h2 := HN.out; omega)
          have g2 : 0 ≤ left - ((n + totK ks k : Nat) : Int) - ((n' + totL fs : Nat) : Int) := by omega
          clear hx
          generalize left - ((n + totK ks k : Nat) : Int) = L at *
          go_wp2_with fail
          refine (HZ.out st lo ap L _ g0 g1 HRD.out).mono ?_
          rintro x w1 ⟨rfl, hb⟩
          rw [HE.out]
          have HB2 := Lib.hid (stepB HB.out hb HB.out.size)
          clear hb
          generalize L - ((n' + totL fs : Nat) : Int) = L2 at *
          go_wp2
          go_roundw
          case rel => exact ⟨k + 1, by omega, HL.out, by rw [HE2.out], by go_num, HB2.out⟩
          case measure => simp [intOf]; omega
      · obtain rfl : k = n := by omega
        have HG := Lib.hid (show ¬ left < ((k + totK ks k : Nat) : Int) by omega)
        have HB := Lib.hid hbr
        clear hbr
        generalize hL : left - ((k + totK ks k : Nat) : Int) = L at *
        have HE := Lib.hid hL
        clear hL
        go_wp2
        go_ret
        exact ⟨by rw [szOf_ge (by have := HG.out; omega), HE.out]; rfl, HB.out⟩
set_option maxHeartbeats 1000000 in
theorem szPb_any (A : Option Addr) (n c : Nat) (ks : List Kt) (left : Int) (w : World) (hr : RdPB w A n c ks) (h0 : 0 ≤ left) (h1 : left ≤ 1048576) : Calls Try.prog 33 #[.agg #[.slice A n c], .int .i64 left] w fun x w' => x = .returned (.int .i64 (szOf left (n + totK ks n))) ∧ Below w.heap.size w w' := by
  have HR := Lib.hid hr
  clear hr
  by_cases h : left < ((n + totK ks n : Nat) : Int)
  · have HE := Lib.hid (szOf_lt h)
    clear h
    go_enter Try.func33, Try.ntmps33
    go_wp2_with fail
    refine (szKs_any A n c ks left _ (HR.out.alloc _) h0 h1).mono ?_
    rintro x w0 ⟨rfl, hb⟩
    rw [HE.out]
    have HB2 := Lib.hid (show Below w.heap.size w w0 from Below.trans (by go_grown) (hb.mono (by simp <;> omega)))
    clear hb
    go_wp2
    go_ret
    exact ⟨by rw [HE.out]; rfl, HB2.out⟩
  · have HE := Lib.hid (szOf_ge h)
    have g0 : 0 ≤ left - ((n + totK ks n : Nat) : Int) := by omega
    clear h
    go_enter Try.func33, Try.ntmps33
    go_wp2_with fail
    refine (szKs_any A n c ks left _ (HR.out.alloc _) h0 h1).mono ?_
    rintro x w0 ⟨rfl, hb⟩
    rw [HE.out]
    have HB2 := Lib.hid (show Below w.heap.size w w0 from Below.trans (by go_grown) (hb.mono (by simp <;> omega)))
    clear hb
    generalize left - ((n + totK ks n : Nat) : Int) = L at *
    go_wp2
    go_ret
    exact ⟨by rw [HE.out]; rfl, HB2.out⟩
end Go.Proofs.Ythdieeaegplnmaa.Pb
