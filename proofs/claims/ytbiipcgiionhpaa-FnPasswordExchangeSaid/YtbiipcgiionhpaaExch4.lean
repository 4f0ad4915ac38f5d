/- Contracts of ExplainCommit; the law on NewCommit. -/
import Derived.Test.YtbiipcgiionhpaaExch3
import Derived.Test.YtbiipcgiionhpaaGroupWords
import Derived.Laws.StructEq
namespace Go.Proofs.Ytbiipcgiionhpaa.Exch
open Go.RowKit
open Go.Proofs.Ytbiipcgiionhpaa.Num Go.Proofs.Ytbiipcgiionhpaa.Mem Go.Proofs.Ytbiipcgiionhpaa.Hsh Go.Proofs.Ytbiipcgiionhpaa.Grp

/-- the secrets that explain a commit -/
def exLog (pe e : Int) : Int := dlogM pe (invM e)
def exB (pe s e : Int) : Bool := baseB pe && validB s e && !((s - exLog pe e) % 1019 == 0)
def exR (pe s e : Int) : Int := if exB pe s e = true then (s - exLog pe e) % 1019 else 0
def exM (pe s e : Int) : Int := if exB pe s e = true then exLog pe e else 0
theorem ex_off {pe s e : Int} (h : exB pe s e = false) : exR pe s e = 0 ∧ exM pe s e = 0 := by
  unfold exR exM; rw [h]; exact ⟨rfl, rfl⟩
theorem ex_on {pe s e : Int} (h : exB pe s e = true) : exR pe s e = (s - exLog pe e) % 1019 ∧ exM pe s e = exLog pe e := by
  unfold exR exM; rw [h]; exact ⟨rfl, rfl⟩

theorem baseB_iff {pe : Int} : baseB pe = true ↔ elB pe = true ∧ ¬ pe = 1 := by
  unfold baseB; simp
theorem validB_iff {s e : Int} : validB s e = true ↔ 2 ≤ s ∧ s ≤ 1018 ∧ elB e = true ∧ ¬ e = 1 := by
  unfold validB; simp [and_assoc]
theorem invM_el {e : Int} (h : elB e = true) : elB (invM e) = true := by
  obtain ⟨h1, h2⟩ := elB_bd h
  have k := isEl_of h
  obtain ⟨n, rfl⟩ := Int.eq_ofNat_of_zero_le (show 0 ≤ e by omega)
  rw [Int.toNat_natCast] at k
  rw [invM_cast k]
  exact elB_of (el_pow k _)
theorem invM_inv {e : Int} (h : elB e = true) : invM (invM e) = e := by
  obtain ⟨h1, h2⟩ := elB_bd h
  have k := isEl_of h
  obtain ⟨n, rfl⟩ := Int.eq_ofNat_of_zero_le (show 0 ≤ e by omega)
  rw [Int.toNat_natCast] at k
  rw [invM_cast k, invM_cast (el_pow k _), el_inv_inv k]
theorem invM_ne {e : Int} (h : elB e = false) : elB (invM e) = false := by
  unfold invM
  rw [h, if_neg (by simp)]
  exact elB_out (by omega)
theorem invM_one {e : Int} (h : elB e = true) (h1 : invM e = 1) : e = 1 := by
  have := invM_inv h
  rw [h1] at this
  have h3 : invM 1 = 1 := by
    have k : isEl 1 := ⟨by omega, by omega, one_pm _⟩
    have := invM_cast k
    rw [one_pm] at this
    exact this
  rw [h3] at this
  exact this.symm
theorem log_bd (a b : Int) : -1 ≤ dlogM a b ∧ dlogM a b ≤ 1018 := by
  by_cases ha : elB a = true
  · by_cases hb : elB b = true
    · by_cases h1 : a = 1
      · rw [dlogM_off (.inr (.inr h1))]; omega
      · have := log_law ha hb h1; omega
    · rw [dlogM_off (.inr (.inl (by simpa using hb)))]; omega
  · rw [dlogM_off (.inl (by simpa using ha))]; omega
/-- a logarithm that is there: the base generates, the commit's element is in the group -/
theorem log_there {pe e : Int} (h : ¬ exLog pe e < 0) : baseB pe = true ∧ elB e = true ∧ powM pe (exLog pe e) = invM e := by
  unfold exLog at h ⊢
  have h1 : elB pe = true := by
    by_cases ha : elB pe = true
    · exact ha
    · rw [dlogM_off (.inl (by simpa using ha))] at h; omega
  have h2 : ¬ pe = 1 := by
    intro hb
    rw [dlogM_off (.inr (.inr hb))] at h; omega
  have h3 : elB (invM e) = true := by
    by_cases ha : elB (invM e) = true
    · exact ha
    · rw [dlogM_off (.inr (.inl (by simpa using ha)))] at h; omega
  have h4 : elB e = true := by
    by_cases ha : elB e = true
    · exact ha
    · rw [invM_ne (by simpa using ha)] at h3; cases h3
  exact ⟨baseB_iff.2 ⟨h1, h2⟩, h4, (log_law h1 h3 h2).2.2⟩
theorem ex_neg {pe s e : Int} (h : exLog pe e < 0) : exB pe s e = false := by
  cases hb : exB pe s e
  · rfl
  · unfold exB at hb
    simp only [Bool.and_eq_true] at hb
    have h1 := baseB_iff.1 hb.1.1
    have h2 := validB_iff.1 hb.1.2
    have := log_law h1.1 (invM_el h2.2.2.1) h1.2
    unfold exLog at h
    omega
theorem powM_zero (b : Int) (h : elB b = true) : powM b 0 = 1 := by
  obtain ⟨h1, h2⟩ := elB_bd h
  have := powM_in (b := b) (e := 0) (by omega) h2 (by omega) (by omega)
  rw [this]
  exact congrArg _ (pm_zero _)
theorem log_pos {pe e : Int} (h : ¬ exLog pe e < 0) (h1 : ¬ e = 1) : 1 ≤ exLog pe e := by
  obtain ⟨a, b, c⟩ := log_there h
  rcases Int.lt_trichotomy (exLog pe e) 0 with h0 | h0 | h0
  · exact absurd h0 h
  · rw [h0, powM_zero _ (baseB_iff.1 a).1] at c
    exact absurd (invM_one b c.symm) h1
  · omega
/-- the program's way comes to the same: no commit for these secrets, or another one -/
theorem ex_no {pe s e r : Int} (h : ¬ exLog pe e < 0) (hr : r = (wrap64 (s - exLog pe e)) % 1019) (hn : ncB pe r (exLog pe e) = false ∨ ¬ ncS pe r (exLog pe e) = s ∨ ¬ ncE pe r (exLog pe e) = e) : exB pe s e = false := by
  cases hb : exB pe s e
  · rfl
  · exfalso
    obtain ⟨a, b, c⟩ := log_there h
    unfold exB at hb
    simp only [Bool.and_eq_true, Bool.not_eq_true', beq_eq_false_iff_ne, ne_eq] at hb
    have h2 := validB_iff.1 hb.1.2
    have h3 := log_pos h h2.2.2.2
    have h4 := (log_bd pe (invM e)).2
    have h5 : exLog pe e ≤ 1018 := h4
    rw [IntWalk.wrap64_in _ ⟨by omega, by omega⟩] at hr
    have h6 : secB r = true := secB_yes (by omega) (by omega)
    have h7 : secB (exLog pe e) = true := secB_yes h3 h5
    have h8 : addS r (exLog pe e) = s := by
      unfold addS
      rw [if_pos (by omega)]
      omega
    have h9 : ncB pe r (exLog pe e) = true := by
      unfold ncB
      rw [a, h6, h7, h8, c, invM_inv b, hb.1.2]
      rfl
    have h10 : ncS pe r (exLog pe e) = s := by unfold ncS; rw [h9, h8]; rfl
    have h11 : ncE pe r (exLog pe e) = e := by unfold ncE; rw [h9, c, invM_inv b]; rfl
    rcases hn with hn | hn | hn
    · rw [h9] at hn; cases hn
    · exact hn h10
    · exact hn h11
theorem ex_yes {pe s e r : Int} (h : ¬ exLog pe e < 0) (hr : r = (wrap64 (s - exLog pe e)) % 1019) (hb : ncB pe r (exLog pe e) = true) (h1 : ncS pe r (exLog pe e) = s) (h2 : ncE pe r (exLog pe e) = e) : exB pe s e = true ∧ r = (s - exLog pe e) % 1019 := by
  obtain ⟨a, b, c⟩ := log_there h
  have h4 : exLog pe e ≤ 1018 := (log_bd pe (invM e)).2
  have hv : validB s e = true := by
    have hh := hb
    unfold ncB at hh
    simp only [Bool.and_eq_true] at hh
    unfold ncS at h1
    unfold ncE at h2
    rw [hb] at h1 h2
    simp only [if_true] at h1 h2
    have h3 := hh.2
    rw [h1, h2] at h3
    exact h3
  have hv2 := validB_iff.1 hv
  have hw : wrap64 (s - exLog pe e) = s - exLog pe e := IntWalk.wrap64_in _ ⟨by omega, by omega⟩
  rw [hw] at hr
  refine ⟨?_, hr⟩
  unfold exB
  rw [a, hv, ← hr]
  have h6 : secB r = true := by
    unfold ncB at hb
    simp only [Bool.and_eq_true] at hb
    exact hb.1.1.2
  have := secB_bd h6
  simp
  omega

theorem modI_1019 (x : Int) : modI x 1019 = x % 1019 := by unfold modI; rw [if_pos (by omega)]
theorem wrap64_bd (x : Int) : -9223372036854775808 ≤ wrap64 x ∧ wrap64 x ≤ 9223372036854775807 := by unfold wrap64; omega
/-- what ExplainCommit hands back -/
def Expl (pe s e : Int) (w : World) (x : Ending) (w' : World) : Prop := x = .returned (.tuple #[.int .i64 (exR pe s e), .int .i64 (exM pe s e), .bool (exB pe s e)]) ∧ Below w.heap.size w w'
theorem expl_off {pe s e : Int} {w w' : World} (h : exB pe s e = false) (hb : Below w.heap.size w w') : Expl pe s e w (.returned (.tuple #[.int .i64 0, .int .i64 0, .bool false])) w' := by
  unfold Expl; rw [(ex_off h).1, (ex_off h).2, h]; exact ⟨rfl, hb⟩
theorem expl_on {pe s e r m : Int} {w w' : World} (h : exB pe s e = true) (hr : r = (s - exLog pe e) % 1019) (hm : m = exLog pe e) (hb : Below w.heap.size w w') : Expl pe s e w (.returned (.tuple #[.int .i64 r, .int .i64 m, .bool true])) w' := by
  unfold Expl; rw [(ex_on h).1, (ex_on h).2, h, hr, hm]; exact ⟨rfl, hb⟩

set_option maxHeartbeats 2000000 in
theorem explain_impl (pe s e : Int) (w : World) : Calls Try.prog 7 #[.int .i64 pe, .agg #[.int .i64 s, .int .i64 e]] w (Expl pe s e w) := by
  obtain ⟨l1, l2⟩ := log_bd pe (invM e)
  obtain ⟨W1, W2⟩ := wrap64_bd (s - dlogM pe (invM e))
  by_cases hn : dlogM pe (invM e) < 0
  · have hx := Lib.hid (show exB pe s e = false from ex_neg hn)
    go_enter Try.func7, Try.ntmps7
    go_wp2_with (first | (go_at_call 27; refine (inverse_impl _ _).mono ?_; rintro x w' ⟨rfl, rfl⟩) | (go_at_call 26; refine (dlog_impl _ _ _).mono ?_; rintro x w' ⟨rfl, rfl⟩) | (go_at_call 28; refine (mod_impl _ _ _ W1 W2).mono ?_; rintro x w' ⟨rfl, rfl⟩))
    go_ret3
    exact expl_off hx.out (by go_grown)
  · have HN := Lib.hid (show 0 ≤ exLog pe e from Int.not_lt.1 hn)
    have HM := Lib.hid (modI_1019 (wrap64 (s - dlogM pe (invM e))))
    go_enter Try.func7, Try.ntmps7
    go_wp2_with (first | (go_at_call 27; refine (inverse_impl _ _).mono ?_; rintro x w' ⟨rfl, rfl⟩) | (go_at_call 26; refine (dlog_impl _ _ _).mono ?_; rintro x w' ⟨rfl, rfl⟩) | (go_at_call 28; refine (mod_impl _ _ _ W1 W2).mono ?_; rintro x w' ⟨rfl, rfl⟩))
    generalize modI (wrap64 (s - dlogM pe (invM e))) 1019 = r at HM ⊢
    have hcell : (w.alloc (.cells #[.int .i64 s, .int .i64 e] 25)).cell? ⟨w.heap.size, 0, none⟩ = some (.int .i64 s) := by simp
    have q0 := hcell
    have q1 : (w.alloc (.cells #[.int .i64 s, .int .i64 e] 25)).cell? ⟨w.heap.size, 1, none⟩ = some (.int .i64 e) := by simp
    clear hcell
    cases hb : ncB pe r (dlogM pe (invM e))
    · have hx := Lib.hid (show exB pe s e = false from ex_no (Int.not_lt.2 HN.out) HM.out (.inl hb))
      refine (newCommit_impl _ _ _ _).mono ?_
      rintro x w1 ⟨rfl, hb1⟩
      have HB := Lib.hid (Below.trans (show Below w.heap.size w _ by go_grown) (hb1.mono (by simp)))
      replace q0 := Mem.lift hb1 q0; replace q1 := Mem.lift hb1 q1
      clear hb1
      go_wp2
      go_ret3
      exact expl_off hx.out (HB.out.alloc HB.out.size _)
    · by_cases hc : ncS pe r (dlogM pe (invM e)) = s ∧ ncE pe r (dlogM pe (invM e)) = e
      · have hx := Lib.hid (show exB pe s e = true ∧ r = (s - exLog pe e) % 1019 from ex_yes (Int.not_lt.2 HN.out) HM.out hb hc.1 hc.2)
        refine (newCommit_impl _ _ _ _).mono ?_
        rintro x w1 ⟨rfl, hb1⟩
        have HB := Lib.hid (Below.trans (show Below w.heap.size w _ by go_grown) (hb1.mono (by simp)))
        replace q0 := Mem.lift hb1 q0; replace q1 := Mem.lift hb1 q1
        have z1 := World.block_lt_of_cell? _ _ q0
        clear hb1
        rw [hb, hc.1, hc.2]
        clear hc
        go_wp2
        go_ret3
        exact expl_on hx.out.1 hx.out.2 rfl (HB.out.alloc HB.out.size _)
      · have hx := Lib.hid (show exB pe s e = false from ex_no (Int.not_lt.2 HN.out) HM.out (by
          rcases Int.lt_trichotomy (ncS pe r (dlogM pe (invM e))) s with h | h | h
          · exact .inr (.inl (by show ¬ ncS pe r (dlogM pe (invM e)) = s; omega))
          · exact .inr (.inr (fun he => hc ⟨h, he⟩))
          · exact .inr (.inl (by show ¬ ncS pe r (dlogM pe (invM e)) = s; omega))))
        refine (newCommit_impl _ _ _ _).mono ?_
        rintro x w1 ⟨rfl, hb1⟩
        have HB := Lib.hid (Below.trans (show Below w.heap.size w _ by go_grown) (hb1.mono (by simp)))
        replace q0 := Mem.lift hb1 q0; replace q1 := Mem.lift hb1 q1
        have z1 := World.block_lt_of_cell? _ _ q0
        clear hb1
        rw [hb]
        generalize ncS pe r (dlogM pe (invM e)) = s3 at hc ⊢
        generalize ncE pe r (dlogM pe (invM e)) = e3 at hc ⊢
        have hc' : ((s3 == s) && (e3 == e)) = false := by
          cases h1 : (s3 == s) && (e3 == e)
          · rfl
          · simp only [Bool.and_eq_true, beq_iff_eq] at h1
            exact absurd h1 hc
        cases h1 : s3 == s <;> cases h2 : e3 == e
        · clear hc hc'
          go_wp2
          go_ret3
          exact expl_off hx.out (HB.out.alloc HB.out.size _)
        · clear hc hc'
          go_wp2
          go_ret3
          exact expl_off hx.out (HB.out.alloc HB.out.size _)
        · clear hc hc'
          go_wp2
          go_ret3
          exact expl_off hx.out (HB.out.alloc HB.out.size _)
        · rw [h1, h2] at hc'
          cases hc'
end Go.Proofs.Ytbiipcgiionhpaa.Exch
