/- Plain facts on the password exchange: with one base both sides share one element; the keys are there just where the shared elements agree; the master key does not hang on the order; two confirm values of exchanged commits differ. -/
import Derived.Test.YtbiipcgiionhpaaExch5
import Derived.Test.YtbiipcgiionhpaaHashMore
namespace Go.Proofs.Ytbiipcgiionhpaa.Exch
open Go.RowKit
open Go.Proofs.Ytbiipcgiionhpaa.Num Go.Proofs.Ytbiipcgiionhpaa.Mem Go.Proofs.Ytbiipcgiionhpaa.Hsh Go.Proofs.Ytbiipcgiionhpaa.Grp

theorem undo_law {a r m : Int} (ha : elB a = true) (r0 : 0 ≤ r) (r1 : r ≤ 1018) (m0 : 0 ≤ m) (m1 : m ≤ 1018) : mulM (powM a (addS r m)) (invM (powM a m)) = powM a r := by
  rw [add_law ha r0 r1 m0 m1]
  have a2 := (elB_bd ha).1
  have h := isEl_of ha
  obtain ⟨n, rfl⟩ := Int.eq_ofNat_of_zero_le (show 0 ≤ a by omega)
  obtain ⟨r, rfl⟩ := Int.eq_ofNat_of_zero_le r0
  obtain ⟨m, rfl⟩ := Int.eq_ofNat_of_zero_le m0
  rw [Int.toNat_natCast] at h
  rw [powM_cast h.2.1 (by omega), powM_cast h.2.1 (by omega), invM_cast (el_pow h m), mulM_cast (pm_lt _ _) (pm_lt _ _), mulM_cast (Nat.mod_lt _ (by omega)) (pm_lt _ _)]
  have h1 := el_inv (el_pow h m)
  rw [Nat.mod_mul_mod, Nat.mul_assoc, Nat.mul_mod, h1, Nat.mul_one, Nat.mod_mod, Nat.mod_eq_of_lt (pm_lt _ _)]
theorem pow_comm {a x y : Int} (ha : elB a = true) (x0 : 0 ≤ x) (x1 : x ≤ 1018) (y0 : 0 ≤ y) (y1 : y ≤ 1018) : powM (powM a x) y = powM (powM a y) x := by
  rw [← mulS_law ha x0 x1 y0 y1, ← mulS_law ha y0 y1 x0 x1]
  congr 1
  unfold mulS
  rw [Int.mul_comm y x]
  split <;> split <;> first | rfl | omega
theorem ncB_iff {pe r m : Int} : ncB pe r m = true ↔ baseB pe = true ∧ secB r = true ∧ secB m = true ∧ validB (addS r m) (invM (powM pe m)) = true := by
  unfold ncB; simp [and_assoc]
theorem nc_valid {pe r m : Int} (h : ncB pe r m = true) : validB (ncS pe r m) (ncE pe r m) = true := by
  unfold ncS ncE; rw [if_pos h, if_pos h]; exact (ncB_iff.1 h).2.2.2
theorem one_shared {pe r m s t : Int} (h : ncB pe r m = true) (k : ncB pe s t = true) : sharedM pe r (ncS pe s t) (ncE pe s t) = sharedM pe s (ncS pe r m) (ncE pe r m) := by
  have v1 := nc_valid h
  have v2 := nc_valid k
  obtain ⟨h1, h2, h3, h4⟩ := ncB_iff.1 h
  obtain ⟨_, k2, k3, k4⟩ := ncB_iff.1 k
  rw [shared_on h1 h2 v2, shared_on h1 k2 v1]
  have he := (baseB_iff.1 h1).1
  have r1 := secB_bd h2
  have m1 := secB_bd h3
  have s1 := secB_bd k2
  have t1 := secB_bd k3
  have e1 : ncS pe r m = addS r m := by unfold ncS; rw [if_pos h]
  have e2 : ncE pe r m = invM (powM pe m) := by unfold ncE; rw [if_pos h]
  have e3 : ncS pe s t = addS s t := by unfold ncS; rw [if_pos k]
  have e4 : ncE pe s t = invM (powM pe t) := by unfold ncE; rw [if_pos k]
  rw [e1, e2, e3, e4, undo_law he (by omega) (by omega) (by omega) (by omega), undo_law he (by omega) (by omega) (by omega) (by omega), pow_comm he (by omega) (by omega) (by omega) (by omega)]
theorem confirm_inj {m n s e s2 e2 : Int} (m0 : 0 ≤ m) (m1 : m ≤ 2038) (n0 : 0 ≤ n) (n1 : n ≤ 2038) (h : confirmM m s e s2 e2 = confirmM n s e s2 e2) : m = n :=
  key_inj m n 31 s e s2 e2 m0 (by omega) n0 (by omega) h
theorem confirm_iff {m n s e s2 e2 : Int} (m0 : 0 ≤ m) (m1 : m ≤ 2038) (n0 : 0 ≤ n) (n1 : n ≤ 2038) : confirmM m s e s2 e2 = confirmM n s e s2 e2 ↔ m = n :=
  ⟨confirm_inj m0 m1 n0 n1, fun h => by rw [h]⟩
theorem addS_comm (a b : Int) : addS a b = addS b a := by unfold addS; rw [Int.add_comm]; split <;> split <;> first | rfl | omega
theorem mulM_comm (a b : Int) : mulM a b = mulM b a := by unfold mulM; rw [Int.mul_comm]; split <;> split <;> first | rfl | omega
theorem master_comm (sh s e s2 e2 : Int) : masterM sh s e s2 e2 = masterM sh s2 e2 s e := by unfold masterM; rw [addS_comm, mulM_comm]
theorem master_pos (sh s e s2 e2 : Int) : 1 ≤ masterM sh s e s2 e2 := by
  unfold masterM orOne
  have := hashL_bd (keyed sh [37, addS s s2, mulM e e2])
  split <;> omega
theorem run_same (pa pb s0 s1 s2 s3 : Int) : runB pa pb s0 s1 s2 s3 = runA pa pb s0 s1 s2 s3 := by
  have h1 := shared_bd pa s0 (ncS pb s2 s3) (ncE pb s2 s3)
  have h2 := shared_bd pb s2 (ncS pa s0 s1) (ncE pa s0 s1)
  unfold runA runB
  generalize sharedM pa s0 (ncS pb s2 s3) (ncE pb s2 s3) = m at *
  generalize sharedM pb s2 (ncS pa s0 s1) (ncE pa s0 s1) = n at *
  simp only [confirm_iff h1.1 h1.2 h2.1 h2.2, confirm_iff h2.1 h2.2 h1.1 h1.2]
  by_cases h : m = n
  · subst h; rfl
  · rw [if_neg (fun k => h k.2), if_neg (fun k => h k.2.symm)]
/-- the law's last row, first half: a key is there just where the shared elements agree, are not 0, and the commits differ -/
theorem run_nonzero {pa pb s0 s1 s2 s3 : Int} (h : ncB pa s0 s1 = true) (k : ncB pb s2 s3 = true) :
    (runA pa pb s0 s1 s2 s3 ≠ 0) ↔ (sharedM pa s0 (ncS pb s2 s3) (ncE pb s2 s3) = sharedM pb s2 (ncS pa s0 s1) (ncE pa s0 s1) ∧ sharedM pa s0 (ncS pb s2 s3) (ncE pb s2 s3) ≠ 0 ∧ ¬ (ncS pa s0 s1 = ncS pb s2 s3 ∧ ncE pa s0 s1 = ncE pb s2 s3)) := by
  have h1 := shared_bd pa s0 (ncS pb s2 s3) (ncE pb s2 s3)
  have h2 := shared_bd pb s2 (ncS pa s0 s1) (ncE pa s0 s1)
  have hm := master_pos (sharedM pa s0 (ncS pb s2 s3) (ncE pb s2 s3)) (ncS pa s0 s1) (ncE pa s0 s1) (ncS pb s2 s3) (ncE pb s2 s3)
  unfold runA runOK
  rw [h, k]
  generalize sharedM pa s0 (ncS pb s2 s3) (ncE pb s2 s3) = m at *
  generalize sharedM pb s2 (ncS pa s0 s1) (ncE pa s0 s1) = n at *
  simp only [confirm_iff h2.1 h2.2 h1.1 h1.2]
  generalize masterM m (ncS pa s0 s1) (ncE pa s0 s1) (ncS pb s2 s3) (ncE pb s2 s3) = M at *
  simp only [Bool.true_and, Bool.and_eq_true, Bool.not_eq_true', beq_eq_false_iff_ne, ne_eq, Bool.and_eq_false_iff]
  constructor
  · intro hx
    split at hx
    · rename_i hc
      obtain ⟨⟨⟨c1, c2⟩, c3⟩, c4⟩ := hc
      exact ⟨c4.symm, c2, fun ⟨d1, d2⟩ => by rcases c1 with c1 | c1 <;> contradiction⟩
    · exact absurd rfl hx
  · rintro ⟨e1, e2, e3⟩
    rw [if_pos]
    · omega
    · refine ⟨⟨⟨?_, e2⟩, by rw [← e1]; exact e2⟩, e1.symm⟩
      by_cases d1 : ncS pa s0 s1 = ncS pb s2 s3
      · exact .inr fun d2 => e3 ⟨d1, d2⟩
      · exact .inl d1
theorem run_is {pa pb s0 s1 s2 s3 : Int} (hr : runA pa pb s0 s1 s2 s3 ≠ 0) :
    runA pa pb s0 s1 s2 s3 = masterM (sharedM pa s0 (ncS pb s2 s3) (ncE pb s2 s3)) (ncS pb s2 s3) (ncE pb s2 s3) (ncS pa s0 s1) (ncE pa s0 s1) := by
  unfold runA at hr ⊢
  split at hr
  · rename_i h
    rw [if_pos h]
    exact master_comm _ _ _ _ _
  · exact absurd rfl hr
theorem confirm_two {sh s e s2 e2 : Int} (a0 : 0 ≤ s) (a1 : s ≤ 1018) (b0 : 0 ≤ e) (b1 : e ≤ 2038) (c0 : 0 ≤ s2) (c1 : s2 ≤ 1018) (d0 : 0 ≤ e2) (d1 : e2 ≤ 2038) (hne : ¬ (s = s2 ∧ e = e2)) : confirmM sh s e s2 e2 ≠ confirmM sh s2 e2 s e := by
  intro h
  exact hne (confirm_ne sh s e s2 e2 a0 (by omega) b0 (by omega) c0 (by omega) d0 (by omega) h)
/-! secrets that explain a commit -/
theorem ex_parts {pe s e : Int} (h : exB pe s e = true) : baseB pe = true ∧ validB s e = true ∧ ¬ (s - exLog pe e) % 1019 = 0 := by
  unfold exB at h; simpa [and_assoc] using h
theorem ex_log {pe s e : Int} (hb : baseB pe = true) (hv : validB s e = true) : 0 ≤ exLog pe e ∧ exLog pe e ≤ 1018 ∧ powM pe (exLog pe e) = invM e := by
  have h1 := baseB_iff.1 hb
  have h2 := validB_iff.1 hv
  have h3 := log_law h1.1 (invM_el h2.2.2.1) h1.2
  unfold exLog
  exact ⟨h3.1, by omega, h3.2.2⟩
theorem ex_back {pe s e : Int} (h : exB pe s e = true) : ncB pe (exR pe s e) (exM pe s e) = true ∧ ncS pe (exR pe s e) (exM pe s e) = s ∧ ncE pe (exR pe s e) (exM pe s e) = e := by
  obtain ⟨e1, e2⟩ := ex_on h
  rw [e1, e2]
  obtain ⟨hb, hv, hne⟩ := ex_parts h
  obtain ⟨l0, l1, l2⟩ := ex_log hb hv
  have h2 := validB_iff.1 hv
  have h3 : 1 ≤ exLog pe e := log_pos (by omega) h2.2.2.2
  have h6 : secB ((s - exLog pe e) % 1019) = true := secB_yes (by omega) (by omega)
  have h7 : secB (exLog pe e) = true := secB_yes h3 l1
  have h8 : addS ((s - exLog pe e) % 1019) (exLog pe e) = s := by
    unfold addS
    rw [if_pos (by omega)]
    omega
  have h9 : ncB pe ((s - exLog pe e) % 1019) (exLog pe e) = true := by
    unfold ncB
    rw [hb, h6, h7, h8, l2, invM_inv h2.2.2.1, hv]
    rfl
  exact ⟨h9, by unfold ncS; rw [h9, h8]; rfl, by unfold ncE; rw [h9, l2, invM_inv h2.2.2.1]; rfl⟩
theorem ex_none {pe s e : Int} (hb : baseB pe = true) (hv : validB s e = true) (h : exB pe s e = false) : addS 0 (dlogM pe (invM e)) = s := by
  obtain ⟨l0, l1, l2⟩ := ex_log hb hv
  have h2 := validB_iff.1 hv
  unfold exB at h
  rw [hb, hv] at h
  simp only [Bool.true_and, Bool.not_eq_false', beq_iff_eq] at h
  unfold exLog at *
  unfold addS
  rw [if_pos (by omega)]
  omega
end Go.Proofs.Ytbiipcgiionhpaa.Exch
