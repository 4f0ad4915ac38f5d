/- Contracts of the password exchange's functions: shared elements, master keys, new commits. -/
import Derived.Test.YtbiipcgiionhpaaExch
import Derived.Deep.RegionHeld3
namespace Go.Proofs.Ytbiipcgiionhpaa.Exch
open Go.RowKit
open Go.Proofs.Ytbiipcgiionhpaa.Num Go.Proofs.Ytbiipcgiionhpaa.Mem Go.Proofs.Ytbiipcgiionhpaa.Hsh Go.Proofs.Ytbiipcgiionhpaa.Grp

def sharedM (pe r s e : Int) : Int := if baseB pe = true ∧ secB r = true ∧ validB s e = true then (if powM (mulM (powM pe s) e) r = 1 then 0 else powM (mulM (powM pe s) e) r) else 0
theorem shared_off {pe r s e : Int} (h : baseB pe = false ∨ secB r = false ∨ validB s e = false) : sharedM pe r s e = 0 := by
  unfold sharedM
  rw [if_neg]
  rintro ⟨h1, h2, h3⟩
  rcases h with h | h | h
  · rw [h] at h1; cases h1
  · rw [h] at h2; cases h2
  · rw [h] at h3; cases h3
theorem shared_on {pe r s e : Int} (h1 : baseB pe = true) (h2 : secB r = true) (h3 : validB s e = true) : sharedM pe r s e = (if powM (mulM (powM pe s) e) r = 1 then 0 else powM (mulM (powM pe s) e) r) := by
  unfold sharedM; rw [if_pos ⟨h1, h2, h3⟩]

set_option maxHeartbeats 1000000 in
theorem shared_impl (pe r s e : Int) (w : World) : Calls Try.prog 19 #[.int .i64 pe, .int .i64 r, .agg #[.int .i64 s, .int .i64 e]] w fun x w' => x = .returned (.int .i64 (sharedM pe r s e)) ∧ Below w.heap.size w w' := by
  cases h1 : baseB pe
  · rw [shared_off (.inl h1)]
    go_enter Try.func19, Try.ntmps19
    go_wp2_with (first | (go_at_call 33; refine (base_impl _ _).mono ?_; rintro x w' ⟨rfl, rfl⟩))
    go_ret
    exact ⟨rfl, by go_grown⟩
  cases h2 : secB r
  · rw [shared_off (.inr (.inl h2))]
    go_enter Try.func19, Try.ntmps19
    go_wp2_with (first | (go_at_call 33; refine (base_impl _ _).mono ?_; rintro x w' ⟨rfl, rfl⟩) | (go_at_call 34; refine (secret_impl _ _).mono ?_; rintro x w' ⟨rfl, rfl⟩))
    go_ret
    exact ⟨rfl, by go_grown⟩
  cases h3 : validB s e
  · rw [shared_off (.inr (.inr h3))]
    go_enter Try.func19, Try.ntmps19
    go_wp2_with (first | (go_at_call 33; refine (base_impl _ _).mono ?_; rintro x w' ⟨rfl, rfl⟩) | (go_at_call 34; refine (secret_impl _ _).mono ?_; rintro x w' ⟨rfl, rfl⟩) | (go_at_call 20; refine (isValidCommit_impl _ _ _).mono ?_; rintro x w1 ⟨rfl, hb⟩; have HB := Lib.hid hb; clear hb))
    go_ret
    exact ⟨rfl, Below.trans (by go_grown) (HB.out.mono (by simp))⟩
  rw [shared_on h1 h2 h3]
  by_cases hk : powM (mulM (powM pe s) e) r = 1
  · rw [if_pos hk]
    have hk' : (powM (mulM (powM pe s) e) r == 1) = true := by simpa using hk
    clear hk
    go_enter Try.func19, Try.ntmps19
    go_wp2_with (first | (go_at_call 33; refine (base_impl _ _).mono ?_; rintro x w' ⟨rfl, rfl⟩) | (go_at_call 34; refine (secret_impl _ _).mono ?_; rintro x w' ⟨rfl, rfl⟩) | (go_at_call 20; refine (isValidCommit_impl _ _ _).mono ?_; rintro x w1 ⟨rfl, hb⟩; have HB := Lib.hid hb; obtain ⟨hc, hf⟩ := bcells hb; have q0 := hc w.heap.size 0 (by simp); have q1 := hc w.heap.size 1 (by simp); clear hb hc hf))
    simp [World.cell?_alloc_at] at q0 q1
    have HW := (show Below w.heap.size w w1 from Below.trans (by go_grown) (HB.out.mono (by simp)))
    have HH := Lib.hid HW
    clear HW HB
    go_region_held3 (fun w' => w'.cell? ⟨w.heap.size, 0, none⟩ = some (.int .i64 s) ∧ w'.cell? ⟨w.heap.size, 1, none⟩ = some (.int .i64 e)) (go_keep) (first | (go_at_call 35; refine (powMod_impl _ _ _).mono ?_; rintro x w' ⟨rfl, rfl⟩) | (go_at_call 47; refine (mulMod_impl _ _ _).mono ?_; rintro x w' ⟨rfl, rfl⟩))
    go_wp2
    go_ret
    exact ⟨rfl, HH.out.drew⟩
  · rw [if_neg hk]
    have hk' : (powM (mulM (powM pe s) e) r == 1) = false := by simpa using hk
    clear hk
    go_enter Try.func19, Try.ntmps19
    go_wp2_with (first | (go_at_call 33; refine (base_impl _ _).mono ?_; rintro x w' ⟨rfl, rfl⟩) | (go_at_call 34; refine (secret_impl _ _).mono ?_; rintro x w' ⟨rfl, rfl⟩) | (go_at_call 20; refine (isValidCommit_impl _ _ _).mono ?_; rintro x w1 ⟨rfl, hb⟩; have HB := Lib.hid hb; obtain ⟨hc, hf⟩ := bcells hb; have q0 := hc w.heap.size 0 (by simp); have q1 := hc w.heap.size 1 (by simp); clear hb hc hf))
    simp [World.cell?_alloc_at] at q0 q1
    have HW := (show Below w.heap.size w w1 from Below.trans (by go_grown) (HB.out.mono (by simp)))
    have HH := Lib.hid HW
    clear HW HB
    go_region_held3 (fun w' => w'.cell? ⟨w.heap.size, 0, none⟩ = some (.int .i64 s) ∧ w'.cell? ⟨w.heap.size, 1, none⟩ = some (.int .i64 e)) (go_keep) (first | (go_at_call 35; refine (powMod_impl _ _ _).mono ?_; rintro x w' ⟨rfl, rfl⟩) | (go_at_call 47; refine (mulMod_impl _ _ _).mono ?_; rintro x w' ⟨rfl, rfl⟩))
    go_wp2
    go_ret
    exact ⟨rfl, HH.out.drew⟩
set_option maxHeartbeats 1000000 in
theorem shared_spec (pe r s e : Int) (w : World) : Calls Try.prog 44 #[.int .i64 pe, .int .i64 r, .agg #[.int .i64 s, .int .i64 e]] w fun x w' => x = .returned (.int .i64 (sharedM pe r s e)) ∧ Below w.heap.size w w' := by
  cases h1 : baseB pe
  · rw [shared_off (.inl h1)]
    go_enter Try.func44, Try.ntmps44
    go_wp2_with (first | (go_at_call 55; refine (base_spec _ _).mono ?_; rintro x w' ⟨rfl, rfl⟩))
    go_ret
    exact ⟨rfl, by go_grown⟩
  cases h2 : secB r
  · rw [shared_off (.inr (.inl h2))]
    go_enter Try.func44, Try.ntmps44
    go_wp2_with (first | (go_at_call 55; refine (base_spec _ _).mono ?_; rintro x w' ⟨rfl, rfl⟩) | (go_at_call 56; refine (secret_spec _ _).mono ?_; rintro x w' ⟨rfl, rfl⟩))
    go_ret
    exact ⟨rfl, by go_grown⟩
  cases h3 : validB s e
  · rw [shared_off (.inr (.inr h3))]
    go_enter Try.func44, Try.ntmps44
    go_wp2_with (first | (go_at_call 55; refine (base_spec _ _).mono ?_; rintro x w' ⟨rfl, rfl⟩) | (go_at_call 56; refine (secret_spec _ _).mono ?_; rintro x w' ⟨rfl, rfl⟩) | (go_at_call 9; refine (isValidCommit_spec _ _ _).mono ?_; rintro x w1 ⟨rfl, hb⟩; have HB := Lib.hid hb; clear hb))
    go_ret
    exact ⟨rfl, Below.trans (by go_grown) (HB.out.mono (by simp))⟩
  rw [shared_on h1 h2 h3]
  by_cases hk : powM (mulM (powM pe s) e) r = 1
  · rw [if_pos hk]
    have hk' : (powM (mulM (powM pe s) e) r == 1) = true := by simpa using hk
    clear hk
    go_enter Try.func44, Try.ntmps44
    go_wp2_with (first | (go_at_call 55; refine (base_spec _ _).mono ?_; rintro x w' ⟨rfl, rfl⟩) | (go_at_call 56; refine (secret_spec _ _).mono ?_; rintro x w' ⟨rfl, rfl⟩) | (go_at_call 9; refine (isValidCommit_spec _ _ _).mono ?_; rintro x w1 ⟨rfl, hb⟩; have HB := Lib.hid hb; obtain ⟨hc, hf⟩ := bcells hb; have q0 := hc w.heap.size 0 (by simp); have q1 := hc w.heap.size 1 (by simp); clear hb hc hf))
    simp [World.cell?_alloc_at] at q0 q1
    have HW := (show Below w.heap.size w w1 from Below.trans (by go_grown) (HB.out.mono (by simp)))
    have HH := Lib.hid HW
    clear HW HB
    go_region_held3 (fun w' => w'.cell? ⟨w.heap.size, 0, none⟩ = some (.int .i64 s) ∧ w'.cell? ⟨w.heap.size, 1, none⟩ = some (.int .i64 e)) (go_keep) (first | (go_at_call 30; refine (powMod_spec _ _ _).mono ?_; rintro x w' ⟨rfl, rfl⟩) | (go_at_call 32; refine (mulMod_spec _ _ _).mono ?_; rintro x w' ⟨rfl, rfl⟩))
    go_wp2
    go_ret
    exact ⟨rfl, HH.out.drew⟩
  · rw [if_neg hk]
    have hk' : (powM (mulM (powM pe s) e) r == 1) = false := by simpa using hk
    clear hk
    go_enter Try.func44, Try.ntmps44
    go_wp2_with (first | (go_at_call 55; refine (base_spec _ _).mono ?_; rintro x w' ⟨rfl, rfl⟩) | (go_at_call 56; refine (secret_spec _ _).mono ?_; rintro x w' ⟨rfl, rfl⟩) | (go_at_call 9; refine (isValidCommit_spec _ _ _).mono ?_; rintro x w1 ⟨rfl, hb⟩; have HB := Lib.hid hb; obtain ⟨hc, hf⟩ := bcells hb; have q0 := hc w.heap.size 0 (by simp); have q1 := hc w.heap.size 1 (by simp); clear hb hc hf))
    simp [World.cell?_alloc_at] at q0 q1
    have HW := (show Below w.heap.size w w1 from Below.trans (by go_grown) (HB.out.mono (by simp)))
    have HH := Lib.hid HW
    clear HW HB
    go_region_held3 (fun w' => w'.cell? ⟨w.heap.size, 0, none⟩ = some (.int .i64 s) ∧ w'.cell? ⟨w.heap.size, 1, none⟩ = some (.int .i64 e)) (go_keep) (first | (go_at_call 30; refine (powMod_spec _ _ _).mono ?_; rintro x w' ⟨rfl, rfl⟩) | (go_at_call 32; refine (mulMod_spec _ _ _).mono ?_; rintro x w' ⟨rfl, rfl⟩))
    go_wp2
    go_ret
    exact ⟨rfl, HH.out.drew⟩

def masterM (sh s e s2 e2 : Int) : Int := orOne (hashL (keyed sh [37, addS s s2, mulM e e2]))
theorem max_one (zs : List Int) : maxI 1 (hashL zs) = orOne (hashL zs) := by
  have := hashL_bd zs
  unfold maxI orOne
  split <;> split <;> omega
theorem addS_bd (a b : Int) : 0 ≤ addS a b ∧ addS a b ≤ 1018 := by unfold addS; split <;> omega
theorem three_wf (s e s2 e2 : Int) : ∀ z ∈ ([37, addS s s2, mulM e e2] : List Int), -9223372036854775808 ≤ z ∧ z ≤ 9223372036854775807 := by
  intro z hz
  simp only [List.mem_cons, List.not_mem_nil, or_false] at hz
  have h1 := addS_bd s s2
  have h2 := mulM_bd e e2
  rcases hz with rfl | rfl | rfl <;> omega
theorem keyOrOne_any (h : Int) (w : World) : Calls Try.prog 49 #[.int .i64 h] w fun x w' => x = .returned (.int .i64 (orOne h)) ∧ w = w' := by
  unfold orOne
  by_cases h0 : h = 0
  · rw [if_pos h0]
    have h1 : (h == 0) = true := by simpa using h0
    clear h0
    go_enter Try.func49, Try.ntmps49
    go_wp2
    go_ret
    exact ⟨rfl, rfl⟩
  · rw [if_neg h0]
    have h1 : (h == 0) = false := by simpa using h0
    clear h0
    go_enter Try.func49, Try.ntmps49
    go_wp2
    go_ret
    exact ⟨rfl, rfl⟩
set_option maxRecDepth 100000 in
set_option maxHeartbeats 1000000 in
theorem master_impl (sh s e s2 e2 : Int) (w : World) (h0 : I64 sh) : Calls Try.prog 21 #[.int .i64 sh, .agg #[.int .i64 s, .int .i64 e], .agg #[.int .i64 s2, .int .i64 e2]] w fun x w' => x = .returned (.int .i64 (masterM sh s e s2 e2)) ∧ Below w.heap.size w w' := by
  have HW := Lib.hid (three_wf s e s2 e2)
  have HM := Lib.hid (max_one (keyed sh [37, addS s s2, mulM e e2]))
  have H0 := Lib.hid h0
  clear h0
  go_enter Try.func21, Try.ntmps21
  go_wp2
  go_region_held3 (fun w' => w'.cell? ⟨w.heap.size, 0, none⟩ = some (.int .i64 s) ∧ w'.cell? ⟨w.heap.size, 1, none⟩ = some (.int .i64 e) ∧ w'.cell? ⟨w.heap.size + 1, 0, none⟩ = some (.int .i64 s2) ∧ w'.cell? ⟨w.heap.size + 1, 1, none⟩ = some (.int .i64 e2)) (go_keep) (first | (go_at_call 10; refine (addScalars_impl _ _ _).mono ?_; rintro x w' ⟨rfl, rfl⟩) | (go_at_call 47; refine (mulMod_impl _ _ _).mono ?_; rintro x w' ⟨rfl, rfl⟩) | (go_at_call 39; refine (keyedHash_impl _ _ 3 3 [37, addS s s2, mulM e e2] _ (by exact Rd.litAt _ [.int .i64 37, .int .i64 (addS s s2), .int .i64 (mulM e e2)] _ 3 _ (by simp) rfl (by unfold maxLen; omega)) (by omega) H0.out HW.out).mono ?_; rintro x w1 ⟨rfl, hb⟩; have HB := Lib.hid hb; obtain ⟨hc, hf⟩ := bcells hb; have q0 := hc w.heap.size 0 (by simp; omega); have q1 := hc w.heap.size 1 (by simp; omega); clear hb) | (go_at_call 49; refine (keyOrOne_any _ _).mono ?_; rintro x w' ⟨rfl, rfl⟩) | (go_at_call 59; refine (max_spec _ _ _).mono ?_; rintro x w' ⟨rfl, rfl⟩))
  all_goals
    go_wp2
    go_ret
    exact ⟨by first | rfl | exact ret_int HM.out, Below.trans (by go_grown) (HB.out.mono (by simp; omega))⟩
set_option maxRecDepth 100000 in
set_option maxHeartbeats 1000000 in
theorem master_spec (sh s e s2 e2 : Int) (w : World) (h0 : I64 sh) : Calls Try.prog 46 #[.int .i64 sh, .agg #[.int .i64 s, .int .i64 e], .agg #[.int .i64 s2, .int .i64 e2]] w fun x w' => x = .returned (.int .i64 (masterM sh s e s2 e2)) ∧ Below w.heap.size w w' := by
  have HW := Lib.hid (three_wf s e s2 e2)
  have HM := Lib.hid (max_one (keyed sh [37, addS s s2, mulM e e2]))
  have H0 := Lib.hid h0
  clear h0
  go_enter Try.func46, Try.ntmps46
  go_wp2
  go_region_held3 (fun w' => w'.cell? ⟨w.heap.size, 0, none⟩ = some (.int .i64 s) ∧ w'.cell? ⟨w.heap.size, 1, none⟩ = some (.int .i64 e) ∧ w'.cell? ⟨w.heap.size + 1, 0, none⟩ = some (.int .i64 s2) ∧ w'.cell? ⟨w.heap.size + 1, 1, none⟩ = some (.int .i64 e2)) (go_keep) (first | (go_at_call 57; refine (addScalars_spec _ _ _).mono ?_; rintro x w' ⟨rfl, rfl⟩) | (go_at_call 32; refine (mulMod_spec _ _ _).mono ?_; rintro x w' ⟨rfl, rfl⟩) | (go_at_call 58; refine (keyedHash_spec _ _ 3 3 [37, addS s s2, mulM e e2] _ (by exact Rd.litAt _ [.int .i64 37, .int .i64 (addS s s2), .int .i64 (mulM e e2)] _ 3 _ (by simp) rfl (by unfold maxLen; omega)) (by omega) H0.out HW.out).mono ?_; rintro x w1 ⟨rfl, hb⟩; have HB := Lib.hid hb; obtain ⟨hc, hf⟩ := bcells hb; have q0 := hc w.heap.size 0 (by simp; omega); have q1 := hc w.heap.size 1 (by simp; omega); clear hb) | (go_at_call 49; refine (keyOrOne_any _ _).mono ?_; rintro x w' ⟨rfl, rfl⟩) | (go_at_call 59; refine (max_spec _ _ _).mono ?_; rintro x w' ⟨rfl, rfl⟩))
  all_goals
    go_wp2
    go_ret
    exact ⟨by first | rfl | exact ret_int HM.out, Below.trans (by go_grown) (HB.out.mono (by simp; omega))⟩
end Go.Proofs.Ytbiipcgiionhpaa.Exch
