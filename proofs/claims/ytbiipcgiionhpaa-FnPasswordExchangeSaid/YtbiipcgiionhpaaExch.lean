/- Contracts of the password exchange's functions: valid commits, confirm values, master keys, shared elements. -/
import Derived.Test.YtbiipcgiionhpaaKeyed
import Derived.Test.YtbiipcgiionhpaaNum2
namespace Go.Proofs.Ytbiipcgiionhpaa.Exch
open Go.RowKit
open Go.Proofs.Ytbiipcgiionhpaa.Num Go.Proofs.Ytbiipcgiionhpaa.Mem Go.Proofs.Ytbiipcgiionhpaa.Hsh Go.Proofs.Ytbiipcgiionhpaa.Grp

/-- a number that an int holds -/
def I64 (x : Int) : Prop := -9223372036854775808 ≤ x ∧ x ≤ 9223372036854775807
theorem i64_wf {x : Int} (h : (Lit.int .i64 x).wf = true) : I64 x := by have := bounds_i64 h; unfold I64; omega

/-- is the commit valid? -/
def validB (s e : Int) : Bool := decide (2 ≤ s) && decide (s ≤ 1018) && elB e && !(e == 1)
theorem validB_no {s e : Int} (h : s < 2 ∨ 1018 < s) : validB s e = false := by
  unfold validB
  rcases h with h | h <;> simp <;> intros <;> omega
theorem validB_in {s e : Int} (h1 : 2 ≤ s) (h2 : s ≤ 1018) : validB s e = (elB e && !(e == 1)) := by
  unfold validB; simp [h1, h2]
/-- the value that confirms a shared element -/
def confirmM (sh s e s2 e2 : Int) : Int := hashL (keyed sh [31, s, e, s2, e2])
/-- a key that is never 0 -/
def orOne (h : Int) : Int := if h = 0 then 1 else h

/-- can this be a password's element? -/
def baseB (pe : Int) : Bool := elB pe && !(pe == 1)
/-- can this be a secret number? -/
def secB (x : Int) : Bool := decide (1 ≤ x) && decide (x ≤ 1018)
theorem secB_yes {x : Int} (h1 : 1 ≤ x) (h2 : x ≤ 1018) : secB x = true := by unfold secB; simp [h1, h2]
theorem secB_no {x : Int} (h : x < 1 ∨ 1018 < x) : secB x = false := by unfold secB; rcases h with h | h <;> simp <;> intros <;> omega
theorem secB_bd {x : Int} (h : secB x = true) : 1 ≤ x ∧ x ≤ 1018 := by unfold secB at h; simpa using h

theorem base_impl (pe : Int) (w : World) : Calls Try.prog 33 #[.int .i64 pe] w fun x w' => x = .returned (.bool (baseB pe)) ∧ w = w' := by
  unfold baseB
  cases he : elB pe <;> by_cases h1 : pe = 1
  all_goals
    first | (have h2 : (pe == 1) = true := by simpa using h1) | (have h2 : (pe == 1) = false := by simpa using h1)
    first | (have h3 : (pe != 1) = false := by simpa using h1) | (have h3 : (pe != 1) = true := by simpa using h1)
    clear h1
    go_enter Try.func33, Try.ntmps33
    go_wp2_with (first | (go_at_call 52; refine (isEl_impl _ _).mono ?_; rintro e w' ⟨rfl, rfl⟩))
    go_ret
    exact ⟨by rw [h2]; rfl, rfl⟩
theorem base_spec (pe : Int) (w : World) : Calls Try.prog 55 #[.int .i64 pe] w fun x w' => x = .returned (.bool (baseB pe)) ∧ w = w' := by
  unfold baseB
  cases he : elB pe <;> by_cases h1 : pe = 1
  all_goals
    first | (have h2 : (pe == 1) = true := by simpa using h1) | (have h2 : (pe == 1) = false := by simpa using h1)
    first | (have h3 : (pe != 1) = false := by simpa using h1) | (have h3 : (pe != 1) = true := by simpa using h1)
    clear h1
    go_enter Try.func55, Try.ntmps55
    go_wp2_with (first | (go_at_call 8; refine (isEl_spec _ _).mono ?_; rintro e w' ⟨rfl, rfl⟩))
    go_ret
    exact ⟨by rw [h2]; rfl, rfl⟩
theorem secret_impl (a : Int) (w : World) : Calls Try.prog 34 #[.int .i64 a] w fun x w' => x = .returned (.bool (secB a)) ∧ w = w' := by
  by_cases h : 1 ≤ a ∧ a ≤ 1018
  · have hs := Lib.hid (secB_yes h.1 h.2)
    obtain ⟨h1, h2⟩ := h
    go_enter Try.func34, Try.ntmps34
    go_wp2_with (first | (go_at_call 48; refine (in_impl_yes _ _ _ _ (by omega) (by omega)).mono ?_; rintro e w' ⟨rfl, rfl⟩))
    go_ret
    exact ⟨ret_bool hs.out.symm, rfl⟩
  · have h' : a < 1 ∨ 1018 < a := by omega
    have hs := Lib.hid (secB_no h')
    clear h
    go_enter Try.func34, Try.ntmps34
    go_wp2_with (first | (go_at_call 48; refine (in_impl_no _ _ _ _ (by omega)).mono ?_; rintro e w' ⟨rfl, rfl⟩))
    go_ret
    exact ⟨ret_bool hs.out.symm, rfl⟩
theorem secret_spec (a : Int) (w : World) : Calls Try.prog 56 #[.int .i64 a] w fun x w' => x = .returned (.bool (secB a)) ∧ w = w' := by
  by_cases h : 1 ≤ a ∧ a ≤ 1018
  · have hs := Lib.hid (secB_yes h.1 h.2)
    obtain ⟨h1, h2⟩ := h
    go_enter Try.func56, Try.ntmps56
    go_wp2_with (first | (go_at_call 29; refine (in_spec_yes _ _ _ _ (by omega) (by omega)).mono ?_; rintro e w' ⟨rfl, rfl⟩))
    go_ret
    exact ⟨ret_bool hs.out.symm, rfl⟩
  · have h' : a < 1 ∨ 1018 < a := by omega
    have hs := Lib.hid (secB_no h')
    clear h
    go_enter Try.func56, Try.ntmps56
    go_wp2_with (first | (go_at_call 29; refine (in_spec_no _ _ _ _ (by omega)).mono ?_; rintro e w' ⟨rfl, rfl⟩))
    go_ret
    exact ⟨ret_bool hs.out.symm, rfl⟩

theorem validB_base {s e : Int} (h1 : 2 ≤ s) (h2 : s ≤ 1018) : validB s e = baseB e := by unfold baseB; exact validB_in h1 h2
theorem isValidX_impl (s e : Int) (w : World) : Calls Try.prog 20 #[.agg #[.int .i64 s, .int .i64 e]] w fun x w' => x = .returned (.bool (validB s e)) ∧ w.alloc (.cells #[.int .i64 s, .int .i64 e] 25) = w' := by
  by_cases h : 2 ≤ s ∧ s ≤ 1018
  · obtain ⟨h1, h2⟩ := h
    have hv := Lib.hid (validB_base (e := e) h1 h2)
    go_enter Try.func20, Try.ntmps20
    go_wp2_with (first | (go_at_call 48; refine (in_impl_yes _ _ _ _ (by omega) (by omega)).mono ?_; rintro e w' ⟨rfl, rfl⟩) | (go_at_call 33; refine (base_impl _ _).mono ?_; rintro e w' ⟨rfl, rfl⟩))
    go_ret
    exact ⟨ret_bool hv.out.symm, rfl⟩
  · have h' : s < 2 ∨ 1018 < s := by omega
    have hv := Lib.hid (validB_no (e := e) h')
    clear h
    go_enter Try.func20, Try.ntmps20
    go_wp2_with (first | (go_at_call 48; refine (in_impl_no _ _ _ _ (by omega)).mono ?_; rintro e w' ⟨rfl, rfl⟩))
    go_ret
    exact ⟨ret_bool hv.out.symm, rfl⟩
theorem isValidX_spec (s e : Int) (w : World) : Calls Try.prog 9 #[.agg #[.int .i64 s, .int .i64 e]] w fun x w' => x = .returned (.bool (validB s e)) ∧ w.alloc (.cells #[.int .i64 s, .int .i64 e] 25) = w' := by
  by_cases h : 2 ≤ s ∧ s ≤ 1018
  · obtain ⟨h1, h2⟩ := h
    have hv := Lib.hid (validB_in (e := e) h1 h2)
    cases he : elB e <;> by_cases h1 : e = 1
    all_goals
      first | (have h2 : (e == 1) = true := by simpa using h1) | (have h2 : (e == 1) = false := by simpa using h1)
      first | (have h3 : (e != 1) = false := by simpa using h1) | (have h3 : (e != 1) = true := by simpa using h1)
      clear h1
      go_enter Try.func9, Try.ntmps9
      go_wp2_with (first | (go_at_call 29; refine (in_spec_yes _ _ _ _ (by omega) (by omega)).mono ?_; rintro e w' ⟨rfl, rfl⟩) | (go_at_call 8; refine (isEl_spec _ _).mono ?_; rintro e w' ⟨rfl, rfl⟩))
      go_ret
      exact ⟨ret_bool (by rw [hv.out, he, h2]; rfl), rfl⟩
  · have h' : s < 2 ∨ 1018 < s := by omega
    have hv := Lib.hid (validB_no (e := e) h')
    clear h
    go_enter Try.func9, Try.ntmps9
    go_wp2_with (first | (go_at_call 29; refine (in_spec_no _ _ _ _ (by omega)).mono ?_; rintro e w' ⟨rfl, rfl⟩))
    go_ret
    exact ⟨ret_bool hv.out.symm, rfl⟩

theorem isValidCommit_impl (s e : Int) (w : World) : Calls Try.prog 20 #[.agg #[.int .i64 s, .int .i64 e]] w fun x w' => x = .returned (.bool (validB s e)) ∧ Below w.heap.size w w' :=
  (isValidX_impl s e w).mono fun _ _ ⟨h1, h2⟩ => ⟨h1, by rw [← h2]; exact (Below.refl _ _).alloc (Nat.le_refl _) _⟩
theorem isValidCommit_spec (s e : Int) (w : World) : Calls Try.prog 9 #[.agg #[.int .i64 s, .int .i64 e]] w fun x w' => x = .returned (.bool (validB s e)) ∧ Below w.heap.size w w' :=
  (isValidX_spec s e w).mono fun _ _ ⟨h1, h2⟩ => ⟨h1, by rw [← h2]; exact (Below.refl _ _).alloc (Nat.le_refl _) _⟩

theorem five_wf {s e s2 e2 : Int} (h1 : I64 s) (h2 : I64 e) (h3 : I64 s2) (h4 : I64 e2) : ∀ z ∈ ([31, s, e, s2, e2] : List Int), -9223372036854775808 ≤ z ∧ z ≤ 9223372036854775807 := by
  intro z hz
  simp only [List.mem_cons, List.not_mem_nil, or_false] at hz
  rcases hz with rfl | rfl | rfl | rfl | rfl
  · omega
  · exact h1
  · exact h2
  · exact h3
  · exact h4
set_option maxRecDepth 100000 in
theorem confirm_impl (sh s e s2 e2 : Int) (w : World) (h0 : I64 sh) (h1 : I64 s) (h2 : I64 e) (h3 : I64 s2) (h4 : I64 e2) : Calls Try.prog 22 #[.int .i64 sh, .agg #[.int .i64 s, .int .i64 e], .agg #[.int .i64 s2, .int .i64 e2]] w fun x w' => x = .returned (.int .i64 (confirmM sh s e s2 e2)) ∧ Below w.heap.size w w' := by
  have HW := Lib.hid (five_wf h1 h2 h3 h4)
  have H0 := Lib.hid h0
  clear h0 h1 h2 h3 h4
  go_enter Try.func22, Try.ntmps22
  go_wp2_with fail
  refine (keyedHash_impl _ _ 5 5 [31, s, e, s2, e2] _ (by exact Rd.litAt _ [.int .i64 31, .int .i64 s, .int .i64 e, .int .i64 s2, .int .i64 e2] _ 5 _ (by simp) rfl (by unfold maxLen; omega)) (by omega) H0.out HW.out).mono ?_
  rintro x w1 ⟨rfl, hb⟩
  have HB := Lib.hid hb
  clear hb
  go_wp2
  go_ret
  exact ⟨rfl, Below.trans (by go_grown) (HB.out.mono (by simp; omega))⟩
set_option maxRecDepth 100000 in
theorem confirm_spec (sh s e s2 e2 : Int) (w : World) (h0 : I64 sh) (h1 : I64 s) (h2 : I64 e) (h3 : I64 s2) (h4 : I64 e2) : Calls Try.prog 45 #[.int .i64 sh, .agg #[.int .i64 s, .int .i64 e], .agg #[.int .i64 s2, .int .i64 e2]] w fun x w' => x = .returned (.int .i64 (confirmM sh s e s2 e2)) ∧ Below w.heap.size w w' := by
  have HW := Lib.hid (five_wf h1 h2 h3 h4)
  have H0 := Lib.hid h0
  clear h0 h1 h2 h3 h4
  go_enter Try.func45, Try.ntmps45
  go_wp2_with fail
  refine (keyedHash_spec _ _ 5 5 [31, s, e, s2, e2] _ (by exact Rd.litAt _ [.int .i64 31, .int .i64 s, .int .i64 e, .int .i64 s2, .int .i64 e2] _ 5 _ (by simp) rfl (by unfold maxLen; omega)) (by omega) H0.out HW.out).mono ?_
  rintro x w1 ⟨rfl, hb⟩
  have HB := Lib.hid hb
  clear hb
  go_wp2
  go_ret
  exact ⟨rfl, Below.trans (by go_grown) (HB.out.mono (by simp; omega))⟩
end Go.Proofs.Ytbiipcgiionhpaa.Exch
