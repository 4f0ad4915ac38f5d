/- Contracts of the group's functions: membership, the inverse, the first logarithm. -/
import Derived.Test.YtbiipcgiionhpaaNum
namespace Go.Proofs.Ytbiipcgiionhpaa.Num
open Go.RowKit
open Go.Proofs.Ytbiipcgiionhpaa.Grp

theorem powM_bd (b e : Int) : 0 ≤ powM b e ∧ powM b e ≤ 2038 := by
  unfold powM
  split
  · have := pm_lt b.toNat e.toNat; omega
  · omega

/-- is x an element of the group? -/
def elB (x : Int) : Bool := decide (1 ≤ x) && decide (x ≤ 2038) && (powM x 1019 == 1)
/-- the inverse, 0 outside the group -/
def invM (x : Int) : Int := if elB x = true then powM x 1018 else 0
/-- the first logarithm, -1 where there is none -/
def dlogM (b x : Int) : Int := if elB b = true ∧ elB x = true ∧ ¬ b = 1 then dlog b.toNat x.toNat 1019 0 1 else -1

theorem elB_bd {x : Int} (h : elB x = true) : 1 ≤ x ∧ x ≤ 2038 := by
  unfold elB at h; simp only [Bool.and_eq_true, decide_eq_true_eq] at h; exact h.1
theorem elB_out {x : Int} (h : x < 1 ∨ 2038 < x) : elB x = false := by
  cases hx : elB x
  · rfl
  · have := elB_bd hx; omega
theorem elB_pow {x : Int} (h1 : 1 ≤ x) (h2 : x ≤ 2038) : elB x = (powM x 1019 == 1) := by
  unfold elB; simp [h1, h2]
theorem ret_bool {a b : Bool} (h : a = b) : Ending.returned (.bool a) = .returned (.bool b) := by rw [h]

theorem isEl_spec (x : Int) (w : World) : Calls Try.prog 8 #[.int .i64 x] w fun e w' => e = .returned (.bool (elB x)) ∧ w = w' := by
  by_cases h : 1 ≤ x ∧ x ≤ 2038
  · obtain ⟨h1, h2⟩ := h
    have hr := Lib.hid (elB_pow h1 h2)
    go_enter Try.func8, Try.ntmps8
    go_wp2_with (first | (go_at_call 29; refine (in_spec_yes _ _ _ _ (by omega) (by omega)).mono ?_; rintro e w' ⟨rfl, rfl⟩) | (go_at_call 30; refine (powMod_spec _ _ _).mono ?_; rintro e w' ⟨rfl, rfl⟩))
    go_ret
    exact ⟨ret_bool hr.out.symm, rfl⟩
  · have h' : x < 1 ∨ 2038 < x := by omega
    have hr := Lib.hid (elB_out h')
    clear h
    go_enter Try.func8, Try.ntmps8
    go_wp2_with (first | (go_at_call 29; refine (in_spec_no _ _ _ _ (by omega)).mono ?_; rintro e w' ⟨rfl, rfl⟩) | (go_at_call 30; refine (powMod_spec _ _ _).mono ?_; rintro e w' ⟨rfl, rfl⟩))
    go_ret
    exact ⟨ret_bool hr.out.symm, rfl⟩
theorem inverse_spec (x : Int) (w : World) : Calls Try.prog 12 #[.int .i64 x] w fun e w' => e = .returned (.int .i64 (invM x)) ∧ w = w' := by
  unfold invM
  cases h : elB x
  · go_enter Try.func12, Try.ntmps12
    go_wp2_with (first | (go_at_call 8; refine (isEl_spec _ _).mono ?_; rintro e w' ⟨rfl, rfl⟩) | (go_at_call 30; refine (powMod_spec _ _ _).mono ?_; rintro e w' ⟨rfl, rfl⟩))
    go_ret
    exact ⟨rfl, rfl⟩
  · go_enter Try.func12, Try.ntmps12
    go_wp2_with (first | (go_at_call 8; refine (isEl_spec _ _).mono ?_; rintro e w' ⟨rfl, rfl⟩) | (go_at_call 30; refine (powMod_spec _ _ _).mono ?_; rintro e w' ⟨rfl, rfl⟩))
    go_ret
    exact ⟨rfl, rfl⟩
theorem isEl_impl (x : Int) (w : World) : Calls Try.prog 52 #[.int .i64 x] w fun e w' => e = .returned (.bool (elB x)) ∧ w = w' := by
  by_cases h : 1 ≤ x ∧ x ≤ 2038
  · obtain ⟨h1, h2⟩ := h
    have hr := Lib.hid (elB_pow h1 h2)
    go_enter Try.func52, Try.ntmps52
    go_wp2_with (first | (go_at_call 48; refine (in_impl_yes _ _ _ _ (by omega) (by omega)).mono ?_; rintro e w' ⟨rfl, rfl⟩) | (go_at_call 35; refine (powMod_impl _ _ _).mono ?_; rintro e w' ⟨rfl, rfl⟩))
    go_ret
    exact ⟨ret_bool hr.out.symm, rfl⟩
  · have h' : x < 1 ∨ 2038 < x := by omega
    have hr := Lib.hid (elB_out h')
    clear h
    go_enter Try.func52, Try.ntmps52
    go_wp2_with (first | (go_at_call 48; refine (in_impl_no _ _ _ _ (by omega)).mono ?_; rintro e w' ⟨rfl, rfl⟩) | (go_at_call 35; refine (powMod_impl _ _ _).mono ?_; rintro e w' ⟨rfl, rfl⟩))
    go_ret
    exact ⟨ret_bool hr.out.symm, rfl⟩
theorem inverse_impl (x : Int) (w : World) : Calls Try.prog 27 #[.int .i64 x] w fun e w' => e = .returned (.int .i64 (invM x)) ∧ w = w' := by
  unfold invM
  cases h : elB x
  · go_enter Try.func27, Try.ntmps27
    go_wp2_with (first | (go_at_call 52; refine (isEl_impl _ _).mono ?_; rintro e w' ⟨rfl, rfl⟩) | (go_at_call 35; refine (powMod_impl _ _ _).mono ?_; rintro e w' ⟨rfl, rfl⟩))
    go_ret
    exact ⟨rfl, rfl⟩
  · go_enter Try.func27, Try.ntmps27
    go_wp2_with (first | (go_at_call 52; refine (isEl_impl _ _).mono ?_; rintro e w' ⟨rfl, rfl⟩) | (go_at_call 35; refine (powMod_impl _ _ _).mono ?_; rintro e w' ⟨rfl, rfl⟩))
    go_ret
    exact ⟨rfl, rfl⟩

/-- what the logarithm's loop keeps: with k rounds done, the power at p, the answer is still to come -/
def DlogRel (b x D p : Int) (k : Nat) : Prop := 0 ≤ p ∧ p ≤ 2038 ∧ k ≤ 1019 ∧ dlog b.toNat x.toNat (1019 - k) k p.toNat = D
theorem DlogRel.start (b x : Int) : DlogRel b x (dlog b.toNat x.toNat 1019 0 1) 1 0 := ⟨by omega, by omega, by omega, rfl⟩
theorem DlogRel.hit {b x D p : Int} {k : Nat} (h : DlogRel b x D p k) (hx : 0 ≤ x) (hk : k < 1019) (he : p = x) : D = (k : Int) := by
  obtain ⟨h1, h2, h3, h4⟩ := h
  rw [show 1019 - k = (1018 - k) + 1 by omega, dlog, if_pos (by omega)] at h4
  exact h4.symm
theorem DlogRel.next {b x D p : Int} {k : Nat} (h : DlogRel b x D p k) (hb : 0 ≤ b) (hb' : b ≤ 2038) (hx : 0 ≤ x) (hk : k < 1019) (he : ¬ p = x) : DlogRel b x D (mulM p b) (k + 1) := by
  obtain ⟨h1, h2, h3, h4⟩ := h
  refine ⟨(mulM_bd _ _).1, (mulM_bd _ _).2, by omega, ?_⟩
  rw [show 1019 - k = (1018 - k) + 1 by omega, dlog, if_neg (by omega)] at h4
  rw [mulM_nat h1 h2 hb hb', show 1019 - (k + 1) = 1018 - k by omega]
  exact h4
theorem DlogRel.done {b x D p : Int} {k : Nat} (h : DlogRel b x D p k) (hk : ¬ k < 1019) : D = -1 := by
  obtain ⟨h1, h2, h3, h4⟩ := h
  rw [show 1019 - k = 0 by omega, dlog] at h4
  exact h4.symm

theorem dlogM_off {b x : Int} (h : elB b = false ∨ elB x = false ∨ b = 1) : dlogM b x = -1 := by
  unfold dlogM
  rw [if_neg]
  rintro ⟨h1, h2, h3⟩
  rcases h with h | h | h
  · rw [h] at h1; cases h1
  · rw [h] at h2; cases h2
  · exact h3 h
theorem dlogM_on {b x : Int} (hb : elB b = true) (hx : elB x = true) (h1 : ¬ b = 1) : dlogM b x = dlog b.toNat x.toNat 1019 0 1 := by
  unfold dlogM
  rw [if_pos ⟨hb, hx, h1⟩]

set_option maxRecDepth 100000 in
set_option maxHeartbeats 400000 in
theorem dlog_spec (b x : Int) (w : World) : Calls Try.prog 11 #[.int .i64 b, .int .i64 x] w fun e w' => e = .returned (.int .i64 (dlogM b x)) ∧ w = w' := by
  cases hb : elB b
  · rw [dlogM_off (.inl hb)]
    go_enter Try.func11, Try.ntmps11
    go_wp2_with (first | (go_at_call 8; refine (isEl_spec _ _).mono ?_; rintro e w' ⟨rfl, rfl⟩))
    go_ret
    exact ⟨rfl, rfl⟩
  · cases hx : elB x
    · rw [dlogM_off (.inr (.inl hx))]
      go_enter Try.func11, Try.ntmps11
      go_wp2_with (first | (go_at_call 8; refine (isEl_spec _ _).mono ?_; rintro e w' ⟨rfl, rfl⟩))
      go_ret
      exact ⟨rfl, rfl⟩
    · by_cases h1 : b = 1
      · rw [dlogM_off (.inr (.inr h1))]
        have hne : (b == 1) = true := by simpa using h1
        clear h1
        go_enter Try.func11, Try.ntmps11
        go_wp2_with (first | (go_at_call 8; refine (isEl_spec _ _).mono ?_; rintro e w' ⟨rfl, rfl⟩))
        go_ret
        exact ⟨rfl, rfl⟩
      · obtain ⟨b1, b2⟩ := elB_bd hb
        obtain ⟨x1, x2⟩ := elB_bd hx
        have hst := Lib.hid (DlogRel.start b x)
        have hne : (b == 1) = false := by simpa using h1
        rw [dlogM_on hb hx h1]
        generalize dlog b.toNat x.toNat 1019 0 1 = D at hst ⊢
        clear h1
        go_enter Try.func11, Try.ntmps11
        go_wp2_with (first | (go_at_call 8; refine (isEl_spec _ _).mono ?_; rintro e w' ⟨rfl, rfl⟩))
        go_loop [5, 6] (fun v5 v6 => ∃ (p : Int) (k : Nat), DlogRel b x D p k ∧ v5 = .int .i64 p ∧ v6 = .int .i64 (k : Int)) (fun _ v6 => 1019 - (intOf v6).toNat)
        case atStart => exact ⟨1, 0, hst.out, rfl, rfl⟩
        case round =>
          obtain ⟨p, k, hR, rfl, rfl⟩ := hrel
          have HR := Lib.hid hR
          obtain ⟨p1, p2, k1, -⟩ := hR
          have K1 := Lib.hid k1
          clear k1
          by_cases hk : k < 1019
          · have hk' : (k : Int) < 1019 := by omega
            have HK := Lib.hid hk
            clear hk
            by_cases he : p = x
            · have heq : (p == x) = true := by simpa using he
              have HE := Lib.hid he
              clear he
              go_wp2
              go_ret
              exact ⟨ret_int (HR.out.hit (by omega) HK.out HE.out).symm, rfl⟩
            · have heq : (p == x) = false := by simpa using he
              have HE := Lib.hid he
              clear he
              go_wp2_with (first | (go_at_call 32; refine (mulMod_spec _ _ _).mono ?_; rintro e w' ⟨rfl, rfl⟩))
              go_round
              case rel => exact ⟨_, k + 1, HR.out.next (by omega) b2 (by omega) HK.out HE.out, rfl, by go_num⟩
              case measure => simp [intOf]; omega
          · have hk' : (1019 : Int) ≤ (k : Int) := by omega
            have HK := Lib.hid hk
            clear hk
            go_wp2
            go_ret
            exact ⟨ret_int (HR.out.done HK.out).symm, rfl⟩
set_option maxRecDepth 100000 in
set_option maxHeartbeats 400000 in
theorem dlog_impl (b x : Int) (w : World) : Calls Try.prog 26 #[.int .i64 b, .int .i64 x] w fun e w' => e = .returned (.int .i64 (dlogM b x)) ∧ w = w' := by
  cases hb : elB b
  · rw [dlogM_off (.inl hb)]
    go_enter Try.func26, Try.ntmps26
    go_wp2_with (first | (go_at_call 52; refine (isEl_impl _ _).mono ?_; rintro e w' ⟨rfl, rfl⟩))
    go_ret
    exact ⟨rfl, rfl⟩
  · cases hx : elB x
    · rw [dlogM_off (.inr (.inl hx))]
      go_enter Try.func26, Try.ntmps26
      go_wp2_with (first | (go_at_call 52; refine (isEl_impl _ _).mono ?_; rintro e w' ⟨rfl, rfl⟩))
      go_ret
      exact ⟨rfl, rfl⟩
    · by_cases h1 : b = 1
      · rw [dlogM_off (.inr (.inr h1))]
        have hne : (b == 1) = true := by simpa using h1
        clear h1
        go_enter Try.func26, Try.ntmps26
        go_wp2_with (first | (go_at_call 52; refine (isEl_impl _ _).mono ?_; rintro e w' ⟨rfl, rfl⟩))
        go_ret
        exact ⟨rfl, rfl⟩
      · obtain ⟨b1, b2⟩ := elB_bd hb
        obtain ⟨x1, x2⟩ := elB_bd hx
        have hst := Lib.hid (DlogRel.start b x)
        have hne : (b == 1) = false := by simpa using h1
        rw [dlogM_on hb hx h1]
        generalize dlog b.toNat x.toNat 1019 0 1 = D at hst ⊢
        clear h1
        go_enter Try.func26, Try.ntmps26
        go_wp2_with (first | (go_at_call 52; refine (isEl_impl _ _).mono ?_; rintro e w' ⟨rfl, rfl⟩))
        go_loop [5, 6] (fun v5 v6 => ∃ (p : Int) (k : Nat), DlogRel b x D p k ∧ v5 = .int .i64 p ∧ v6 = .int .i64 (k : Int)) (fun _ v6 => 1019 - (intOf v6).toNat)
        case atStart => exact ⟨1, 0, hst.out, rfl, rfl⟩
        case round =>
          obtain ⟨p, k, hR, rfl, rfl⟩ := hrel
          have HR := Lib.hid hR
          obtain ⟨p1, p2, k1, -⟩ := hR
          have K1 := Lib.hid k1
          clear k1
          by_cases hk : k < 1019
          · have hk' : (k : Int) < 1019 := by omega
            have HK := Lib.hid hk
            clear hk
            by_cases he : p = x
            · have heq : (p == x) = true := by simpa using he
              have HE := Lib.hid he
              clear he
              go_wp2
              go_ret
              exact ⟨ret_int (HR.out.hit (by omega) HK.out HE.out).symm, rfl⟩
            · have heq : (p == x) = false := by simpa using he
              have HE := Lib.hid he
              clear he
              go_wp2_with (first | (go_at_call 47; refine (mulMod_impl _ _ _).mono ?_; rintro e w' ⟨rfl, rfl⟩))
              go_round
              case rel => exact ⟨_, k + 1, HR.out.next (by omega) b2 (by omega) HK.out HE.out, rfl, by go_num⟩
              case measure => simp [intOf]; omega
          · have hk' : (1019 : Int) ≤ (k : Int) := by omega
            have HK := Lib.hid hk
            clear hk
            go_wp2
            go_ret
            exact ⟨ret_int (HR.out.done HK.out).symm, rfl⟩
end Go.Proofs.Ytbiipcgiionhpaa.Num
