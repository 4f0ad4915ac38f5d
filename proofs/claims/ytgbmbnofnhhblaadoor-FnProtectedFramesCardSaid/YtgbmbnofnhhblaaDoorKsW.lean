/- Contracts of IsValidKeyState and RemainingFrames. -/
import Derived.Test.YtgbmbnofnhhblaaDoorKsV
namespace Go.Proofs.YtgbmbnofnhhblaaDoor.Ks
open Go.RowKit
open Go.Proofs.YtgbmbnofnhhblaaDoor.Num Go.Proofs.YtgbmbnofnhhblaaDoor.Mem Go.Proofs.YtgbmbnofnhhblaaDoor.Sls Go.Proofs.YtgbmbnofnhhblaaDoor.Hsh Go.Proofs.YtgbmbnofnhhblaaDoor.Own
set_option linter.unusedSimpArgs false
theorem hasY_impl (A : Option Addr) (n c : Nat) (zs : List Int) (x : Int) (w : World) (hr : Rd w 1 A n c (zs.map (Value.int .i64))) (hm : x ∈ zs) : Calls Tryd.prog 55 #[.slice A n c, .int .i64 x] w fun e w' => e = .returned (.bool true) ∧ w = w' :=
  (has_impl A n c zs x w hr).mono fun e w' ⟨⟨b, hb, he⟩, hw⟩ => ⟨by rw [he, hb.2 hm], hw⟩
theorem hasN_impl (A : Option Addr) (n c : Nat) (zs : List Int) (x : Int) (w : World) (hr : Rd w 1 A n c (zs.map (Value.int .i64))) (hm : x ∉ zs) : Calls Tryd.prog 55 #[.slice A n c, .int .i64 x] w fun e w' => e = .returned (.bool false) ∧ w = w' :=
  (has_impl A n c zs x w hr).mono fun e w' ⟨⟨b, hb, he⟩, hw⟩ => ⟨by rw [he]; cases b with | false => rfl | true => exact absurd (hb.1 rfl) hm, hw⟩
theorem hasY_spec (A : Option Addr) (n c : Nat) (zs : List Int) (x : Int) (w : World) (hr : Rd w 1 A n c (zs.map (Value.int .i64))) (hm : x ∈ zs) : Calls Tryd.prog 49 #[.slice A n c, .int .i64 x] w fun e w' => e = .returned (.bool true) ∧ w = w' :=
  (has_spec A n c zs x w hr).mono fun e w' ⟨⟨b, hb, he⟩, hw⟩ => ⟨by rw [he, hb.2 hm], hw⟩
theorem hasN_spec (A : Option Addr) (n c : Nat) (zs : List Int) (x : Int) (w : World) (hr : Rd w 1 A n c (zs.map (Value.int .i64))) (hm : x ∉ zs) : Calls Tryd.prog 49 #[.slice A n c, .int .i64 x] w fun e w' => e = .returned (.bool false) ∧ w = w' :=
  (has_spec A n c zs x w hr).mono fun e w' ⟨⟨b, hb, he⟩, hw⟩ => ⟨by rw [he]; cases b with | false => rfl | true => exact absurd (hb.1 rfl) hm, hw⟩
set_option maxHeartbeats 4000000 in
theorem validKs_impl (ke se re : Int) (A : Option Addr) (n c : Nat) (zs : List Int) (w : World) (hr : Rd w 1 A n c (zs.map (Value.int .i64))) :
    Calls Tryd.prog 23 #[.agg #[.int .i64 ke, .int .i64 se, .int .i64 re, .slice A n c]] w (SaysK (validK ke se re zs n) w) := by
  have hn : n ≤ 9223372036854775807 := by have h1 := hr.2.1; have h2 := hr.2.2.1; unfold maxLen at h2; omega
  have hcap : n ≤ c := hr.2.1
  have hcm : c ≤ 9223372036854775807 := by have h2 := hr.2.2.1; unfold maxLen at h2; omega
  have hl := Lib.hid (len_ints hr)
  have HR := Lib.hid hr
  clear hr
  rcases keyOk_cases ke se re with ⟨hno, hE⟩ | ⟨hyes, hE⟩
  · have HN := Lib.hid (show ¬ validK ke se re zs n from fun h => hno h.1)
    clear hno
    rcases hE with ⟨b0, b1, h1⟩ | ⟨b0, b1, h1, b2, b3⟩ | ⟨b0, b1, ⟨h1, h2⟩, h3⟩ | ⟨b0, b1, ⟨h1, h2⟩, h3, b2, b3⟩ | ⟨b0, b1, ⟨h1, h2⟩, h3, b2, b3, b4, b5⟩ | ⟨b0, b1, ⟨h1, h2⟩, ⟨h3, h4⟩, h5⟩ | ⟨b0, b1, ⟨h1, h2⟩, ⟨h3, h4⟩, b2, b3⟩ | ⟨b0, b1, ⟨h1, h2⟩, ⟨h3, h4⟩, b2, b3, b4, b5⟩
    all_goals
      go_enter Tryd.func23, Tryd.ntmps23
      go_wp2_with (first | (go_at_call 54; (first | (refine (in_impl_yes _ _ _ _ (by omega) (by omega)).mono ?_) | (refine (in_impl_no _ _ _ _ (by omega)).mono ?_)); rintro x w' ⟨rfl, rfl⟩) | (go_at_call 53; (first | (refine (vkey_impl_yes _ _ (by omega) (by omega)).mono ?_) | (refine (vkey_impl_no _ _ (by omega)).mono ?_)); rintro x w' ⟨rfl, rfl⟩))
      go_ret
      exact saysK_no HN.out (by go_grown)
  · have HY := Lib.hid hyes
    clear hyes
    rcases hE with ⟨b0, b1, ⟨h1, h2⟩, ⟨h3, h4⟩, b2, b3, b4, b5⟩ | ⟨b0, b1, ⟨h1, h2⟩, ⟨h3, h4⟩, h5, h6⟩
    all_goals
      go_enter Tryd.func23, Tryd.ntmps23
      go_wp2_with (first | (go_at_call 54; (first | (refine (in_impl_yes _ _ _ _ (by omega) (by omega)).mono ?_) | (refine (in_impl_no _ _ _ _ (by omega)).mono ?_)); rintro x w' ⟨rfl, rfl⟩) | (go_at_call 53; (first | (refine (vkey_impl_yes _ _ (by omega) (by omega)).mono ?_) | (refine (vkey_impl_no _ _ (by omega)).mono ?_)); rintro x w' ⟨rfl, rfl⟩))
      go_loop [40] (fun v => ∃ k : Nat, k ≤ n ∧ v = .int .i64 (k : Int) ∧ okR ke zs k) (fun v => n - (intOf v).toNat)
      case atStart => exact ⟨0, Nat.zero_le _, rfl, okR_zero _ _⟩
      case round =>
        obtain ⟨k, hk, rfl, hok⟩ := hrel
        have HO := Lib.hid hok
        clear hok
        by_cases hlt : k < n
        · obtain ⟨g, o, rfl, hg, hc⟩ := (HR.out.alloc (.cells #[.int .i64 ke, .int .i64 se, .int .i64 re, .slice A n c] 27)).int_at hlt
          have HS := Lib.hid (okR_succ (k := k) HO.out)
          have HB := Lib.hid (fun (h1 : ¬ (zs.getD k 0 ≠ ke ∧ zs.getD k 0 ∉ zs.take k)) => show ¬ validK ke se re zs n from fun h => h1 (h.2 k hlt))
          have HT := Lib.hid (Rd.take1 (HR.out.alloc (.cells #[.int .i64 ke, .int .i64 se, .int .i64 re, .slice (some ⟨g, o, none⟩) n c] 27)) hk)
          have hkc : k ≤ c := by omega
          generalize zs.getD k 0 = z at *
          by_cases hz : z = ke
          · have HX := Lib.hid (HB.out (fun h => h.1 hz))
            have d1 : (z == ke) = true := by simpa using hz
            clear HS HB hz
            go_wp2
            go_ret
            exact saysK_no HX.out (by go_grown)
          · have d1 : (z == ke) = false := by simpa using hz
            by_cases hm : z ∈ zs.take k
            · have HX := Lib.hid (HB.out (fun h => h.2 hm))
              have HH := Lib.hid (hasY_impl _ k c (zs.take k) z _ HT.out hm)
              clear HS HB hz hm
              go_wp2_with (first | (go_at_call 55; refine HH.out.mono ?_; rintro x w' ⟨rfl, rfl⟩))
              go_ret
              exact saysK_no HX.out (by go_grown)
            · have HX := Lib.hid (HS.out hz hm)
              have HH := Lib.hid (hasN_impl _ k c (zs.take k) z _ HT.out hm)
              clear HS HB hz hm
              go_wp2_with (first | (go_at_call 55; refine HH.out.mono ?_; rintro x w' ⟨rfl, rfl⟩))
              go_round
              case rel => exact ⟨k + 1, by omega, by go_num, HX.out⟩
              case measure => simp [intOf]; omega
        · obtain rfl : k = n := by omega
          go_wp2
          go_ret
          exact saysK_yes ⟨HY.out, HO.out⟩ (by go_grown)
set_option maxHeartbeats 8000000 in
theorem validKs_spec (ke se re : Int) (A : Option Addr) (n c : Nat) (zs : List Int) (w : World) (hr : Rd w 1 A n c (zs.map (Value.int .i64))) :
    Calls Tryd.prog 21 #[.agg #[.int .i64 ke, .int .i64 se, .int .i64 re, .slice A n c]] w (SaysK (validK ke se re zs n) w) := by
  have hn : n ≤ 9223372036854775807 := by have h1 := hr.2.1; have h2 := hr.2.2.1; unfold maxLen at h2; omega
  have hcap : n ≤ c := hr.2.1
  have hcm : c ≤ 9223372036854775807 := by have h2 := hr.2.2.1; unfold maxLen at h2; omega
  have hl := Lib.hid (len_ints hr)
  obtain ⟨w0, hW⟩ : ∃ W, W = w.alloc (.cells #[.int .i64 ke, .int .i64 se, .int .i64 re, .slice A n c] 27) := ⟨_, rfl⟩
  have q0 : w0.cell? ⟨w.heap.size, 0, none⟩ = some (.int .i64 ke) := by rw [hW]; simp [World.cell?_alloc_at]
  have q1 : w0.cell? ⟨w.heap.size, 1, none⟩ = some (.int .i64 se) := by rw [hW]; simp [World.cell?_alloc_at]
  have q2 : w0.cell? ⟨w.heap.size, 2, none⟩ = some (.int .i64 re) := by rw [hW]; simp [World.cell?_alloc_at]
  have q3 : w0.cell? ⟨w.heap.size, 3, none⟩ = some (.slice A n c) := by rw [hW]; simp [World.cell?_alloc_at]
  have HB0 := Lib.hid (show Below w.heap.size w w0 by rw [hW]; exact (Below.refl _ _).alloc (Nat.le_refl _) _)
  have HR := Lib.hid (show Rd w0 1 A n c (zs.map (Value.int .i64)) by rw [hW]; exact hr.alloc _)
  have HW := Lib.hid hW
  clear hr hW
  go_enter Tryd.func21, Tryd.ntmps21
  go_wp2_with fail
  rw [← HW.out]
  clear HW
  go_loopw [3] (fun v wr => ∃ k : Nat, k ≤ n ∧ v = .int .i64 (k : Int) ∧ okR ke zs k ∧ ∃ m : Nat, wr = w0.drewN m) (fun v _ => n - (intOf v).toNat)
  case atStart => exact ⟨0, Nat.zero_le _, rfl, okR_zero _ _, 0, rfl⟩
  case round =>
    obtain ⟨k, hk, rfl, hok, m, rfl⟩ := hrel
    have HO := Lib.hid hok
    clear hok
    by_cases hlt : k < n
    · obtain ⟨g, o, rfl, hg, hc⟩ := HR.out.int_at hlt
      have HS := Lib.hid (okR_succ (k := k) HO.out)
      have HB := Lib.hid (fun (h1 : ¬ (zs.getD k 0 ≠ ke ∧ zs.getD k 0 ∉ zs.take k)) => show ¬ validK ke se re zs n from fun h => h1 (h.2 k hlt))
      have HT := Lib.hid (Rd.take1 HR.out hk)
      have hkc : k ≤ c := by omega
      have i0 : (0 : Int) ≤ (k : Int) := by omega
      have i1 : (k : Int) < (n : Int) := by omega
      have i2 : (k : Int) ≤ (c : Int) := by omega
      generalize zs.getD k 0 = z at *
      by_cases hz : z = ke
      · have HX := Lib.hid (HB.out (fun h => h.1 hz))
        have d1 : (z == ke) = true := by simpa using hz
        clear HS HB hz
        go_wp2
        refine wp_region_held_drew (S := (fun w' => w'.cell? ⟨w.heap.size, 0, none⟩ = some (.int .i64 ke) ∧ w'.cell? ⟨w.heap.size, 3, none⟩ = some (.slice (some ⟨g, o, none⟩) n c) ∧ w'.cell? ⟨g, o + k, none⟩ = some (.int .i64 z))) (by kernel_rfl) ?_ (fun hHeld => ?_)
        · (try dsimp only); exact ⟨q0, q3, hc⟩
        first | (refine wpAnyH_take (i := 0) (v := ?_) (Reg.get rfl) (by kernel_rfl) (by kernel_rfl) (by kernel_rfl) (fun _ _ _ h => h) (Or.inl ⟨by rfl, ?_⟩) hHeld ?_; rotate_left 1; (focus (intro wq hSw; (try dsimp only at hSw);  go_simp <;> with_reducible rfl))) | (refine wpAnyH_take (i := 0) (v := undef) (Reg.get rfl) (by kernel_rfl) (by kernel_rfl) (by kernel_rfl) (fun _ _ _ h => h) (Or.inr ⟨by rfl, rfl⟩) hHeld ?_)
        try simp only [Act.put, List.setIfInBounds_toArray, List.set_cons_zero, List.set_cons_succ]
        first | (refine wpAnyH_take (i := 1) (v := ?_) (Reg.get rfl) (by kernel_rfl) (by kernel_rfl) (by kernel_rfl) (fun _ _ _ h => h) (Or.inl ⟨by rfl, ?_⟩) hHeld ?_; rotate_left 1; (focus (intro wq hSw; (try dsimp only at hSw);  go_simp <;> with_reducible rfl))) | (refine wpAnyH_take (i := 1) (v := undef) (Reg.get rfl) (by kernel_rfl) (by kernel_rfl) (by kernel_rfl) (fun _ _ _ h => h) (Or.inr ⟨by rfl, rfl⟩) hHeld ?_)
        try simp only [Act.put, List.setIfInBounds_toArray, List.set_cons_zero, List.set_cons_succ]
        first | (refine wpAnyH_take (i := 2) (v := ?_) (Reg.get rfl) (by kernel_rfl) (by kernel_rfl) (by kernel_rfl) (fun _ _ _ h => h) (Or.inl ⟨by rfl, ?_⟩) hHeld ?_; rotate_left 1; (focus (intro wq hSw; (try dsimp only at hSw);  go_simp <;> with_reducible rfl))) | (refine wpAnyH_take (i := 2) (v := undef) (Reg.get rfl) (by kernel_rfl) (by kernel_rfl) (by kernel_rfl) (fun _ _ _ h => h) (Or.inr ⟨by rfl, rfl⟩) hHeld ?_)
        try simp only [Act.put, List.setIfInBounds_toArray, List.set_cons_zero, List.set_cons_succ]
        first | (refine wpAnyH_take (i := 3) (v := ?_) (Reg.get rfl) (by kernel_rfl) (by kernel_rfl) (by kernel_rfl) (fun _ _ _ h => h) (Or.inl ⟨by rfl, ?_⟩) hHeld ?_; rotate_left 1; (focus (intro wq hSw; (try dsimp only at hSw);  go_simp <;> with_reducible rfl))) | (refine wpAnyH_take (i := 3) (v := undef) (Reg.get rfl) (by kernel_rfl) (by kernel_rfl) (by kernel_rfl) (fun _ _ _ h => h) (Or.inr ⟨by rfl, rfl⟩) hHeld ?_)
        try simp only [Act.put, List.setIfInBounds_toArray, List.set_cons_zero, List.set_cons_succ]
        first | (refine wpAnyH_take (i := 4) (v := ?_) (Reg.get rfl) (by kernel_rfl) (by kernel_rfl) (by kernel_rfl) (fun _ _ _ h => h) (Or.inl ⟨by rfl, ?_⟩) hHeld ?_; rotate_left 1; (focus (intro wq hSw; (try dsimp only at hSw);  go_simp <;> with_reducible rfl))) | (refine wpAnyH_take (i := 4) (v := undef) (Reg.get rfl) (by kernel_rfl) (by kernel_rfl) (by kernel_rfl) (fun _ _ _ h => h) (Or.inr ⟨by rfl, rfl⟩) hHeld ?_)
        try simp only [Act.put, List.setIfInBounds_toArray, List.set_cons_zero, List.set_cons_succ]
        first | (refine wpAnyH_take (i := 5) (v := ?_) (Reg.get rfl) (by kernel_rfl) (by kernel_rfl) (by kernel_rfl) (fun _ _ _ h => h) (Or.inl ⟨by rfl, ?_⟩) hHeld ?_; rotate_left 1; (focus (intro wq hSw; (try dsimp only at hSw);  go_simp <;> with_reducible rfl))) | (refine wpAnyH_take (i := 5) (v := undef) (Reg.get rfl) (by kernel_rfl) (by kernel_rfl) (by kernel_rfl) (fun _ _ _ h => h) (Or.inr ⟨by rfl, rfl⟩) hHeld ?_)
        try simp only [Act.put, List.setIfInBounds_toArray, List.set_cons_zero, List.set_cons_succ]
        first | (refine wpAnyH_take (i := 6) (v := ?_) (Reg.get rfl) (by kernel_rfl) (by kernel_rfl) (by kernel_rfl) (fun _ _ _ h => h) (Or.inl ⟨by rfl, ?_⟩) hHeld ?_; rotate_left 1; (focus (intro wq hSw; (try dsimp only at hSw);  go_simp <;> with_reducible rfl))) | (refine wpAnyH_take (i := 6) (v := undef) (Reg.get rfl) (by kernel_rfl) (by kernel_rfl) (by kernel_rfl) (fun _ _ _ h => h) (Or.inr ⟨by rfl, rfl⟩) hHeld ?_)
        try simp only [Act.put, List.setIfInBounds_toArray, List.set_cons_zero, List.set_cons_succ]
        first | (refine wpAnyH_take (i := 7) (v := ?_) (Reg.get rfl) (by kernel_rfl) (by kernel_rfl) (by kernel_rfl) (fun _ _ _ h => h) (Or.inl ⟨by rfl, ?_⟩) hHeld ?_; rotate_left 1; (focus (intro wq hSw; (try dsimp only at hSw);  go_simp <;> with_reducible rfl))) | (refine wpAnyH_take (i := 7) (v := undef) (Reg.get rfl) (by kernel_rfl) (by kernel_rfl) (by kernel_rfl) (fun _ _ _ h => h) (Or.inr ⟨by rfl, rfl⟩) hHeld ?_)
        try simp only [Act.put, List.setIfInBounds_toArray, List.set_cons_zero, List.set_cons_succ]
        first | (refine wpAnyH_take (i := 8) (v := ?_) (Reg.get rfl) (by kernel_rfl) (by kernel_rfl) (by kernel_rfl) (fun _ _ _ h => h) (Or.inl ⟨by rfl, ?_⟩) hHeld ?_; rotate_left 1; (focus (intro wq hSw; (try dsimp only at hSw);  go_simp <;> with_reducible rfl))) | (refine wpAnyH_take (i := 8) (v := undef) (Reg.get rfl) (by kernel_rfl) (by kernel_rfl) (by kernel_rfl) (fun _ _ _ h => h) (Or.inr ⟨by rfl, rfl⟩) hHeld ?_)
        try simp only [Act.put, List.setIfInBounds_toArray, List.set_cons_zero, List.set_cons_succ]
        first | (refine wpAnyH_take (i := 9) (v := ?_) (Reg.get rfl) (by kernel_rfl) (by kernel_rfl) (by kernel_rfl) (fun _ _ _ h => h) (Or.inl ⟨by rfl, ?_⟩) hHeld ?_; rotate_left 1; (focus (intro wq hSw; (try dsimp only at hSw);  go_simp <;> with_reducible rfl))) | (refine wpAnyH_take (i := 9) (v := undef) (Reg.get rfl) (by kernel_rfl) (by kernel_rfl) (by kernel_rfl) (fun _ _ _ h => h) (Or.inr ⟨by rfl, rfl⟩) hHeld ?_)
        try simp only [Act.put, List.setIfInBounds_toArray, List.set_cons_zero, List.set_cons_succ]
        first | (refine wpAnyH_take (i := 10) (v := ?_) (Reg.get rfl) (by kernel_rfl) (by kernel_rfl) (by kernel_rfl) (fun _ _ _ h => h) (Or.inl ⟨by rfl, ?_⟩) hHeld ?_; rotate_left 1; (focus (intro wq hSw; (try dsimp only at hSw);  go_simp <;> with_reducible rfl))) | (refine wpAnyH_take (i := 10) (v := undef) (Reg.get rfl) (by kernel_rfl) (by kernel_rfl) (by kernel_rfl) (fun _ _ _ h => h) (Or.inr ⟨by rfl, rfl⟩) hHeld ?_)
        try simp only [Act.put, List.setIfInBounds_toArray, List.set_cons_zero, List.set_cons_succ]
        first | (refine wpAnyH_take (i := 11) (v := ?_) (Reg.get rfl) (by kernel_rfl) (by kernel_rfl) (by kernel_rfl) (fun _ _ _ h => h) (Or.inl ⟨by rfl, ?_⟩) hHeld ?_; rotate_left 1; (focus (intro wq hSw; (try dsimp only at hSw);  go_simp <;> with_reducible rfl))) | (refine wpAnyH_take (i := 11) (v := undef) (Reg.get rfl) (by kernel_rfl) (by kernel_rfl) (by kernel_rfl) (fun _ _ _ h => h) (Or.inr ⟨by rfl, rfl⟩) hHeld ?_)
        try simp only [Act.put, List.setIfInBounds_toArray, List.set_cons_zero, List.set_cons_succ]
        first | (refine wpAnyH_take (i := 12) (v := ?_) (Reg.get rfl) (by kernel_rfl) (by kernel_rfl) (by kernel_rfl) (fun _ _ _ h => h) (Or.inl ⟨by rfl, ?_⟩) hHeld ?_; rotate_left 1; (focus (intro wq hSw; (try dsimp only at hSw);  go_simp <;> with_reducible rfl))) | (refine wpAnyH_take (i := 12) (v := undef) (Reg.get rfl) (by kernel_rfl) (by kernel_rfl) (by kernel_rfl) (fun _ _ _ h => h) (Or.inr ⟨by rfl, rfl⟩) hHeld ?_)
        try simp only [Act.put, List.setIfInBounds_toArray, List.set_cons_zero, List.set_cons_succ]
        first | (refine wpAnyH_take (i := 13) (v := ?_) (Reg.get rfl) (by kernel_rfl) (by kernel_rfl) (by kernel_rfl) (fun _ _ _ h => h) (Or.inl ⟨by rfl, ?_⟩) hHeld ?_; rotate_left 1; (focus (intro wq hSw; (try dsimp only at hSw);  go_simp <;> with_reducible rfl))) | (refine wpAnyH_take (i := 13) (v := undef) (Reg.get rfl) (by kernel_rfl) (by kernel_rfl) (by kernel_rfl) (fun _ _ _ h => h) (Or.inr ⟨by rfl, rfl⟩) hHeld ?_)
        try simp only [Act.put, List.setIfInBounds_toArray, List.set_cons_zero, List.set_cons_succ]
        first | (refine wpAnyH_take (i := 14) (v := ?_) (Reg.get rfl) (by kernel_rfl) (by kernel_rfl) (by kernel_rfl) (fun _ _ _ h => h) (Or.inl ⟨by rfl, ?_⟩) hHeld ?_; rotate_left 1; (focus (intro wq hSw; (try dsimp only at hSw);  go_simp <;> with_reducible rfl))) | (refine wpAnyH_take (i := 14) (v := undef) (Reg.get rfl) (by kernel_rfl) (by kernel_rfl) (by kernel_rfl) (fun _ _ _ h => h) (Or.inr ⟨by rfl, rfl⟩) hHeld ?_)
        try simp only [Act.put, List.setIfInBounds_toArray, List.set_cons_zero, List.set_cons_succ]
        first | (refine wpAnyH_take (i := 15) (v := ?_) (Reg.get rfl) (by kernel_rfl) (by kernel_rfl) (by kernel_rfl) (fun _ _ _ h => h) (Or.inl ⟨by rfl, ?_⟩) hHeld ?_; rotate_left 1; (focus (intro wq hSw; (try dsimp only at hSw);  go_simp <;> with_reducible rfl))) | (refine wpAnyH_take (i := 15) (v := undef) (Reg.get rfl) (by kernel_rfl) (by kernel_rfl) (by kernel_rfl) (fun _ _ _ h => h) (Or.inr ⟨by rfl, rfl⟩) hHeld ?_)
        try simp only [Act.put, List.setIfInBounds_toArray, List.set_cons_zero, List.set_cons_succ]
        first | (refine wpAnyH_take (i := 16) (v := ?_) (Reg.get rfl) (by kernel_rfl) (by kernel_rfl) (by kernel_rfl) (fun _ _ _ h => h) (Or.inl ⟨by rfl, ?_⟩) hHeld ?_; rotate_left 1; (focus (intro wq hSw; (try dsimp only at hSw);  go_simp <;> with_reducible rfl))) | (refine wpAnyH_take (i := 16) (v := undef) (Reg.get rfl) (by kernel_rfl) (by kernel_rfl) (by kernel_rfl) (fun _ _ _ h => h) (Or.inr ⟨by rfl, rfl⟩) hHeld ?_)
        try simp only [Act.put, List.setIfInBounds_toArray, List.set_cons_zero, List.set_cons_succ]
        first | (refine wpAnyH_take (i := 17) (v := ?_) (Reg.get rfl) (by kernel_rfl) (by kernel_rfl) (by kernel_rfl) (fun _ _ _ h => h) (Or.inl ⟨by rfl, ?_⟩) hHeld ?_; rotate_left 1; (focus (intro wq hSw; (try dsimp only at hSw);  go_simp <;> with_reducible rfl))) | (refine wpAnyH_take (i := 17) (v := undef) (Reg.get rfl) (by kernel_rfl) (by kernel_rfl) (by kernel_rfl) (fun _ _ _ h => h) (Or.inr ⟨by rfl, rfl⟩) hHeld ?_)
        try simp only [Act.put, List.setIfInBounds_toArray, List.set_cons_zero, List.set_cons_succ]
        first | ((refine wpAnyH_take (i := 18) (v := undef) (Reg.get rfl) (by kernel_rfl) (by kernel_rfl) (by kernel_rfl) (fun _ _ _ h => h) (Or.inr ⟨by rfl, rfl⟩) hHeld ?_)) | (refine wpAnyH_ready (rs := [18]) (by kernel_rfl) (by simp) ?_; refine AllReadyH.cons (Reg.get rfl) (fun K hK => ?_) AllReadyH.nil; clear hHeld; go_simp; (first | ((go_at_call 49; refine (HH.out _ (HT.out.drewN (m + 1))).mono ?_; rintro x w' ⟨rfl, rfl⟩))); refine hK.out _ _ ?_ (fun hHeld => ?_); ((try dsimp only); exact ⟨q0, q3, hc⟩); clear hK K)
        try simp only [Act.put, List.setIfInBounds_toArray, List.set_cons_zero, List.set_cons_succ]
        first | (refine wpAnyH_take (i := 19) (v := ?_) (Reg.get rfl) (by kernel_rfl) (by kernel_rfl) (by kernel_rfl) (fun _ _ _ h => h) (Or.inl ⟨by rfl, ?_⟩) hHeld ?_; rotate_left 1; (focus (intro wq hSw; (try dsimp only at hSw);  go_simp <;> with_reducible rfl))) | (refine wpAnyH_take (i := 19) (v := undef) (Reg.get rfl) (by kernel_rfl) (by kernel_rfl) (by kernel_rfl) (fun _ _ _ h => h) (Or.inr ⟨by rfl, rfl⟩) hHeld ?_)
        try simp only [Act.put, List.setIfInBounds_toArray, List.set_cons_zero, List.set_cons_succ]
        refine wpAnyH_done (by kernel_rfl) ?_ _
        go_wp2
        go_ret
        exact saysK_no HX.out (by first | exact (below_drewN HB0.out _).drew | exact below_drewN HB0.out _)
      · have d1 : (z == ke) = false := by simpa using hz
        by_cases hm : z ∈ zs.take k
        · have HX := Lib.hid (HB.out (fun h => h.2 hm))
          have HH := Lib.hid (fun W h => hasY_spec (some ⟨g, o, none⟩) k c (zs.take k) z W h hm)
          clear HS HB hz hm
          go_wp2
          refine wp_region_held_drew (S := (fun w' => w'.cell? ⟨w.heap.size, 0, none⟩ = some (.int .i64 ke) ∧ w'.cell? ⟨w.heap.size, 3, none⟩ = some (.slice (some ⟨g, o, none⟩) n c) ∧ w'.cell? ⟨g, o + k, none⟩ = some (.int .i64 z))) (by kernel_rfl) ?_ (fun hHeld => ?_)
          · (try dsimp only); exact ⟨q0, q3, hc⟩
          first | (refine wpAnyH_take (i := 0) (v := ?_) (Reg.get rfl) (by kernel_rfl) (by kernel_rfl) (by kernel_rfl) (fun _ _ _ h => h) (Or.inl ⟨by rfl, ?_⟩) hHeld ?_; rotate_left 1; (focus (intro wq hSw; (try dsimp only at hSw);  go_simp <;> with_reducible rfl))) | (refine wpAnyH_take (i := 0) (v := undef) (Reg.get rfl) (by kernel_rfl) (by kernel_rfl) (by kernel_rfl) (fun _ _ _ h => h) (Or.inr ⟨by rfl, rfl⟩) hHeld ?_)
          try simp only [Act.put, List.setIfInBounds_toArray, List.set_cons_zero, List.set_cons_succ]
          first | (refine wpAnyH_take (i := 1) (v := ?_) (Reg.get rfl) (by kernel_rfl) (by kernel_rfl) (by kernel_rfl) (fun _ _ _ h => h) (Or.inl ⟨by rfl, ?_⟩) hHeld ?_; rotate_left 1; (focus (intro wq hSw; (try dsimp only at hSw);  go_simp <;> with_reducible rfl))) | (refine wpAnyH_take (i := 1) (v := undef) (Reg.get rfl) (by kernel_rfl) (by kernel_rfl) (by kernel_rfl) (fun _ _ _ h => h) (Or.inr ⟨by rfl, rfl⟩) hHeld ?_)
          try simp only [Act.put, List.setIfInBounds_toArray, List.set_cons_zero, List.set_cons_succ]
          first | (refine wpAnyH_take (i := 2) (v := ?_) (Reg.get rfl) (by kernel_rfl) (by kernel_rfl) (by kernel_rfl) (fun _ _ _ h => h) (Or.inl ⟨by rfl, ?_⟩) hHeld ?_; rotate_left 1; (focus (intro wq hSw; (try dsimp only at hSw);  go_simp <;> with_reducible rfl))) | (refine wpAnyH_take (i := 2) (v := undef) (Reg.get rfl) (by kernel_rfl) (by kernel_rfl) (by kernel_rfl) (fun _ _ _ h => h) (Or.inr ⟨by rfl, rfl⟩) hHeld ?_)
          try simp only [Act.put, List.setIfInBounds_toArray, List.set_cons_zero, List.set_cons_succ]
          first | (refine wpAnyH_take (i := 3) (v := ?_) (Reg.get rfl) (by kernel_rfl) (by kernel_rfl) (by kernel_rfl) (fun _ _ _ h => h) (Or.inl ⟨by rfl, ?_⟩) hHeld ?_; rotate_left 1; (focus (intro wq hSw; (try dsimp only at hSw);  go_simp <;> with_reducible rfl))) | (refine wpAnyH_take (i := 3) (v := undef) (Reg.get rfl) (by kernel_rfl) (by kernel_rfl) (by kernel_rfl) (fun _ _ _ h => h) (Or.inr ⟨by rfl, rfl⟩) hHeld ?_)
          try simp only [Act.put, List.setIfInBounds_toArray, List.set_cons_zero, List.set_cons_succ]
          first | (refine wpAnyH_take (i := 4) (v := ?_) (Reg.get rfl) (by kernel_rfl) (by kernel_rfl) (by kernel_rfl) (fun _ _ _ h => h) (Or.inl ⟨by rfl, ?_⟩) hHeld ?_; rotate_left 1; (focus (intro wq hSw; (try dsimp only at hSw);  go_simp <;> with_reducible rfl))) | (refine wpAnyH_take (i := 4) (v := undef) (Reg.get rfl) (by kernel_rfl) (by kernel_rfl) (by kernel_rfl) (fun _ _ _ h => h) (Or.inr ⟨by rfl, rfl⟩) hHeld ?_)
          try simp only [Act.put, List.setIfInBounds_toArray, List.set_cons_zero, List.set_cons_succ]
          first | (refine wpAnyH_take (i := 5) (v := ?_) (Reg.get rfl) (by kernel_rfl) (by kernel_rfl) (by kernel_rfl) (fun _ _ _ h => h) (Or.inl ⟨by rfl, ?_⟩) hHeld ?_; rotate_left 1; (focus (intro wq hSw; (try dsimp only at hSw);  go_simp <;> with_reducible rfl))) | (refine wpAnyH_take (i := 5) (v := undef) (Reg.get rfl) (by kernel_rfl) (by kernel_rfl) (by kernel_rfl) (fun _ _ _ h => h) (Or.inr ⟨by rfl, rfl⟩) hHeld ?_)
          try simp only [Act.put, List.setIfInBounds_toArray, List.set_cons_zero, List.set_cons_succ]
          first | (refine wpAnyH_take (i := 6) (v := ?_) (Reg.get rfl) (by kernel_rfl) (by kernel_rfl) (by kernel_rfl) (fun _ _ _ h => h) (Or.inl ⟨by rfl, ?_⟩) hHeld ?_; rotate_left 1; (focus (intro wq hSw; (try dsimp only at hSw);  go_simp <;> with_reducible rfl))) | (refine wpAnyH_take (i := 6) (v := undef) (Reg.get rfl) (by kernel_rfl) (by kernel_rfl) (by kernel_rfl) (fun _ _ _ h => h) (Or.inr ⟨by rfl, rfl⟩) hHeld ?_)
          try simp only [Act.put, List.setIfInBounds_toArray, List.set_cons_zero, List.set_cons_succ]
          first | (refine wpAnyH_take (i := 7) (v := ?_) (Reg.get rfl) (by kernel_rfl) (by kernel_rfl) (by kernel_rfl) (fun _ _ _ h => h) (Or.inl ⟨by rfl, ?_⟩) hHeld ?_; rotate_left 1; (focus (intro wq hSw; (try dsimp only at hSw);  go_simp <;> with_reducible rfl))) | (refine wpAnyH_take (i := 7) (v := undef) (Reg.get rfl) (by kernel_rfl) (by kernel_rfl) (by kernel_rfl) (fun _ _ _ h => h) (Or.inr ⟨by rfl, rfl⟩) hHeld ?_)
          try simp only [Act.put, List.setIfInBounds_toArray, List.set_cons_zero, List.set_cons_succ]
          first | (refine wpAnyH_take (i := 8) (v := ?_) (Reg.get rfl) (by kernel_rfl) (by kernel_rfl) (by kernel_rfl) (fun _ _ _ h => h) (Or.inl ⟨by rfl, ?_⟩) hHeld ?_; rotate_left 1; (focus (intro wq hSw; (try dsimp only at hSw);  go_simp <;> with_reducible rfl))) | (refine wpAnyH_take (i := 8) (v := undef) (Reg.get rfl) (by kernel_rfl) (by kernel_rfl) (by kernel_rfl) (fun _ _ _ h => h) (Or.inr ⟨by rfl, rfl⟩) hHeld ?_)
          try simp only [Act.put, List.setIfInBounds_toArray, List.set_cons_zero, List.set_cons_succ]
          first | (refine wpAnyH_take (i := 9) (v := ?_) (Reg.get rfl) (by kernel_rfl) (by kernel_rfl) (by kernel_rfl) (fun _ _ _ h => h) (Or.inl ⟨by rfl, ?_⟩) hHeld ?_; rotate_left 1; (focus (intro wq hSw; (try dsimp only at hSw);  go_simp <;> with_reducible rfl))) | (refine wpAnyH_take (i := 9) (v := undef) (Reg.get rfl) (by kernel_rfl) (by kernel_rfl) (by kernel_rfl) (fun _ _ _ h => h) (Or.inr ⟨by rfl, rfl⟩) hHeld ?_)
          try simp only [Act.put, List.setIfInBounds_toArray, List.set_cons_zero, List.set_cons_succ]
          first | (refine wpAnyH_take (i := 10) (v := ?_) (Reg.get rfl) (by kernel_rfl) (by kernel_rfl) (by kernel_rfl) (fun _ _ _ h => h) (Or.inl ⟨by rfl, ?_⟩) hHeld ?_; rotate_left 1; (focus (intro wq hSw; (try dsimp only at hSw);  go_simp <;> with_reducible rfl))) | (refine wpAnyH_take (i := 10) (v := undef) (Reg.get rfl) (by kernel_rfl) (by kernel_rfl) (by kernel_rfl) (fun _ _ _ h => h) (Or.inr ⟨by rfl, rfl⟩) hHeld ?_)
          try simp only [Act.put, List.setIfInBounds_toArray, List.set_cons_zero, List.set_cons_succ]
          first | (refine wpAnyH_take (i := 11) (v := ?_) (Reg.get rfl) (by kernel_rfl) (by kernel_rfl) (by kernel_rfl) (fun _ _ _ h => h) (Or.inl ⟨by rfl, ?_⟩) hHeld ?_; rotate_left 1; (focus (intro wq hSw; (try dsimp only at hSw);  go_simp <;> with_reducible rfl))) | (refine wpAnyH_take (i := 11) (v := undef) (Reg.get rfl) (by kernel_rfl) (by kernel_rfl) (by kernel_rfl) (fun _ _ _ h => h) (Or.inr ⟨by rfl, rfl⟩) hHeld ?_)
          try simp only [Act.put, List.setIfInBounds_toArray, List.set_cons_zero, List.set_cons_succ]
          first | (refine wpAnyH_take (i := 12) (v := ?_) (Reg.get rfl) (by kernel_rfl) (by kernel_rfl) (by kernel_rfl) (fun _ _ _ h => h) (Or.inl ⟨by rfl, ?_⟩) hHeld ?_; rotate_left 1; (focus (intro wq hSw; (try dsimp only at hSw);  go_simp <;> with_reducible rfl))) | (refine wpAnyH_take (i := 12) (v := undef) (Reg.get rfl) (by kernel_rfl) (by kernel_rfl) (by kernel_rfl) (fun _ _ _ h => h) (Or.inr ⟨by rfl, rfl⟩) hHeld ?_)
          try simp only [Act.put, List.setIfInBounds_toArray, List.set_cons_zero, List.set_cons_succ]
          first | (refine wpAnyH_take (i := 13) (v := ?_) (Reg.get rfl) (by kernel_rfl) (by kernel_rfl) (by kernel_rfl) (fun _ _ _ h => h) (Or.inl ⟨by rfl, ?_⟩) hHeld ?_; rotate_left 1; (focus (intro wq hSw; (try dsimp only at hSw);  go_simp <;> with_reducible rfl))) | (refine wpAnyH_take (i := 13) (v := undef) (Reg.get rfl) (by kernel_rfl) (by kernel_rfl) (by kernel_rfl) (fun _ _ _ h => h) (Or.inr ⟨by rfl, rfl⟩) hHeld ?_)
          try simp only [Act.put, List.setIfInBounds_toArray, List.set_cons_zero, List.set_cons_succ]
          first | (refine wpAnyH_take (i := 14) (v := ?_) (Reg.get rfl) (by kernel_rfl) (by kernel_rfl) (by kernel_rfl) (fun _ _ _ h => h) (Or.inl ⟨by rfl, ?_⟩) hHeld ?_; rotate_left 1; (focus (intro wq hSw; (try dsimp only at hSw);  go_simp <;> with_reducible rfl))) | (refine wpAnyH_take (i := 14) (v := undef) (Reg.get rfl) (by kernel_rfl) (by kernel_rfl) (by kernel_rfl) (fun _ _ _ h => h) (Or.inr ⟨by rfl, rfl⟩) hHeld ?_)
          try simp only [Act.put, List.setIfInBounds_toArray, List.set_cons_zero, List.set_cons_succ]
          first | (refine wpAnyH_take (i := 15) (v := ?_) (Reg.get rfl) (by kernel_rfl) (by kernel_rfl) (by kernel_rfl) (fun _ _ _ h => h) (Or.inl ⟨by rfl, ?_⟩) hHeld ?_; rotate_left 1; (focus (intro wq hSw; (try dsimp only at hSw);  go_simp <;> with_reducible rfl))) | (refine wpAnyH_take (i := 15) (v := undef) (Reg.get rfl) (by kernel_rfl) (by kernel_rfl) (by kernel_rfl) (fun _ _ _ h => h) (Or.inr ⟨by rfl, rfl⟩) hHeld ?_)
          try simp only [Act.put, List.setIfInBounds_toArray, List.set_cons_zero, List.set_cons_succ]
          first | (refine wpAnyH_take (i := 16) (v := ?_) (Reg.get rfl) (by kernel_rfl) (by kernel_rfl) (by kernel_rfl) (fun _ _ _ h => h) (Or.inl ⟨by rfl, ?_⟩) hHeld ?_; rotate_left 1; (focus (intro wq hSw; (try dsimp only at hSw);  go_simp <;> with_reducible rfl))) | (refine wpAnyH_take (i := 16) (v := undef) (Reg.get rfl) (by kernel_rfl) (by kernel_rfl) (by kernel_rfl) (fun _ _ _ h => h) (Or.inr ⟨by rfl, rfl⟩) hHeld ?_)
          try simp only [Act.put, List.setIfInBounds_toArray, List.set_cons_zero, List.set_cons_succ]
          first | (refine wpAnyH_take (i := 17) (v := ?_) (Reg.get rfl) (by kernel_rfl) (by kernel_rfl) (by kernel_rfl) (fun _ _ _ h => h) (Or.inl ⟨by rfl, ?_⟩) hHeld ?_; rotate_left 1; (focus (intro wq hSw; (try dsimp only at hSw);  go_simp <;> with_reducible rfl))) | (refine wpAnyH_take (i := 17) (v := undef) (Reg.get rfl) (by kernel_rfl) (by kernel_rfl) (by kernel_rfl) (fun _ _ _ h => h) (Or.inr ⟨by rfl, rfl⟩) hHeld ?_)
          try simp only [Act.put, List.setIfInBounds_toArray, List.set_cons_zero, List.set_cons_succ]
          first | ((refine wpAnyH_take (i := 18) (v := undef) (Reg.get rfl) (by kernel_rfl) (by kernel_rfl) (by kernel_rfl) (fun _ _ _ h => h) (Or.inr ⟨by rfl, rfl⟩) hHeld ?_)) | (refine wpAnyH_ready (rs := [18]) (by kernel_rfl) (by simp) ?_; refine AllReadyH.cons (Reg.get rfl) (fun K hK => ?_) AllReadyH.nil; clear hHeld; go_simp; (first | ((go_at_call 49; refine (HH.out _ (HT.out.drewN (m + 1))).mono ?_; rintro x w' ⟨rfl, rfl⟩))); refine hK.out _ _ ?_ (fun hHeld => ?_); ((try dsimp only); exact ⟨q0, q3, hc⟩); clear hK K)
          try simp only [Act.put, List.setIfInBounds_toArray, List.set_cons_zero, List.set_cons_succ]
          first | (refine wpAnyH_take (i := 19) (v := ?_) (Reg.get rfl) (by kernel_rfl) (by kernel_rfl) (by kernel_rfl) (fun _ _ _ h => h) (Or.inl ⟨by rfl, ?_⟩) hHeld ?_; rotate_left 1; (focus (intro wq hSw; (try dsimp only at hSw);  go_simp <;> with_reducible rfl))) | (refine wpAnyH_take (i := 19) (v := undef) (Reg.get rfl) (by kernel_rfl) (by kernel_rfl) (by kernel_rfl) (fun _ _ _ h => h) (Or.inr ⟨by rfl, rfl⟩) hHeld ?_)
          try simp only [Act.put, List.setIfInBounds_toArray, List.set_cons_zero, List.set_cons_succ]
          refine wpAnyH_done (by kernel_rfl) ?_ _
          go_wp2
          go_ret
          exact saysK_no HX.out (by first | exact (below_drewN HB0.out _).drew | exact below_drewN HB0.out _)
        · have HX := Lib.hid (HS.out hz hm)
          have HH := Lib.hid (fun W h => hasN_spec (some ⟨g, o, none⟩) k c (zs.take k) z W h hm)
          clear HS HB hz hm
          go_wp2
          refine wp_region_held_drew (S := (fun w' => w'.cell? ⟨w.heap.size, 0, none⟩ = some (.int .i64 ke) ∧ w'.cell? ⟨w.heap.size, 3, none⟩ = some (.slice (some ⟨g, o, none⟩) n c) ∧ w'.cell? ⟨g, o + k, none⟩ = some (.int .i64 z))) (by kernel_rfl) ?_ (fun hHeld => ?_)
          · (try dsimp only); exact ⟨q0, q3, hc⟩
          first | (refine wpAnyH_take (i := 0) (v := ?_) (Reg.get rfl) (by kernel_rfl) (by kernel_rfl) (by kernel_rfl) (fun _ _ _ h => h) (Or.inl ⟨by rfl, ?_⟩) hHeld ?_; rotate_left 1; (focus (intro wq hSw; (try dsimp only at hSw);  go_simp <;> with_reducible rfl))) | (refine wpAnyH_take (i := 0) (v := undef) (Reg.get rfl) (by kernel_rfl) (by kernel_rfl) (by kernel_rfl) (fun _ _ _ h => h) (Or.inr ⟨by rfl, rfl⟩) hHeld ?_)
          try simp only [Act.put, List.setIfInBounds_toArray, List.set_cons_zero, List.set_cons_succ]
          first | (refine wpAnyH_take (i := 1) (v := ?_) (Reg.get rfl) (by kernel_rfl) (by kernel_rfl) (by kernel_rfl) (fun _ _ _ h => h) (Or.inl ⟨by rfl, ?_⟩) hHeld ?_; rotate_left 1; (focus (intro wq hSw; (try dsimp only at hSw);  go_simp <;> with_reducible rfl))) | (refine wpAnyH_take (i := 1) (v := undef) (Reg.get rfl) (by kernel_rfl) (by kernel_rfl) (by kernel_rfl) (fun _ _ _ h => h) (Or.inr ⟨by rfl, rfl⟩) hHeld ?_)
          try simp only [Act.put, List.setIfInBounds_toArray, List.set_cons_zero, List.set_cons_succ]
          first | (refine wpAnyH_take (i := 2) (v := ?_) (Reg.get rfl) (by kernel_rfl) (by kernel_rfl) (by kernel_rfl) (fun _ _ _ h => h) (Or.inl ⟨by rfl, ?_⟩) hHeld ?_; rotate_left 1; (focus (intro wq hSw; (try dsimp only at hSw);  go_simp <;> with_reducible rfl))) | (refine wpAnyH_take (i := 2) (v := undef) (Reg.get rfl) (by kernel_rfl) (by kernel_rfl) (by kernel_rfl) (fun _ _ _ h => h) (Or.inr ⟨by rfl, rfl⟩) hHeld ?_)
          try simp only [Act.put, List.setIfInBounds_toArray, List.set_cons_zero, List.set_cons_succ]
          first | (refine wpAnyH_take (i := 3) (v := ?_) (Reg.get rfl) (by kernel_rfl) (by kernel_rfl) (by kernel_rfl) (fun _ _ _ h => h) (Or.inl ⟨by rfl, ?_⟩) hHeld ?_; rotate_left 1; (focus (intro wq hSw; (try dsimp only at hSw);  go_simp <;> with_reducible rfl))) | (refine wpAnyH_take (i := 3) (v := undef) (Reg.get rfl) (by kernel_rfl) (by kernel_rfl) (by kernel_rfl) (fun _ _ _ h => h) (Or.inr ⟨by rfl, rfl⟩) hHeld ?_)
          try simp only [Act.put, List.setIfInBounds_toArray, List.set_cons_zero, List.set_cons_succ]
          first | (refine wpAnyH_take (i := 4) (v := ?_) (Reg.get rfl) (by kernel_rfl) (by kernel_rfl) (by kernel_rfl) (fun _ _ _ h => h) (Or.inl ⟨by rfl, ?_⟩) hHeld ?_; rotate_left 1; (focus (intro wq hSw; (try dsimp only at hSw);  go_simp <;> with_reducible rfl))) | (refine wpAnyH_take (i := 4) (v := undef) (Reg.get rfl) (by kernel_rfl) (by kernel_rfl) (by kernel_rfl) (fun _ _ _ h => h) (Or.inr ⟨by rfl, rfl⟩) hHeld ?_)
          try simp only [Act.put, List.setIfInBounds_toArray, List.set_cons_zero, List.set_cons_succ]
          first | (refine wpAnyH_take (i := 5) (v := ?_) (Reg.get rfl) (by kernel_rfl) (by kernel_rfl) (by kernel_rfl) (fun _ _ _ h => h) (Or.inl ⟨by rfl, ?_⟩) hHeld ?_; rotate_left 1; (focus (intro wq hSw; (try dsimp only at hSw);  go_simp <;> with_reducible rfl))) | (refine wpAnyH_take (i := 5) (v := undef) (Reg.get rfl) (by kernel_rfl) (by kernel_rfl) (by kernel_rfl) (fun _ _ _ h => h) (Or.inr ⟨by rfl, rfl⟩) hHeld ?_)
          try simp only [Act.put, List.setIfInBounds_toArray, List.set_cons_zero, List.set_cons_succ]
          first | (refine wpAnyH_take (i := 6) (v := ?_) (Reg.get rfl) (by kernel_rfl) (by kernel_rfl) (by kernel_rfl) (fun _ _ _ h => h) (Or.inl ⟨by rfl, ?_⟩) hHeld ?_; rotate_left 1; (focus (intro wq hSw; (try dsimp only at hSw);  go_simp <;> with_reducible rfl))) | (refine wpAnyH_take (i := 6) (v := undef) (Reg.get rfl) (by kernel_rfl) (by kernel_rfl) (by kernel_rfl) (fun _ _ _ h => h) (Or.inr ⟨by rfl, rfl⟩) hHeld ?_)
          try simp only [Act.put, List.setIfInBounds_toArray, List.set_cons_zero, List.set_cons_succ]
          first | (refine wpAnyH_take (i := 7) (v := ?_) (Reg.get rfl) (by kernel_rfl) (by kernel_rfl) (by kernel_rfl) (fun _ _ _ h => h) (Or.inl ⟨by rfl, ?_⟩) hHeld ?_; rotate_left 1; (focus (intro wq hSw; (try dsimp only at hSw);  go_simp <;> with_reducible rfl))) | (refine wpAnyH_take (i := 7) (v := undef) (Reg.get rfl) (by kernel_rfl) (by kernel_rfl) (by kernel_rfl) (fun _ _ _ h => h) (Or.inr ⟨by rfl, rfl⟩) hHeld ?_)
          try simp only [Act.put, List.setIfInBounds_toArray, List.set_cons_zero, List.set_cons_succ]
          first | (refine wpAnyH_take (i := 8) (v := ?_) (Reg.get rfl) (by kernel_rfl) (by kernel_rfl) (by kernel_rfl) (fun _ _ _ h => h) (Or.inl ⟨by rfl, ?_⟩) hHeld ?_; rotate_left 1; (focus (intro wq hSw; (try dsimp only at hSw);  go_simp <;> with_reducible rfl))) | (refine wpAnyH_take (i := 8) (v := undef) (Reg.get rfl) (by kernel_rfl) (by kernel_rfl) (by kernel_rfl) (fun _ _ _ h => h) (Or.inr ⟨by rfl, rfl⟩) hHeld ?_)
          try simp only [Act.put, List.setIfInBounds_toArray, List.set_cons_zero, List.set_cons_succ]
          first | (refine wpAnyH_take (i := 9) (v := ?_) (Reg.get rfl) (by kernel_rfl) (by kernel_rfl) (by kernel_rfl) (fun _ _ _ h => h) (Or.inl ⟨by rfl, ?_⟩) hHeld ?_; rotate_left 1; (focus (intro wq hSw; (try dsimp only at hSw);  go_simp <;> with_reducible rfl))) | (refine wpAnyH_take (i := 9) (v := undef) (Reg.get rfl) (by kernel_rfl) (by kernel_rfl) (by kernel_rfl) (fun _ _ _ h => h) (Or.inr ⟨by rfl, rfl⟩) hHeld ?_)
          try simp only [Act.put, List.setIfInBounds_toArray, List.set_cons_zero, List.set_cons_succ]
          first | (refine wpAnyH_take (i := 10) (v := ?_) (Reg.get rfl) (by kernel_rfl) (by kernel_rfl) (by kernel_rfl) (fun _ _ _ h => h) (Or.inl ⟨by rfl, ?_⟩) hHeld ?_; rotate_left 1; (focus (intro wq hSw; (try dsimp only at hSw);  go_simp <;> with_reducible rfl))) | (refine wpAnyH_take (i := 10) (v := undef) (Reg.get rfl) (by kernel_rfl) (by kernel_rfl) (by kernel_rfl) (fun _ _ _ h => h) (Or.inr ⟨by rfl, rfl⟩) hHeld ?_)
          try simp only [Act.put, List.setIfInBounds_toArray, List.set_cons_zero, List.set_cons_succ]
          first | (refine wpAnyH_take (i := 11) (v := ?_) (Reg.get rfl) (by kernel_rfl) (by kernel_rfl) (by kernel_rfl) (fun _ _ _ h => h) (Or.inl ⟨by rfl, ?_⟩) hHeld ?_; rotate_left 1; (focus (intro wq hSw; (try dsimp only at hSw);  go_simp <;> with_reducible rfl))) | (refine wpAnyH_take (i := 11) (v := undef) (Reg.get rfl) (by kernel_rfl) (by kernel_rfl) (by kernel_rfl) (fun _ _ _ h => h) (Or.inr ⟨by rfl, rfl⟩) hHeld ?_)
          try simp only [Act.put, List.setIfInBounds_toArray, List.set_cons_zero, List.set_cons_succ]
          first | (refine wpAnyH_take (i := 12) (v := ?_) (Reg.get rfl) (by kernel_rfl) (by kernel_rfl) (by kernel_rfl) (fun _ _ _ h => h) (Or.inl ⟨by rfl, ?_⟩) hHeld ?_; rotate_left 1; (focus (intro wq hSw; (try dsimp only at hSw);  go_simp <;> with_reducible rfl))) | (refine wpAnyH_take (i := 12) (v := undef) (Reg.get rfl) (by kernel_rfl) (by kernel_rfl) (by kernel_rfl) (fun _ _ _ h => h) (Or.inr ⟨by rfl, rfl⟩) hHeld ?_)
          try simp only [Act.put, List.setIfInBounds_toArray, List.set_cons_zero, List.set_cons_succ]
          first | (refine wpAnyH_take (i := 13) (v := ?_) (Reg.get rfl) (by kernel_rfl) (by kernel_rfl) (by kernel_rfl) (fun _ _ _ h => h) (Or.inl ⟨by rfl, ?_⟩) hHeld ?_; rotate_left 1; (focus (intro wq hSw; (try dsimp only at hSw);  go_simp <;> with_reducible rfl))) | (refine wpAnyH_take (i := 13) (v := undef) (Reg.get rfl) (by kernel_rfl) (by kernel_rfl) (by kernel_rfl) (fun _ _ _ h => h) (Or.inr ⟨by rfl, rfl⟩) hHeld ?_)
          try simp only [Act.put, List.setIfInBounds_toArray, List.set_cons_zero, List.set_cons_succ]
          first | (refine wpAnyH_take (i := 14) (v := ?_) (Reg.get rfl) (by kernel_rfl) (by kernel_rfl) (by kernel_rfl) (fun _ _ _ h => h) (Or.inl ⟨by rfl, ?_⟩) hHeld ?_; rotate_left 1; (focus (intro wq hSw; (try dsimp only at hSw);  go_simp <;> with_reducible rfl))) | (refine wpAnyH_take (i := 14) (v := undef) (Reg.get rfl) (by kernel_rfl) (by kernel_rfl) (by kernel_rfl) (fun _ _ _ h => h) (Or.inr ⟨by rfl, rfl⟩) hHeld ?_)
          try simp only [Act.put, List.setIfInBounds_toArray, List.set_cons_zero, List.set_cons_succ]
          first | (refine wpAnyH_take (i := 15) (v := ?_) (Reg.get rfl) (by kernel_rfl) (by kernel_rfl) (by kernel_rfl) (fun _ _ _ h => h) (Or.inl ⟨by rfl, ?_⟩) hHeld ?_; rotate_left 1; (focus (intro wq hSw; (try dsimp only at hSw);  go_simp <;> with_reducible rfl))) | (refine wpAnyH_take (i := 15) (v := undef) (Reg.get rfl) (by kernel_rfl) (by kernel_rfl) (by kernel_rfl) (fun _ _ _ h => h) (Or.inr ⟨by rfl, rfl⟩) hHeld ?_)
          try simp only [Act.put, List.setIfInBounds_toArray, List.set_cons_zero, List.set_cons_succ]
          first | (refine wpAnyH_take (i := 16) (v := ?_) (Reg.get rfl) (by kernel_rfl) (by kernel_rfl) (by kernel_rfl) (fun _ _ _ h => h) (Or.inl ⟨by rfl, ?_⟩) hHeld ?_; rotate_left 1; (focus (intro wq hSw; (try dsimp only at hSw);  go_simp <;> with_reducible rfl))) | (refine wpAnyH_take (i := 16) (v := undef) (Reg.get rfl) (by kernel_rfl) (by kernel_rfl) (by kernel_rfl) (fun _ _ _ h => h) (Or.inr ⟨by rfl, rfl⟩) hHeld ?_)
          try simp only [Act.put, List.setIfInBounds_toArray, List.set_cons_zero, List.set_cons_succ]
          first | (refine wpAnyH_take (i := 17) (v := ?_) (Reg.get rfl) (by kernel_rfl) (by kernel_rfl) (by kernel_rfl) (fun _ _ _ h => h) (Or.inl ⟨by rfl, ?_⟩) hHeld ?_; rotate_left 1; (focus (intro wq hSw; (try dsimp only at hSw);  go_simp <;> with_reducible rfl))) | (refine wpAnyH_take (i := 17) (v := undef) (Reg.get rfl) (by kernel_rfl) (by kernel_rfl) (by kernel_rfl) (fun _ _ _ h => h) (Or.inr ⟨by rfl, rfl⟩) hHeld ?_)
          try simp only [Act.put, List.setIfInBounds_toArray, List.set_cons_zero, List.set_cons_succ]
          first | ((refine wpAnyH_take (i := 18) (v := undef) (Reg.get rfl) (by kernel_rfl) (by kernel_rfl) (by kernel_rfl) (fun _ _ _ h => h) (Or.inr ⟨by rfl, rfl⟩) hHeld ?_)) | (refine wpAnyH_ready (rs := [18]) (by kernel_rfl) (by simp) ?_; refine AllReadyH.cons (Reg.get rfl) (fun K hK => ?_) AllReadyH.nil; clear hHeld; go_simp; (first | ((go_at_call 49; refine (HH.out _ (HT.out.drewN (m + 1))).mono ?_; rintro x w' ⟨rfl, rfl⟩))); refine hK.out _ _ ?_ (fun hHeld => ?_); ((try dsimp only); exact ⟨q0, q3, hc⟩); clear hK K)
          try simp only [Act.put, List.setIfInBounds_toArray, List.set_cons_zero, List.set_cons_succ]
          first | (refine wpAnyH_take (i := 19) (v := ?_) (Reg.get rfl) (by kernel_rfl) (by kernel_rfl) (by kernel_rfl) (fun _ _ _ h => h) (Or.inl ⟨by rfl, ?_⟩) hHeld ?_; rotate_left 1; (focus (intro wq hSw; (try dsimp only at hSw);  go_simp <;> with_reducible rfl))) | (refine wpAnyH_take (i := 19) (v := undef) (Reg.get rfl) (by kernel_rfl) (by kernel_rfl) (by kernel_rfl) (fun _ _ _ h => h) (Or.inr ⟨by rfl, rfl⟩) hHeld ?_)
          try simp only [Act.put, List.setIfInBounds_toArray, List.set_cons_zero, List.set_cons_succ]
          refine wpAnyH_done (by kernel_rfl) ?_ _
          go_wp2
          go_roundw
          (case rel => exact ⟨k + 1, by omega, by go_num, HX.out, m + 1, rfl⟩)
          (all_goals (simp [intOf]; omega))
    · obtain rfl : k = n := by omega
      rcases keyOk_cases ke se re with ⟨hno, hE⟩ | ⟨hyes, hE⟩
      · have HN := Lib.hid (show ¬ validK ke se re zs k from fun h => hno h.1)
        clear hno
        rcases hE with ⟨b0, b1, h1⟩ | ⟨b0, b1, h1, b2, b3⟩ | ⟨b0, b1, ⟨h1, h2⟩, h3⟩ | ⟨b0, b1, ⟨h1, h2⟩, h3, b2, b3⟩ | ⟨b0, b1, ⟨h1, h2⟩, h3, b2, b3, b4, b5⟩ | ⟨b0, b1, ⟨h1, h2⟩, ⟨h3, h4⟩, h5⟩ | ⟨b0, b1, ⟨h1, h2⟩, ⟨h3, h4⟩, b2, b3⟩ | ⟨b0, b1, ⟨h1, h2⟩, ⟨h3, h4⟩, b2, b3, b4, b5⟩
        all_goals
          go_wp2_with (first | (go_at_call 51; (first | (refine (in_spec_yes _ _ _ _ (by omega) (by omega)).mono ?_) | (refine (in_spec_no _ _ _ _ (by omega)).mono ?_)); rintro x w' ⟨rfl, rfl⟩) | (go_at_call 50; (first | (refine (vkey_spec_yes _ _ (by omega) (by omega)).mono ?_) | (refine (vkey_spec_no _ _ (by omega)).mono ?_)); rintro x w' ⟨rfl, rfl⟩))
          go_ret
          exact saysK_no HN.out (below_drewN HB0.out _)
      · have HY := Lib.hid hyes
        clear hyes
        rcases hE with ⟨b0, b1, ⟨h1, h2⟩, ⟨h3, h4⟩, b2, b3, b4, b5⟩ | ⟨b0, b1, ⟨h1, h2⟩, ⟨h3, h4⟩, h5, h6⟩
        all_goals
          go_wp2_with (first | (go_at_call 51; (first | (refine (in_spec_yes _ _ _ _ (by omega) (by omega)).mono ?_) | (refine (in_spec_no _ _ _ _ (by omega)).mono ?_)); rintro x w' ⟨rfl, rfl⟩) | (go_at_call 50; (first | (refine (vkey_spec_yes _ _ (by omega) (by omega)).mono ?_) | (refine (vkey_spec_no _ _ (by omega)).mono ?_)); rintro x w' ⟨rfl, rfl⟩))
          go_ret
          exact saysK_yes ⟨HY.out, HO.out⟩ (below_drewN HB0.out _)
theorem rest_impl_no (ke se re : Int) (A : Option Addr) (n c : Nat) (zs : List Int) (w : World) (hr : Rd w 1 A n c (zs.map (Value.int .i64))) (h : ¬ (validK ke se re zs n ∧ ke ≠ 0)) :
    Calls Tryd.prog 26 #[.agg #[.int .i64 ke, .int .i64 se, .int .i64 re, .slice A n c]] w fun x w' => x = .returned (.int .i64 0) ∧ Below w.heap.size w w' := by
  have HR := Lib.hid hr
  have HH := Lib.hid h
  clear hr h
  by_cases hk : ke = 0
  · have d1 : (ke == 0) = true := by simpa using hk
    clear hk
    go_enter Tryd.func26, Tryd.ntmps26
    go_wp2_with fail
    refine (validKs_impl ke se re A n c zs _ (HR.out.alloc _)).mono ?_
    rintro x w1 ⟨b, hb0, rfl, hb⟩
    obtain ⟨hc, hf⟩ := bcells hb
    have q0 := (hc (w.heap.size) 0 (by simp <;> omega)).trans (show _ = some (.int .i64 ke) from by first | (simp; done) | (simp [World.cell?_alloc_at]; done) | (rw [World.cell?_alloc_old _ _ _ (by simp <;> omega)]; first | (simp; done) | (simp [World.cell?_alloc_at]; done))); have q1 := (hc (w.heap.size) 1 (by simp <;> omega)).trans (show _ = some (.int .i64 se) from by first | (simp; done) | (simp [World.cell?_alloc_at]; done) | (rw [World.cell?_alloc_old _ _ _ (by simp <;> omega)]; first | (simp; done) | (simp [World.cell?_alloc_at]; done))); have q2 := (hc (w.heap.size) 2 (by simp <;> omega)).trans (show _ = some (.int .i64 re) from by first | (simp; done) | (simp [World.cell?_alloc_at]; done) | (rw [World.cell?_alloc_old _ _ _ (by simp <;> omega)]; first | (simp; done) | (simp [World.cell?_alloc_at]; done))); have q3 := (hc (w.heap.size) 3 (by simp <;> omega)).trans (show _ = some (.slice A n c) from by first | (simp; done) | (simp [World.cell?_alloc_at]; done) | (rw [World.cell?_alloc_old _ _ _ (by simp <;> omega)]; first | (simp; done) | (simp [World.cell?_alloc_at]; done)))
    have HB := Lib.hid (show Below w.heap.size w w1 from Below.trans (by go_grown) (hb.mono (by simp <;> omega)))
    have HV := Lib.hid hb0
    clear hb hc hf hb0
    cases b with
    | false =>
      go_wp2
      go_ret
      exact ⟨rfl, HB.out⟩
    | true =>
      go_wp2
      go_ret
      exact ⟨rfl, HB.out⟩
  · have d1 : (ke == 0) = false := by simpa using hk
    have HK := Lib.hid hk
    clear hk
    go_enter Tryd.func26, Tryd.ntmps26
    go_wp2_with fail
    refine (validKs_impl ke se re A n c zs _ (HR.out.alloc _)).mono ?_
    rintro x w1 ⟨b, hb0, rfl, hb⟩
    obtain ⟨hc, hf⟩ := bcells hb
    have q0 := (hc (w.heap.size) 0 (by simp <;> omega)).trans (show _ = some (.int .i64 ke) from by first | (simp; done) | (simp [World.cell?_alloc_at]; done) | (rw [World.cell?_alloc_old _ _ _ (by simp <;> omega)]; first | (simp; done) | (simp [World.cell?_alloc_at]; done))); have q1 := (hc (w.heap.size) 1 (by simp <;> omega)).trans (show _ = some (.int .i64 se) from by first | (simp; done) | (simp [World.cell?_alloc_at]; done) | (rw [World.cell?_alloc_old _ _ _ (by simp <;> omega)]; first | (simp; done) | (simp [World.cell?_alloc_at]; done))); have q2 := (hc (w.heap.size) 2 (by simp <;> omega)).trans (show _ = some (.int .i64 re) from by first | (simp; done) | (simp [World.cell?_alloc_at]; done) | (rw [World.cell?_alloc_old _ _ _ (by simp <;> omega)]; first | (simp; done) | (simp [World.cell?_alloc_at]; done))); have q3 := (hc (w.heap.size) 3 (by simp <;> omega)).trans (show _ = some (.slice A n c) from by first | (simp; done) | (simp [World.cell?_alloc_at]; done) | (rw [World.cell?_alloc_old _ _ _ (by simp <;> omega)]; first | (simp; done) | (simp [World.cell?_alloc_at]; done)))
    have HB := Lib.hid (show Below w.heap.size w w1 from Below.trans (by go_grown) (hb.mono (by simp <;> omega)))
    have HV := Lib.hid hb0
    clear hb hc hf hb0
    cases b with
    | false =>
      go_wp2
      go_ret
      exact ⟨rfl, HB.out⟩
    | true => exact absurd ⟨HV.out.1 rfl, HK.out⟩ HH.out
theorem rest_impl_yes (ke se re : Int) (A : Option Addr) (n c : Nat) (zs : List Int) (w : World) (hr : Rd w 1 A n c (zs.map (Value.int .i64))) (hv : validK ke se re zs n) (hk : ke ≠ 0) :
    Calls Tryd.prog 26 #[.agg #[.int .i64 ke, .int .i64 se, .int .i64 re, .slice A n c]] w fun x w' => x = .returned (.int .i64 (1000000 - se)) ∧ Below w.heap.size w w' := by
  have HR := Lib.hid hr
  have d1 : (ke == 0) = false := by simpa using hk
  obtain ⟨s0, s1⟩ := hv.1.2.1
  have HV := Lib.hid hv
  clear hr hk hv
  go_enter Tryd.func26, Tryd.ntmps26
  go_wp2_with fail
  refine (validKs_impl ke se re A n c zs _ (HR.out.alloc _)).mono ?_
  rintro x w1 ⟨b, hb0, rfl, hb⟩
  obtain rfl : b = true := hb0.2 HV.out
  obtain ⟨hc, hf⟩ := bcells hb
  have q0 := (hc (w.heap.size) 0 (by simp <;> omega)).trans (show _ = some (.int .i64 ke) from by first | (simp; done) | (simp [World.cell?_alloc_at]; done) | (rw [World.cell?_alloc_old _ _ _ (by simp <;> omega)]; first | (simp; done) | (simp [World.cell?_alloc_at]; done))); have q1 := (hc (w.heap.size) 1 (by simp <;> omega)).trans (show _ = some (.int .i64 se) from by first | (simp; done) | (simp [World.cell?_alloc_at]; done) | (rw [World.cell?_alloc_old _ _ _ (by simp <;> omega)]; first | (simp; done) | (simp [World.cell?_alloc_at]; done))); have q2 := (hc (w.heap.size) 2 (by simp <;> omega)).trans (show _ = some (.int .i64 re) from by first | (simp; done) | (simp [World.cell?_alloc_at]; done) | (rw [World.cell?_alloc_old _ _ _ (by simp <;> omega)]; first | (simp; done) | (simp [World.cell?_alloc_at]; done))); have q3 := (hc (w.heap.size) 3 (by simp <;> omega)).trans (show _ = some (.slice A n c) from by first | (simp; done) | (simp [World.cell?_alloc_at]; done) | (rw [World.cell?_alloc_old _ _ _ (by simp <;> omega)]; first | (simp; done) | (simp [World.cell?_alloc_at]; done)))
  have HB := Lib.hid (show Below w.heap.size w w1 from Below.trans (by go_grown) (hb.mono (by simp <;> omega)))
  clear hb hc hf hb0
  go_wp2
  go_ret
  exact ⟨rfl, HB.out⟩
end Go.Proofs.YtgbmbnofnhhblaaDoor.Ks
