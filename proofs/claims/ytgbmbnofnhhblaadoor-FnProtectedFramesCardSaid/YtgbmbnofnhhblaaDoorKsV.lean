/- Contracts on key states: membership, validity, equality, the frames that remain. -/
import Derived.Test.YtgbmbnofnhhblaaDoorKs
import Derived.Test.YtgbmbnofnhhblaaDoorReg
import Derived.IntWalk
namespace Go.Proofs.YtgbmbnofnhhblaaDoor.Ks
open Go.RowKit
open Go.Proofs.YtgbmbnofnhhblaaDoor.Num Go.Proofs.YtgbmbnofnhhblaaDoor.Mem Go.Proofs.YtgbmbnofnhhblaaDoor.Sls Go.Proofs.YtgbmbnofnhhblaaDoor.Hsh Go.Proofs.YtgbmbnofnhhblaaDoor.Own
set_option linter.unusedSimpArgs false

theorem mem_take_succ {zs : List Int} {k : Nat} {x : Int} (h : k < zs.length) (hn : x ∉ zs.take k) (hne : ¬ zs.getD k 0 = x) : x ∉ zs.take (k + 1) := by
  intro hx
  rw [take_snoc zs k h, List.mem_append] at hx
  rcases hx with hx | hx
  · exact hn hx
  · simp only [List.mem_cons, List.not_mem_nil, or_false] at hx
    exact hne hx.symm
theorem mem_getD' (zs : List Int) (k : Nat) (h : k < zs.length) : zs.getD k 0 ∈ zs := by
  rw [List.getD_eq_getElem?_getD, List.getElem?_eq_getElem h]
  exact List.getElem_mem _
/-- the answer says whether b holds; nothing has turned -/
def SaysM (b : Prop) (w : World) (e : Ending) (w' : World) : Prop := (∃ b' : Bool, (b' = true ↔ b) ∧ e = .returned (.bool b')) ∧ w = w'
set_option maxHeartbeats 1000000 in
theorem has_impl (A : Option Addr) (n c : Nat) (zs : List Int) (x : Int) (w : World) (hr : Rd w 1 A n c (zs.map (Value.int .i64))) :
    Calls Tryd.prog 55 #[.slice A n c, .int .i64 x] w (SaysM (x ∈ zs) w) := by
  have hl := Lib.hid (len_ints hr)
  have hn : n ≤ 9223372036854775807 := by have h1 := hr.2.1; have h2 := hr.2.2.1; unfold maxLen at h2; omega
  have HR := Lib.hid hr
  clear hr
  go_enter Tryd.func55, Tryd.ntmps55
  go_wp2
  go_loop [9] (fun v => ∃ k : Nat, k ≤ n ∧ v = .int .i64 (k : Int) ∧ x ∉ zs.take k) (fun v => n - (intOf v).toNat)
  case atStart => exact ⟨0, Nat.zero_le _, rfl, by simp⟩
  case round =>
    obtain ⟨k, hk, rfl, hnot⟩ := hrel
    have HN := Lib.hid hnot
    clear hnot
    by_cases hlt : k < n
    · obtain ⟨g, o, rfl, hg, hc⟩ := HR.out.int_at hlt
      have HM := Lib.hid (mem_getD' zs k (by rw [hl.out]; exact hlt))
      have HS := Lib.hid (fun h => mem_take_succ (x := x) (by rw [hl.out]; exact hlt) HN.out h)
      generalize zs.getD k 0 = z at *
      by_cases hz : z = x
      · subst hz
        clear HS
        go_wp2
        go_ret
        exact ⟨⟨true, ⟨fun _ => HM.out, fun _ => rfl⟩, rfl⟩, rfl⟩
      · have HT := Lib.hid (HS.out hz)
        have e1 : (z == x) = false := by simpa using hz
        have e2 : (x == z) = false := by simpa using fun h => hz h.symm
        clear HS hz HM
        go_wp2
        go_round
        case rel => exact ⟨k + 1, by omega, by go_num, HT.out⟩
        case measure => simp [intOf]; omega
    · obtain rfl : k = n := by omega
      have HY := Lib.hid (show (false = true ↔ x ∈ zs) from ⟨(fun h => by cases h), fun h => absurd h (by have := HN.out; rwa [List.take_of_length_le (by rw [hl.out]; exact Nat.le_refl _)] at this)⟩)
      go_wp2
      go_ret
      exact ⟨⟨false, HY.out, rfl⟩, rfl⟩
set_option maxHeartbeats 1000000 in
theorem has_spec (A : Option Addr) (n c : Nat) (zs : List Int) (x : Int) (w : World) (hr : Rd w 1 A n c (zs.map (Value.int .i64))) :
    Calls Tryd.prog 49 #[.slice A n c, .int .i64 x] w (SaysM (x ∈ zs) w) := by
  have hl := Lib.hid (len_ints hr)
  have hn : n ≤ 9223372036854775807 := by have h1 := hr.2.1; have h2 := hr.2.2.1; unfold maxLen at h2; omega
  have HR := Lib.hid hr
  clear hr
  go_enter Tryd.func49, Tryd.ntmps49
  go_wp2
  go_loop [5] (fun v => ∃ k : Nat, k ≤ n ∧ v = .int .i64 (k : Int) ∧ x ∉ zs.take k) (fun v => n - (intOf v).toNat)
  case atStart => exact ⟨0, Nat.zero_le _, rfl, by simp⟩
  case round =>
    obtain ⟨k, hk, rfl, hnot⟩ := hrel
    have HN := Lib.hid hnot
    clear hnot
    by_cases hlt : k < n
    · obtain ⟨g, o, rfl, hg, hc⟩ := HR.out.int_at hlt
      have HM := Lib.hid (mem_getD' zs k (by rw [hl.out]; exact hlt))
      have HS := Lib.hid (fun h => mem_take_succ (x := x) (by rw [hl.out]; exact hlt) HN.out h)
      generalize zs.getD k 0 = z at *
      by_cases hz : z = x
      · subst hz
        clear HS
        go_wp2
        go_ret
        exact ⟨⟨true, ⟨fun _ => HM.out, fun _ => rfl⟩, rfl⟩, rfl⟩
      · have HT := Lib.hid (HS.out hz)
        have e1 : (z == x) = false := by simpa using hz
        have e2 : (x == z) = false := by simpa using fun h => hz h.symm
        clear HS hz HM
        go_wp2
        go_round
        case rel => exact ⟨k + 1, by omega, by go_num, HT.out⟩
        case measure => simp [intOf]; omega
    · obtain rfl : k = n := by omega
      have HY := Lib.hid (show (false = true ↔ x ∈ zs) from ⟨(fun h => by cases h), fun h => absurd h (by have := HN.out; rwa [List.take_of_length_le (by rw [hl.out]; exact Nat.le_refl _)] at this)⟩)
      go_wp2
      go_ret
      exact ⟨⟨false, HY.out, rfl⟩, rfl⟩
theorem vkey_impl_yes (k : Int) (w : World) (h1 : 1 ≤ k) (h2 : k ≤ 2147483646) : Calls Tryd.prog 53 #[.int .i64 k] w fun e w' => e = .returned (.bool true) ∧ w = w' := by
  go_enter Tryd.func53, Tryd.ntmps53
  go_wp2_with (first | (go_at_call 54; refine (in_impl_yes _ _ _ _ (by omega) (by omega)).mono ?_; rintro e w' ⟨rfl, rfl⟩))
  go_ret
  exact ⟨rfl, rfl⟩
theorem vkey_impl_no (k : Int) (w : World) (h : k < 1 ∨ 2147483646 < k) : Calls Tryd.prog 53 #[.int .i64 k] w fun e w' => e = .returned (.bool false) ∧ w = w' := by
  go_enter Tryd.func53, Tryd.ntmps53
  go_wp2_with (first | (go_at_call 54; refine (in_impl_no _ _ _ _ (by omega)).mono ?_; rintro e w' ⟨rfl, rfl⟩))
  go_ret
  exact ⟨rfl, rfl⟩
set_option maxHeartbeats 1000000 in
theorem eqks_impl (ke se re : Int) (A : Option Addr) (n c : Nat) (xs : List Int) (ke' se' re' : Int) (B : Option Addr) (m d : Nat) (ys : List Int) (w : World) (hx : Rd w 1 A n c (xs.map (Value.int .i64))) (hy : Rd w 1 B m d (ys.map (Value.int .i64))) :
    Calls Tryd.prog 22 #[.agg #[.int .i64 ke, .int .i64 se, .int .i64 re, .slice A n c], .agg #[.int .i64 ke', .int .i64 se', .int .i64 re', .slice B m d]] w (Says (ke = ke' ∧ se = se' ∧ re = re' ∧ xs = ys) w) := by
  have HX := Lib.hid hx
  have HY := Lib.hid hy
  clear hx hy
  by_cases h0 : ke = ke'
  · by_cases h1 : se = se'
    · by_cases h2 : re = re'
      · subst h0 h1 h2
        have HC := Lib.hid (fun w h1 h2 => EqualInts_impl A n c xs B m d ys w h1 h2)
        by_cases h3 : xs = ys
        · have HD := Lib.hid (decide_eq_true h3)
          have HE := Lib.hid h3
          clear h3
          go_enter Tryd.func22, Tryd.ntmps22
          go_wp2_with fail
          refine (HC.out _ ((HX.out.alloc _).alloc _) ((HY.out.alloc _).alloc _)).mono ?_
          rintro x w1 ⟨rfl, hb⟩
          rw [HD.out]
          have HB := Lib.hid (show Below w.heap.size w w1 from Below.trans (by go_grown) (hb.mono (by simp <;> omega)))
          clear hb
          go_wp2
          go_ret
          exact says_yes ⟨rfl, rfl, rfl, HE.out⟩ HB.out
        · have HD := Lib.hid (decide_eq_false h3)
          have HE := Lib.hid h3
          clear h3
          go_enter Tryd.func22, Tryd.ntmps22
          go_wp2_with fail
          refine (HC.out _ ((HX.out.alloc _).alloc _) ((HY.out.alloc _).alloc _)).mono ?_
          rintro x w1 ⟨rfl, hb⟩
          rw [HD.out]
          have HB := Lib.hid (show Below w.heap.size w w1 from Below.trans (by go_grown) (hb.mono (by simp <;> omega)))
          clear hb
          go_wp2
          go_ret
          exact says_no (fun h => HE.out h.2.2.2) HB.out
      · have HN := Lib.hid (show ¬ (ke = ke' ∧ se = se' ∧ re = re' ∧ xs = ys) from fun h => h2 h.2.2.1)
        have e2 : (re == re') = false := by simpa using h2
        clear h2
        subst h0 h1
        go_enter Tryd.func22, Tryd.ntmps22
        go_wp2
        go_ret
        exact says_no (by simpa using HN.out) (by go_grown)
    · have HN := Lib.hid (show ¬ (ke = ke' ∧ se = se' ∧ re = re' ∧ xs = ys) from fun h => h1 h.2.1)
      have e1 : (se == se') = false := by simpa using h1
      clear h1
      subst h0
      go_enter Tryd.func22, Tryd.ntmps22
      go_wp2
      go_ret
      exact says_no (by simpa using HN.out) (by go_grown)
  · have HN := Lib.hid (show ¬ (ke = ke' ∧ se = se' ∧ re = re' ∧ xs = ys) from fun h => h0 h.1)
    have e0 : (ke == ke') = false := by simpa using h0
    clear h0
    go_enter Tryd.func22, Tryd.ntmps22
    go_wp2
    go_ret
    exact says_no (by simpa using HN.out) (by go_grown)
theorem vkey_spec_yes (k : Int) (w : World) (h1 : 1 ≤ k) (h2 : k ≤ 2147483646) : Calls Tryd.prog 50 #[.int .i64 k] w fun e w' => e = .returned (.bool true) ∧ w = w' := by
  go_enter Tryd.func50, Tryd.ntmps50
  go_wp2_with (first | (go_at_call 51; refine (in_spec_yes _ _ _ _ (by omega) (by omega)).mono ?_; rintro e w' ⟨rfl, rfl⟩))
  go_ret
  exact ⟨rfl, rfl⟩
theorem vkey_spec_no (k : Int) (w : World) (h : k < 1 ∨ 2147483646 < k) : Calls Tryd.prog 50 #[.int .i64 k] w fun e w' => e = .returned (.bool false) ∧ w = w' := by
  go_enter Tryd.func50, Tryd.ntmps50
  go_wp2_with (first | (go_at_call 51; refine (in_spec_no _ _ _ _ (by omega)).mono ?_; rintro e w' ⟨rfl, rfl⟩))
  go_ret
  exact ⟨rfl, rfl⟩
/-- no retired key is the key, none stands twice, among the first n -/
def okR (ke : Int) (zs : List Int) (n : Nat) : Prop := ∀ k, k < n → zs.getD k 0 ≠ ke ∧ zs.getD k 0 ∉ zs.take k
theorem okR_zero (ke : Int) (zs : List Int) : okR ke zs 0 := fun k h => absurd h (by omega)
theorem okR_succ {ke : Int} {zs : List Int} {k : Nat} (h : okR ke zs k) (h1 : ¬ zs.getD k 0 = ke) (h2 : zs.getD k 0 ∉ zs.take k) : okR ke zs (k + 1) := fun j hj => by
  rcases Nat.lt_or_ge j k with h3 | h3
  · exact h j h3
  · obtain rfl : j = k := by omega
    exact ⟨h1, h2⟩
def keyOk (ke se re : Int) : Prop := (ke = 0 ∨ (1 ≤ ke ∧ ke ≤ 2147483646)) ∧ (0 ≤ se ∧ se ≤ 1000000) ∧ (0 ≤ re ∧ re ≤ 1000000) ∧ (ke = 0 → se = 0 ∧ re = 0)
def validK (ke se re : Int) (zs : List Int) (n : Nat) : Prop := keyOk ke se re ∧ okR ke zs n
/-- the answer of IsValidKeyState; all that was there is as it was -/
def SaysK (b : Prop) (w : World) (e : Ending) (w' : World) : Prop := ∃ b' : Bool, (b' = true ↔ b) ∧ e = .returned (.bool b') ∧ Below w.heap.size w w'
theorem saysK_yes {b : Prop} {w w' : World} (h : b) (hb : Below w.heap.size w w') : SaysK b w (.returned (.bool true)) w' := ⟨true, by simp [h], rfl, hb⟩
theorem saysK_no {b : Prop} {w w' : World} (h : ¬ b) (hb : Below w.heap.size w w') : SaysK b w (.returned (.bool false)) w' := ⟨false, by simp [h], rfl, hb⟩
theorem Rd.take1 {w : World} {A : Option Addr} {n c k : Nat} {zs : List Int} (h : Rd w 1 A n c (zs.map (Value.int .i64))) (hk : k ≤ n) : Rd w 1 A k c ((zs.take k).map (Value.int .i64)) := by
  have hl := len_ints h
  obtain ⟨h1, h2, h3, h4, h5⟩ := h
  refine ⟨by simp [hl]; omega, by omega, h3, h4, fun hp => ?_⟩
  simp only [List.length_map, List.length_take] at hp
  obtain ⟨g, o, rfl, hc⟩ := h5 (by simp; omega)
  refine ⟨g, o, rfl, fun j hj => ?_⟩
  simp only [List.length_map, List.length_take] at hj
  rw [hc j (by simp; omega), List.getElem?_map, List.getElem?_map, List.getElem?_take, if_pos (by omega)]
theorem keyOk_cases (ke se re : Int) : 
    (¬ keyOk ke se re ∧ (((ke == 0) = false ∧ (ke != 0) = true ∧ (ke < 1 ∨ 2147483646 < ke)) ∨ ((ke == 0) = true ∧ (ke != 0) = false ∧ (se < 0 ∨ 1000000 < se) ∧ (se != 0) = true ∧ (se == 0) = false) ∨ ((ke == 0) = false ∧ (ke != 0) = true ∧ (1 ≤ ke ∧ ke ≤ 2147483646) ∧ (se < 0 ∨ 1000000 < se)) ∨
      ((ke == 0) = true ∧ (ke != 0) = false ∧ (0 ≤ se ∧ se ≤ 1000000) ∧ (re < 0 ∨ 1000000 < re) ∧ (se != 0) = true ∧ (se == 0) = false) ∨ ((ke == 0) = true ∧ (ke != 0) = false ∧ (0 ≤ se ∧ se ≤ 1000000) ∧ (re < 0 ∨ 1000000 < re) ∧ (se != 0) = false ∧ (se == 0) = true ∧ (re != 0) = true ∧ (re == 0) = false) ∨ ((ke == 0) = false ∧ (ke != 0) = true ∧ (1 ≤ ke ∧ ke ≤ 2147483646) ∧ (0 ≤ se ∧ se ≤ 1000000) ∧ (re < 0 ∨ 1000000 < re)) ∨
      ((ke == 0) = true ∧ (ke != 0) = false ∧ (0 ≤ se ∧ se ≤ 1000000) ∧ (0 ≤ re ∧ re ≤ 1000000) ∧ (se != 0) = true ∧ (se == 0) = false) ∨ ((ke == 0) = true ∧ (ke != 0) = false ∧ (0 ≤ se ∧ se ≤ 1000000) ∧ (0 ≤ re ∧ re ≤ 1000000) ∧ (se != 0) = false ∧ (se == 0) = true ∧ (re != 0) = true ∧ (re == 0) = false))) ∨
    (keyOk ke se re ∧ (((ke == 0) = true ∧ (ke != 0) = false ∧ (0 ≤ se ∧ se ≤ 1000000) ∧ (0 ≤ re ∧ re ≤ 1000000) ∧ (se != 0) = false ∧ (se == 0) = true ∧ (re != 0) = false ∧ (re == 0) = true) ∨ ((ke == 0) = false ∧ (ke != 0) = true ∧ (1 ≤ ke ∧ ke ≤ 2147483646) ∧ (0 ≤ se ∧ se ≤ 1000000) ∧ (0 ≤ re ∧ re ≤ 1000000)))) := by
  by_cases h0 : ke = 0
  · subst h0
    by_cases h1 : 0 ≤ se ∧ se ≤ 1000000
    · by_cases h2 : 0 ≤ re ∧ re ≤ 1000000
      · by_cases h3 : se = 0
        · subst h3
          by_cases h4 : re = 0
          · subst h4
            exact .inr ⟨⟨.inl rfl, h1, h2, fun _ => ⟨rfl, rfl⟩⟩, .inl ⟨rfl, rfl, h1, h2, rfl, rfl, rfl, rfl⟩⟩
          · exact .inl ⟨fun h => h4 (h.2.2.2 rfl).2, .inr (.inr (.inr (.inr (.inr (.inr (.inr ⟨rfl, rfl, h1, h2, rfl, rfl, by simpa using h4, by simpa using h4⟩))))))⟩
        · exact .inl ⟨fun h => h3 (h.2.2.2 rfl).1, .inr (.inr (.inr (.inr (.inr (.inr (.inl ⟨rfl, rfl, h1, h2, by simpa using h3, by simpa using h3⟩))))))⟩
      · by_cases h3 : se = 0
        · have h4 : re ≠ 0 := by omega
          exact .inl ⟨fun h => h2 h.2.2.1, .inr (.inr (.inr (.inr (.inl ⟨rfl, rfl, h1, by omega, by simpa using h3, by simpa using h3, by simpa using h4, by simpa using h4⟩))))⟩
        · exact .inl ⟨fun h => h2 h.2.2.1, .inr (.inr (.inr (.inl ⟨rfl, rfl, h1, by omega, by simpa using h3, by simpa using h3⟩)))⟩
    · have h3 : se ≠ 0 := by omega
      exact .inl ⟨fun h => h1 h.2.1, .inr (.inl ⟨rfl, rfl, by omega, by simpa using h3, by simpa using h3⟩)⟩
  · have b0 : (ke == 0) = false := by simpa using h0
    have b1 : (ke != 0) = true := by simpa using h0
    by_cases hk : 1 ≤ ke ∧ ke ≤ 2147483646
    · by_cases h1 : 0 ≤ se ∧ se ≤ 1000000
      · by_cases h2 : 0 ≤ re ∧ re ≤ 1000000
        · exact .inr ⟨⟨.inr hk, h1, h2, fun h => absurd h h0⟩, .inr ⟨b0, b1, hk, h1, h2⟩⟩
        · exact .inl ⟨fun h => h2 h.2.2.1, .inr (.inr (.inr (.inr (.inr (.inl ⟨b0, b1, hk, h1, by omega⟩)))))⟩
      · exact .inl ⟨fun h => h1 h.2.1, .inr (.inr (.inl ⟨b0, b1, hk, by omega⟩))⟩
    · exact .inl ⟨fun h => hk (h.1.resolve_left h0), .inl ⟨b0, b1, by omega⟩⟩
end Go.Proofs.YtgbmbnofnhhblaaDoor.Ks
