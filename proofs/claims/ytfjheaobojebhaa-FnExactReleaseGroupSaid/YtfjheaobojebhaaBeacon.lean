/- Contracts of the beacons' numbers: the next slot, the count to the next delivery, the delay of group frames. -/
import Derived.Test.YtfjheaobojebhaaAt
namespace Go.Proofs.Ytfjheaobojebhaa.Bcn
open Go.RowKit
open Go.Proofs.Ytfjheaobojebhaa.Num Go.Proofs.Ytfjheaobojebhaa.Mem Go.Proofs.Ytfjheaobojebhaa.Hsh
set_option linter.unusedSimpArgs false

def nextS (now : Int) : Int := (now / 10 + 1) * 10
def dcount (s p : Int) : Int := if (0 ≤ s ∧ s ≤ 1000000000000 ∧ s % 10 = 0) ∧ 1 ≤ p ∧ p ≤ 8 then modI (-(s / 10)) p else -1
theorem modI_in {x p : Int} (h1 : 1 ≤ p) (h2 : p ≤ 1000000000000) : modI x p = x % p := by unfold modI; rw [if_pos ⟨h1, h2⟩]
theorem dcount_in {s p : Int} (h : 0 ≤ s ∧ s ≤ 1000000000000 ∧ s % 10 = 0) (h1 : 1 ≤ p) (h2 : p ≤ 8) : dcount s p = (-(s / 10)) % p := by unfold dcount; rw [if_pos ⟨h, h1, h2⟩, modI_in h1 (by omega)]
theorem next_any (now : Int) (w : World) (h0 : 0 ≤ now) (h1 : now ≤ 1000000000000) : Calls Try.prog 16 #[.int .i64 now] w fun x w' => x = .returned (.int .i64 (nextS now)) ∧ w = w' := by
  unfold nextS
  go_enter Try.func16, Try.ntmps16
  go_wp2
  go_ret
  exact ⟨rfl, rfl⟩
theorem slot_yes (s : Int) (w : World) (h0 : 0 ≤ s) (h1 : s ≤ 1000000000000) (h2 : (s % 10 == 0) = true) : Calls Try.prog 72 #[.int .i64 s] w fun x w' => x = .returned (.bool true) ∧ w = w' := by
  go_enter Try.func72, Try.ntmps72
  go_wp2_with (first | (go_at_call 73; refine (in_impl_yes _ _ _ _ (by omega) (by omega)).mono ?_; rintro e w' ⟨rfl, rfl⟩))
  go_ret
  exact ⟨rfl, rfl⟩
theorem slot_out (s : Int) (w : World) (h : s < 0 ∨ 1000000000000 < s) : Calls Try.prog 72 #[.int .i64 s] w fun x w' => x = .returned (.bool false) ∧ w = w' := by
  go_enter Try.func72, Try.ntmps72
  go_wp2_with (first | (go_at_call 73; refine (in_impl_no _ _ _ _ (by omega)).mono ?_; rintro e w' ⟨rfl, rfl⟩))
  go_ret
  exact ⟨rfl, rfl⟩
theorem slot_off (s : Int) (w : World) (h0 : 0 ≤ s) (h1 : s ≤ 1000000000000) (h2 : (s % 10 == 0) = false) : Calls Try.prog 72 #[.int .i64 s] w fun x w' => x = .returned (.bool false) ∧ w = w' := by
  go_enter Try.func72, Try.ntmps72
  go_wp2_with (first | (go_at_call 73; refine (in_impl_yes _ _ _ _ (by omega) (by omega)).mono ?_; rintro e w' ⟨rfl, rfl⟩))
  go_ret
  exact ⟨rfl, rfl⟩
theorem dtim_any (s p : Int) (w : World) (hs : -9223372036854775808 ≤ s ∧ s ≤ 9223372036854775807) : Calls Try.prog 17 #[.int .i64 s, .int .i64 p] w fun x w' => x = .returned (.int .i64 (dcount s p)) ∧ w = w' := by
  unfold dcount
  by_cases h : 0 ≤ s ∧ s ≤ 1000000000000
  · by_cases h2 : s % 10 = 0
    · have d : (s % 10 == 0) = true := by simpa using h2
      by_cases h3 : 1 ≤ p ∧ p ≤ 8
      · rw [if_pos ⟨⟨h.1, h.2, h2⟩, h3⟩]
        obtain ⟨h0, h1⟩ := h
        obtain ⟨h4, h5⟩ := h3
        have hq0 : 0 ≤ s / 10 := by omega
        have hq1 : s / 10 ≤ 1000000000000 := by omega
        have HM := Lib.hid (mod_impl (-(s / 10)) p)
        clear h2
        go_enter Try.func17, Try.ntmps17
        go_wp2_with (first
          | (go_at_call 72; refine (slot_yes _ _ h0 h1 d).mono ?_; rintro e w' ⟨rfl, rfl⟩)
          | (go_at_call 73; refine (in_impl_yes _ _ _ _ (by omega) (by omega)).mono ?_; rintro e w' ⟨rfl, rfl⟩)
          | (go_at_call 74; refine (HM.out _ (by omega) (by omega)).mono ?_; rintro e w' ⟨rfl, rfl⟩))
        go_ret
        exact ⟨rfl, rfl⟩
      · rw [if_neg (fun hh => h3 hh.2)]
        obtain ⟨h0, h1⟩ := h
        have h6 : p < 1 ∨ 8 < p := by omega
        clear h2 h3
        go_enter Try.func17, Try.ntmps17
        go_wp2_with (first
          | (go_at_call 72; refine (slot_yes _ _ h0 h1 d).mono ?_; rintro e w' ⟨rfl, rfl⟩)
          | (go_at_call 73; refine (in_impl_no _ _ _ _ (by omega)).mono ?_; rintro e w' ⟨rfl, rfl⟩))
        go_ret
        exact ⟨rfl, rfl⟩
    · rw [if_neg (fun hh => h2 hh.1.2.2)]
      have d : (s % 10 == 0) = false := by simpa using h2
      obtain ⟨h0, h1⟩ := h
      clear h2
      go_enter Try.func17, Try.ntmps17
      go_wp2_with (first | (go_at_call 72; refine (slot_off _ _ h0 h1 d).mono ?_; rintro e w' ⟨rfl, rfl⟩))
      go_ret
      exact ⟨rfl, rfl⟩
  · rw [if_neg (fun hh => h ⟨hh.1.1, hh.1.2.1⟩)]
    have h6 : s < 0 ∨ 1000000000000 < s := by omega
    clear h
    go_enter Try.func17, Try.ntmps17
    go_wp2_with (first | (go_at_call 72; refine (slot_out _ _ h6).mono ?_; rintro e w' ⟨rfl, rfl⟩))
    go_ret
    exact ⟨rfl, rfl⟩
theorem station_yes (n : Int) (w : World) (h1 : 0 ≤ n) (h2 : n ≤ 15) : Calls Try.prog 92 #[.int .i64 n] w fun e w' => e = .returned (.bool true) ∧ w = w' := by
  go_enter Try.func92, Try.ntmps92
  go_wp2_with (first | (go_at_call 73; refine (in_impl_yes _ _ _ _ (by omega) (by omega)).mono ?_; rintro e w' ⟨rfl, rfl⟩))
  go_ret
  exact ⟨rfl, rfl⟩
theorem station_no (n : Int) (w : World) (h : n < 0 ∨ 15 < n) : Calls Try.prog 92 #[.int .i64 n] w fun e w' => e = .returned (.bool false) ∧ w = w' := by
  go_enter Try.func92, Try.ntmps92
  go_wp2_with (first | (go_at_call 73; refine (in_impl_no _ _ _ _ (by omega)).mono ?_; rintro e w' ⟨rfl, rfl⟩))
  go_ret
  exact ⟨rfl, rfl⟩
theorem vbeacon_plain (s n p : Int) (w : World) (h0 : 0 ≤ s) (h1 : s ≤ 1000000000000) (h2 : (s % 10 == 0) = true) (p1 : 1 ≤ p) (p8 : p ≤ 8) (n0 : 0 ≤ n) (n1 : n ≤ p - 1) : Calls Try.prog 45 #[.agg #[.int .i64 0, .int .i64 s, .int .i64 n, .int .i64 p, .bool false, .int .i64 0]] w fun x w' => x = .returned (.bool true) ∧ Below w.heap.size w w' := by
  go_enter Try.func45, Try.ntmps45
  go_wp2_with (first
    | (go_at_call 92; refine (station_yes _ _ (by omega) (by omega)).mono ?_; rintro e w' ⟨rfl, rfl⟩)
    | (go_at_call 72; refine (slot_yes _ _ h0 h1 h2).mono ?_; rintro e w' ⟨rfl, rfl⟩)
    | (go_at_call 73; refine (in_impl_yes _ _ _ _ (by omega) (by omega)).mono ?_; rintro e w' ⟨rfl, rfl⟩))
  go_ret
  exact ⟨rfl, by go_grown⟩
theorem deliv_plain (s n p : Int) (w : World) (h0 : 0 ≤ s) (h1 : s ≤ 1000000000) (h2 : (s % 10 == 0) = true) (p1 : 1 ≤ p) (p8 : p ≤ 8) (n0 : 0 ≤ n) (n1 : n ≤ p - 1) : Calls Try.prog 18 #[.agg #[.int .i64 0, .int .i64 s, .int .i64 n, .int .i64 p, .bool false, .int .i64 0]] w fun x w' => x = .returned (.int .i64 (s + n * 10)) ∧ Below w.heap.size w w' := by
  have HV := Lib.hid (vbeacon_plain s n p)
  go_enter Try.func18, Try.ntmps18
  go_wp2_with fail
  refine (HV.out _ h0 (by omega) h2 p1 p8 n0 n1).mono ?_
  rintro x w1 ⟨rfl, hb⟩
  obtain ⟨hc, hf⟩ := bcells hb
  have q0 := (hc (w.heap.size) 0 (by simp <;> omega)).trans (show _ = some (.int .i64 0) from by first | (simp; done) | (simp [World.cell?_alloc_at]; done) | (rw [World.cell?_alloc_old _ _ _ (by simp <;> omega)]; first | (simp; done) | (simp [World.cell?_alloc_at]; done))); have q1 := (hc (w.heap.size) 1 (by simp <;> omega)).trans (show _ = some (.int .i64 s) from by first | (simp; done) | (simp [World.cell?_alloc_at]; done) | (rw [World.cell?_alloc_old _ _ _ (by simp <;> omega)]; first | (simp; done) | (simp [World.cell?_alloc_at]; done))); have q2 := (hc (w.heap.size) 2 (by simp <;> omega)).trans (show _ = some (.int .i64 n) from by first | (simp; done) | (simp [World.cell?_alloc_at]; done) | (rw [World.cell?_alloc_old _ _ _ (by simp <;> omega)]; first | (simp; done) | (simp [World.cell?_alloc_at]; done))); have q3 := (hc (w.heap.size) 3 (by simp <;> omega)).trans (show _ = some (.int .i64 p) from by first | (simp; done) | (simp [World.cell?_alloc_at]; done) | (rw [World.cell?_alloc_old _ _ _ (by simp <;> omega)]; first | (simp; done) | (simp [World.cell?_alloc_at]; done))); have q4 := (hc (w.heap.size) 4 (by simp <;> omega)).trans (show _ = some (.bool false) from by first | (simp; done) | (simp [World.cell?_alloc_at]; done) | (rw [World.cell?_alloc_old _ _ _ (by simp <;> omega)]; first | (simp; done) | (simp [World.cell?_alloc_at]; done))); have q5 := (hc (w.heap.size) 5 (by simp <;> omega)).trans (show _ = some (.int .i64 0) from by first | (simp; done) | (simp [World.cell?_alloc_at]; done) | (rw [World.cell?_alloc_old _ _ _ (by simp <;> omega)]; first | (simp; done) | (simp [World.cell?_alloc_at]; done)))
  have HB := Lib.hid (show Below w.heap.size w w1 from Below.trans (by go_grown) (hb.mono (by simp <;> omega)))
  clear hb hc hf
  go_wp2
  go_ret
  exact ⟨rfl, HB.out⟩
theorem vgroup_nil (p : Int) (w : World) (p1 : 1 ≤ p) (p8 : p ≤ 8) : Calls Try.prog 28 #[.agg #[.int .i64 p, .slice none 0 0, .int .i64 0]] w fun x w' => x = .returned (.bool true) ∧ Below w.heap.size w w' := by
  go_enter Try.func28, Try.ntmps28
  go_wp2_with (first | (go_at_call 73; refine (in_impl_yes _ _ _ _ (by omega) (by omega)).mono ?_; rintro e w' ⟨rfl, rfl⟩))
  go_loop [23] (fun v => v = .int .i64 0) (fun _ => 0)
  case atStart => rfl
  case round =>
    subst hrel
    go_wp2
    go_ret
    exact ⟨rfl, by go_grown⟩
theorem delay_plain (p now : Int) (w : World) (p1 : 1 ≤ p) (p8 : p ≤ 8) (n0 : 0 ≤ now) (n1 : now ≤ 1000000000000) : Calls Try.prog 19 #[.agg #[.int .i64 p, .slice none 0 0, .int .i64 0], .int .i64 now] w fun x w' => x = .returned (.int .i64 (modI (-now) (p * 10))) ∧ Below w.heap.size w w' := by
  have HV := Lib.hid (vgroup_nil p)
  have HM := Lib.hid (mod_impl (-now) (p * 10))
  go_enter Try.func19, Try.ntmps19
  go_wp2_with fail
  refine (HV.out _ p1 p8).mono ?_
  rintro x w1 ⟨rfl, hb⟩
  obtain ⟨hc, hf⟩ := bcells hb
  have q0 := (hc (w.heap.size) 0 (by simp <;> omega)).trans (show _ = some (.int .i64 p) from by first | (simp; done) | (simp [World.cell?_alloc_at]; done) | (rw [World.cell?_alloc_old _ _ _ (by simp <;> omega)]; first | (simp; done) | (simp [World.cell?_alloc_at]; done))); have q1 := (hc (w.heap.size) 1 (by simp <;> omega)).trans (show _ = some (.slice none 0 0) from by first | (simp; done) | (simp [World.cell?_alloc_at]; done) | (rw [World.cell?_alloc_old _ _ _ (by simp <;> omega)]; first | (simp; done) | (simp [World.cell?_alloc_at]; done))); have q2 := (hc (w.heap.size) 2 (by simp <;> omega)).trans (show _ = some (.int .i64 0) from by first | (simp; done) | (simp [World.cell?_alloc_at]; done) | (rw [World.cell?_alloc_old _ _ _ (by simp <;> omega)]; first | (simp; done) | (simp [World.cell?_alloc_at]; done)))
  have HB := Lib.hid (show Below w.heap.size w w1 from Below.trans (by go_grown) (hb.mono (by simp <;> omega)))
  clear hb hc hf
  go_wp2_with (first
    | (go_at_call 73; refine (in_impl_yes _ _ _ _ (by omega) (by omega)).mono ?_; rintro e w' ⟨rfl, rfl⟩)
    | (go_at_call 74; refine (HM.out _ (by omega) (by omega)).mono ?_; rintro e w' ⟨rfl, rfl⟩))
  go_ret
  exact ⟨rfl, HB.out⟩
theorem plan (p now : Int) (p1 : 1 ≤ p) (p8 : p ≤ 8) (n0 : 0 ≤ now) (n1 : now ≤ 1020) :
    ∃ s n d, nextS now = s ∧ dcount s p = n ∧ modI (-now) (p * 10) = d ∧ dcount (s + n * 10) p = 0 ∧ dcount (s + 10 * p) p = n ∧ dcount (now + d) p = 0 ∧ dcount (s + 1) p = -1 ∧
      now < s ∧ s ≤ now + 10 ∧ s % 10 = 0 ∧ 0 ≤ n ∧ n < p ∧ 0 ≤ d ∧ d < p * 10 ∧ 0 ≤ s ∧ s ≤ 1030 := by
  have hs : nextS now = (now / 10 + 1) * 10 := rfl
  have hn : dcount (nextS now) p = (-(nextS now / 10)) % p := dcount_in ⟨by omega, by omega, by omega⟩ p1 p8
  have hd : modI (-now) (p * 10) = (-now) % (p * 10) := modI_in (by omega) (by omega)
  refine ⟨nextS now, dcount (nextS now) p, modI (-now) (p * 10), rfl, rfl, rfl, ?_, ?_, ?_, ?_, ?_⟩
  · rw [hn, hs]
    have hp : p = 1 ∨ p = 2 ∨ p = 3 ∨ p = 4 ∨ p = 5 ∨ p = 6 ∨ p = 7 ∨ p = 8 := by omega
    rw [dcount_in ⟨by rcases hp with rfl | rfl | rfl | rfl | rfl | rfl | rfl | rfl <;> omega, by rcases hp with rfl | rfl | rfl | rfl | rfl | rfl | rfl | rfl <;> omega, by omega⟩ p1 p8]
    rcases hp with rfl | rfl | rfl | rfl | rfl | rfl | rfl | rfl <;> omega
  · rw [hn, hs]
    have hp : p = 1 ∨ p = 2 ∨ p = 3 ∨ p = 4 ∨ p = 5 ∨ p = 6 ∨ p = 7 ∨ p = 8 := by omega
    rw [dcount_in ⟨by omega, by omega, by omega⟩ p1 p8]
    rcases hp with rfl | rfl | rfl | rfl | rfl | rfl | rfl | rfl <;> omega
  · rw [hd]
    have hp : p = 1 ∨ p = 2 ∨ p = 3 ∨ p = 4 ∨ p = 5 ∨ p = 6 ∨ p = 7 ∨ p = 8 := by omega
    rw [dcount_in ⟨by rcases hp with rfl | rfl | rfl | rfl | rfl | rfl | rfl | rfl <;> omega, by rcases hp with rfl | rfl | rfl | rfl | rfl | rfl | rfl | rfl <;> omega, by rcases hp with rfl | rfl | rfl | rfl | rfl | rfl | rfl | rfl <;> omega⟩ p1 p8]
    rcases hp with rfl | rfl | rfl | rfl | rfl | rfl | rfl | rfl <;> omega
  · unfold dcount
    rw [if_neg (by omega)]
  · rw [hn, hd, hs]
    have hp : p = 1 ∨ p = 2 ∨ p = 3 ∨ p = 4 ∨ p = 5 ∨ p = 6 ∨ p = 7 ∨ p = 8 := by omega
    rcases hp with rfl | rfl | rfl | rfl | rfl | rfl | rfl | rfl <;> omega
set_option maxHeartbeats 4000000 in
theorem beacons_law (A : Option Addr) (n c : Nat) (zs : List Int) (w : World) (hrow : RowIn .u8 w A n c zs) :
    Calls Try.prog 3 #[.slice A n c] w fun e w' => e = .returned (.bool true) ∧ Below w.heap.size w w' := by
  have HR := Lib.hid hrow.1
  have HB := Lib.hid (bytes_of_row hrow)
  clear hrow
  by_cases hbig : 1048576 < (n : Int)
  · go_enter Try.func3, Try.ntmps3
    go_wp2_with (first | (go_at_call 14; refine (big_any _ _ _ _).mono ?_; rintro e w' ⟨rfl, rfl⟩))
    go_ret
    exact ⟨rfl, Below.refl _ _⟩
  · have hn : n ≤ 1048576 := by omega
    go_enter Try.func3, Try.ntmps3
    go_wp2_with (first | (go_at_call 14; refine (big_any _ _ _ _).mono ?_; rintro e w' ⟨rfl, rfl⟩))
    refine (at_any A n c zs 0 _ HR.out HB.out (by omega) (by omega) (by omega)).mono ?_
    rintro e w0 ⟨a, ⟨a0, a1⟩, rfl, rfl⟩
    have hm0 : 0 ≤ a % 8 := by omega
    have hm1 : a % 8 < 8 := by omega
    go_wp2_with fail
    refine (at_any A n c zs 1 _ HR.out HB.out (by omega) (by omega) (by omega)).mono ?_
    rintro e w0 ⟨b, ⟨b0, b1⟩, rfl, rfl⟩
    go_wp2_with fail
    refine (at_any A n c zs 2 _ HR.out HB.out (by omega) (by omega) (by omega)).mono ?_
    rintro e w0 ⟨d, ⟨d0, d1⟩, rfl, rfl⟩
    go_wp2_with fail
    obtain ⟨s, m, dl, hs, hm, hdl, k1, k2, k3, k4, r0, r1, r2, r3, r4, r5, r6, r7, r8⟩ := plan (1 + a % 8) (b * 3 + d) (by omega) (by omega) (by omega) (by omega)
    have p1 : 1 ≤ 1 + a % 8 := by omega
    have p8 : 1 + a % 8 ≤ 8 := by omega
    have t0 : 0 ≤ b * 3 + d := by omega
    have t1 : b * 3 + d ≤ 1020 := by omega
    generalize 1 + a % 8 = p at *
    generalize b * 3 + d = t at *
    clear hm0 hm1 a0 a1 b0 b1 d0 d1
    have C1 := Lib.hid (show ∀ w, Calls Try.prog 16 #[.int .i64 t] w fun x w' => x = .returned (.int .i64 s) ∧ w = w' from fun w => by have h := next_any t w t0 (by omega); rw [hs] at h; exact h)
    have C2 := Lib.hid (show ∀ w, Calls Try.prog 17 #[.int .i64 s, .int .i64 p] w fun x w' => x = .returned (.int .i64 m) ∧ w = w' from fun w => by have h := dtim_any s p w (by omega); rw [hm] at h; exact h)
    have C3 := Lib.hid (show ∀ w, Calls Try.prog 17 #[.int .i64 (s + m * 10), .int .i64 p] w fun x w' => x = .returned (.int .i64 0) ∧ w = w' from fun w => by have h := dtim_any (s + m * 10) p w (by omega); rw [k1] at h; exact h)
    have C4 := Lib.hid (show ∀ w, Calls Try.prog 17 #[.int .i64 (s + 10 * p), .int .i64 p] w fun x w' => x = .returned (.int .i64 m) ∧ w = w' from fun w => by have h := dtim_any (s + 10 * p) p w (by omega); rw [k2] at h; exact h)
    have C5 := Lib.hid (show ∀ w, Calls Try.prog 17 #[.int .i64 (t + dl), .int .i64 p] w fun x w' => x = .returned (.int .i64 0) ∧ w = w' from fun w => by have h := dtim_any (t + dl) p w (by omega); rw [k3] at h; exact h)
    have C6 := Lib.hid (show ∀ w, Calls Try.prog 17 #[.int .i64 (s + 1), .int .i64 p] w fun x w' => x = .returned (.int .i64 (-1)) ∧ w = w' from fun w => by have h := dtim_any (s + 1) p w (by omega); rw [k4] at h; exact h)
    have C7 := Lib.hid (show ∀ w, Calls Try.prog 19 #[.agg #[.int .i64 p, .slice none 0 0, .int .i64 0], .int .i64 t] w fun x w' => x = .returned (.int .i64 dl) ∧ Below w.heap.size w w' from fun w => by have h := delay_plain p t w p1 p8 t0 (by omega); rw [hdl] at h; exact h)
    have b2 : (s % 10 == 0) = true := by simpa using r2
    have b3 : (s % 10 != 0) = false := by simpa using r2
    have C8 := Lib.hid (deliv_plain s m p)
    have e1 : (s + m * 10 != s + m * 10) = false := by simp
    have e2 : (m == m) = true := by simp
    clear hs hm hdl k1 k2 k3 k4 r2
    refine (C1.out _).mono ?_
    rintro e w0 ⟨rfl, rfl⟩
    go_wp2_with fail
    refine (C2.out _).mono ?_
    rintro e w0 ⟨rfl, rfl⟩
    go_wp2_with fail
    refine (C8.out _ r7 (by omega) b2 p1 p8 r3 (by omega)).mono ?_
    rintro e w1 ⟨rfl, B⟩
    go_wp2_with fail
    refine (C7.out _).mono ?_
    rintro e w2 ⟨rfl, hb⟩
    replace B := stepW B hb
    clear hb
    go_wp2_with fail
    refine (C3.out _).mono ?_
    rintro e w0 ⟨rfl, rfl⟩
    go_wp2_with fail
    refine (C4.out _).mono ?_
    rintro e w0 ⟨rfl, rfl⟩
    go_wp2_with fail
    refine (C5.out _).mono ?_
    rintro e w0 ⟨rfl, rfl⟩
    go_wp2_with fail
    refine (C6.out _).mono ?_
    rintro e w0 ⟨rfl, rfl⟩
    go_wp2
    go_ret
    exact ⟨rfl, B⟩
end Go.Proofs.Ytfjheaobojebhaa.Bcn
