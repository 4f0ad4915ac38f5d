/- The walk of the law on the group: order, inverses, generators. -/
import Derived.Test.YtjmclnjpfmnkkaaDrawG
import Derived.Test.YtjmclnjpfmnkkaaAt
namespace Go.Proofs.Ytjmclnjpfmnkkaa.LawGroup
open Go.RowKit
open Go.Proofs.Ytjmclnjpfmnkkaa.Num Go.Proofs.Ytjmclnjpfmnkkaa.Mem Go.Proofs.Ytjmclnjpfmnkkaa.Hsh Go.Proofs.Ytjmclnjpfmnkkaa.Cur Go.Proofs.Ytjmclnjpfmnkkaa.Grp

theorem powM_in {b e : Int} (h1 : 0 ≤ b) (h2 : b ≤ 2038) (h3 : 0 ≤ e) (h4 : e ≤ 1000000000000) : powM b e = (pm b.toNat e.toNat : Int) := by
  unfold powM; rw [if_pos ⟨h1, h2, h3, h4⟩]
theorem isEl_of {x : Int} (h : elB x = true) : isEl x.toNat := by
  obtain ⟨h1, h2⟩ := elB_bd h
  rw [elB_pow h1 h2, beq_iff_eq, powM_in (by omega) h2 (by omega) (by omega)] at h
  refine ⟨by omega, by omega, ?_⟩
  have h3 : (1019 : Int).toNat = 1019 := rfl
  rw [h3] at h
  exact_mod_cast h
theorem elB_of {a : Nat} (h : isEl a) : elB (a : Int) = true := by
  have h1 := h.1
  have h2 := h.2.1
  rw [elB_pow (by omega) (by omega), beq_iff_eq, powM_in (by omega) (by omega) (by omega) (by omega), Int.toNat_natCast]
  have h3 : (1019 : Int).toNat = 1019 := rfl
  rw [h3]
  exact_mod_cast h.2.2
theorem mulM_cast {a b : Nat} (ha : a < 2039) (hb : b < 2039) : mulM (a : Int) (b : Int) = ((a * b % 2039 : Nat) : Int) := by
  rw [mulM_in (by omega) (by omega) (by omega) (by omega), ← Int.natCast_mul]
  omega
theorem addS_cast {x y : Nat} (hx : x < 1019) (hy : y < 1019) : addS (x : Int) (y : Int) = (((x + y) % 1019 : Nat) : Int) := by
  unfold addS
  rw [if_pos (by omega)]
  omega
theorem mulS_cast {x y : Nat} (hx : x < 1019) (hy : y < 1019) : mulS (x : Int) (y : Int) = ((x * y % 1019 : Nat) : Int) := by
  unfold mulS
  rw [if_pos (by omega), ← Int.natCast_mul]
  omega
theorem powM_cast {b e : Nat} (hb : b < 2039) (he : e ≤ 1000000000000) : powM (b : Int) (e : Int) = (pm b e : Int) := by
  rw [powM_in (by omega) (by omega) (by omega) (by omega), Int.toNat_natCast, Int.toNat_natCast]
theorem pow_four : powM 4 1019 = 1 := by
  have := powM_cast (b := 4) (e := 1019) (by omega) (by omega)
  rw [four_order] at this
  exact this
theorem invM_cast {a : Nat} (h : isEl a) : invM (a : Int) = (pm a 1018 : Int) := by
  unfold invM
  rw [if_pos (elB_of h)]
  have := powM_cast (b := a) (e := 1018) h.2.1 (by omega)
  exact this

theorem log_law {a b : Int} (ha : elB a = true) (hb : elB b = true) (h1 : ¬ a = 1) : 0 ≤ dlogM a b ∧ dlogM a b < 1019 ∧ powM a (dlogM a b) = b := by
  obtain ⟨a1, a2⟩ := elB_bd ha
  obtain ⟨b1, b2⟩ := elB_bd hb
  obtain ⟨e, he, hd, hp⟩ := dlog_el (isEl_of ha) (isEl_of hb) (by omega)
  rw [dlogM_on ha hb h1, hd]
  refine ⟨by omega, by omega, ?_⟩
  rw [powM_in (by omega) (by omega) (by omega) (by omega), Int.toNat_natCast, hp]
  omega
theorem inv_law {a : Int} (ha : elB a = true) : mulM a (invM a) = 1 := by
  obtain ⟨a1, a2⟩ := elB_bd ha
  have h := isEl_of ha
  obtain ⟨n, rfl⟩ := Int.eq_ofNat_of_zero_le (show 0 ≤ a by omega)
  rw [Int.toNat_natCast] at h
  rw [invM_cast h, mulM_cast h.2.1 (pm_lt _ _), el_inv h]
  rfl
theorem mul_law {a b : Int} (ha : elB a = true) (hb : elB b = true) : elB (mulM a b) = true := by
  obtain ⟨a1, a2⟩ := elB_bd ha
  obtain ⟨b1, b2⟩ := elB_bd hb
  have h := isEl_of ha
  have k := isEl_of hb
  obtain ⟨n, rfl⟩ := Int.eq_ofNat_of_zero_le (show 0 ≤ a by omega)
  obtain ⟨m, rfl⟩ := Int.eq_ofNat_of_zero_le (show 0 ≤ b by omega)
  rw [Int.toNat_natCast] at h k
  rw [mulM_cast h.2.1 k.2.1]
  exact elB_of (el_mul h k)
theorem add_law {a x y : Int} (ha : elB a = true) (x0 : 0 ≤ x) (x1 : x ≤ 1018) (y0 : 0 ≤ y) (y1 : y ≤ 1018) : powM a (addS x y) = mulM (powM a x) (powM a y) := by
  have a2 := (elB_bd ha).1
  have h := isEl_of ha
  obtain ⟨n, rfl⟩ := Int.eq_ofNat_of_zero_le (show 0 ≤ a by omega)
  obtain ⟨x, rfl⟩ := Int.eq_ofNat_of_zero_le x0
  obtain ⟨y, rfl⟩ := Int.eq_ofNat_of_zero_le y0
  rw [Int.toNat_natCast] at h
  rw [addS_cast (by omega) (by omega), powM_cast h.2.1 (by omega), powM_cast h.2.1 (by omega), powM_cast h.2.1 (by omega), mulM_cast (pm_lt _ _) (pm_lt _ _), h.pm_red, pm_add]
theorem mulS_law {a x y : Int} (ha : elB a = true) (x0 : 0 ≤ x) (x1 : x ≤ 1018) (y0 : 0 ≤ y) (y1 : y ≤ 1018) : powM a (mulS x y) = powM (powM a x) y := by
  have a2 := (elB_bd ha).1
  have h := isEl_of ha
  obtain ⟨n, rfl⟩ := Int.eq_ofNat_of_zero_le (show 0 ≤ a by omega)
  obtain ⟨x, rfl⟩ := Int.eq_ofNat_of_zero_le x0
  obtain ⟨y, rfl⟩ := Int.eq_ofNat_of_zero_le y0
  rw [Int.toNat_natCast] at h
  rw [mulS_cast (by omega) (by omega), powM_cast h.2.1 (by omega), powM_cast h.2.1 (by omega), powM_cast (pm_lt _ _) (by omega), h.pm_red, pm_mul]

set_option maxHeartbeats 2000000 in
theorem group_law (A : Option Addr) (n c : Nat) (zs : List Int) (w : World) (hrow : RowIn .u8 w A n c zs) :
    Calls Try.prog 11 #[.slice A n c] w fun e w' => e = .returned (.bool true) ∧ Below w.heap.size w w' := by
  have HR := Lib.hid hrow.1
  have HB := Lib.hid (bytes_of_row hrow)
  clear hrow
  by_cases hbig : 1048576 < (n : Int)
  · go_enter Try.func11, Try.ntmps11
    go_wp2_with (first | (go_at_call 38; refine (big_any _ _ _ _).mono ?_; rintro e w' ⟨rfl, rfl⟩))
    go_ret
    exact ⟨rfl, Below.refl _ _⟩
  · have hn : n ≤ 1048576 := by omega
    go_enter Try.func11, Try.ntmps11
    go_wp2_with (first | (go_at_call 38; refine (big_any _ _ _ _).mono ?_; rintro e w' ⟨rfl, rfl⟩))
    refine (drawDiscreteLog_any A n c zs _ HR.out HB.out (by omega)).mono ?_
    rintro e w1 ⟨a, b, ha, hb, rfl, hbel⟩
    have H1 := Lib.hid hbel
    have R1 := Lib.hid (HR.out.below hbel)
    clear hbel HR
    have h4 := Lib.hid pow_four
    have hp4 : (powM 4 1019 != 1) = false := by rw [pow_four]; rfl
    cases hea : elB a
    · have hd := Lib.hid (dlogM_off (b := a) (x := b) (.inl hea))
      have hi : (invM a == 0) = true := by unfold invM; rw [hea]; rfl
      have hdd : (dlogM a b == -1) = true := by rw [hd.out]; rfl
      go_wp2_with (first
        | (go_at_call 31; refine (isEl_impl _ _).mono ?_; rintro e w' ⟨rfl, rfl⟩) | (go_at_call 30; refine (isEl_spec _ _).mono ?_; rintro e w' ⟨rfl, rfl⟩)
        | (go_at_call 29; refine (powMod_impl _ _ _).mono ?_; rintro e w' ⟨rfl, rfl⟩) | (go_at_call 35; refine (dlog_impl _ _ _).mono ?_; rintro e w' ⟨rfl, rfl⟩) | (go_at_call 33; refine (inverse_impl _ _).mono ?_; rintro e w' ⟨rfl, rfl⟩))
      go_ret
      exact ⟨rfl, H1.out⟩
    · cases heb : elB b
      · have hd := Lib.hid (dlogM_off (b := a) (x := b) (.inr (.inl heb)))
        have hdd : (dlogM a b == -1) = true := by rw [hd.out]; rfl
        go_wp2_with (first
        | (go_at_call 31; refine (isEl_impl _ _).mono ?_; rintro e w' ⟨rfl, rfl⟩) | (go_at_call 30; refine (isEl_spec _ _).mono ?_; rintro e w' ⟨rfl, rfl⟩)
        | (go_at_call 29; refine (powMod_impl _ _ _).mono ?_; rintro e w' ⟨rfl, rfl⟩) | (go_at_call 35; refine (dlog_impl _ _ _).mono ?_; rintro e w' ⟨rfl, rfl⟩) | (go_at_call 33; refine (inverse_impl _ _).mono ?_; rintro e w' ⟨rfl, rfl⟩))
        go_ret
        exact ⟨rfl, H1.out⟩
      · by_cases h1 : a = 1
        · have hd := Lib.hid (dlogM_off (b := a) (x := b) (.inr (.inr h1)))
          have hdd : (dlogM a b == -1) = true := by rw [hd.out]; rfl
          have h11 : (a == 1) = true := by simpa using h1
          clear h1
          go_wp2_with (first
        | (go_at_call 31; refine (isEl_impl _ _).mono ?_; rintro e w' ⟨rfl, rfl⟩) | (go_at_call 30; refine (isEl_spec _ _).mono ?_; rintro e w' ⟨rfl, rfl⟩)
        | (go_at_call 29; refine (powMod_impl _ _ _).mono ?_; rintro e w' ⟨rfl, rfl⟩) | (go_at_call 35; refine (dlog_impl _ _ _).mono ?_; rintro e w' ⟨rfl, rfl⟩) | (go_at_call 33; refine (inverse_impl _ _).mono ?_; rintro e w' ⟨rfl, rfl⟩))
          go_ret
          exact ⟨rfl, H1.out⟩
        · obtain ⟨l1, l2, l3⟩ := log_law hea heb h1
          have h11 : (a == 1) = false := by simpa using h1
          have g1 : (powM a (dlogM a b) == b) = true := by rw [l3]; simp
          have g2 : (mulM a (invM a) == 1) = true := by rw [inv_law hea]; rfl
          have g3 := mul_law hea heb
          have L4 := Lib.hid (fun x y h1 h2 h3 h4 => add_law (a := a) (x := x) (y := y) hea h1 h2 h3 h4)
          have L5 := Lib.hid (fun x y h1 h2 h3 h4 => mulS_law (a := a) (x := x) (y := y) hea h1 h2 h3 h4)
          clear h1 l3
          go_wp2_with (first
        | (go_at_call 31; refine (isEl_impl _ _).mono ?_; rintro e w' ⟨rfl, rfl⟩) | (go_at_call 30; refine (isEl_spec _ _).mono ?_; rintro e w' ⟨rfl, rfl⟩)
        | (go_at_call 29; refine (powMod_impl _ _ _).mono ?_; rintro e w' ⟨rfl, rfl⟩) | (go_at_call 35; refine (dlog_impl _ _ _).mono ?_; rintro e w' ⟨rfl, rfl⟩) | (go_at_call 33; refine (inverse_impl _ _).mono ?_; rintro e w' ⟨rfl, rfl⟩))
          refine (at_any A n c zs _ _ R1.out HB.out (by omega) (by omega) (by omega)).mono ?_
          rintro e w2 ⟨x, ⟨x0, x1⟩, rfl, rfl⟩
          go_wp2_with fail
          refine (at_any A n c zs _ _ R1.out HB.out (by omega) (by omega) (by omega)).mono ?_
          rintro e w3 ⟨y, ⟨y0, y1⟩, rfl, rfl⟩
          have g4 : (powM a (addS (x * 3) (y * 3)) == mulM (powM a (x * 3)) (powM a (y * 3))) = true := by rw [L4.out _ _ (by omega) (by omega) (by omega) (by omega)]; simp
          have g5 : (powM a (mulS (x * 3) (y * 3)) == powM (powM a (x * 3)) (y * 3)) = true := by rw [L5.out _ _ (by omega) (by omega) (by omega) (by omega)]; simp
          go_wp2_with (first
            | (go_at_call 31; refine (isEl_impl _ _).mono ?_; rintro e w' ⟨rfl, rfl⟩) | (go_at_call 29; refine (powMod_impl _ _ _).mono ?_; rintro e w' ⟨rfl, rfl⟩) | (go_at_call 33; refine (inverse_impl _ _).mono ?_; rintro e w' ⟨rfl, rfl⟩)
            | (go_at_call 23; refine (mulMod_impl _ _ _).mono ?_; rintro e w' ⟨rfl, rfl⟩) | (go_at_call 25; refine (addScalars_impl _ _ _).mono ?_; rintro e w' ⟨rfl, rfl⟩) | (go_at_call 27; refine (mulScalars_impl _ _ _).mono ?_; rintro e w' ⟨rfl, rfl⟩))
          go_ret
          exact ⟨rfl, H1.out⟩
end Go.Proofs.Ytjmclnjpfmnkkaa.LawGroup
