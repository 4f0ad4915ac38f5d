/- The reference's decimal numeral of a number above 0. -/
import Derived.Test.YtgbmbnofnhhblaaDoorNum
import Derived.Test.YtgbmbnofnhhblaaDoorMem
import Derived.Test.YtgbmbnofnhhblaaDoorItoa
import Derived.Lib.ItoaNum
import Derived.Laws.IdiomStrings
import Derived.Outline
namespace Go.Proofs.YtgbmbnofnhhblaaDoor.Itoa
open Go.RowKit
open Go.Proofs.YtgbmbnofnhhblaaDoor.Num Go.Proofs.YtgbmbnofnhhblaaDoor.Mem
set_option linter.unusedSimpArgs false
set_option linter.unusedVariables false
theorem digit_conv (d : Nat) (hd : d < 10) (w : World) : (convert 25 9 (.slice (some ⟨w.heap.size, 0, none⟩) 1 1)).run Tryd.prog (w.alloc (.cells #[.int .u8 (48 + (d : Int))] 5)) = .ok (.string ⟨#[UInt8.ofNat (48 + d)]⟩) (w.alloc (.cells #[.int .u8 (48 + (d : Int))] 5)) := by
  have h := run_convert_bytes_back (P := Tryd.prog) (w.alloc (.cells #[.int .u8 (48 + (d : Int))] 5)) 25 9 5 ⟨w.heap.size, 0, none⟩ 1 [UInt8.ofNat (48 + d)] Tryd.underlying25 Tryd.underlying5 Tryd.underlying9 (fun j hj => by
    have h0 : j = 0 := by simpa using hj
    subst h0
    have ha : (⟨w.heap.size, 0, none⟩ : Addr).add 0 = ⟨w.heap.size, 0, none⟩ := rfl
    rw [ha, World.cell?_alloc_at]
    all_goals first | rfl | (simp; omega))
  exact h
theorem app_one (b : UInt8) (l : List UInt8) : ((⟨#[b]⟩ : ByteArray) ++ ⟨l.toArray⟩) = ⟨(b :: l).toArray⟩ := by
  apply ByteArray.ext
  simp
theorem dig_step {x n : Nat} {l : List UInt8} (hx : ¬ x = 0) (h : Lib.decDigits n = Lib.decDigits x ++ l) : (x / 10 = 0 → Lib.decDigits n = UInt8.ofNat (48 + x % 10) :: l) ∧ (0 < x / 10 → Lib.decDigits n = Lib.decDigits (x / 10) ++ UInt8.ofNat (48 + x % 10) :: l) := by
  constructor
  · intro h0
    have h1 : x < 10 := by omega
    rw [h, Lib.decDigits, dif_pos h1, Nat.mod_eq_of_lt h1]; rfl
  · intro h0
    have h1 : ¬ x < 10 := by omega
    rw [h, Lib.decDigits, dif_neg h1, List.append_assoc]; rfl
set_option maxHeartbeats 1000000 in
theorem format_spec (n : Nat) (h0 : 0 < n) (h1 : n ≤ 1000000) (w : World) :
    Calls Tryd.prog 59 #[.int .i64 (n : Int)] w fun e w' => e = .returned (.string ⟨(Lib.itoa n).toArray⟩) ∧ Below w.heap.size w w' := by
  have HIT := Lib.hid (show Lib.itoa (n : Int) = Lib.decDigits n by unfold Lib.itoa; rw [if_neg (by omega), Int.toNat_natCast])
  have hn0 : ((n : Int) == 0) = false := by simpa using (show (n : Int) ≠ 0 by omega)
  have hn1 : ¬ (n : Int) < 0 := by omega
  go_enter Tryd.func59, Tryd.ntmps59
  go_wp2
  go_loopw [3, 4] (fun v3 v4 wr => ∃ (l : List UInt8) (x : Nat), x ≤ n ∧ x * 10 ^ l.length ≤ n ∧ (x = 0 → Lib.decDigits n = l) ∧ (0 < x → Lib.decDigits n = Lib.decDigits x ++ l) ∧ v3 = .string ⟨l.toArray⟩ ∧ v4 = .int .i64 (x : Int) ∧ Below w.heap.size w wr) (fun _ v4 _ => (intOf v4).toNat)
  case atStart => exact ⟨[], n, Nat.le_refl _, by simp, fun h => by omega, fun _ => by simp, rfl, rfl, Below.refl _ _⟩
  case round =>
    obtain ⟨l, x, hx, hpw, hz, hp, rfl, rfl, B⟩ := hrel
    have zr := B.size
    have HZ := Lib.hid hz
    have HP := Lib.hid hp
    clear hz hp
    by_cases hx0 : x = 0
    · subst hx0
      have HE := Lib.hid (HZ.out rfl)
      go_wp2
      go_ret
      exact ⟨by rw [HIT.out, HE.out]; rfl, B⟩
    · have hxn : ((x : Int) != 0) = true := by simpa using hx0
      have hxz : ((x : Int) == 0) = false := by simpa using hx0
      have hdd := dig_step hx0 (HP.out (by omega))
      have hdl : x % 10 < 10 := by omega
      have hcv := digit_conv (x % 10) hdl wr
      rw [show ((x % 10 : Nat) : Int) = (x : Int) % 10 by omega] at hcv
      generalize UInt8.ofNat (48 + x % 10) = b at hcv hdd
      have HD := Lib.hid hdd
      have hlen : l.length < 10 ^ l.length := Nat.lt_pow_self (by omega)
      have hle : l.length ≤ 1000000 := by
        have h2 : 1 * 10 ^ l.length ≤ x * 10 ^ l.length := Nat.mul_le_mul_right _ (by omega)
        omega
      have HPW := Lib.hid (show x / 10 * 10 ^ (l.length + 1) ≤ n by
        have h2 : x / 10 * 10 ≤ x := Nat.div_mul_le_self x 10
        have h3 : x / 10 * 10 * 10 ^ l.length ≤ x * 10 ^ l.length := Nat.mul_le_mul_right _ h2
        rw [Nat.pow_succ, Nat.mul_comm (10 ^ l.length) 10, ← Nat.mul_assoc]
        omega)
      have hsz : ¬ 9223372036854775807 < 1 + l.length := by omega
      clear hlen hpw
      clear hdd
      go_wp2
      go_roundw
      case rel => exact ⟨b :: l, x / 10, by omega, by simpa using HPW.out, HD.out.1, HD.out.2, by rw [app_one], by go_num, by go_grown⟩
      case measure => simp [intOf]; omega
end Go.Proofs.YtgbmbnofnhhblaaDoor.Itoa
