/- Keys of the cipher for one frame, both sides. -/
import Derived.Test.YtgbmbnofnhhblaaDoorFmt
import Derived.Test.YtgbmbnofnhhblaaDoorPass
import Derived.Test.YtgbmbnofnhhblaaDoorSlices
import Derived.Test.YtgbmbnofnhhblaaDoorOwn
namespace Go.Proofs.YtgbmbnofnhhblaaDoor.Seal
open Go.RowKit
open Go.Proofs.YtgbmbnofnhhblaaDoor.Num Go.Proofs.YtgbmbnofnhhblaaDoor.Mem Go.Proofs.YtgbmbnofnhhblaaDoor.Hsh Go.Proofs.YtgbmbnofnhhblaaDoor.Itoa Go.Proofs.YtgbmbnofnhhblaaDoor.Pass
set_option linter.unusedSimpArgs false
set_option linter.unusedVariables false
abbrev Tab (w : World) : Prop := Lib.TabIs Tryd.prog w "internal/strconv.uint64pow10" .u64 Lib.pow10Tab
theorem Tab.below {w w' : World} (h : Tab w) (hb : Below w.heap.size w w') : Tab w' := by
  unfold Tab Lib.TabIs World.var? at h ⊢
  cases hg : Tryd.prog.globalNamed "internal/strconv.uint64pow10" with
  | none => rw [hg] at h; simp at h
  | some g =>
    rw [hg] at h
    simp only [Option.bind_some] at h ⊢
    have hlt : g < w.heap.size := by
      rcases Nat.lt_or_ge g w.heap.size with h1 | h1
      · exact h1
      · rw [Array.getElem?_eq_none h1] at h; simp at h
    rw [hb.block g hlt]
    exact h
def orOne (h : Int) : Int := if h = 0 then 1 else h
theorem max_one (zs : List Int) : maxI 1 (hashL zs) = orOne (hashL zs) := by
  have := hashL_bd zs
  unfold maxI orOne
  split <;> split <;> omega
theorem keyOrOne_any (h : Int) (w : World) : Calls Tryd.prog 73 #[.int .i64 h] w fun x w' => x = .returned (.int .i64 (orOne h)) ∧ w = w' := by
  unfold orOne
  by_cases h0 : h = 0
  · rw [if_pos h0]
    have h1 : (h == 0) = true := by simpa using h0
    clear h0
    go_enter Tryd.func73, Tryd.ntmps73
    go_wp2
    go_ret
    exact ⟨rfl, rfl⟩
  · rw [if_neg h0]
    have h1 : (h == 0) = false := by simpa using h0
    clear h0
    go_enter Tryd.func73, Tryd.ntmps73
    go_wp2
    go_ret
    exact ⟨rfl, rfl⟩
/-- the key derived from a string -/
def derM (key : Int) (s : ByteArray) : Int := orOne (hashL (keyed key (bytesNums (sBytes s))))
theorem nums_wf (s : ByteArray) (hs : s.size ≤ 2097152) : ∀ z ∈ bytesNums (sBytes s), -9223372036854775808 ≤ z ∧ z ≤ 9223372036854775807 := by
  intro z hz
  unfold bytesNums at hz
  rcases List.mem_cons.1 hz with rfl | h
  · rw [sBytes_len]; omega
  · have := sBytes_all s z h; omega
theorem nums_len (s : ByteArray) : (bytesNums (sBytes s)).length = s.size + 1 := by simp [bytesNums, sBytes_len]
set_option maxHeartbeats 1000000 in
theorem derive_impl (key : Int) (s : ByteArray) (w : World) (hk : -9223372036854775808 ≤ key ∧ key ≤ 9223372036854775807) (hs : s.size ≤ 2097151) :
    Calls Tryd.prog 63 #[.int .i64 key, .string s] w fun e w' => e = .returned (.int .i64 (derM key s)) ∧ Below w.heap.size w w' := by
  obtain ⟨cap, o, hconv, hrd⟩ := bytes_conv w s (by omega)
  have HRD := Lib.hid hrd
  have B0 : Below w.heap.size w (w.drew.alloc o) := (show Below w.heap.size w w.drew from (Below.refl _ _).drew).alloc (Nat.le_refl _) o
  have HM := Lib.hid (max_one (keyed key (bytesNums (sBytes s))))
  have HD := Lib.hid (show derM key s = orOne (hashL (keyed key (bytesNums (sBytes s)))) from rfl)
  have HK := Lib.hid hk
  have HW := Lib.hid (nums_wf s (by omega))
  have HL := Lib.hid (show (s.size : Nat) ≤ 2097151 from hs)
  clear hrd hk hs
  generalize hW : w.drew.alloc o = w0 at *
  go_enter Tryd.func63, Tryd.ntmps63
  go_wp2_with fail
  refine (bytesToInts_impl _ s.size cap (sBytes s) _ HRD.out (by have := HL.out; omega) (sBytes_all s)).mono ?_
  rintro x w1 ⟨A1, c1, rfl, hown, hb⟩
  have B1 := stepB B0 hb B0.size
  have H1 := Lib.hid (Rd.of_own hown)
  clear hown hb
  go_wp2_with fail
  refine (keyedHash_impl key A1 _ c1 (bytesNums (sBytes s)) _ H1.out (by have := HL.out; omega) HK.out HW.out).mono ?_
  rintro x w2 ⟨rfl, hb⟩
  have B2 := stepB B1 hb B1.size
  clear hb
  go_wp2_with (first | (go_at_call 73; refine (keyOrOne_any _ _).mono ?_; rintro x w' ⟨rfl, rfl⟩) | (go_at_call 71; refine (max_spec _ _ _).mono ?_; rintro x w' ⟨rfl, rfl⟩))
  go_ret
  exact ⟨by rw [HD.out]; first | rfl | (rw [← HM.out]; rfl), B2⟩
set_option maxHeartbeats 1000000 in
theorem derive_spec (key : Int) (s : ByteArray) (w : World) (hk : -9223372036854775808 ≤ key ∧ key ≤ 9223372036854775807) (hs : s.size ≤ 2097151) :
    Calls Tryd.prog 58 #[.int .i64 key, .string s] w fun e w' => e = .returned (.int .i64 (derM key s)) ∧ Below w.heap.size w w' := by
  obtain ⟨cap, o, hconv, hrd⟩ := bytes_conv w s (by omega)
  have HRD := Lib.hid hrd
  have B0 : Below w.heap.size w (w.drew.alloc o) := (show Below w.heap.size w w.drew from (Below.refl _ _).drew).alloc (Nat.le_refl _) o
  have HM := Lib.hid (max_one (keyed key (bytesNums (sBytes s))))
  have HD := Lib.hid (show derM key s = orOne (hashL (keyed key (bytesNums (sBytes s)))) from rfl)
  have HK := Lib.hid hk
  have HW := Lib.hid (nums_wf s (by omega))
  have HL := Lib.hid (show (s.size : Nat) ≤ 2097151 from hs)
  clear hrd hk hs
  generalize hW : w.drew.alloc o = w0 at *
  go_enter Tryd.func58, Tryd.ntmps58
  go_wp2_with fail
  refine (bytesToInts_spec _ s.size cap (sBytes s) _ HRD.out (by have := HL.out; omega) (sBytes_all s)).mono ?_
  rintro x w1 ⟨A1, c1, rfl, hown, hb⟩
  have B1 := stepB B0 hb B0.size
  have H1 := Lib.hid (Rd.of_own hown)
  clear hown hb
  go_wp2_with fail
  refine (keyedHash_spec key A1 _ c1 (bytesNums (sBytes s)) _ H1.out (by have := HL.out; omega) HK.out HW.out).mono ?_
  rintro x w2 ⟨rfl, hb⟩
  have B2 := stepB B1 hb B1.size
  clear hb
  go_wp2_with (first | (go_at_call 73; refine (keyOrOne_any _ _).mono ?_; rintro x w' ⟨rfl, rfl⟩) | (go_at_call 71; refine (max_spec _ _ _).mono ?_; rintro x w' ⟨rfl, rfl⟩))
  go_ret
  exact ⟨by rw [HD.out]; first | rfl | (rw [← HM.out]; rfl), B2⟩
/-- the numeral of a counter -/
def numS (n : Int) : ByteArray := ⟨(Lib.itoa n).toArray⟩
theorem dec_len : ∀ u : Nat, (Lib.decDigits u).length ≤ u + 1 := by
  intro u
  induction u using Nat.strongRecOn with
  | ind u ih =>
    rw [Lib.decDigits]
    split
    · simp
    · rename_i h
      have := ih (u / 10) (by omega)
      rw [List.length_append]
      simp only [List.length_cons, List.length_nil]
      omega
theorem numS_size {n : Int} (h0 : 0 ≤ n) (h1 : n ≤ 1000000) : (numS n).size ≤ 1000001 := by
  have h : (numS n).size = (Lib.itoa n).length := by simp [numS, ByteArray.size]
  rw [h]
  unfold Lib.itoa
  rw [if_neg (by omega)]
  have := dec_len n.toNat
  omega
/-- the key of the cipher for one frame -/
def cipM (key n : Int) : Int := derM key (numS n)
theorem formatI (n : Int) (h0 : 0 < n) (h1 : n ≤ 1000000) (w : World) (ht : Tab w) : Calls Tryd.prog 64 #[.int .i64 n] w fun e w' => e = .returned (.string (numS n)) ∧ Below w.heap.size w w' := by
  have HT := Lib.hid (itoa_any n (by omega) (by omega) w ht)
  have HN := Lib.hid (show numS n = ⟨(Lib.itoa n).toArray⟩ from rfl)
  clear ht
  go_enter Tryd.func64, Tryd.ntmps64
  go_wp2_with fail
  refine HT.out.mono ?_
  rintro x w1 ⟨rfl, hb⟩
  go_wp2
  go_ret
  exact ⟨by rw [HN.out]; rfl, hb⟩
theorem formatS (n : Int) (h0 : 0 < n) (h1 : n ≤ 1000000) (w : World) : Calls Tryd.prog 59 #[.int .i64 n] w fun e w' => e = .returned (.string (numS n)) ∧ Below w.heap.size w w' := by
  obtain ⟨k, rfl⟩ := Int.eq_ofNat_of_zero_le (show 0 ≤ n by omega)
  exact format_spec k (by omega) (by omega) w
theorem cipher_impl (key n : Int) (h0 : 0 < n) (h1 : n ≤ 1000000) (w : World) (hk : -9223372036854775808 ≤ key ∧ key ≤ 9223372036854775807) (ht : Tab w) :
    Calls Tryd.prog 39 #[.int .i64 key, .int .i64 n] w fun e w' => e = .returned (.int .i64 (cipM key n)) ∧ Below w.heap.size w w' := by
  have HF := Lib.hid (formatI n h0 h1 w ht)
  have HD := Lib.hid (fun w => derive_impl key (numS n) w hk (by have := numS_size (n := n) (by omega) h1; omega))
  have HC := Lib.hid (show cipM key n = derM key (numS n) from rfl)
  clear ht hk
  go_enter Tryd.func39, Tryd.ntmps39
  go_wp2_with fail
  refine HF.out.mono ?_
  rintro x w1 ⟨rfl, hb⟩
  go_wp2_with fail
  refine (HD.out _).mono ?_
  rintro x w2 ⟨rfl, hb2⟩
  go_wp2
  go_ret
  exact ⟨by rw [HC.out]; rfl, stepB hb hb2 hb.size⟩
theorem cipher_spec (key n : Int) (h0 : 0 < n) (h1 : n ≤ 1000000) (w : World) (hk : -9223372036854775808 ≤ key ∧ key ≤ 9223372036854775807) :
    Calls Tryd.prog 34 #[.int .i64 key, .int .i64 n] w fun e w' => e = .returned (.int .i64 (cipM key n)) ∧ Below w.heap.size w w' := by
  have HF := Lib.hid (formatS n h0 h1 w)
  have HD := Lib.hid (fun w => derive_spec key (numS n) w hk (by have := numS_size (n := n) (by omega) h1; omega))
  have HC := Lib.hid (show cipM key n = derM key (numS n) from rfl)
  clear hk
  go_enter Tryd.func34, Tryd.ntmps34
  go_wp2_with fail
  refine HF.out.mono ?_
  rintro x w1 ⟨rfl, hb⟩
  go_wp2_with fail
  refine (HD.out _).mono ?_
  rintro x w2 ⟨rfl, hb2⟩
  go_wp2
  go_ret
  exact ⟨by rw [HC.out]; rfl, stepB hb hb2 hb.size⟩
end Go.Proofs.YtgbmbnofnhhblaaDoor.Seal
