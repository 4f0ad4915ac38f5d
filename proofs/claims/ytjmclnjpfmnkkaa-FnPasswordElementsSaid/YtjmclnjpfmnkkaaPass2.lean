/- The walks of the laws on PasswordElement. -/
import Derived.Test.YtjmclnjpfmnkkaaPass
import Derived.Test.YtjmclnjpfmnkkaaDrawG
import Derived.Test.YtjmclnjpfmnkkaaAt
import Derived.OpenShut
namespace Go.Proofs.Ytjmclnjpfmnkkaa.Pass
open Go.RowKit
open Go.Proofs.Ytjmclnjpfmnkkaa.Num Go.Proofs.Ytjmclnjpfmnkkaa.Mem Go.Proofs.Ytjmclnjpfmnkkaa.Hsh Go.Proofs.Ytjmclnjpfmnkkaa.Grp Go.Proofs.Ytjmclnjpfmnkkaa.Cur

set_option maxHeartbeats 1000000 in
theorem pass_law (s : ByteArray) (a b : Int) (w : World) (hs : s.size ≤ maxLen) (ha : (Lit.int .i64 a).wf = true) (hb : (Lit.int .i64 b).wf = true) :
    Calls Try.prog 10 #[.string s, .int .i64 a, .int .i64 b] w fun e w' => e = .returned (.bool true) ∧ Below w.heap.size w w' := by
  have hs' : s.size ≤ 9223372036854775807 := by unfold maxLen at hs; omega
  have HA := Lib.hid (show -9223372036854775808 ≤ a ∧ a ≤ 9223372036854775807 by have := bounds_i64 ha; omega)
  have HB := Lib.hid (show -9223372036854775808 ≤ b ∧ b ≤ 9223372036854775807 by have := bounds_i64 hb; omega)
  clear ha hb hs
  by_cases hbig : 1048576 < (s.size : Int)
  · go_enter Try.func10, Try.ntmps10
    go_wp2
    go_ret
    exact ⟨rfl, Below.refl _ _⟩
  · go_enter Try.func10, Try.ntmps10
    go_wp2_with fail
    refine (pass_spec s a b _ hs' HA.out HB.out).mono ?_
    rintro e w1 ⟨rfl, B⟩
    go_wp2_with fail
    refine (pass_impl s a b _ hs' HA.out HB.out).mono ?_
    rintro e w2 ⟨rfl, hb⟩
    replace B := stepW B hb
    clear hb
    go_wp2
    go_ret
    exact ⟨rfl, B⟩

def passwords : List ByteArray := [⟨#[]⟩, ⟨#[97]⟩, ⟨#[115, 101, 99, 114, 101, 116]⟩, ⟨#[115, 101, 115, 97, 109, 101]⟩, ⟨#[48, 49, 50, 51, 52, 53, 54, 55, 56, 57, 97, 98, 99, 100, 101, 102]⟩, ⟨#[48, 49, 50, 51, 52, 53, 54, 55, 56, 57, 97, 98, 99, 100, 101, 102, 103]⟩]
theorem passwords_size : ∀ s ∈ passwords, s.size ≤ 17 := by
  intro s hs
  simp only [passwords, List.mem_cons, List.not_mem_nil, or_false] at hs
  rcases hs with rfl | rfl | rfl | rfl | rfl | rfl <;> decide
set_option maxHeartbeats 1000000 in
theorem l28Password_any (A : Option Addr) (n c : Nat) (bs : List Int) (g : Nat) (w : World) (hcur : Cur w g A n c bs) :
    Calls Try.prog 77 #[.pointer (some ⟨g, 0, none⟩)] w (DrewS passwords w g A n c bs) := by
  have HC := Lib.hid hcur
  clear hcur
  go_enter Try.func77, Try.ntmps77
  go_wp2_with fail
  refine (l1Str_any A n c bs g _ 6 6 passwords _ (HC.out.alloc _) (Rd.lit _ (passwords.map Value.string) _ 6 rfl (by unfold maxLen; omega)) (fun e => by have := HC.out.lt; simp [blk] at e; omega) (by omega) (by omega)).mono ?_
  rintro e w2 ⟨y, hy, rfl, hc2, hg2⟩
  go_wp2
  go_ret
  exact ⟨y, hy, rfl, hc2, (World.grownBy_alloc _ _ _).trans hg2⟩

/-- a drawn password and two stations -/
def DrewPass (w : World) (e : Ending) (w' : World) : Prop :=
  ∃ (s : ByteArray) (a b : Int), s.size ≤ 17 ∧ (0 ≤ a ∧ a < 5) ∧ (0 ≤ b ∧ b < 5) ∧ e = .returned (.tuple #[.string s, .int .i64 a, .int .i64 b]) ∧ Below w.heap.size w w'
set_option maxHeartbeats 1000000 in
theorem drawPass_any (A : Option Addr) (n c : Nat) (bs : List Int) (w : World) (hr : Rd w 1 A n c (bs.map (Value.int .u8))) (hb : AllBytes bs) (hn : n ≤ 2097152) :
    Calls Try.prog 41 #[.slice A n c] w (DrewPass w) := by
  have HN := Lib.hid (cur_new hr hb hn)
  have HR := Lib.hid hr
  have HB := Lib.hid hb
  clear hr hb
  go_enter Try.func41, Try.ntmps41
  go_wp2_with fail
  refine (l1New_any A n c bs _ HR.out HB.out hn).mono ?_
  rintro e w1 ⟨h, rfl, rfl⟩
  go_wp2_with fail
  refine (l28Password_any A n c bs _ _ (HN.out h)).mono ?_
  rintro e w2 ⟨s, hs, rfl, hc2, hg2⟩
  have HS := Lib.hid (passwords_size s hs)
  have C2 := Lib.hid hc2
  have B2 := Lib.hid (((Below.refl w.heap.size w).alloc (Nat.le_refl _) _).grown hg2 (by simp) (fun k hk => by cases hk; exact Nat.le_refl _))
  have S2 := B2.out.size
  clear hc2 hg2 hs
  go_wp2_with fail
  refine (l1Below_any A n c bs _ _ _ C2.out (by omega) (by omega)).mono ?_
  rintro e w3 ⟨a, ha, rfl, hc3, hg3⟩
  have C3 := Lib.hid hc3
  have B3 := Lib.hid (B2.out.grown hg3 S2 (fun k hk => by cases hk; exact Nat.le_refl _))
  have S3 := B3.out.size
  clear hc3 hg3
  go_wp2_with fail
  refine (l1Below_any A n c bs _ _ _ C3.out (by omega) (by omega)).mono ?_
  rintro e w4 ⟨b, hb, rfl, hc4, hg4⟩
  have B4 := Lib.hid (B3.out.grown hg4 S3 (fun k hk => by cases hk; exact Nat.le_refl _))
  clear hc4 hg4
  go_wp2
  go_ret3
  exact ⟨s, a, b, HS.out, ha, hb, rfl, B4.out⟩

/-! what a password's element is -/
theorem sq_all : allB 2039 (fun v => v == 0 || pm (v * v % 2039) 1019 == 1) = true := by decide +kernel
theorem passE_el {h : Int} (h0 : 0 ≤ h) (h1 : 1 < passE h) : elB (passE h) = true := by
  unfold passE at h1 ⊢
  have hv0 : 0 ≤ h * h := (sq_bd h0 (Int.le_refl h)).1
  have hv : 0 ≤ h * h % 2147483647 % 2039 ∧ h * h % 2147483647 % 2039 < 2039 := by omega
  generalize h * h % 2147483647 % 2039 = v at hv h1 ⊢
  obtain ⟨n, rfl⟩ := Int.eq_ofNat_of_zero_le hv.1
  have hn : n < 2039 := by omega
  have := allB_of sq_all n hn
  rw [Bool.or_eq_true] at this
  have hc : (n : Int) * (n : Int) % 2039 = ((n * n % 2039 : Nat) : Int) := by rw [← Int.natCast_mul]; omega
  rw [hc] at h1 ⊢
  rcases this with h2 | h2
  · have : n = 0 := by simpa using h2
    subst this
    simp at h1
  · refine elB_of ⟨by omega, Nat.mod_lt _ (by omega), by simpa using h2⟩
theorem passGo_el (vals : List Int) : ∀ (n : Nat) (k : Int), 1 < passGo vals n k ∧ elB (passGo vals n k) = true
  | 0, _ => ⟨by unfold passGo; omega, elB_of el4⟩
  | n + 1, k => by
    rw [passGo]
    split
    · rename_i h
      exact ⟨h, passE_el (hashL_bd _).1 h⟩
    · exact passGo_el vals n (k + 1)
theorem passM_el {s : ByteArray} {a b : Int} (h : ¬ 16 < s.size) : 1 < passM s a b ∧ elB (passM s a b) = true := by
  unfold passM; rw [if_neg h]; exact passGo_el _ _ _
theorem passM_comm (s : ByteArray) (a b : Int) : passM s b a = passM s a b := by
  have h1 : maxI b a = maxI a b := by unfold maxI; split <;> split <;> omega
  have h2 : minI b a = minI a b := by unfold minI; split <;> split <;> omega
  unfold passM passVals
  rw [h1, h2]

set_option maxHeartbeats 1000000 in
theorem elements_law (A : Option Addr) (n c : Nat) (zs : List Int) (w : World) (hrow : RowIn .u8 w A n c zs) :
    Calls Try.prog 12 #[.slice A n c] w fun e w' => e = .returned (.bool true) ∧ Below w.heap.size w w' := by
  have HR := Lib.hid hrow.1
  have HB := Lib.hid (bytes_of_row hrow)
  clear hrow
  by_cases hbig : 1048576 < (n : Int)
  · go_enter Try.func12, Try.ntmps12
    go_wp2_with (first | (go_at_call 38; refine (big_any _ _ _ _).mono ?_; rintro e w' ⟨rfl, rfl⟩))
    go_ret
    exact ⟨rfl, Below.refl _ _⟩
  · have hn : n ≤ 1048576 := by omega
    go_enter Try.func12, Try.ntmps12
    go_wp2_with (first | (go_at_call 38; refine (big_any _ _ _ _).mono ?_; rintro e w' ⟨rfl, rfl⟩))
    refine (drawPass_any A n c zs _ HR.out HB.out (by omega)).mono ?_
    rintro e w1 ⟨s, a, b, hs, ha, hb, rfl, B⟩
    have hcm := passM_comm s a b
    go_wp2_with fail
    refine (pass_impl s a b _ (by omega) (by omega) (by omega)).mono ?_
    rintro e w2 ⟨rfl, hbl⟩
    replace B := stepW B hbl
    clear hbl
    by_cases h16 : 16 < s.size
    · have h0 : (passM s a b == 0) = true := by unfold passM; rw [if_pos h16]; rfl
      clear hcm
      go_wp2
      go_ret
      exact ⟨rfl, B⟩
    · obtain ⟨p1, p2⟩ := passM_el (a := a) (b := b) h16
      have h1 : (passM s a b == passM s b a) = true := by rw [hcm]; simp
      clear hcm
      have B' := Lib.hid B
      clear B
      go_wp2_with (first | (go_at_call 31; refine (isEl_impl _ _).mono ?_; rintro e w' ⟨rfl, rfl⟩))
      refine (pass_impl s b a _ (by omega) (by omega) (by omega)).mono ?_
      rintro e w3 ⟨rfl, hbl⟩
      have B3 := Lib.hid (stepW B'.out hbl)
      clear hbl
      go_wp2_with fail
      refine (pass_spec s a b _ (by omega) (by omega) (by omega)).mono ?_
      rintro e w4 ⟨rfl, hbl⟩
      have B4 := Lib.hid (stepW B3.out hbl)
      clear hbl
      go_wp2
      go_ret
      exact ⟨rfl, B4.out⟩
end Go.Proofs.Ytjmclnjpfmnkkaa.Pass
