/- Contracts of the functions that draw elements, exponents, passwords and commits, and of the draws of this seat's laws. -/
import Derived.Test.YtjmclnjpfmnkkaaDraw
import Derived.Test.YtjmclnjpfmnkkaaNum2
namespace Go.Proofs.Ytjmclnjpfmnkkaa.Cur
open Go.RowKit
open Go.Proofs.Ytjmclnjpfmnkkaa.Num Go.Proofs.Ytjmclnjpfmnkkaa.Mem Go.Proofs.Ytjmclnjpfmnkkaa.Hsh

theorem scalarList : ∀ x ∈ ([-1, 0, 1, 1018, 1019] : List Int), -1 ≤ x ∧ x ≤ 2039 := by decide
theorem anyList : ∀ x ∈ ([-1, 0, 1, 2, 3, 2037, 2038, 2039] : List Int), -1 ≤ x ∧ x ≤ 2039 := by decide
theorem pow_range (x : Int) : -1 ≤ powM 4 x ∧ powM 4 x ≤ 2039 := by have := powM_bd 4 x; omega
set_option maxHeartbeats 1000000 in
theorem l28Element_any (A : Option Addr) (n c : Nat) (bs : List Int) (g : Nat) (w : World) (hcur : Cur w g A n c bs) :
    Calls Try.prog 88 #[.pointer (some ⟨g, 0, none⟩)] w (Drew (fun x => -1 ≤ x ∧ x ≤ 2039) w g A n c bs) := by
  have HC := Lib.hid hcur
  clear hcur
  go_enter Try.func88, Try.ntmps88
  go_wp2_with fail
  refine (l1Below_any A n c bs g _ _ HC.out (by omega) (by omega)).mono ?_
  rintro e w1 ⟨x, ⟨x0, x1⟩, rfl, hc1, hg1⟩
  have C1 := Lib.hid hc1
  have G1 := Lib.hid hg1
  clear hc1 hg1
  go_wp2_with (first | (go_at_call 28; refine (powMod_spec _ _ _).mono ?_; rintro e w' ⟨rfl, rfl⟩))
  go_ret
  exact ⟨_, pow_range _, rfl, C1.out, G1.out⟩
set_option maxHeartbeats 1000000 in
theorem l28Any_any (A : Option Addr) (n c : Nat) (bs : List Int) (g : Nat) (w : World) (hcur : Cur w g A n c bs) :
    Calls Try.prog 86 #[.pointer (some ⟨g, 0, none⟩)] w (Drew (fun x => -1 ≤ x ∧ x ≤ 2039) w g A n c bs) := by
  have HC := Lib.hid hcur
  clear hcur
  go_enter Try.func86, Try.ntmps86
  go_wp2_with fail
  refine (l1Once_any A n c bs g _ _ HC.out (by omega) (by omega)).mono ?_
  rintro e w1 ⟨x, rfl, hc1, hg1⟩
  have C1 := Lib.hid hc1
  have G1 := Lib.hid hg1
  clear hc1 hg1
  cases x
  · go_wp2_with fail
    refine (l28Element_any A n c bs g _ C1.out).mono ?_
    rintro e w2 ⟨y, hy, rfl, hc2, hg2⟩
    go_wp2
    go_ret
    exact ⟨y, hy, rfl, hc2, G1.out.trans hg2⟩
  · go_wp2_with fail
    refine (l1Int_any A n c bs g _ 8 8 [-1, 0, 1, 2, 3, 2037, 2038, 2039] _ (C1.out.alloc _) (Rd.lit _ (([-1, 0, 1, 2, 3, 2037, 2038, 2039] : List Int).map (Value.int .i64)) _ 8 rfl (by unfold maxLen; omega)) (fun e => by have := C1.out.lt; simp [blk] at e; omega) (by omega) (by omega)).mono ?_
    rintro e w2 ⟨y, hy, rfl, hc2, hg2⟩
    go_wp2
    go_ret
    exact ⟨y, anyList y hy, rfl, hc2, (G1.out.trans (World.grownBy_alloc _ _ _)).trans hg2⟩
set_option maxHeartbeats 1000000 in
theorem l28Scalar_any (A : Option Addr) (n c : Nat) (bs : List Int) (g : Nat) (w : World) (hcur : Cur w g A n c bs) :
    Calls Try.prog 90 #[.pointer (some ⟨g, 0, none⟩)] w (Drew (fun x => -1 ≤ x ∧ x ≤ 2039) w g A n c bs) := by
  have HC := Lib.hid hcur
  clear hcur
  go_enter Try.func90, Try.ntmps90
  go_wp2_with fail
  refine (l1Once_any A n c bs g _ _ HC.out (by omega) (by omega)).mono ?_
  rintro e w1 ⟨x, rfl, hc1, hg1⟩
  have C1 := Lib.hid hc1
  have G1 := Lib.hid hg1
  clear hc1 hg1
  cases x
  · go_wp2_with fail
    refine (l1Below_any A n c bs g _ _ C1.out (by omega) (by omega)).mono ?_
    rintro e w2 ⟨y, hy, rfl, hc2, hg2⟩
    go_wp2
    go_ret
    exact ⟨y, by dsimp only; omega, rfl, hc2, G1.out.trans hg2⟩
  · go_wp2_with fail
    refine (l1Int_any A n c bs g _ 5 5 [-1, 0, 1, 1018, 1019] _ (C1.out.alloc _) (Rd.lit _ (([-1, 0, 1, 1018, 1019] : List Int).map (Value.int .i64)) _ 5 rfl (by unfold maxLen; omega)) (fun e => by have := C1.out.lt; simp [blk] at e; omega) (by omega) (by omega)).mono ?_
    rintro e w2 ⟨y, hy, rfl, hc2, hg2⟩
    go_wp2
    go_ret
    exact ⟨y, scalarList y hy, rfl, hc2, (G1.out.trans (World.grownBy_alloc _ _ _)).trans hg2⟩
/-- two drawn numbers -/
def Two (w : World) (e : Ending) (w' : World) : Prop :=
  ∃ x y : Int, (-1 ≤ x ∧ x ≤ 2039) ∧ (-1 ≤ y ∧ y ≤ 2039) ∧ e = .returned (.tuple #[.int .i64 x, .int .i64 y]) ∧ Below w.heap.size w w'

set_option maxHeartbeats 1000000 in
theorem drawMulMod_any (A : Option Addr) (n c : Nat) (bs : List Int) (w : World) (hr : Rd w 1 A n c (bs.map (Value.int .u8))) (hb : AllBytes bs) (hn : n ≤ 2097152) :
    Calls Try.prog 75 #[.slice A n c] w (Two w) := by
  have HN := Lib.hid (cur_new hr hb hn)
  have HR := Lib.hid hr
  have HB := Lib.hid hb
  clear hr hb
  go_enter Try.func75, Try.ntmps75
  go_wp2_with fail
  refine (l1New_any A n c bs _ HR.out HB.out hn).mono ?_
  rintro e w1 ⟨h, rfl, rfl⟩
  go_wp2_with fail
  refine (l28Any_any A n c bs _ _ (HN.out h)).mono ?_
  rintro e w2 ⟨x, hx, rfl, hc2, hg2⟩
  have C2 := Lib.hid hc2
  have B2 := Lib.hid (((Below.refl w.heap.size w).alloc (Nat.le_refl _) _).grown hg2 (by simp) (fun k hk => by cases hk; exact Nat.le_refl _))
  have S2 := B2.out.size
  clear hc2 hg2
  go_wp2_with fail
  refine (l28Any_any A n c bs _ _ C2.out).mono ?_
  rintro e w3 ⟨y, hy, rfl, hc3, hg3⟩
  have B3 := Lib.hid (B2.out.grown hg3 S2 (fun k hk => by cases hk; exact Nat.le_refl _))
  clear hc3 hg3
  go_wp2
  go_ret2
  exact ⟨x, y, hx, hy, rfl, B3.out⟩
set_option maxHeartbeats 1000000 in
theorem drawDiscreteLog_any (A : Option Addr) (n c : Nat) (bs : List Int) (w : World) (hr : Rd w 1 A n c (bs.map (Value.int .u8))) (hb : AllBytes bs) (hn : n ≤ 2097152) :
    Calls Try.prog 39 #[.slice A n c] w (Two w) := by
  have HR := Lib.hid hr
  have HB := Lib.hid hb
  clear hr hb
  go_enter Try.func39, Try.ntmps39
  go_wp2_with fail
  refine (drawMulMod_any A n c bs _ HR.out HB.out hn).mono ?_
  rintro e w1 ⟨x, y, hx, hy, rfl, hb1⟩
  go_wp2
  go_ret2
  exact ⟨x, y, hx, hy, rfl, hb1⟩
end Go.Proofs.Ytjmclnjpfmnkkaa.Cur
