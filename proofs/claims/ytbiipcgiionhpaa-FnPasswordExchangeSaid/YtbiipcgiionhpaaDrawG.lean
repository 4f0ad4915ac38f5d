/- Contracts of the functions that draw elements, exponents, passwords and commits, and of the draws of this seat's laws. -/
import Derived.Test.YtbiipcgiionhpaaDraw
import Derived.Test.YtbiipcgiionhpaaNum2
namespace Go.Proofs.Ytbiipcgiionhpaa.Cur
open Go.RowKit
open Go.Proofs.Ytbiipcgiionhpaa.Num Go.Proofs.Ytbiipcgiionhpaa.Mem Go.Proofs.Ytbiipcgiionhpaa.Hsh

theorem scalarList : ∀ x ∈ ([-1, 0, 1, 1018, 1019] : List Int), -1 ≤ x ∧ x ≤ 2039 := by decide
theorem anyList : ∀ x ∈ ([-1, 0, 1, 2, 3, 2037, 2038, 2039] : List Int), -1 ≤ x ∧ x ≤ 2039 := by decide
theorem pow_range (x : Int) : -1 ≤ powM 4 x ∧ powM 4 x ≤ 2039 := by have := powM_bd 4 x; omega
set_option maxHeartbeats 1000000 in
theorem l28Element_any (A : Option Addr) (n c : Nat) (bs : List Int) (g : Nat) (w : World) (hcur : Cur w g A n c bs) :
    Calls Try.prog 40 #[.pointer (some ⟨g, 0, none⟩)] w (Drew (fun x => -1 ≤ x ∧ x ≤ 2039) w g A n c bs) := by
  have HC := Lib.hid hcur
  clear hcur
  go_enter Try.func40, Try.ntmps40
  go_wp2_with fail
  refine (l1Below_any A n c bs g _ _ HC.out (by omega) (by omega)).mono ?_
  rintro e w1 ⟨x, ⟨x0, x1⟩, rfl, hc1, hg1⟩
  have C1 := Lib.hid hc1
  have G1 := Lib.hid hg1
  clear hc1 hg1
  go_wp2_with (first | (go_at_call 30; refine (powMod_spec _ _ _).mono ?_; rintro e w' ⟨rfl, rfl⟩))
  go_ret
  exact ⟨_, pow_range _, rfl, C1.out, G1.out⟩
set_option maxHeartbeats 1000000 in
theorem l28Any_any (A : Option Addr) (n c : Nat) (bs : List Int) (g : Nat) (w : World) (hcur : Cur w g A n c bs) :
    Calls Try.prog 24 #[.pointer (some ⟨g, 0, none⟩)] w (Drew (fun x => -1 ≤ x ∧ x ≤ 2039) w g A n c bs) := by
  have HC := Lib.hid hcur
  clear hcur
  go_enter Try.func24, Try.ntmps24
  go_wp2_with fail
  refine (l1Once_any A n c bs g _ _ HC.out (by omega) (by omega)).mono ?_
  rintro e w1 ⟨x, rfl, hc1, hg1⟩
  have C1 := Lib.hid hc1
  have G1 := Lib.hid hg1
  clear hc1 hg1
  cases x
  · go_wp2_with fail
    refine (l28Element_any A n c bs g _ C1.out).mono ?_
    rintro e w2 ⟨y, hy, rfl, hc2, hg2⟩
    go_wp2
    go_ret
    exact ⟨y, hy, rfl, hc2, G1.out.trans hg2⟩
  · go_wp2_with fail
    refine (l1Int_any A n c bs g _ 8 8 [-1, 0, 1, 2, 3, 2037, 2038, 2039] _ (C1.out.alloc _) (Rd.lit _ (([-1, 0, 1, 2, 3, 2037, 2038, 2039] : List Int).map (Value.int .i64)) _ 8 rfl (by unfold maxLen; omega)) (fun e => by have := C1.out.lt; simp [blk] at e; omega) (by omega) (by omega)).mono ?_
    rintro e w2 ⟨y, hy, rfl, hc2, hg2⟩
    go_wp2
    go_ret
    exact ⟨y, anyList y hy, rfl, hc2, (G1.out.trans (World.grownBy_alloc _ _ _)).trans hg2⟩
set_option maxHeartbeats 1000000 in
theorem l28Scalar_any (A : Option Addr) (n c : Nat) (bs : List Int) (g : Nat) (w : World) (hcur : Cur w g A n c bs) :
    Calls Try.prog 42 #[.pointer (some ⟨g, 0, none⟩)] w (Drew (fun x => -1 ≤ x ∧ x ≤ 2039) w g A n c bs) := by
  have HC := Lib.hid hcur
  clear hcur
  go_enter Try.func42, Try.ntmps42
  go_wp2_with fail
  refine (l1Once_any A n c bs g _ _ HC.out (by omega) (by omega)).mono ?_
  rintro e w1 ⟨x, rfl, hc1, hg1⟩
  have C1 := Lib.hid hc1
  have G1 := Lib.hid hg1
  clear hc1 hg1
  cases x
  · go_wp2_with fail
    refine (l1Below_any A n c bs g _ _ C1.out (by omega) (by omega)).mono ?_
    rintro e w2 ⟨y, hy, rfl, hc2, hg2⟩
    go_wp2
    go_ret
    exact ⟨y, by dsimp only; omega, rfl, hc2, G1.out.trans hg2⟩
  · go_wp2_with fail
    refine (l1Int_any A n c bs g _ 5 5 [-1, 0, 1, 1018, 1019] _ (C1.out.alloc _) (Rd.lit _ (([-1, 0, 1, 1018, 1019] : List Int).map (Value.int .i64)) _ 5 rfl (by unfold maxLen; omega)) (fun e => by have := C1.out.lt; simp [blk] at e; omega) (by omega) (by omega)).mono ?_
    rintro e w2 ⟨y, hy, rfl, hc2, hg2⟩
    go_wp2
    go_ret
    exact ⟨y, scalarList y hy, rfl, hc2, (G1.out.trans (World.grownBy_alloc _ _ _)).trans hg2⟩
/-- two drawn numbers -/
def Two (w : World) (e : Ending) (w' : World) : Prop :=
  ∃ x y : Int, (-1 ≤ x ∧ x ≤ 2039) ∧ (-1 ≤ y ∧ y ≤ 2039) ∧ e = .returned (.tuple #[.int .i64 x, .int .i64 y]) ∧ Below w.heap.size w w'

end Go.Proofs.Ytbiipcgiionhpaa.Cur
