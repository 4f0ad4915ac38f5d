/- The walk of the law on joining: a client is joined after two answers of its access point in time, and returns to the beginning after a rejection or a timeout. -/
import Derived.Test.YtikolopdkjocgaaDrawJ
import Derived.Test.YtikolopdkjocgaaStart
import Derived.Test.YtikolopdkjocgaaTick
import Derived.Test.YtikolopdkjocgaaAdv
import Derived.Test.YtikolopdkjocgaaBestS
import Derived.Test.YtikolopdkjocgaaAt
import Derived.Outline
namespace Go.Proofs.Ytikolopdkjocgaa.Cl
open Go.RowKit
open Go.Proofs.Ytikolopdkjocgaa.Num Go.Proofs.Ytikolopdkjocgaa.Mem Go.Proofs.Ytikolopdkjocgaa.Hsh Go.Proofs.Ytikolopdkjocgaa.Sls Go.Proofs.Ytikolopdkjocgaa.Scn Go.Proofs.Ytikolopdkjocgaa.Own Go.Proofs.Ytikolopdkjocgaa.Cur
set_option linter.unusedSimpArgs false
set_option linter.unusedVariables false
theorem wrap_ne (P : Int) : (wrap64 (P + 1) != P) = true := by
  rw [bne_iff_ne]
  unfold wrap64
  omega
theorem wrap_in {z : Int} (h : 0 ≤ z ∧ z ≤ 100000) : IntKind.i64.wrap z = z := IntWalk.i64_in _ ⟨by omega, by omega⟩
theorem fldC (v0 v1 v2 : Int) (A : Option Addr) (n c : Nat) (w : World) : (Instr.field 38 (.agg #[.int .i64 v0, .int .i64 v1, .int .i64 v2, .slice A n c]) 0).run Try.prog w = .ok (.int .i64 v0) w := rfl
theorem late_yes {x : Int} (h : 0 ≤ x ∧ x < 40) : lateP 2 (x + 1) (x + 2 + 6) := ⟨.inr rfl, by unfold wrap64; omega⟩
theorem late_no {x : Int} (h : 0 ≤ x ∧ x < 40) : ¬ lateP 2 (x + 1) (x + 1 + 6) := fun h' => by have := h'.2; unfold wrap64 at this; omega
theorem late_3 {x y : Int} : ¬ lateP 3 x y := fun h' => by have := h'.1; omega
set_option maxRecDepth 100000 in
set_option maxHeartbeats 4000000 in
theorem join_law (A : Option Addr) (n c : Nat) (zs : List Int) (w : World) (hrow : RowIn .u8 w A n c zs) :
    Calls Try.prog 4 #[.slice A n c] w fun e w' => e = .returned (.bool true) ∧ Below w.heap.size w w' := by
  have HR := Lib.hid hrow.1
  have HB := Lib.hid (bytes_of_row hrow)
  have B : Below w.heap.size w w := Below.refl _ _
  clear hrow
  by_cases hbig : 1048576 < (n : Int)
  · go_enter Try.func4, Try.ntmps4
    go_wp2_with (first | (go_at_call 5; refine (big_any _ _ _ _).mono ?_; rintro e w' ⟨rfl, rfl⟩))
    go_ret
    exact ⟨rfl, B⟩
  · have hn : n ≤ 1048576 := by omega
    go_enter Try.func4, Try.ntmps4
    go_wp2_with (first | (go_at_call 5; refine (big_any _ _ _ _).mono ?_; rintro e w' ⟨rfl, rfl⟩))
    refine (drawJoin_any A n c zs _ HR.out HB.out (by omega)).mono ?_
    rintro x w1 ⟨s, a, t, x, y, m, ys, L, d, hs, ha, ht, hx, hy, hm, hys, ho, rfl, hb0⟩
    have R0 := Rd.of_own ho
    replace B : Below w.heap.size w w1 := Below.trans (by go_grown) (hb0.mono (by first | omega | (simp [Bk.size_set]; done) | (simp [Bk.size_set]; omega)))
    have z1 := hb0.size
    (try simp only [World.size_alloc, Bk.size_set, World.size_drew, World.drewN] at z1)
    clear hb0
    have HX := Lib.hid hx
    clear hs ha ht hx hy hys ho
    by_cases hgo : s = 0 ∧ 0 ≤ chooseM ys (wrap64 (x - y)) m
    · obtain ⟨rfl, hge⟩ := hgo
      go_wp2_with fail
      refine (start_impl_yes 0 a t x y L m d ys _ (R0.alloc _) (by omega) rfl hge).mono ?_
      rintro x w2 ⟨L2, d2, rfl, ho, hb0⟩
      have R2 := Rd.of_own ho
      have bc : Bk.Blk w2 (w1.heap.size) 38 #[.int .i64 0, .int .i64 a, .int .i64 t, .slice L m d] := (by apply Bk.Blk.to; (focus (apply Bk.Blk.under hb0; (repeat (first | with_reducible assumption | (with_reducible apply Bk.Blk.newAt; focus (first | (simp [Bk.size_set]; done) | (simp [Bk.size_set]; omega))) | with_reducible apply Bk.Blk.drewN | with_reducible apply Bk.Blk.drew | with_reducible apply Bk.Blk.set_ | (with_reducible apply Bk.Blk.far; focus (dsimp only; first | omega | (simp; omega) | (simp; done))) | with_reducible apply Bk.Blk.alloc)))); rfl)
      replace R0 : Mem.Rd w2 4 (L) (m) (d) (ys.map (Value.int .i64)) := Mem.Rd.below (by (repeat (first | with_reducible assumption | with_reducible apply Mem.Rd.alloc | with_reducible apply Mem.Rd.drewN | with_reducible apply Mem.Rd.drew))) hb0
      replace B : Below w.heap.size w w2 := Below.trans (by go_grown) (hb0.mono (by first | omega | (simp [Bk.size_set]; done) | (simp [Bk.size_set]; omega)))
      have z2 := hb0.size
      (try simp only [World.size_alloc, Bk.size_set, World.size_drew, World.drewN] at z2)
      clear hb0
      clear ho
      have L_bc := Lay.f4 bc
      have HC := Lib.hid (choose_spec best_spec L m d ys x y)
      generalize chooseM ys (wrap64 (x - y)) m = P at *
      go_wp2_with fail
      clear L_bc
      refine (HC.out _ (R0.alloc _)).mono ?_
      rintro x w3 ⟨rfl, hb0⟩
      have bx : Bk.Blk w3 (w2.heap.size) 38 #[.int .i64 1, .int .i64 P, .int .i64 x, .slice L2 m d2] := (by apply Bk.Blk.to; (focus (apply Bk.Blk.under hb0; (repeat (first | with_reducible assumption | (with_reducible apply Bk.Blk.newAt; focus (first | (simp [Bk.size_set]; done) | (simp [Bk.size_set]; omega))) | with_reducible apply Bk.Blk.drewN | with_reducible apply Bk.Blk.drew | with_reducible apply Bk.Blk.set_ | (with_reducible apply Bk.Blk.far; focus (dsimp only; first | omega | (simp; omega) | (simp; done))) | with_reducible apply Bk.Blk.alloc)))); rfl)
      replace bc : Bk.Blk w3 (w1.heap.size) 38 #[.int .i64 0, .int .i64 a, .int .i64 t, .slice L m d] := Bk.Blk.under hb0 (by (repeat (first | with_reducible assumption | (with_reducible apply Bk.Blk.newAt; focus (first | (simp [Bk.size_set]; done) | (simp [Bk.size_set]; omega))) | with_reducible apply Bk.Blk.drewN | with_reducible apply Bk.Blk.drew | with_reducible apply Bk.Blk.set_ | (with_reducible apply Bk.Blk.far; focus (dsimp only; first | omega | (simp; omega) | (simp; done))) | with_reducible apply Bk.Blk.alloc)))
      replace R0 : Mem.Rd w3 4 (L) (m) (d) (ys.map (Value.int .i64)) := Mem.Rd.below (by (repeat (first | with_reducible assumption | with_reducible apply Mem.Rd.alloc | with_reducible apply Mem.Rd.drewN | with_reducible apply Mem.Rd.drew))) hb0
      replace R2 : Mem.Rd w3 4 (L2) (m) (d2) (ys.map (Value.int .i64)) := Mem.Rd.below (by (repeat (first | with_reducible assumption | with_reducible apply Mem.Rd.alloc | with_reducible apply Mem.Rd.drewN | with_reducible apply Mem.Rd.drew))) hb0
      replace B : Below w.heap.size w w3 := Below.trans (by go_grown) (hb0.mono (by first | omega | (simp [Bk.size_set]; done) | (simp [Bk.size_set]; omega)))
      have z3 := hb0.size
      (try simp only [World.size_alloc, Bk.size_set, World.size_drew, World.drewN] at z3)
      clear hb0
      clear R0
      have e1 : IntKind.i64.wrap (x + 1) = x + 1 := wrap_in (by have := HX.out; omega)
      have e2 : IntKind.i64.wrap (x + 2) = x + 2 := wrap_in (by have := HX.out; omega)
      have e3 : IntKind.i64.wrap (x + 2 + 6) = x + 2 + 6 := wrap_in (by have := HX.out; omega)
      have e4 : IntKind.i64.wrap (x + 1 + 6) = x + 1 + 6 := wrap_in (by have := HX.out; omega)
      have L_bc := Lay.f4 bc
      have L_bx := Lay.f4 bx
      go_wp2_with fail
      clear L_bc L_bx
      refine (adv_on1 P x P (x + 1) L2 m d2 ys _ R2 (by omega) (by simp)).mono ?_
      rintro x w4 ⟨L3, d3, rfl, ho, hb0⟩
      have R3 := Rd.of_own ho
      replace bc : Bk.Blk w4 (w1.heap.size) 38 #[.int .i64 0, .int .i64 a, .int .i64 t, .slice L m d] := Bk.Blk.under hb0 (by (repeat (first | with_reducible assumption | (with_reducible apply Bk.Blk.newAt; focus (first | (simp [Bk.size_set]; done) | (simp [Bk.size_set]; omega))) | with_reducible apply Bk.Blk.drewN | with_reducible apply Bk.Blk.drew | with_reducible apply Bk.Blk.set_ | (with_reducible apply Bk.Blk.far; focus (dsimp only; first | omega | (simp; omega) | (simp; done))) | with_reducible apply Bk.Blk.alloc)))
      replace bx : Bk.Blk w4 (w2.heap.size) 38 #[.int .i64 1, .int .i64 P, .int .i64 x, .slice L2 m d2] := Bk.Blk.under hb0 (by (repeat (first | with_reducible assumption | (with_reducible apply Bk.Blk.newAt; focus (first | (simp [Bk.size_set]; done) | (simp [Bk.size_set]; omega))) | with_reducible apply Bk.Blk.drewN | with_reducible apply Bk.Blk.drew | with_reducible apply Bk.Blk.set_ | (with_reducible apply Bk.Blk.far; focus (dsimp only; first | omega | (simp; omega) | (simp; done))) | with_reducible apply Bk.Blk.alloc)))
      replace R2 : Mem.Rd w4 4 (L2) (m) (d2) (ys.map (Value.int .i64)) := Mem.Rd.below (by (repeat (first | with_reducible assumption | with_reducible apply Mem.Rd.alloc | with_reducible apply Mem.Rd.drewN | with_reducible apply Mem.Rd.drew))) hb0
      replace B : Below w.heap.size w w4 := Below.trans (by go_grown) (hb0.mono (by first | omega | (simp [Bk.size_set]; done) | (simp [Bk.size_set]; omega)))
      have z4 := hb0.size
      (try simp only [World.size_alloc, Bk.size_set, World.size_drew, World.drewN] at z4)
      clear hb0
      clear ho
      have L_bc := Lay.f4 bc
      have L_bx := Lay.f4 bx
      go_wp2_with fail
      clear L_bc L_bx
      refine (adv_on2 P (x + 1) P (x + 2) L3 m d3 ys _ (R3.alloc _) (by omega) (by simp)).mono ?_
      rintro x w5 ⟨L4, d4, rfl, ho, hb0⟩
      have R4 := Rd.of_own ho
      have ba : Bk.Blk w5 (w4.heap.size) 38 #[.int .i64 2, .int .i64 P, .int .i64 (x + 1), .slice L3 m d3] := (by apply Bk.Blk.to; (focus (apply Bk.Blk.under hb0; (repeat (first | with_reducible assumption | (with_reducible apply Bk.Blk.newAt; focus (first | (simp [Bk.size_set]; done) | (simp [Bk.size_set]; omega))) | with_reducible apply Bk.Blk.drewN | with_reducible apply Bk.Blk.drew | with_reducible apply Bk.Blk.set_ | (with_reducible apply Bk.Blk.far; focus (dsimp only; first | omega | (simp; omega) | (simp; done))) | with_reducible apply Bk.Blk.alloc)))); rfl)
      replace bc : Bk.Blk w5 (w1.heap.size) 38 #[.int .i64 0, .int .i64 a, .int .i64 t, .slice L m d] := Bk.Blk.under hb0 (by (repeat (first | with_reducible assumption | (with_reducible apply Bk.Blk.newAt; focus (first | (simp [Bk.size_set]; done) | (simp [Bk.size_set]; omega))) | with_reducible apply Bk.Blk.drewN | with_reducible apply Bk.Blk.drew | with_reducible apply Bk.Blk.set_ | (with_reducible apply Bk.Blk.far; focus (dsimp only; first | omega | (simp; omega) | (simp; done))) | with_reducible apply Bk.Blk.alloc)))
      replace bx : Bk.Blk w5 (w2.heap.size) 38 #[.int .i64 1, .int .i64 P, .int .i64 x, .slice L2 m d2] := Bk.Blk.under hb0 (by (repeat (first | with_reducible assumption | (with_reducible apply Bk.Blk.newAt; focus (first | (simp [Bk.size_set]; done) | (simp [Bk.size_set]; omega))) | with_reducible apply Bk.Blk.drewN | with_reducible apply Bk.Blk.drew | with_reducible apply Bk.Blk.set_ | (with_reducible apply Bk.Blk.far; focus (dsimp only; first | omega | (simp; omega) | (simp; done))) | with_reducible apply Bk.Blk.alloc)))
      replace R2 : Mem.Rd w5 4 (L2) (m) (d2) (ys.map (Value.int .i64)) := Mem.Rd.below (by (repeat (first | with_reducible assumption | with_reducible apply Mem.Rd.alloc | with_reducible apply Mem.Rd.drewN | with_reducible apply Mem.Rd.drew))) hb0
      replace R3 : Mem.Rd w5 4 (L3) (m) (d3) (ys.map (Value.int .i64)) := Mem.Rd.below (by (repeat (first | with_reducible assumption | with_reducible apply Mem.Rd.alloc | with_reducible apply Mem.Rd.drewN | with_reducible apply Mem.Rd.drew))) hb0
      replace B : Below w.heap.size w w5 := Below.trans (by go_grown) (hb0.mono (by first | omega | (simp [Bk.size_set]; done) | (simp [Bk.size_set]; omega)))
      have z5 := hb0.size
      (try simp only [World.size_alloc, Bk.size_set, World.size_drew, World.drewN] at z5)
      clear hb0
      clear ho
      have L_bx := Lay.f4 bx
      have L_ba := Lay.f4 ba
      go_wp2_with fail
      clear L_bx L_ba
      refine (adv_no1 1 P x _ (x + 1) L2 m d2 ys _ (R2.alloc _) (by omega) true (wrap_ne P)).mono ?_
      rintro x w6 ⟨L5, d5, rfl, ho, hb0⟩
      have R5 := Rd.of_own ho
      have bb : Bk.Blk w6 (w5.heap.size) 38 #[.int .i64 3, .int .i64 P, .int .i64 (x + 2), .slice L4 m d4] := (by apply Bk.Blk.to; (focus (apply Bk.Blk.under hb0; (repeat (first | with_reducible assumption | (with_reducible apply Bk.Blk.newAt; focus (first | (simp [Bk.size_set]; done) | (simp [Bk.size_set]; omega))) | with_reducible apply Bk.Blk.drewN | with_reducible apply Bk.Blk.drew | with_reducible apply Bk.Blk.set_ | (with_reducible apply Bk.Blk.far; focus (dsimp only; first | omega | (simp; omega) | (simp; done))) | with_reducible apply Bk.Blk.alloc)))); rfl)
      replace bc : Bk.Blk w6 (w1.heap.size) 38 #[.int .i64 0, .int .i64 a, .int .i64 t, .slice L m d] := Bk.Blk.under hb0 (by (repeat (first | with_reducible assumption | (with_reducible apply Bk.Blk.newAt; focus (first | (simp [Bk.size_set]; done) | (simp [Bk.size_set]; omega))) | with_reducible apply Bk.Blk.drewN | with_reducible apply Bk.Blk.drew | with_reducible apply Bk.Blk.set_ | (with_reducible apply Bk.Blk.far; focus (dsimp only; first | omega | (simp; omega) | (simp; done))) | with_reducible apply Bk.Blk.alloc)))
      replace bx : Bk.Blk w6 (w2.heap.size) 38 #[.int .i64 1, .int .i64 P, .int .i64 x, .slice L2 m d2] := Bk.Blk.under hb0 (by (repeat (first | with_reducible assumption | (with_reducible apply Bk.Blk.newAt; focus (first | (simp [Bk.size_set]; done) | (simp [Bk.size_set]; omega))) | with_reducible apply Bk.Blk.drewN | with_reducible apply Bk.Blk.drew | with_reducible apply Bk.Blk.set_ | (with_reducible apply Bk.Blk.far; focus (dsimp only; first | omega | (simp; omega) | (simp; done))) | with_reducible apply Bk.Blk.alloc)))
      replace ba : Bk.Blk w6 (w4.heap.size) 38 #[.int .i64 2, .int .i64 P, .int .i64 (x + 1), .slice L3 m d3] := Bk.Blk.under hb0 (by (repeat (first | with_reducible assumption | (with_reducible apply Bk.Blk.newAt; focus (first | (simp [Bk.size_set]; done) | (simp [Bk.size_set]; omega))) | with_reducible apply Bk.Blk.drewN | with_reducible apply Bk.Blk.drew | with_reducible apply Bk.Blk.set_ | (with_reducible apply Bk.Blk.far; focus (dsimp only; first | omega | (simp; omega) | (simp; done))) | with_reducible apply Bk.Blk.alloc)))
      replace R2 : Mem.Rd w6 4 (L2) (m) (d2) (ys.map (Value.int .i64)) := Mem.Rd.below (by (repeat (first | with_reducible assumption | with_reducible apply Mem.Rd.alloc | with_reducible apply Mem.Rd.drewN | with_reducible apply Mem.Rd.drew))) hb0
      replace R3 : Mem.Rd w6 4 (L3) (m) (d3) (ys.map (Value.int .i64)) := Mem.Rd.below (by (repeat (first | with_reducible assumption | with_reducible apply Mem.Rd.alloc | with_reducible apply Mem.Rd.drewN | with_reducible apply Mem.Rd.drew))) hb0
      replace R4 : Mem.Rd w6 4 (L4) (m) (d4) (ys.map (Value.int .i64)) := Mem.Rd.below (by (repeat (first | with_reducible assumption | with_reducible apply Mem.Rd.alloc | with_reducible apply Mem.Rd.drewN | with_reducible apply Mem.Rd.drew))) hb0
      replace B : Below w.heap.size w w6 := Below.trans (by go_grown) (hb0.mono (by first | omega | (simp [Bk.size_set]; done) | (simp [Bk.size_set]; omega)))
      have z6 := hb0.size
      (try simp only [World.size_alloc, Bk.size_set, World.size_drew, World.drewN] at z6)
      clear hb0
      clear ho R2
      have L_ba := Lay.f4 ba
      go_wp2_with fail
      clear L_ba
      refine (adv_off2 P (x + 1) P (x + 2) L3 m d3 ys _ (R3.alloc _) (by omega) (by simp)).mono ?_
      rintro x w7 ⟨L6, d6, rfl, ho, hb0⟩
      have bs : Bk.Blk w7 (w6.heap.size) 38 #[.int .i64 1, .int .i64 P, .int .i64 x, .slice L5 m d5] := (by apply Bk.Blk.to; (focus (apply Bk.Blk.under hb0; (repeat (first | with_reducible assumption | (with_reducible apply Bk.Blk.newAt; focus (first | (simp [Bk.size_set]; done) | (simp [Bk.size_set]; omega))) | with_reducible apply Bk.Blk.drewN | with_reducible apply Bk.Blk.drew | with_reducible apply Bk.Blk.set_ | (with_reducible apply Bk.Blk.far; focus (dsimp only; first | omega | (simp; omega) | (simp; done))) | with_reducible apply Bk.Blk.alloc)))); rfl)
      replace bc : Bk.Blk w7 (w1.heap.size) 38 #[.int .i64 0, .int .i64 a, .int .i64 t, .slice L m d] := Bk.Blk.under hb0 (by (repeat (first | with_reducible assumption | (with_reducible apply Bk.Blk.newAt; focus (first | (simp [Bk.size_set]; done) | (simp [Bk.size_set]; omega))) | with_reducible apply Bk.Blk.drewN | with_reducible apply Bk.Blk.drew | with_reducible apply Bk.Blk.set_ | (with_reducible apply Bk.Blk.far; focus (dsimp only; first | omega | (simp; omega) | (simp; done))) | with_reducible apply Bk.Blk.alloc)))
      replace bx : Bk.Blk w7 (w2.heap.size) 38 #[.int .i64 1, .int .i64 P, .int .i64 x, .slice L2 m d2] := Bk.Blk.under hb0 (by (repeat (first | with_reducible assumption | (with_reducible apply Bk.Blk.newAt; focus (first | (simp [Bk.size_set]; done) | (simp [Bk.size_set]; omega))) | with_reducible apply Bk.Blk.drewN | with_reducible apply Bk.Blk.drew | with_reducible apply Bk.Blk.set_ | (with_reducible apply Bk.Blk.far; focus (dsimp only; first | omega | (simp; omega) | (simp; done))) | with_reducible apply Bk.Blk.alloc)))
      replace ba : Bk.Blk w7 (w4.heap.size) 38 #[.int .i64 2, .int .i64 P, .int .i64 (x + 1), .slice L3 m d3] := Bk.Blk.under hb0 (by (repeat (first | with_reducible assumption | (with_reducible apply Bk.Blk.newAt; focus (first | (simp [Bk.size_set]; done) | (simp [Bk.size_set]; omega))) | with_reducible apply Bk.Blk.drewN | with_reducible apply Bk.Blk.drew | with_reducible apply Bk.Blk.set_ | (with_reducible apply Bk.Blk.far; focus (dsimp only; first | omega | (simp; omega) | (simp; done))) | with_reducible apply Bk.Blk.alloc)))
      replace bb : Bk.Blk w7 (w5.heap.size) 38 #[.int .i64 3, .int .i64 P, .int .i64 (x + 2), .slice L4 m d4] := Bk.Blk.under hb0 (by (repeat (first | with_reducible assumption | (with_reducible apply Bk.Blk.newAt; focus (first | (simp [Bk.size_set]; done) | (simp [Bk.size_set]; omega))) | with_reducible apply Bk.Blk.drewN | with_reducible apply Bk.Blk.drew | with_reducible apply Bk.Blk.set_ | (with_reducible apply Bk.Blk.far; focus (dsimp only; first | omega | (simp; omega) | (simp; done))) | with_reducible apply Bk.Blk.alloc)))
      replace R3 : Mem.Rd w7 4 (L3) (m) (d3) (ys.map (Value.int .i64)) := Mem.Rd.below (by (repeat (first | with_reducible assumption | with_reducible apply Mem.Rd.alloc | with_reducible apply Mem.Rd.drewN | with_reducible apply Mem.Rd.drew))) hb0
      replace R4 : Mem.Rd w7 4 (L4) (m) (d4) (ys.map (Value.int .i64)) := Mem.Rd.below (by (repeat (first | with_reducible assumption | with_reducible apply Mem.Rd.alloc | with_reducible apply Mem.Rd.drewN | with_reducible apply Mem.Rd.drew))) hb0
      replace B : Below w.heap.size w w7 := Below.trans (by go_grown) (hb0.mono (by first | omega | (simp [Bk.size_set]; done) | (simp [Bk.size_set]; omega)))
      have z7 := hb0.size
      (try simp only [World.size_alloc, Bk.size_set, World.size_drew, World.drewN] at z7)
      clear hb0
      clear ho R5
      have L_ba := Lay.f4 ba
      go_wp2_with fail
      clear L_ba
      refine (tick_impl_late 2 P (x + 1) (x + 2 + 6) L3 m d3 ys _ (R3.alloc _) (by omega) (late_yes HX.out)).mono ?_
      rintro x w8 ⟨L7, d7, rfl, ho, hb0⟩
      have br : Bk.Blk w8 (w7.heap.size) 38 #[.int .i64 0, .int .i64 0, .int .i64 0, .slice L6 m d6] := (by apply Bk.Blk.to; (focus (apply Bk.Blk.under hb0; (repeat (first | with_reducible assumption | (with_reducible apply Bk.Blk.newAt; focus (first | (simp [Bk.size_set]; done) | (simp [Bk.size_set]; omega))) | with_reducible apply Bk.Blk.drewN | with_reducible apply Bk.Blk.drew | with_reducible apply Bk.Blk.set_ | (with_reducible apply Bk.Blk.far; focus (dsimp only; first | omega | (simp; omega) | (simp; done))) | with_reducible apply Bk.Blk.alloc)))); rfl)
      replace bc : Bk.Blk w8 (w1.heap.size) 38 #[.int .i64 0, .int .i64 a, .int .i64 t, .slice L m d] := Bk.Blk.under hb0 (by (repeat (first | with_reducible assumption | (with_reducible apply Bk.Blk.newAt; focus (first | (simp [Bk.size_set]; done) | (simp [Bk.size_set]; omega))) | with_reducible apply Bk.Blk.drewN | with_reducible apply Bk.Blk.drew | with_reducible apply Bk.Blk.set_ | (with_reducible apply Bk.Blk.far; focus (dsimp only; first | omega | (simp; omega) | (simp; done))) | with_reducible apply Bk.Blk.alloc)))
      replace bx : Bk.Blk w8 (w2.heap.size) 38 #[.int .i64 1, .int .i64 P, .int .i64 x, .slice L2 m d2] := Bk.Blk.under hb0 (by (repeat (first | with_reducible assumption | (with_reducible apply Bk.Blk.newAt; focus (first | (simp [Bk.size_set]; done) | (simp [Bk.size_set]; omega))) | with_reducible apply Bk.Blk.drewN | with_reducible apply Bk.Blk.drew | with_reducible apply Bk.Blk.set_ | (with_reducible apply Bk.Blk.far; focus (dsimp only; first | omega | (simp; omega) | (simp; done))) | with_reducible apply Bk.Blk.alloc)))
      replace ba : Bk.Blk w8 (w4.heap.size) 38 #[.int .i64 2, .int .i64 P, .int .i64 (x + 1), .slice L3 m d3] := Bk.Blk.under hb0 (by (repeat (first | with_reducible assumption | (with_reducible apply Bk.Blk.newAt; focus (first | (simp [Bk.size_set]; done) | (simp [Bk.size_set]; omega))) | with_reducible apply Bk.Blk.drewN | with_reducible apply Bk.Blk.drew | with_reducible apply Bk.Blk.set_ | (with_reducible apply Bk.Blk.far; focus (dsimp only; first | omega | (simp; omega) | (simp; done))) | with_reducible apply Bk.Blk.alloc)))
      replace bb : Bk.Blk w8 (w5.heap.size) 38 #[.int .i64 3, .int .i64 P, .int .i64 (x + 2), .slice L4 m d4] := Bk.Blk.under hb0 (by (repeat (first | with_reducible assumption | (with_reducible apply Bk.Blk.newAt; focus (first | (simp [Bk.size_set]; done) | (simp [Bk.size_set]; omega))) | with_reducible apply Bk.Blk.drewN | with_reducible apply Bk.Blk.drew | with_reducible apply Bk.Blk.set_ | (with_reducible apply Bk.Blk.far; focus (dsimp only; first | omega | (simp; omega) | (simp; done))) | with_reducible apply Bk.Blk.alloc)))
      replace bs : Bk.Blk w8 (w6.heap.size) 38 #[.int .i64 1, .int .i64 P, .int .i64 x, .slice L5 m d5] := Bk.Blk.under hb0 (by (repeat (first | with_reducible assumption | (with_reducible apply Bk.Blk.newAt; focus (first | (simp [Bk.size_set]; done) | (simp [Bk.size_set]; omega))) | with_reducible apply Bk.Blk.drewN | with_reducible apply Bk.Blk.drew | with_reducible apply Bk.Blk.set_ | (with_reducible apply Bk.Blk.far; focus (dsimp only; first | omega | (simp; omega) | (simp; done))) | with_reducible apply Bk.Blk.alloc)))
      replace R3 : Mem.Rd w8 4 (L3) (m) (d3) (ys.map (Value.int .i64)) := Mem.Rd.below (by (repeat (first | with_reducible assumption | with_reducible apply Mem.Rd.alloc | with_reducible apply Mem.Rd.drewN | with_reducible apply Mem.Rd.drew))) hb0
      replace R4 : Mem.Rd w8 4 (L4) (m) (d4) (ys.map (Value.int .i64)) := Mem.Rd.below (by (repeat (first | with_reducible assumption | with_reducible apply Mem.Rd.alloc | with_reducible apply Mem.Rd.drewN | with_reducible apply Mem.Rd.drew))) hb0
      replace B : Below w.heap.size w w8 := Below.trans (by go_grown) (hb0.mono (by first | omega | (simp [Bk.size_set]; done) | (simp [Bk.size_set]; omega)))
      have z8 := hb0.size
      (try simp only [World.size_alloc, Bk.size_set, World.size_drew, World.drewN] at z8)
      clear hb0
      clear ho
      have L_ba := Lay.f4 ba
      go_wp2_with fail
      clear L_ba
      refine (tick_impl_not 2 P (x + 1) (x + 1 + 6) L3 m d3 ys _ (R3.alloc _) (by omega) (late_no HX.out)).mono ?_
      rintro x w9 ⟨L8, d8, rfl, ho, hb0⟩
      have bl : Bk.Blk w9 (w8.heap.size) 38 #[.int .i64 0, .int .i64 0, .int .i64 0, .slice L7 m d7] := (by apply Bk.Blk.to; (focus (apply Bk.Blk.under hb0; (repeat (first | with_reducible assumption | (with_reducible apply Bk.Blk.newAt; focus (first | (simp [Bk.size_set]; done) | (simp [Bk.size_set]; omega))) | with_reducible apply Bk.Blk.drewN | with_reducible apply Bk.Blk.drew | with_reducible apply Bk.Blk.set_ | (with_reducible apply Bk.Blk.far; focus (dsimp only; first | omega | (simp; omega) | (simp; done))) | with_reducible apply Bk.Blk.alloc)))); rfl)
      replace bc : Bk.Blk w9 (w1.heap.size) 38 #[.int .i64 0, .int .i64 a, .int .i64 t, .slice L m d] := Bk.Blk.under hb0 (by (repeat (first | with_reducible assumption | (with_reducible apply Bk.Blk.newAt; focus (first | (simp [Bk.size_set]; done) | (simp [Bk.size_set]; omega))) | with_reducible apply Bk.Blk.drewN | with_reducible apply Bk.Blk.drew | with_reducible apply Bk.Blk.set_ | (with_reducible apply Bk.Blk.far; focus (dsimp only; first | omega | (simp; omega) | (simp; done))) | with_reducible apply Bk.Blk.alloc)))
      replace bx : Bk.Blk w9 (w2.heap.size) 38 #[.int .i64 1, .int .i64 P, .int .i64 x, .slice L2 m d2] := Bk.Blk.under hb0 (by (repeat (first | with_reducible assumption | (with_reducible apply Bk.Blk.newAt; focus (first | (simp [Bk.size_set]; done) | (simp [Bk.size_set]; omega))) | with_reducible apply Bk.Blk.drewN | with_reducible apply Bk.Blk.drew | with_reducible apply Bk.Blk.set_ | (with_reducible apply Bk.Blk.far; focus (dsimp only; first | omega | (simp; omega) | (simp; done))) | with_reducible apply Bk.Blk.alloc)))
      replace ba : Bk.Blk w9 (w4.heap.size) 38 #[.int .i64 2, .int .i64 P, .int .i64 (x + 1), .slice L3 m d3] := Bk.Blk.under hb0 (by (repeat (first | with_reducible assumption | (with_reducible apply Bk.Blk.newAt; focus (first | (simp [Bk.size_set]; done) | (simp [Bk.size_set]; omega))) | with_reducible apply Bk.Blk.drewN | with_reducible apply Bk.Blk.drew | with_reducible apply Bk.Blk.set_ | (with_reducible apply Bk.Blk.far; focus (dsimp only; first | omega | (simp; omega) | (simp; done))) | with_reducible apply Bk.Blk.alloc)))
      replace bb : Bk.Blk w9 (w5.heap.size) 38 #[.int .i64 3, .int .i64 P, .int .i64 (x + 2), .slice L4 m d4] := Bk.Blk.under hb0 (by (repeat (first | with_reducible assumption | (with_reducible apply Bk.Blk.newAt; focus (first | (simp [Bk.size_set]; done) | (simp [Bk.size_set]; omega))) | with_reducible apply Bk.Blk.drewN | with_reducible apply Bk.Blk.drew | with_reducible apply Bk.Blk.set_ | (with_reducible apply Bk.Blk.far; focus (dsimp only; first | omega | (simp; omega) | (simp; done))) | with_reducible apply Bk.Blk.alloc)))
      replace bs : Bk.Blk w9 (w6.heap.size) 38 #[.int .i64 1, .int .i64 P, .int .i64 x, .slice L5 m d5] := Bk.Blk.under hb0 (by (repeat (first | with_reducible assumption | (with_reducible apply Bk.Blk.newAt; focus (first | (simp [Bk.size_set]; done) | (simp [Bk.size_set]; omega))) | with_reducible apply Bk.Blk.drewN | with_reducible apply Bk.Blk.drew | with_reducible apply Bk.Blk.set_ | (with_reducible apply Bk.Blk.far; focus (dsimp only; first | omega | (simp; omega) | (simp; done))) | with_reducible apply Bk.Blk.alloc)))
      replace br : Bk.Blk w9 (w7.heap.size) 38 #[.int .i64 0, .int .i64 0, .int .i64 0, .slice L6 m d6] := Bk.Blk.under hb0 (by (repeat (first | with_reducible assumption | (with_reducible apply Bk.Blk.newAt; focus (first | (simp [Bk.size_set]; done) | (simp [Bk.size_set]; omega))) | with_reducible apply Bk.Blk.drewN | with_reducible apply Bk.Blk.drew | with_reducible apply Bk.Blk.set_ | (with_reducible apply Bk.Blk.far; focus (dsimp only; first | omega | (simp; omega) | (simp; done))) | with_reducible apply Bk.Blk.alloc)))
      replace R4 : Mem.Rd w9 4 (L4) (m) (d4) (ys.map (Value.int .i64)) := Mem.Rd.below (by (repeat (first | with_reducible assumption | with_reducible apply Mem.Rd.alloc | with_reducible apply Mem.Rd.drewN | with_reducible apply Mem.Rd.drew))) hb0
      replace B : Below w.heap.size w w9 := Below.trans (by go_grown) (hb0.mono (by first | omega | (simp [Bk.size_set]; done) | (simp [Bk.size_set]; omega)))
      have z9 := hb0.size
      (try simp only [World.size_alloc, Bk.size_set, World.size_drew, World.drewN] at z9)
      clear hb0
      clear ho R3
      have L_bc := Lay.f4 bc
      have L_bx := Lay.f4 bx
      have L_ba := Lay.f4 ba
      have L_bb := Lay.f4 bb
      have L_bs := Lay.f4 bs
      have L_br := Lay.f4 br
      have L_bl := Lay.f4 bl
      go_wp2_with fail
      clear L_bc L_bx L_ba L_bb L_bs L_br L_bl
      refine (tick_impl_not 3 P (x + 2) _ L4 m d4 ys _ (R4.alloc _) (by omega) late_3).mono ?_
      rintro x w10 ⟨L9, d9, rfl, ho, hb0⟩
      have be : Bk.Blk w10 (w9.heap.size) 38 #[.int .i64 2, .int .i64 P, .int .i64 (x + 1), .slice L8 m d8] := (by apply Bk.Blk.to; (focus (apply Bk.Blk.under hb0; (repeat (first | with_reducible assumption | (with_reducible apply Bk.Blk.newAt; focus (first | (simp [Bk.size_set]; done) | (simp [Bk.size_set]; omega))) | with_reducible apply Bk.Blk.drewN | with_reducible apply Bk.Blk.drew | with_reducible apply Bk.Blk.set_ | (with_reducible apply Bk.Blk.far; focus (dsimp only; first | omega | (simp; omega) | (simp; done))) | with_reducible apply Bk.Blk.alloc)))); rfl)
      replace bc : Bk.Blk w10 (w1.heap.size) 38 #[.int .i64 0, .int .i64 a, .int .i64 t, .slice L m d] := Bk.Blk.under hb0 (by (repeat (first | with_reducible assumption | (with_reducible apply Bk.Blk.newAt; focus (first | (simp [Bk.size_set]; done) | (simp [Bk.size_set]; omega))) | with_reducible apply Bk.Blk.drewN | with_reducible apply Bk.Blk.drew | with_reducible apply Bk.Blk.set_ | (with_reducible apply Bk.Blk.far; focus (dsimp only; first | omega | (simp; omega) | (simp; done))) | with_reducible apply Bk.Blk.alloc)))
      replace bx : Bk.Blk w10 (w2.heap.size) 38 #[.int .i64 1, .int .i64 P, .int .i64 x, .slice L2 m d2] := Bk.Blk.under hb0 (by (repeat (first | with_reducible assumption | (with_reducible apply Bk.Blk.newAt; focus (first | (simp [Bk.size_set]; done) | (simp [Bk.size_set]; omega))) | with_reducible apply Bk.Blk.drewN | with_reducible apply Bk.Blk.drew | with_reducible apply Bk.Blk.set_ | (with_reducible apply Bk.Blk.far; focus (dsimp only; first | omega | (simp; omega) | (simp; done))) | with_reducible apply Bk.Blk.alloc)))
      replace ba : Bk.Blk w10 (w4.heap.size) 38 #[.int .i64 2, .int .i64 P, .int .i64 (x + 1), .slice L3 m d3] := Bk.Blk.under hb0 (by (repeat (first | with_reducible assumption | (with_reducible apply Bk.Blk.newAt; focus (first | (simp [Bk.size_set]; done) | (simp [Bk.size_set]; omega))) | with_reducible apply Bk.Blk.drewN | with_reducible apply Bk.Blk.drew | with_reducible apply Bk.Blk.set_ | (with_reducible apply Bk.Blk.far; focus (dsimp only; first | omega | (simp; omega) | (simp; done))) | with_reducible apply Bk.Blk.alloc)))
      replace bb : Bk.Blk w10 (w5.heap.size) 38 #[.int .i64 3, .int .i64 P, .int .i64 (x + 2), .slice L4 m d4] := Bk.Blk.under hb0 (by (repeat (first | with_reducible assumption | (with_reducible apply Bk.Blk.newAt; focus (first | (simp [Bk.size_set]; done) | (simp [Bk.size_set]; omega))) | with_reducible apply Bk.Blk.drewN | with_reducible apply Bk.Blk.drew | with_reducible apply Bk.Blk.set_ | (with_reducible apply Bk.Blk.far; focus (dsimp only; first | omega | (simp; omega) | (simp; done))) | with_reducible apply Bk.Blk.alloc)))
      replace bs : Bk.Blk w10 (w6.heap.size) 38 #[.int .i64 1, .int .i64 P, .int .i64 x, .slice L5 m d5] := Bk.Blk.under hb0 (by (repeat (first | with_reducible assumption | (with_reducible apply Bk.Blk.newAt; focus (first | (simp [Bk.size_set]; done) | (simp [Bk.size_set]; omega))) | with_reducible apply Bk.Blk.drewN | with_reducible apply Bk.Blk.drew | with_reducible apply Bk.Blk.set_ | (with_reducible apply Bk.Blk.far; focus (dsimp only; first | omega | (simp; omega) | (simp; done))) | with_reducible apply Bk.Blk.alloc)))
      replace br : Bk.Blk w10 (w7.heap.size) 38 #[.int .i64 0, .int .i64 0, .int .i64 0, .slice L6 m d6] := Bk.Blk.under hb0 (by (repeat (first | with_reducible assumption | (with_reducible apply Bk.Blk.newAt; focus (first | (simp [Bk.size_set]; done) | (simp [Bk.size_set]; omega))) | with_reducible apply Bk.Blk.drewN | with_reducible apply Bk.Blk.drew | with_reducible apply Bk.Blk.set_ | (with_reducible apply Bk.Blk.far; focus (dsimp only; first | omega | (simp; omega) | (simp; done))) | with_reducible apply Bk.Blk.alloc)))
      replace bl : Bk.Blk w10 (w8.heap.size) 38 #[.int .i64 0, .int .i64 0, .int .i64 0, .slice L7 m d7] := Bk.Blk.under hb0 (by (repeat (first | with_reducible assumption | (with_reducible apply Bk.Blk.newAt; focus (first | (simp [Bk.size_set]; done) | (simp [Bk.size_set]; omega))) | with_reducible apply Bk.Blk.drewN | with_reducible apply Bk.Blk.drew | with_reducible apply Bk.Blk.set_ | (with_reducible apply Bk.Blk.far; focus (dsimp only; first | omega | (simp; omega) | (simp; done))) | with_reducible apply Bk.Blk.alloc)))
      replace B : Below w.heap.size w w10 := Below.trans (by go_grown) (hb0.mono (by first | omega | (simp [Bk.size_set]; done) | (simp [Bk.size_set]; omega)))
      have z10 := hb0.size
      (try simp only [World.size_alloc, Bk.size_set, World.size_drew, World.drewN] at z10)
      clear hb0
      clear ho R4
      have L_bc := Lay.f4 bc
      have L_bx := Lay.f4 bx
      have L_ba := Lay.f4 ba
      have L_bb := Lay.f4 bb
      have L_bs := Lay.f4 bs
      have L_br := Lay.f4 br
      have L_bl := Lay.f4 bl
      have L_be := Lay.f4 be
      go_wp2_with fail
      rw [fldC]
      go_wp2
      go_ret
      exact ⟨rfl, by go_grown⟩
    · have hno : s ≠ 0 ∨ chooseM ys (wrap64 (x - y)) m < 0 := by omega
      go_wp2_with fail
      refine (start_impl_no s a t x y L m d ys _ (R0.alloc _) (by omega) hno).mono ?_
      rintro x w2 ⟨L2, d2, rfl, ho, hb0⟩
      have bc : Bk.Blk w2 (w1.heap.size) 38 #[.int .i64 s, .int .i64 a, .int .i64 t, .slice L m d] := (by apply Bk.Blk.to; (focus (apply Bk.Blk.under hb0; (repeat (first | with_reducible assumption | (with_reducible apply Bk.Blk.newAt; focus (first | (simp [Bk.size_set]; done) | (simp [Bk.size_set]; omega))) | with_reducible apply Bk.Blk.drewN | with_reducible apply Bk.Blk.drew | with_reducible apply Bk.Blk.set_ | (with_reducible apply Bk.Blk.far; focus (dsimp only; first | omega | (simp; omega) | (simp; done))) | with_reducible apply Bk.Blk.alloc)))); rfl)
      replace R0 : Mem.Rd w2 4 (L) (m) (d) (ys.map (Value.int .i64)) := Mem.Rd.below (by (repeat (first | with_reducible assumption | with_reducible apply Mem.Rd.alloc | with_reducible apply Mem.Rd.drewN | with_reducible apply Mem.Rd.drew))) hb0
      replace B : Below w.heap.size w w2 := Below.trans (by go_grown) (hb0.mono (by first | omega | (simp [Bk.size_set]; done) | (simp [Bk.size_set]; omega)))
      have z2 := hb0.size
      (try simp only [World.size_alloc, Bk.size_set, World.size_drew, World.drewN] at z2)
      clear hb0
      clear ho
      have L_bc := Lay.f4 bc
      by_cases hs : s = 0
      · have hl : chooseM ys (wrap64 (x - y)) m < 0 := by omega
        have HC := Lib.hid (choose_spec best_spec L m d ys x y)
        generalize chooseM ys (wrap64 (x - y)) m = P at *
        subst hs
        clear hgo hno
        go_wp2_with fail
        refine (HC.out _ (R0.alloc _)).mono ?_
        rintro x' w3 ⟨rfl, hb0⟩
        replace bc : Bk.Blk w3 (w1.heap.size) 38 #[.int .i64 0, .int .i64 a, .int .i64 t, .slice L m d] := Bk.Blk.under hb0 (by (repeat (first | with_reducible assumption | (with_reducible apply Bk.Blk.newAt; focus (first | (simp [Bk.size_set]; done) | (simp [Bk.size_set]; omega))) | with_reducible apply Bk.Blk.drewN | with_reducible apply Bk.Blk.drew | with_reducible apply Bk.Blk.set_ | (with_reducible apply Bk.Blk.far; focus (dsimp only; first | omega | (simp; omega) | (simp; done))) | with_reducible apply Bk.Blk.alloc)))
        have bx : Bk.Blk w3 (w2.heap.size) 38 #[.int .i64 0, .int .i64 a, .int .i64 t, .slice L2 m d2] := (by apply Bk.Blk.to; (focus (apply Bk.Blk.under hb0; (repeat (first | with_reducible assumption | (with_reducible apply Bk.Blk.newAt; focus (first | (simp [Bk.size_set]; done) | (simp [Bk.size_set]; omega))) | with_reducible apply Bk.Blk.drewN | with_reducible apply Bk.Blk.drew | with_reducible apply Bk.Blk.set_ | (with_reducible apply Bk.Blk.far; focus (dsimp only; first | omega | (simp; omega) | (simp; done))) | with_reducible apply Bk.Blk.alloc)))); rfl)
        replace B : Below w.heap.size w w3 := Below.trans (by go_grown) (hb0.mono (by first | omega | (simp [Bk.size_set]; done) | (simp [Bk.size_set]; omega)))
        have z3 := hb0.size
        (try simp only [World.size_alloc, Bk.size_set, World.size_drew, World.drewN] at z3)
        clear hb0
        have L_bc := Lay.f4 bc
        have L_bx := Lay.f4 bx
        go_wp2
        go_ret
        exact ⟨rfl, by go_grown⟩
      · have hs2 : (s == 0) = false := by simpa using hs
        clear hgo hno hs
        go_wp2
        go_ret
        exact ⟨rfl, by go_grown⟩
end Go.Proofs.Ytikolopdkjocgaa.Cl
