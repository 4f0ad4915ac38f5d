/- The draw of an entry of a scan. -/
import Derived.Test.YtikolopdkjocgaaCurB
import Derived.Test.YtikolopdkjocgaaLay
namespace Go.Proofs.Ytikolopdkjocgaa.Cur
open Go.RowKit
open Go.Proofs.Ytikolopdkjocgaa.Num Go.Proofs.Ytikolopdkjocgaa.Mem Go.Proofs.Ytikolopdkjocgaa.Hsh
set_option linter.unusedSimpArgs false
set_option linter.unusedVariables false
/-- the ranges of an entry that is drawn -/
def EntIn (x0 x1 x2 x3 : Int) : Prop := (-1 ≤ x0 ∧ x0 ≤ 16) ∧ (-1 ≤ x1 ∧ x1 ≤ 101) ∧ (-1 ≤ x2 ∧ x2 ≤ 9) ∧ (-1 ≤ x3 ∧ x3 ≤ 1000000000001)
def DrewE (w : World) (g : Nat) (A : Option Addr) (n c : Nat) (bs : List Int) (e : Ending) (w' : World) : Prop :=
  ∃ x0 x1 x2 x3 : Int, EntIn x0 x1 x2 x3 ∧ e = .returned (.agg #[.int .i64 x0, .int .i64 x1, .int .i64 x2, .int .i64 x3]) ∧ Cur w' g A n c bs ∧ w.grownBy w' (some g)
theorem entL0 : ∀ x ∈ ([-1, 15, 16] : List Int), -1 ≤ x ∧ x ≤ 16 := by decide
theorem entL1 : ∀ x ∈ ([-1, 100, 101] : List Int), -1 ≤ x ∧ x ≤ 101 := by decide
theorem entL2 : ∀ x ∈ ([-1, 8, 9] : List Int), -1 ≤ x ∧ x ≤ 9 := by decide
theorem entL3 : ∀ x ∈ ([-1, 1000000000000, 1000000000001] : List Int), -1 ≤ x ∧ x ≤ 1000000000001 := by decide
theorem ent_in {x0 x1 x2 x3 : Int} (h0 : -1 ≤ x0 ∧ x0 ≤ 16) (h1 : -1 ≤ x1 ∧ x1 ≤ 101) (h2 : -1 ≤ x2 ∧ x2 ≤ 9) (h3 : -1 ≤ x3 ∧ x3 ≤ 1000000000001) : EntIn x0 x1 x2 x3 := ⟨h0, h1, h2, h3⟩
set_option maxHeartbeats 4000000 in
theorem l32Entry_any (A : Option Addr) (n c : Nat) (bs : List Int) (g : Nat) (w : World) (hcur : Cur w g A n c bs) :
    Calls Try.prog 40 #[.pointer (some ⟨g, 0, none⟩)] w (DrewE w g A n c bs) := by
  have HAL := Lib.hid (CurB.old_cur hcur)
  have hgl := hcur.lt
  have C := hcur
  have G : w.grownBy w (some g) := World.grownBy.refl _ _
  clear hcur
  go_enter Try.func40, Try.ntmps40
  go_wp2_with fail
  refine (l1Below_any A n c bs g _ _ (by (repeat (first | with_reducible assumption | with_reducible apply Cur.Cur.alloc | with_reducible apply CurB.cur_drewN | with_reducible apply CurB.cur_drew | ((with_reducible refine CurB.cur_set HAL.out ?_ ?_ ?_ _); (focus (first | omega | (dsimp only; done) | (dsimp only; omega))); (focus (first | omega | (dsimp only; omega))))))) (by omega) (by omega)).mono ?_
  rintro x w1 ⟨a, ha, rfl, C0, hg0⟩
  have ra : Bk.Blk w1 (w.heap.size) 30 #[.int .i64 0, .int .i64 0, .int .i64 0, .int .i64 0] := (by apply Bk.Blk.to; (focus (apply Bk.Blk.grown hg0 (by omega); (repeat (first | with_reducible assumption | (with_reducible apply Bk.Blk.newAt; focus (first | (simp [Bk.size_set]; done) | (simp [Bk.size_set]; omega))) | with_reducible apply Bk.Blk.drewN | with_reducible apply Bk.Blk.drew | with_reducible apply Bk.Blk.set_ | (with_reducible apply Bk.Blk.far; focus (dsimp only; first | omega | (simp; omega) | (simp; done))) | with_reducible apply Bk.Blk.alloc)))); rfl)
  replace C := C0
  replace G : w.grownBy w1 (some (g)) := World.grownBy.trans (by (repeat (first | with_reducible assumption | with_reducible exact World.grownBy.refl _ _ | with_reducible apply CurB.gr_alloc | with_reducible apply CurB.gr_drewN | with_reducible apply CurB.gr_drew | (with_reducible apply CurB.gr_set; focus (first | omega | (dsimp only; done) | (dsimp only; omega)))))) hg0
  have z1 := hg0.size
  (try simp only [World.size_alloc, Bk.size_set, World.size_drew, World.drewN] at z1)
  clear hg0
  have Ha := Lib.hid ha
  obtain ⟨a0, a1⟩ := ha
  go_wp2_with fail
  refine (l1Below_any A n c bs g _ _ (by (repeat (first | with_reducible assumption | with_reducible apply Cur.Cur.alloc | with_reducible apply CurB.cur_drewN | with_reducible apply CurB.cur_drew | ((with_reducible refine CurB.cur_set HAL.out ?_ ?_ ?_ _); (focus (first | omega | (dsimp only; done) | (dsimp only; omega))); (focus (first | omega | (dsimp only; omega))))))) (by omega) (by omega)).mono ?_
  rintro x w2 ⟨b, hb, rfl, C0, hg0⟩
  replace ra : Bk.Blk w2 (w.heap.size) 30 #[.int .i64 0, .int .i64 0, .int .i64 0, .int .i64 0] := Bk.Blk.grown hg0 (by omega) (by (repeat (first | with_reducible assumption | (with_reducible apply Bk.Blk.newAt; focus (first | (simp [Bk.size_set]; done) | (simp [Bk.size_set]; omega))) | with_reducible apply Bk.Blk.drewN | with_reducible apply Bk.Blk.drew | with_reducible apply Bk.Blk.set_ | (with_reducible apply Bk.Blk.far; focus (dsimp only; first | omega | (simp; omega) | (simp; done))) | with_reducible apply Bk.Blk.alloc)))
  replace C := C0
  replace G : w.grownBy w2 (some (g)) := World.grownBy.trans (by (repeat (first | with_reducible assumption | with_reducible exact World.grownBy.refl _ _ | with_reducible apply CurB.gr_alloc | with_reducible apply CurB.gr_drewN | with_reducible apply CurB.gr_drew | (with_reducible apply CurB.gr_set; focus (first | omega | (dsimp only; done) | (dsimp only; omega)))))) hg0
  have z2 := hg0.size
  (try simp only [World.size_alloc, Bk.size_set, World.size_drew, World.drewN] at z2)
  clear hg0
  have Hb := Lib.hid hb
  obtain ⟨b0, b1⟩ := hb
  go_wp2_with fail
  refine (l1Below_any A n c bs g _ _ (by (repeat (first | with_reducible assumption | with_reducible apply Cur.Cur.alloc | with_reducible apply CurB.cur_drewN | with_reducible apply CurB.cur_drew | ((with_reducible refine CurB.cur_set HAL.out ?_ ?_ ?_ _); (focus (first | omega | (dsimp only; done) | (dsimp only; omega))); (focus (first | omega | (dsimp only; omega))))))) (by omega) (by omega)).mono ?_
  rintro x w3 ⟨d, hd, rfl, C0, hg0⟩
  replace ra : Bk.Blk w3 (w.heap.size) 30 #[.int .i64 0, .int .i64 0, .int .i64 0, .int .i64 0] := Bk.Blk.grown hg0 (by omega) (by (repeat (first | with_reducible assumption | (with_reducible apply Bk.Blk.newAt; focus (first | (simp [Bk.size_set]; done) | (simp [Bk.size_set]; omega))) | with_reducible apply Bk.Blk.drewN | with_reducible apply Bk.Blk.drew | with_reducible apply Bk.Blk.set_ | (with_reducible apply Bk.Blk.far; focus (dsimp only; first | omega | (simp; omega) | (simp; done))) | with_reducible apply Bk.Blk.alloc)))
  replace C := C0
  replace G : w.grownBy w3 (some (g)) := World.grownBy.trans (by (repeat (first | with_reducible assumption | with_reducible exact World.grownBy.refl _ _ | with_reducible apply CurB.gr_alloc | with_reducible apply CurB.gr_drewN | with_reducible apply CurB.gr_drew | (with_reducible apply CurB.gr_set; focus (first | omega | (dsimp only; done) | (dsimp only; omega)))))) hg0
  have z3 := hg0.size
  (try simp only [World.size_alloc, Bk.size_set, World.size_drew, World.drewN] at z3)
  clear hg0
  have Hd := Lib.hid hd
  obtain ⟨d0, d1⟩ := hd
  go_wp2_with fail
  refine (l1Below_any A n c bs g _ _ (by (repeat (first | with_reducible assumption | with_reducible apply Cur.Cur.alloc | with_reducible apply CurB.cur_drewN | with_reducible apply CurB.cur_drew | ((with_reducible refine CurB.cur_set HAL.out ?_ ?_ ?_ _); (focus (first | omega | (dsimp only; done) | (dsimp only; omega))); (focus (first | omega | (dsimp only; omega))))))) (by omega) (by omega)).mono ?_
  rintro x w4 ⟨f, hf, rfl, C0, hg0⟩
  replace ra : Bk.Blk w4 (w.heap.size) 30 #[.int .i64 0, .int .i64 0, .int .i64 0, .int .i64 0] := Bk.Blk.grown hg0 (by omega) (by (repeat (first | with_reducible assumption | (with_reducible apply Bk.Blk.newAt; focus (first | (simp [Bk.size_set]; done) | (simp [Bk.size_set]; omega))) | with_reducible apply Bk.Blk.drewN | with_reducible apply Bk.Blk.drew | with_reducible apply Bk.Blk.set_ | (with_reducible apply Bk.Blk.far; focus (dsimp only; first | omega | (simp; omega) | (simp; done))) | with_reducible apply Bk.Blk.alloc)))
  replace C := C0
  replace G : w.grownBy w4 (some (g)) := World.grownBy.trans (by (repeat (first | with_reducible assumption | with_reducible exact World.grownBy.refl _ _ | with_reducible apply CurB.gr_alloc | with_reducible apply CurB.gr_drewN | with_reducible apply CurB.gr_drew | (with_reducible apply CurB.gr_set; focus (first | omega | (dsimp only; done) | (dsimp only; omega)))))) hg0
  have z4 := hg0.size
  (try simp only [World.size_alloc, Bk.size_set, World.size_drew, World.drewN] at z4)
  clear hg0
  have Hf := Lib.hid hf
  obtain ⟨f0, f1⟩ := hf
  have e1 : IntKind.i64.wrap (5 * b) = 5 * b := IntWalk.i64_in _ ⟨by omega, by omega⟩
  go_wp2_with fail
  refine (l1Below_any A n c bs g _ _ (by (repeat (first | with_reducible assumption | with_reducible apply Cur.Cur.alloc | with_reducible apply CurB.cur_drewN | with_reducible apply CurB.cur_drew | ((with_reducible refine CurB.cur_set HAL.out ?_ ?_ ?_ _); (focus (first | omega | (dsimp only; done) | (dsimp only; omega))); (focus (first | omega | (dsimp only; omega))))))) (by omega) (by omega)).mono ?_
  rintro x w5 ⟨s, hs, rfl, C0, hg0⟩
  replace ra : Bk.Blk w5 (w.heap.size) 30 #[.int .i64 0, .int .i64 0, .int .i64 0, .int .i64 0] := Bk.Blk.grown hg0 (by omega) (by (repeat (first | with_reducible assumption | (with_reducible apply Bk.Blk.newAt; focus (first | (simp [Bk.size_set]; done) | (simp [Bk.size_set]; omega))) | with_reducible apply Bk.Blk.drewN | with_reducible apply Bk.Blk.drew | with_reducible apply Bk.Blk.set_ | (with_reducible apply Bk.Blk.far; focus (dsimp only; first | omega | (simp; omega) | (simp; done))) | with_reducible apply Bk.Blk.alloc)))
  have en : Bk.Blk w5 (w4.heap.size) 30 #[.int .i64 a, .int .i64 (10 + 5 * b), .int .i64 d, .int .i64 f] := (by apply Bk.Blk.to; (focus (apply Bk.Blk.grown hg0 (by omega); (repeat (first | with_reducible assumption | (with_reducible apply Bk.Blk.newAt; focus (first | (simp [Bk.size_set]; done) | (simp [Bk.size_set]; omega))) | with_reducible apply Bk.Blk.drewN | with_reducible apply Bk.Blk.drew | with_reducible apply Bk.Blk.set_ | (with_reducible apply Bk.Blk.far; focus (dsimp only; first | omega | (simp; omega) | (simp; done))) | with_reducible apply Bk.Blk.alloc)))); rfl)
  replace C := C0
  replace G : w.grownBy w5 (some (g)) := World.grownBy.trans (by (repeat (first | with_reducible assumption | with_reducible exact World.grownBy.refl _ _ | with_reducible apply CurB.gr_alloc | with_reducible apply CurB.gr_drewN | with_reducible apply CurB.gr_drew | (with_reducible apply CurB.gr_set; focus (first | omega | (dsimp only; done) | (dsimp only; omega)))))) hg0
  have z5 := hg0.size
  (try simp only [World.size_alloc, Bk.size_set, World.size_drew, World.drewN] at z5)
  clear hg0
  obtain ⟨s0, s1⟩ := hs
  clear e1
  by_cases q0 : s = 0
  · have r0 : (s == 0) = true := by simpa using q0
    clear q0
    go_wp2_with fail
    refine (l1Int_any A n c bs g _ 3 3 [-1, 15, 16] _ (by (repeat (first | with_reducible assumption | with_reducible apply Cur.Cur.alloc | with_reducible apply CurB.cur_drewN | with_reducible apply CurB.cur_drew | ((with_reducible refine CurB.cur_set HAL.out ?_ ?_ ?_ _); (focus (first | omega | (dsimp only; done) | (dsimp only; omega))); (focus (first | omega | (dsimp only; omega))))))) (by exact Rd.litAt _ (([-1, 15, 16] : List Int).map (Value.int .i64)) _ 3 _ (by simp) rfl (by unfold maxLen; omega)) (fun e => by simp [blk] at e; have := C.lt; omega) (by omega) (by omega)).mono ?_
    rintro x w6 ⟨v, hv, rfl, C0, hg0⟩
    replace ra : Bk.Blk w6 (w.heap.size) 30 #[.int .i64 0, .int .i64 0, .int .i64 0, .int .i64 0] := Bk.Blk.grown hg0 (by omega) (by (repeat (first | with_reducible assumption | (with_reducible apply Bk.Blk.newAt; focus (first | (simp [Bk.size_set]; done) | (simp [Bk.size_set]; omega))) | with_reducible apply Bk.Blk.drewN | with_reducible apply Bk.Blk.drew | with_reducible apply Bk.Blk.set_ | (with_reducible apply Bk.Blk.far; focus (dsimp only; first | omega | (simp; omega) | (simp; done))) | with_reducible apply Bk.Blk.alloc)))
    replace en : Bk.Blk w6 (w4.heap.size) 30 #[.int .i64 a, .int .i64 (10 + 5 * b), .int .i64 d, .int .i64 f] := Bk.Blk.grown hg0 (by omega) (by (repeat (first | with_reducible assumption | (with_reducible apply Bk.Blk.newAt; focus (first | (simp [Bk.size_set]; done) | (simp [Bk.size_set]; omega))) | with_reducible apply Bk.Blk.drewN | with_reducible apply Bk.Blk.drew | with_reducible apply Bk.Blk.set_ | (with_reducible apply Bk.Blk.far; focus (dsimp only; first | omega | (simp; omega) | (simp; done))) | with_reducible apply Bk.Blk.alloc)))
    replace C := C0
    replace G : w.grownBy w6 (some (g)) := World.grownBy.trans (by (repeat (first | with_reducible assumption | with_reducible exact World.grownBy.refl _ _ | with_reducible apply CurB.gr_alloc | with_reducible apply CurB.gr_drewN | with_reducible apply CurB.gr_drew | (with_reducible apply CurB.gr_set; focus (first | omega | (dsimp only; done) | (dsimp only; omega)))))) hg0
    have z6 := hg0.size
    (try simp only [World.size_alloc, Bk.size_set, World.size_drew, World.drewN] at z6)
    clear hg0
    have HV := Lib.hid (entL0 v hv)
    clear hv
    have L_ra := Lay.f4 ra
    have L_en := Lay.f4 en
    go_wp2
    clear L_ra L_en
    generalize hW : World.setCell _ _ _ = w7
    replace ra : Bk.Blk w7 (w.heap.size) 30 #[.int .i64 v, .int .i64 (10 + 5 * b), .int .i64 d, .int .i64 f] := (by rw [← hW]; apply Bk.Blk.to; (focus ((repeat (first | with_reducible assumption | (with_reducible apply Bk.Blk.newAt; focus (first | (simp [Bk.size_set]; done) | (simp [Bk.size_set]; omega))) | with_reducible apply Bk.Blk.drewN | with_reducible apply Bk.Blk.drew | with_reducible apply Bk.Blk.set_ | (with_reducible apply Bk.Blk.far; focus (dsimp only; first | omega | (simp; omega) | (simp; done))) | with_reducible apply Bk.Blk.alloc)))); rfl)
    replace C : Cur.Cur w7 (g) A n c bs := (by rw [← hW]; (repeat (first | with_reducible assumption | with_reducible apply Cur.Cur.alloc | with_reducible apply CurB.cur_drewN | with_reducible apply CurB.cur_drew | ((with_reducible refine CurB.cur_set HAL.out ?_ ?_ ?_ _); (focus (first | omega | (dsimp only; done) | (dsimp only; omega))); (focus (first | omega | (dsimp only; omega)))))))
    replace G : w.grownBy w7 (some (g)) := (by rw [← hW]; (repeat (first | with_reducible assumption | with_reducible exact World.grownBy.refl _ _ | with_reducible apply CurB.gr_alloc | with_reducible apply CurB.gr_drewN | with_reducible apply CurB.gr_drew | (with_reducible apply CurB.gr_set; focus (first | omega | (dsimp only; done) | (dsimp only; omega))))))
    have z7 : w7.heap.size = _ := congrArg (fun W : World => W.heap.size) hW.symm
    (try simp only [World.size_alloc, Bk.size_set, World.size_drew, World.drewN] at z7)
    clear hW
    have L_ra := Lay.c4 ra
    refine bodyPost_ret (v := .agg #[.int .i64 v, .int .i64 (10 + 5 * b), .int .i64 d, .int .i64 f]) (by simp [results, Try.results40, go_sem, L_ra]) rfl (⟨_, _, _, _, ent_in HV.out (by have := Hb.out; omega) (by have := Hd.out; omega) (by have := Hf.out; omega), rfl, C, G⟩)
  · have r0 : (s == 0) = false := by simpa using q0
    clear q0
    by_cases q1 : s = 1
    · have r1 : (s == 1) = true := by simpa using q1
      clear q1
      go_wp2_with fail
      refine (l1Int_any A n c bs g _ 3 3 [-1, 100, 101] _ (by (repeat (first | with_reducible assumption | with_reducible apply Cur.Cur.alloc | with_reducible apply CurB.cur_drewN | with_reducible apply CurB.cur_drew | ((with_reducible refine CurB.cur_set HAL.out ?_ ?_ ?_ _); (focus (first | omega | (dsimp only; done) | (dsimp only; omega))); (focus (first | omega | (dsimp only; omega))))))) (by exact Rd.litAt _ (([-1, 100, 101] : List Int).map (Value.int .i64)) _ 3 _ (by simp) rfl (by unfold maxLen; omega)) (fun e => by simp [blk] at e; have := C.lt; omega) (by omega) (by omega)).mono ?_
      rintro x w6 ⟨v, hv, rfl, C0, hg0⟩
      replace ra : Bk.Blk w6 (w.heap.size) 30 #[.int .i64 0, .int .i64 0, .int .i64 0, .int .i64 0] := Bk.Blk.grown hg0 (by omega) (by (repeat (first | with_reducible assumption | (with_reducible apply Bk.Blk.newAt; focus (first | (simp [Bk.size_set]; done) | (simp [Bk.size_set]; omega))) | with_reducible apply Bk.Blk.drewN | with_reducible apply Bk.Blk.drew | with_reducible apply Bk.Blk.set_ | (with_reducible apply Bk.Blk.far; focus (dsimp only; first | omega | (simp; omega) | (simp; done))) | with_reducible apply Bk.Blk.alloc)))
      replace en : Bk.Blk w6 (w4.heap.size) 30 #[.int .i64 a, .int .i64 (10 + 5 * b), .int .i64 d, .int .i64 f] := Bk.Blk.grown hg0 (by omega) (by (repeat (first | with_reducible assumption | (with_reducible apply Bk.Blk.newAt; focus (first | (simp [Bk.size_set]; done) | (simp [Bk.size_set]; omega))) | with_reducible apply Bk.Blk.drewN | with_reducible apply Bk.Blk.drew | with_reducible apply Bk.Blk.set_ | (with_reducible apply Bk.Blk.far; focus (dsimp only; first | omega | (simp; omega) | (simp; done))) | with_reducible apply Bk.Blk.alloc)))
      replace C := C0
      replace G : w.grownBy w6 (some (g)) := World.grownBy.trans (by (repeat (first | with_reducible assumption | with_reducible exact World.grownBy.refl _ _ | with_reducible apply CurB.gr_alloc | with_reducible apply CurB.gr_drewN | with_reducible apply CurB.gr_drew | (with_reducible apply CurB.gr_set; focus (first | omega | (dsimp only; done) | (dsimp only; omega)))))) hg0
      have z6 := hg0.size
      (try simp only [World.size_alloc, Bk.size_set, World.size_drew, World.drewN] at z6)
      clear hg0
      have HV := Lib.hid (entL1 v hv)
      clear hv
      have L_ra := Lay.f4 ra
      have L_en := Lay.f4 en
      go_wp2
      clear L_ra L_en
      generalize hW : World.setCell _ _ _ = w7
      replace ra : Bk.Blk w7 (w.heap.size) 30 #[.int .i64 a, .int .i64 v, .int .i64 d, .int .i64 f] := (by rw [← hW]; apply Bk.Blk.to; (focus ((repeat (first | with_reducible assumption | (with_reducible apply Bk.Blk.newAt; focus (first | (simp [Bk.size_set]; done) | (simp [Bk.size_set]; omega))) | with_reducible apply Bk.Blk.drewN | with_reducible apply Bk.Blk.drew | with_reducible apply Bk.Blk.set_ | (with_reducible apply Bk.Blk.far; focus (dsimp only; first | omega | (simp; omega) | (simp; done))) | with_reducible apply Bk.Blk.alloc)))); rfl)
      replace C : Cur.Cur w7 (g) A n c bs := (by rw [← hW]; (repeat (first | with_reducible assumption | with_reducible apply Cur.Cur.alloc | with_reducible apply CurB.cur_drewN | with_reducible apply CurB.cur_drew | ((with_reducible refine CurB.cur_set HAL.out ?_ ?_ ?_ _); (focus (first | omega | (dsimp only; done) | (dsimp only; omega))); (focus (first | omega | (dsimp only; omega)))))))
      replace G : w.grownBy w7 (some (g)) := (by rw [← hW]; (repeat (first | with_reducible assumption | with_reducible exact World.grownBy.refl _ _ | with_reducible apply CurB.gr_alloc | with_reducible apply CurB.gr_drewN | with_reducible apply CurB.gr_drew | (with_reducible apply CurB.gr_set; focus (first | omega | (dsimp only; done) | (dsimp only; omega))))))
      have z7 : w7.heap.size = _ := congrArg (fun W : World => W.heap.size) hW.symm
      (try simp only [World.size_alloc, Bk.size_set, World.size_drew, World.drewN] at z7)
      clear hW
      have L_ra := Lay.c4 ra
      refine bodyPost_ret (v := .agg #[.int .i64 a, .int .i64 v, .int .i64 d, .int .i64 f]) (by simp [results, Try.results40, go_sem, L_ra]) rfl (⟨_, _, _, _, ent_in (by have := Ha.out; omega) HV.out (by have := Hd.out; omega) (by have := Hf.out; omega), rfl, C, G⟩)
    · have r1 : (s == 1) = false := by simpa using q1
      clear q1
      by_cases q2 : s = 2
      · have r2 : (s == 2) = true := by simpa using q2
        clear q2
        go_wp2_with fail
        refine (l1Int_any A n c bs g _ 3 3 [-1, 8, 9] _ (by (repeat (first | with_reducible assumption | with_reducible apply Cur.Cur.alloc | with_reducible apply CurB.cur_drewN | with_reducible apply CurB.cur_drew | ((with_reducible refine CurB.cur_set HAL.out ?_ ?_ ?_ _); (focus (first | omega | (dsimp only; done) | (dsimp only; omega))); (focus (first | omega | (dsimp only; omega))))))) (by exact Rd.litAt _ (([-1, 8, 9] : List Int).map (Value.int .i64)) _ 3 _ (by simp) rfl (by unfold maxLen; omega)) (fun e => by simp [blk] at e; have := C.lt; omega) (by omega) (by omega)).mono ?_
        rintro x w6 ⟨v, hv, rfl, C0, hg0⟩
        replace ra : Bk.Blk w6 (w.heap.size) 30 #[.int .i64 0, .int .i64 0, .int .i64 0, .int .i64 0] := Bk.Blk.grown hg0 (by omega) (by (repeat (first | with_reducible assumption | (with_reducible apply Bk.Blk.newAt; focus (first | (simp [Bk.size_set]; done) | (simp [Bk.size_set]; omega))) | with_reducible apply Bk.Blk.drewN | with_reducible apply Bk.Blk.drew | with_reducible apply Bk.Blk.set_ | (with_reducible apply Bk.Blk.far; focus (dsimp only; first | omega | (simp; omega) | (simp; done))) | with_reducible apply Bk.Blk.alloc)))
        replace en : Bk.Blk w6 (w4.heap.size) 30 #[.int .i64 a, .int .i64 (10 + 5 * b), .int .i64 d, .int .i64 f] := Bk.Blk.grown hg0 (by omega) (by (repeat (first | with_reducible assumption | (with_reducible apply Bk.Blk.newAt; focus (first | (simp [Bk.size_set]; done) | (simp [Bk.size_set]; omega))) | with_reducible apply Bk.Blk.drewN | with_reducible apply Bk.Blk.drew | with_reducible apply Bk.Blk.set_ | (with_reducible apply Bk.Blk.far; focus (dsimp only; first | omega | (simp; omega) | (simp; done))) | with_reducible apply Bk.Blk.alloc)))
        replace C := C0
        replace G : w.grownBy w6 (some (g)) := World.grownBy.trans (by (repeat (first | with_reducible assumption | with_reducible exact World.grownBy.refl _ _ | with_reducible apply CurB.gr_alloc | with_reducible apply CurB.gr_drewN | with_reducible apply CurB.gr_drew | (with_reducible apply CurB.gr_set; focus (first | omega | (dsimp only; done) | (dsimp only; omega)))))) hg0
        have z6 := hg0.size
        (try simp only [World.size_alloc, Bk.size_set, World.size_drew, World.drewN] at z6)
        clear hg0
        have HV := Lib.hid (entL2 v hv)
        clear hv
        have L_ra := Lay.f4 ra
        have L_en := Lay.f4 en
        go_wp2
        clear L_ra L_en
        generalize hW : World.setCell _ _ _ = w7
        replace ra : Bk.Blk w7 (w.heap.size) 30 #[.int .i64 a, .int .i64 (10 + 5 * b), .int .i64 v, .int .i64 f] := (by rw [← hW]; apply Bk.Blk.to; (focus ((repeat (first | with_reducible assumption | (with_reducible apply Bk.Blk.newAt; focus (first | (simp [Bk.size_set]; done) | (simp [Bk.size_set]; omega))) | with_reducible apply Bk.Blk.drewN | with_reducible apply Bk.Blk.drew | with_reducible apply Bk.Blk.set_ | (with_reducible apply Bk.Blk.far; focus (dsimp only; first | omega | (simp; omega) | (simp; done))) | with_reducible apply Bk.Blk.alloc)))); rfl)
        replace C : Cur.Cur w7 (g) A n c bs := (by rw [← hW]; (repeat (first | with_reducible assumption | with_reducible apply Cur.Cur.alloc | with_reducible apply CurB.cur_drewN | with_reducible apply CurB.cur_drew | ((with_reducible refine CurB.cur_set HAL.out ?_ ?_ ?_ _); (focus (first | omega | (dsimp only; done) | (dsimp only; omega))); (focus (first | omega | (dsimp only; omega)))))))
        replace G : w.grownBy w7 (some (g)) := (by rw [← hW]; (repeat (first | with_reducible assumption | with_reducible exact World.grownBy.refl _ _ | with_reducible apply CurB.gr_alloc | with_reducible apply CurB.gr_drewN | with_reducible apply CurB.gr_drew | (with_reducible apply CurB.gr_set; focus (first | omega | (dsimp only; done) | (dsimp only; omega))))))
        have z7 : w7.heap.size = _ := congrArg (fun W : World => W.heap.size) hW.symm
        (try simp only [World.size_alloc, Bk.size_set, World.size_drew, World.drewN] at z7)
        clear hW
        have L_ra := Lay.c4 ra
        refine bodyPost_ret (v := .agg #[.int .i64 a, .int .i64 (10 + 5 * b), .int .i64 v, .int .i64 f]) (by simp [results, Try.results40, go_sem, L_ra]) rfl (⟨_, _, _, _, ent_in (by have := Ha.out; omega) (by have := Hb.out; omega) HV.out (by have := Hf.out; omega), rfl, C, G⟩)
      · have r2 : (s == 2) = false := by simpa using q2
        clear q2
        by_cases q3 : s = 3
        · have r3 : (s == 3) = true := by simpa using q3
          clear q3
          go_wp2_with fail
          refine (l1Int_any A n c bs g _ 3 3 [-1, 1000000000000, 1000000000001] _ (by (repeat (first | with_reducible assumption | with_reducible apply Cur.Cur.alloc | with_reducible apply CurB.cur_drewN | with_reducible apply CurB.cur_drew | ((with_reducible refine CurB.cur_set HAL.out ?_ ?_ ?_ _); (focus (first | omega | (dsimp only; done) | (dsimp only; omega))); (focus (first | omega | (dsimp only; omega))))))) (by exact Rd.litAt _ (([-1, 1000000000000, 1000000000001] : List Int).map (Value.int .i64)) _ 3 _ (by simp) rfl (by unfold maxLen; omega)) (fun e => by simp [blk] at e; have := C.lt; omega) (by omega) (by omega)).mono ?_
          rintro x w6 ⟨v, hv, rfl, C0, hg0⟩
          replace ra : Bk.Blk w6 (w.heap.size) 30 #[.int .i64 0, .int .i64 0, .int .i64 0, .int .i64 0] := Bk.Blk.grown hg0 (by omega) (by (repeat (first | with_reducible assumption | (with_reducible apply Bk.Blk.newAt; focus (first | (simp [Bk.size_set]; done) | (simp [Bk.size_set]; omega))) | with_reducible apply Bk.Blk.drewN | with_reducible apply Bk.Blk.drew | with_reducible apply Bk.Blk.set_ | (with_reducible apply Bk.Blk.far; focus (dsimp only; first | omega | (simp; omega) | (simp; done))) | with_reducible apply Bk.Blk.alloc)))
          replace en : Bk.Blk w6 (w4.heap.size) 30 #[.int .i64 a, .int .i64 (10 + 5 * b), .int .i64 d, .int .i64 f] := Bk.Blk.grown hg0 (by omega) (by (repeat (first | with_reducible assumption | (with_reducible apply Bk.Blk.newAt; focus (first | (simp [Bk.size_set]; done) | (simp [Bk.size_set]; omega))) | with_reducible apply Bk.Blk.drewN | with_reducible apply Bk.Blk.drew | with_reducible apply Bk.Blk.set_ | (with_reducible apply Bk.Blk.far; focus (dsimp only; first | omega | (simp; omega) | (simp; done))) | with_reducible apply Bk.Blk.alloc)))
          replace C := C0
          replace G : w.grownBy w6 (some (g)) := World.grownBy.trans (by (repeat (first | with_reducible assumption | with_reducible exact World.grownBy.refl _ _ | with_reducible apply CurB.gr_alloc | with_reducible apply CurB.gr_drewN | with_reducible apply CurB.gr_drew | (with_reducible apply CurB.gr_set; focus (first | omega | (dsimp only; done) | (dsimp only; omega)))))) hg0
          have z6 := hg0.size
          (try simp only [World.size_alloc, Bk.size_set, World.size_drew, World.drewN] at z6)
          clear hg0
          have HV := Lib.hid (entL3 v hv)
          clear hv
          have L_ra := Lay.f4 ra
          have L_en := Lay.f4 en
          go_wp2
          clear L_ra L_en
          generalize hW : World.setCell _ _ _ = w7
          replace ra : Bk.Blk w7 (w.heap.size) 30 #[.int .i64 a, .int .i64 (10 + 5 * b), .int .i64 d, .int .i64 v] := (by rw [← hW]; apply Bk.Blk.to; (focus ((repeat (first | with_reducible assumption | (with_reducible apply Bk.Blk.newAt; focus (first | (simp [Bk.size_set]; done) | (simp [Bk.size_set]; omega))) | with_reducible apply Bk.Blk.drewN | with_reducible apply Bk.Blk.drew | with_reducible apply Bk.Blk.set_ | (with_reducible apply Bk.Blk.far; focus (dsimp only; first | omega | (simp; omega) | (simp; done))) | with_reducible apply Bk.Blk.alloc)))); rfl)
          replace C : Cur.Cur w7 (g) A n c bs := (by rw [← hW]; (repeat (first | with_reducible assumption | with_reducible apply Cur.Cur.alloc | with_reducible apply CurB.cur_drewN | with_reducible apply CurB.cur_drew | ((with_reducible refine CurB.cur_set HAL.out ?_ ?_ ?_ _); (focus (first | omega | (dsimp only; done) | (dsimp only; omega))); (focus (first | omega | (dsimp only; omega)))))))
          replace G : w.grownBy w7 (some (g)) := (by rw [← hW]; (repeat (first | with_reducible assumption | with_reducible exact World.grownBy.refl _ _ | with_reducible apply CurB.gr_alloc | with_reducible apply CurB.gr_drewN | with_reducible apply CurB.gr_drew | (with_reducible apply CurB.gr_set; focus (first | omega | (dsimp only; done) | (dsimp only; omega))))))
          have z7 : w7.heap.size = _ := congrArg (fun W : World => W.heap.size) hW.symm
          (try simp only [World.size_alloc, Bk.size_set, World.size_drew, World.drewN] at z7)
          clear hW
          have L_ra := Lay.c4 ra
          refine bodyPost_ret (v := .agg #[.int .i64 a, .int .i64 (10 + 5 * b), .int .i64 d, .int .i64 v]) (by simp [results, Try.results40, go_sem, L_ra]) rfl (⟨_, _, _, _, ent_in (by have := Ha.out; omega) (by have := Hb.out; omega) (by have := Hd.out; omega) HV.out, rfl, C, G⟩)
        · have r3 : (s == 3) = false := by simpa using q3
          clear q3
          have L_ra := Lay.f4 ra
          have L_en := Lay.f4 en
          go_wp2
          clear L_ra L_en
          generalize hW : World.setCell _ _ _ = w6
          replace ra : Bk.Blk w6 (w.heap.size) 30 #[.int .i64 a, .int .i64 (10 + 5 * b), .int .i64 d, .int .i64 f] := (by rw [← hW]; apply Bk.Blk.to; (focus ((repeat (first | with_reducible assumption | (with_reducible apply Bk.Blk.newAt; focus (first | (simp [Bk.size_set]; done) | (simp [Bk.size_set]; omega))) | with_reducible apply Bk.Blk.drewN | with_reducible apply Bk.Blk.drew | with_reducible apply Bk.Blk.set_ | (with_reducible apply Bk.Blk.far; focus (dsimp only; first | omega | (simp; omega) | (simp; done))) | with_reducible apply Bk.Blk.alloc)))); rfl)
          replace C : Cur.Cur w6 (g) A n c bs := (by rw [← hW]; (repeat (first | with_reducible assumption | with_reducible apply Cur.Cur.alloc | with_reducible apply CurB.cur_drewN | with_reducible apply CurB.cur_drew | ((with_reducible refine CurB.cur_set HAL.out ?_ ?_ ?_ _); (focus (first | omega | (dsimp only; done) | (dsimp only; omega))); (focus (first | omega | (dsimp only; omega)))))))
          replace G : w.grownBy w6 (some (g)) := (by rw [← hW]; (repeat (first | with_reducible assumption | with_reducible exact World.grownBy.refl _ _ | with_reducible apply CurB.gr_alloc | with_reducible apply CurB.gr_drewN | with_reducible apply CurB.gr_drew | (with_reducible apply CurB.gr_set; focus (first | omega | (dsimp only; done) | (dsimp only; omega))))))
          have z6 : w6.heap.size = _ := congrArg (fun W : World => W.heap.size) hW.symm
          (try simp only [World.size_alloc, Bk.size_set, World.size_drew, World.drewN] at z6)
          clear hW
          have L_ra := Lay.c4 ra
          refine bodyPost_ret (v := .agg #[.int .i64 a, .int .i64 (10 + 5 * b), .int .i64 d, .int .i64 f]) (by simp [results, Try.results40, go_sem, L_ra]) rfl (⟨_, _, _, _, ent_in (by have := Ha.out; omega) (by have := Hb.out; omega) (by have := Hd.out; omega) (by have := Hf.out; omega), rfl, C, G⟩)
end Go.Proofs.Ytikolopdkjocgaa.Cur
