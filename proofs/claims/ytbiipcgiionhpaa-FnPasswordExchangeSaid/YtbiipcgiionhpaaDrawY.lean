/- Contracts of the draws of the password exchange's laws. -/
import Derived.Test.YtbiipcgiionhpaaDrawX
import Derived.Test.YtbiipcgiionhpaaSlices
import Derived.Test.YtbiipcgiionhpaaCurB
import Derived.Test.YtbiipcgiionhpaaLay
import Derived.BigQuiet
import Derived.Deep.QuietTactic
import Derived.Deep.DeepCutAuto
import Derived.Outline
namespace Go.Proofs.Ytbiipcgiionhpaa.Cur
open Go.RowKit
open Go.Proofs.Ytbiipcgiionhpaa.Num Go.Proofs.Ytbiipcgiionhpaa.Mem Go.Proofs.Ytbiipcgiionhpaa.Hsh Go.Proofs.Ytbiipcgiionhpaa.Exch
set_option linter.unusedSimpArgs false
set_option linter.unusedVariables false
/-- a drawn number and a drawn commit -/
def DrewEx (w : World) (e : Ending) (w' : World) : Prop :=
  ∃ p x y : Int, (-1 ≤ p ∧ p ≤ 2039) ∧ (-1 ≤ x ∧ x ≤ 2039) ∧ (-1 ≤ y ∧ y ≤ 2039) ∧ e = .returned (.tuple #[.int .i64 p, .agg #[.int .i64 x, .int .i64 y]]) ∧ Below w.heap.size w w'
set_option maxHeartbeats 1000000 in
theorem drawExplain_any (A : Option Addr) (n c : Nat) (bs : List Int) (w : World) (hr : Rd w 1 A n c (bs.map (Value.int .u8))) (hb : AllBytes bs) (hn : n ≤ 2097152) :
    Calls Try.prog 6 #[.slice A n c] w (DrewEx w) := by
  have HAL := Lib.hid (CurB.old_of hr)
  have HR := Lib.hid hr
  have HB := Lib.hid hb
  have HN := Lib.hid hn
  have B : Below w.heap.size w w := Below.refl _ _
  clear hr hb
  go_enter Try.func6, Try.ntmps6
  go_wp2_with fail
  refine (l1New_any A n c bs _ (HR.out.alloc _) HB.out hn).mono ?_
  rintro e w1 ⟨h, rfl, rfl⟩
  simp only [World.size_alloc]
  generalize hW : World.alloc _ _ = w1
  have rc : Bk.Blk w1 (w.heap.size) 25 #[.int .i64 0, .int .i64 0] := (by rw [← hW]; apply Bk.Blk.to; (focus ((repeat (first | with_reducible assumption | (with_reducible apply Bk.Blk.newAt; focus (first | (simp [Bk.size_set]; done) | (simp [Bk.size_set]; omega))) | with_reducible apply Bk.Blk.drewN | with_reducible apply Bk.Blk.drew | with_reducible apply Bk.Blk.set_ | (with_reducible apply Bk.Blk.far; focus (dsimp only; first | omega | (simp; omega) | (simp; done))) | with_reducible apply Bk.Blk.alloc)))); rfl)
  have C : Cur.Cur w1 (w.heap.size + 1) A n c bs := (by rw [← hW]; exact CurB.cur_newAt (by first | rfl | (simp; done)) (by first | exact HR.out | exact HR.out.alloc _ | exact (HR.out.alloc _).alloc _ | exact ((HR.out.alloc _).alloc _).alloc _) HB.out HN.out _)
  replace B : Below w.heap.size w w1 := (by rw [← hW]; go_grown)
  have z1 : w1.heap.size = _ := congrArg (fun W : World => W.heap.size) hW.symm
  (try simp only [World.size_alloc, Bk.size_set, World.size_drew, World.drewN] at z1)
  clear hW
  go_wp2_with fail
  refine (l28Any_any A n c bs _ _ (by (repeat (first | with_reducible assumption | with_reducible apply Cur.Cur.alloc | with_reducible apply CurB.cur_drewN | with_reducible apply CurB.cur_drew | ((with_reducible refine CurB.cur_set HAL.out ?_ ?_ ?_ _); (focus (first | omega | (dsimp only; done) | (dsimp only; omega))); (focus (first | omega | (dsimp only; omega)))))))).mono ?_
  rintro x w2 ⟨p, hp, rfl, C0, hg0⟩
  replace rc : Bk.Blk w2 (w.heap.size) 25 #[.int .i64 0, .int .i64 0] := Bk.Blk.grown hg0 (by omega) (by (repeat (first | with_reducible assumption | (with_reducible apply Bk.Blk.newAt; focus (first | (simp [Bk.size_set]; done) | (simp [Bk.size_set]; omega))) | with_reducible apply Bk.Blk.drewN | with_reducible apply Bk.Blk.drew | with_reducible apply Bk.Blk.set_ | (with_reducible apply Bk.Blk.far; focus (dsimp only; first | omega | (simp; omega) | (simp; done))) | with_reducible apply Bk.Blk.alloc)))
  replace C := C0
  replace B : Below w.heap.size w w2 := Bk.below_grown (by go_grown) hg0 (by omega) (by first | omega | (simp [Bk.size_set]; done) | (simp [Bk.size_set]; omega))
  have z2 := hg0.size
  (try simp only [World.size_alloc, Bk.size_set, World.size_drew, World.drewN] at z2)
  clear hg0
  have HP := Lib.hid hp
  clear hp
  go_wp2_with fail
  refine (l29Commit_any A n c bs _ _ (by (repeat (first | with_reducible assumption | with_reducible apply Cur.Cur.alloc | with_reducible apply CurB.cur_drewN | with_reducible apply CurB.cur_drew | ((with_reducible refine CurB.cur_set HAL.out ?_ ?_ ?_ _); (focus (first | omega | (dsimp only; done) | (dsimp only; omega))); (focus (first | omega | (dsimp only; omega)))))))).mono ?_
  rintro x w3 ⟨x, y, hx, hy, rfl, C0, hg0⟩
  replace rc : Bk.Blk w3 (w.heap.size) 25 #[.int .i64 0, .int .i64 0] := Bk.Blk.grown hg0 (by omega) (by (repeat (first | with_reducible assumption | (with_reducible apply Bk.Blk.newAt; focus (first | (simp [Bk.size_set]; done) | (simp [Bk.size_set]; omega))) | with_reducible apply Bk.Blk.drewN | with_reducible apply Bk.Blk.drew | with_reducible apply Bk.Blk.set_ | (with_reducible apply Bk.Blk.far; focus (dsimp only; first | omega | (simp; omega) | (simp; done))) | with_reducible apply Bk.Blk.alloc)))
  replace C := C0
  replace B : Below w.heap.size w w3 := Bk.below_grown (by go_grown) hg0 (by omega) (by first | omega | (simp [Bk.size_set]; done) | (simp [Bk.size_set]; omega))
  have z3 := hg0.size
  (try simp only [World.size_alloc, Bk.size_set, World.size_drew, World.drewN] at z3)
  clear hg0
  have HX := Lib.hid hx
  have HY := Lib.hid hy
  clear hx hy
  have L_rc := Lay.f2 rc
  go_wp2
  clear L_rc
  generalize hW : World.setCell _ _ _ = w4
  replace rc : Bk.Blk w4 (w.heap.size) 25 #[.int .i64 x, .int .i64 y] := (by rw [← hW]; apply Bk.Blk.to; (focus ((repeat (first | with_reducible assumption | (with_reducible apply Bk.Blk.newAt; focus (first | (simp [Bk.size_set]; done) | (simp [Bk.size_set]; omega))) | with_reducible apply Bk.Blk.drewN | with_reducible apply Bk.Blk.drew | with_reducible apply Bk.Blk.set_ | (with_reducible apply Bk.Blk.far; focus (dsimp only; first | omega | (simp; omega) | (simp; done))) | with_reducible apply Bk.Blk.alloc)))); rfl)
  replace B : Below w.heap.size w w4 := (by rw [← hW]; go_grown)
  have z4 : w4.heap.size = _ := congrArg (fun W : World => W.heap.size) hW.symm
  (try simp only [World.size_alloc, Bk.size_set, World.size_drew, World.drewN] at z4)
  clear hW
  have L_rc := Lay.c2 rc
  refine bodyPost_ret (v := .tuple #[.int .i64 p, .agg #[.int .i64 x, .int .i64 y]]) (by simp [results, Try.results6, go_sem, L_rc]) rfl (⟨p, x, y, HP.out, HX.out, HY.out, rfl, B⟩)
/-- two drawn numbers and three or four drawn secrets -/
def DrewRun (w : World) (e : Ending) (w' : World) : Prop :=
  ∃ (p q : Int) (A : Option Addr) (n c : Nat) (zs : List Int), (-1 ≤ p ∧ p ≤ 2039) ∧ (-1 ≤ q ∧ q ≤ 2039) ∧ (∀ z ∈ zs, -1 ≤ z ∧ z ≤ 2039) ∧ Rd w' 1 A n c (zs.map (Value.int .i64)) ∧ (n = 3 ∨ n = 4) ∧
    e = .returned (.tuple #[.int .i64 p, .int .i64 q, .slice A n c]) ∧ Below w.heap.size w w'
theorem four_in {a b d f : Int} (ha : -1 ≤ a ∧ a ≤ 2039) (hb : -1 ≤ b ∧ b ≤ 2039) (hd : -1 ≤ d ∧ d ≤ 2039) (hf : -1 ≤ f ∧ f ≤ 2039) : ∀ z ∈ [a, b, d, f], -1 ≤ z ∧ z ≤ 2039 := by
  intro z hz
  simp only [List.mem_cons, List.not_mem_nil, or_false] at hz
  rcases hz with rfl | rfl | rfl | rfl <;> assumption
theorem three_in {a b d : Int} (ha : -1 ≤ a ∧ a ≤ 2039) (hb : -1 ≤ b ∧ b ≤ 2039) (hd : -1 ≤ d ∧ d ≤ 2039) : ∀ z ∈ [a, b, d], -1 ≤ z ∧ z ≤ 2039 := by
  intro z hz
  simp only [List.mem_cons, List.not_mem_nil, or_false] at hz
  rcases hz with rfl | rfl | rfl <;> assumption
/-- a row of a block that is known whole -/
theorem rd_blk {w : World} {g : Nat} {t : TypeId} {cs : List Value} (h : Bk.Blk w g t cs.toArray) (m : Nat) (hm : m ≤ cs.length) (hs : cs.length ≤ maxLen) : Rd w 1 (some ⟨g, 0, none⟩) m cs.length (cs.take m) := by
  refine ⟨by simp; omega, hm, hs, fun h => by (cases h), fun hp => ⟨g, 0, rfl, fun j hj => ?_⟩⟩
  have hj' : j < m := by simp at hj; omega
  rw [Nat.zero_add, h.cell j, List.getElem?_take_of_lt hj']
  simp
set_option maxHeartbeats 4000000 in
theorem drawRun_any (A : Option Addr) (n c : Nat) (bs : List Int) (w : World) (hr : Rd w 1 A n c (bs.map (Value.int .u8))) (hb : AllBytes bs) (hn : n ≤ 2097152) :
    Calls Try.prog 16 #[.slice A n c] w (DrewRun w) := by
  have HAL := Lib.hid (CurB.old_of hr)
  have HR := Lib.hid hr
  have HB := Lib.hid hb
  have HN := Lib.hid hn
  have B : Below w.heap.size w w := Below.refl _ _
  clear hr hb
  go_enter Try.func16, Try.ntmps16
  go_wp2_with fail
  refine (l1New_any A n c bs _ HR.out HB.out hn).mono ?_
  rintro e w1 ⟨h, rfl, rfl⟩
  generalize hW : World.alloc _ _ = w1
  have C : Cur.Cur w1 (w.heap.size) A n c bs := (by rw [← hW]; exact CurB.cur_newAt (by first | rfl | (simp; done)) (by first | exact HR.out | exact HR.out.alloc _ | exact (HR.out.alloc _).alloc _ | exact ((HR.out.alloc _).alloc _).alloc _) HB.out HN.out _)
  replace B : Below w.heap.size w w1 := (by rw [← hW]; go_grown)
  have z1 : w1.heap.size = _ := congrArg (fun W : World => W.heap.size) hW.symm
  (try simp only [World.size_alloc, Bk.size_set, World.size_drew, World.drewN] at z1)
  clear hW
  go_wp2_with fail
  refine (l28Element_any A n c bs _ _ (by (repeat (first | with_reducible assumption | with_reducible apply Cur.Cur.alloc | with_reducible apply CurB.cur_drewN | with_reducible apply CurB.cur_drew | ((with_reducible refine CurB.cur_set HAL.out ?_ ?_ ?_ _); (focus (first | omega | (dsimp only; done) | (dsimp only; omega))); (focus (first | omega | (dsimp only; omega)))))))).mono ?_
  rintro x w2 ⟨p, hp, rfl, C0, hg0⟩
  replace C := C0
  replace B : Below w.heap.size w w2 := Bk.below_grown (by go_grown) hg0 (by omega) (by first | omega | (simp [Bk.size_set]; done) | (simp [Bk.size_set]; omega))
  have z2 := hg0.size
  (try simp only [World.size_alloc, Bk.size_set, World.size_drew, World.drewN] at z2)
  clear hg0
  have HP := Lib.hid hp
  clear hp
  go_upto_if 15 with (refine (l1Once_any A n c bs _ _ _ C (by omega) (by omega)).mono ?_; rintro e w3 ⟨x, rfl, C0, hg0⟩)
  replace C := C0
  replace B : Below w.heap.size w w3 := Bk.below_grown B hg0 (by omega) (by first | omega | (simp [Bk.size_set]; omega))
  have z3 := hg0.size
  clear hg0 C0
  go_cut [7] (fun v7 wq => Cur wq w.heap.size A n c bs ∧ Below w.heap.size w wq ∧ ∃ q : Int, (-1 ≤ q ∧ q ≤ 2039) ∧ v7 = .int .i64 q)
  case first =>
    cases x
    · go_wp2_with fail
      go_meet
      exact ⟨C, B, p, HP.out, rfl⟩
    · go_wp2_with fail
      refine (l28Any_any A n c bs _ _ C).mono ?_
      rintro e w4 ⟨q, hq, rfl, C0, hg0⟩
      replace B : Below w.heap.size w w4 := Bk.below_grown B hg0 (by omega) (by first | omega | (simp [Bk.size_set]; omega))
      go_wp2_with fail
      go_meet
      exact ⟨C0, B, q, hq, rfl⟩
  case rest =>
    obtain ⟨w4, hw4⟩ : ∃ W, W = wc := ⟨_, rfl⟩
    subst hw4
    clear C B z3
    obtain ⟨C, B, q, hq, rfl⟩ := hcut
    have z4 := B.size
    have z4c := C.lt
    have HQ := Lib.hid hq
    clear hq
    go_wp2_with fail
    refine (l28Scalar_any A n c bs _ _ (by (repeat (first | with_reducible assumption | with_reducible apply Cur.Cur.alloc | with_reducible apply CurB.cur_drewN | with_reducible apply CurB.cur_drew | ((with_reducible refine CurB.cur_set HAL.out ?_ ?_ ?_ _); (focus (first | omega | (dsimp only; done) | (dsimp only; omega))); (focus (first | omega | (dsimp only; omega)))))))).mono ?_
    rintro x w5 ⟨a, ha, rfl, C0, hg0⟩
    replace C := C0
    replace B : Below w.heap.size w w5 := Bk.below_grown (by go_grown) hg0 (by omega) (by first | omega | (simp [Bk.size_set]; done) | (simp [Bk.size_set]; omega))
    have z5 := hg0.size
    (try simp only [World.size_alloc, Bk.size_set, World.size_drew, World.drewN] at z5)
    clear hg0
    go_wp2_with fail
    refine (l28Scalar_any A n c bs _ _ (by (repeat (first | with_reducible assumption | with_reducible apply Cur.Cur.alloc | with_reducible apply CurB.cur_drewN | with_reducible apply CurB.cur_drew | ((with_reducible refine CurB.cur_set HAL.out ?_ ?_ ?_ _); (focus (first | omega | (dsimp only; done) | (dsimp only; omega))); (focus (first | omega | (dsimp only; omega)))))))).mono ?_
    rintro x w6 ⟨b, hb, rfl, C0, hg0⟩
    replace C := C0
    replace B : Below w.heap.size w w6 := Bk.below_grown (by go_grown) hg0 (by omega) (by first | omega | (simp [Bk.size_set]; done) | (simp [Bk.size_set]; omega))
    have z6 := hg0.size
    (try simp only [World.size_alloc, Bk.size_set, World.size_drew, World.drewN] at z6)
    clear hg0
    go_wp2_with fail
    refine (l28Scalar_any A n c bs _ _ (by (repeat (first | with_reducible assumption | with_reducible apply Cur.Cur.alloc | with_reducible apply CurB.cur_drewN | with_reducible apply CurB.cur_drew | ((with_reducible refine CurB.cur_set HAL.out ?_ ?_ ?_ _); (focus (first | omega | (dsimp only; done) | (dsimp only; omega))); (focus (first | omega | (dsimp only; omega)))))))).mono ?_
    rintro x w7 ⟨d, hd, rfl, C0, hg0⟩
    replace C := C0
    replace B : Below w.heap.size w w7 := Bk.below_grown (by go_grown) hg0 (by omega) (by first | omega | (simp [Bk.size_set]; done) | (simp [Bk.size_set]; omega))
    have z7 := hg0.size
    (try simp only [World.size_alloc, Bk.size_set, World.size_drew, World.drewN] at z7)
    clear hg0
    go_wp2_with fail
    refine (l28Scalar_any A n c bs _ _ (by (repeat (first | with_reducible assumption | with_reducible apply Cur.Cur.alloc | with_reducible apply CurB.cur_drewN | with_reducible apply CurB.cur_drew | ((with_reducible refine CurB.cur_set HAL.out ?_ ?_ ?_ _); (focus (first | omega | (dsimp only; done) | (dsimp only; omega))); (focus (first | omega | (dsimp only; omega)))))))).mono ?_
    rintro x w8 ⟨f, hf, rfl, C0, hg0⟩
    replace C := C0
    replace B : Below w.heap.size w w8 := Bk.below_grown (by go_grown) hg0 (by omega) (by first | omega | (simp [Bk.size_set]; done) | (simp [Bk.size_set]; omega))
    have z8 := hg0.size
    (try simp only [World.size_alloc, Bk.size_set, World.size_drew, World.drewN] at z8)
    clear hg0
    have H4 := Lib.hid (four_in ha hb hd hf)
    have H3 := Lib.hid (three_in ha hb hd)
    clear ha hb hd hf
    go_wp2_with fail
    refine (l1Once_any A n c bs _ _ _ (by (repeat (first | with_reducible assumption | with_reducible apply Cur.Cur.alloc | with_reducible apply CurB.cur_drewN | with_reducible apply CurB.cur_drew | ((with_reducible refine CurB.cur_set HAL.out ?_ ?_ ?_ _); (focus (first | omega | (dsimp only; done) | (dsimp only; omega))); (focus (first | omega | (dsimp only; omega))))))) (by omega) (by omega)).mono ?_
    rintro x w9 ⟨y, rfl, C0, hg0⟩
    have ls : Bk.Blk w9 (w8.heap.size) 3 #[.int .i64 a, .int .i64 b, .int .i64 d, .int .i64 f] := (by apply Bk.Blk.to; (focus (apply Bk.Blk.grown hg0 (by omega); (repeat (first | with_reducible assumption | (with_reducible apply Bk.Blk.newAt; focus (first | (simp [Bk.size_set]; done) | (simp [Bk.size_set]; omega))) | with_reducible apply Bk.Blk.drewN | with_reducible apply Bk.Blk.drew | with_reducible apply Bk.Blk.set_ | (with_reducible apply Bk.Blk.far; focus (dsimp only; first | omega | (simp; omega) | (simp; done))) | with_reducible apply Bk.Blk.alloc)))); rfl)
    replace C := C0
    replace B : Below w.heap.size w w9 := Bk.below_grown (by go_grown) hg0 (by omega) (by first | omega | (simp [Bk.size_set]; done) | (simp [Bk.size_set]; omega))
    have z9 := hg0.size
    (try simp only [World.size_alloc, Bk.size_set, World.size_drew, World.drewN] at z9)
    clear hg0
    have R4 := Lib.hid (rd_blk (cs := [.int .i64 a, .int .i64 b, .int .i64 d, .int .i64 f]) ls 4 (by simp) (by unfold maxLen; simp))
    have R3 := Lib.hid (rd_blk (cs := [.int .i64 a, .int .i64 b, .int .i64 d, .int .i64 f]) ls 3 (by simp) (by unfold maxLen; simp))
    clear C ls
    cases y
    · go_wp2
      go_ret3
      exact ⟨p, q, _, 4, 4, [a, b, d, f], HP.out, HQ.out, H4.out, R4.out, .inr rfl, rfl, B⟩
    · go_wp2
      go_quiet (fail)
      go_wp2
      go_ret3
      exact ⟨p, q, _, 3, 4, [a, b, d], HP.out, HQ.out, H3.out, R3.out.drewN _, .inl rfl, rfl, Sls.below_drewN B _⟩
end Go.Proofs.Ytbiipcgiionhpaa.Cur
