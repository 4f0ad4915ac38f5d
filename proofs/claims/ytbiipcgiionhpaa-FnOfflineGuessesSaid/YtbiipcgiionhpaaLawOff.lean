/- The walk of the law on guesses: for every password there are secrets that explain a commit. -/
import Derived.Test.YtbiipcgiionhpaaExchP
import Derived.Test.YtbiipcgiionhpaaDrawY
import Derived.Test.YtbiipcgiionhpaaPass
import Derived.Test.YtbiipcgiionhpaaAt
import Derived.Test.YtbiipcgiionhpaaBlk
import Derived.Test.YtbiipcgiionhpaaLay
import Derived.Outline
import Derived.BigQuiet
import Derived.Laws.StructEq
import Derived.Test.YtbiipcgiionhpaaSlices
import Derived.Deep.QuietTactic
namespace Go.Proofs.Ytbiipcgiionhpaa.LawOff
open Go.RowKit
open Go.Proofs.Ytbiipcgiionhpaa.Num Go.Proofs.Ytbiipcgiionhpaa.Mem Go.Proofs.Ytbiipcgiionhpaa.Hsh Go.Proofs.Ytbiipcgiionhpaa.Exch Go.Proofs.Ytbiipcgiionhpaa.Cur Go.Proofs.Ytbiipcgiionhpaa.Grp Go.Proofs.Ytbiipcgiionhpaa.Pass
set_option linter.unusedSimpArgs false
set_option linter.unusedVariables false
theorem ex_false {pe s e : Int} (h : exB pe s e = false) (w : World) : Calls Try.prog 7 #[.int .i64 pe, .agg #[.int .i64 s, .int .i64 e]] w fun x w' => x = .returned (.tuple #[.int .i64 0, .int .i64 0, .bool false]) ∧ Below w.heap.size w w' :=
  (explain_impl pe s e w).mono fun x w' ⟨h1, h2⟩ => ⟨by rw [h1, (ex_off h).1, (ex_off h).2, h], h2⟩
theorem ex_true {pe s e : Int} (h : exB pe s e = true) (w : World) : Calls Try.prog 7 #[.int .i64 pe, .agg #[.int .i64 s, .int .i64 e]] w fun x w' => x = .returned (.tuple #[.int .i64 (exR pe s e), .int .i64 (exM pe s e), .bool true]) ∧ Below w.heap.size w w' :=
  (explain_impl pe s e w).mono fun x w' ⟨h1, h2⟩ => ⟨by rw [h1, h], h2⟩
/-- the commit for secrets that explain it is the commit itself -/
theorem nc_back {pe s e : Int} (h : exB pe s e = true) (w : World) : Calls Try.prog 13 #[.int .i64 pe, .int .i64 (exR pe s e), .int .i64 (exM pe s e)] w fun x w' => x = .returned (.tuple #[.agg #[.int .i64 s, .int .i64 e], .bool true]) ∧ Below w.heap.size w w' :=
  (newCommit_impl _ _ _ w).mono fun x w' ⟨h1, h2⟩ => ⟨by rw [h1, (ex_back h).1, (ex_back h).2.1, (ex_back h).2.2], h2⟩
theorem nc_zero (pe : Int) (w : World) : Calls Try.prog 13 #[.int .i64 pe, .int .i64 0, .int .i64 0] w fun x w' => x = .returned (.tuple #[.agg #[.int .i64 0, .int .i64 0], .bool false]) ∧ Below w.heap.size w w' := by
  have hb : ncB pe 0 0 = false := by unfold ncB; rw [secB_no (by omega)]; simp
  refine (newCommit_impl _ _ _ w).mono fun x w' ⟨h1, h2⟩ => ⟨?_, h2⟩
  rw [h1, hb, show ncS pe 0 0 = 0 by unfold ncS; rw [hb]; rfl, show ncE pe 0 0 = 0 by unfold ncE; rw [hb]; rfl]
theorem ex_not {pe s e : Int} (h : elB pe = false ∨ pe = 1 ∨ validB s e = false) : exB pe s e = false := by
  unfold exB baseB
  rcases h with h | h | h
  · rw [h]; rfl
  · subst h; simp
  · rw [h]; simp
set_option maxRecDepth 100000 in
set_option maxHeartbeats 4000000 in
theorem off_law (A : Option Addr) (n c : Nat) (zs : List Int) (w : World) (hrow : RowIn .u8 w A n c zs) :
    Calls Try.prog 3 #[.slice A n c] w fun e w' => e = .returned (.bool true) ∧ Below w.heap.size w w' := by
  have HR := Lib.hid hrow.1
  have HB := Lib.hid (bytes_of_row hrow)
  have B : Below w.heap.size w w := Below.refl _ _
  clear hrow
  by_cases hbig : 1048576 < (n : Int)
  · go_enter Try.func3, Try.ntmps3
    go_wp2_with (first | (go_at_call 5; refine (big_any _ _ _ _).mono ?_; rintro e w' ⟨rfl, rfl⟩))
    go_ret
    exact ⟨rfl, B⟩
  · have hn : n ≤ 1048576 := by omega
    go_enter Try.func3, Try.ntmps3
    go_wp2_with (first | (go_at_call 5; refine (big_any _ _ _ _).mono ?_; rintro e w' ⟨rfl, rfl⟩))
    refine (drawExplain_any A n c zs _ HR.out HB.out (by omega)).mono ?_
    rintro x w1 ⟨p, s, e, hp, hs, he, rfl, hb0⟩
    replace B : Below w.heap.size w w1 := Below.trans (by go_grown) (hb0.mono (by first | omega | (simp [Bk.size_set]; done) | (simp [Bk.size_set]; omega)))
    have z1 := hb0.size
    (try simp only [World.size_alloc, Bk.size_set, World.size_drew, World.drewN] at z1)
    clear hb0
    clear hp hs he
    cases hx : exB p s e
    · skip
      go_wp2_with fail
      refine (ex_false hx _).mono ?_
      rintro x w2 ⟨rfl, hb0⟩
      have cm : Bk.Blk w2 (w1.heap.size) 25 #[.int .i64 s, .int .i64 e] := (by apply Bk.Blk.to; (focus (apply Bk.Blk.under hb0; (repeat (first | with_reducible assumption | (with_reducible apply Bk.Blk.newAt; focus (first | (simp [Bk.size_set]; done) | (simp [Bk.size_set]; omega))) | with_reducible apply Bk.Blk.drewN | with_reducible apply Bk.Blk.drew | with_reducible apply Bk.Blk.set_ | (with_reducible apply Bk.Blk.far; focus (dsimp only; first | omega | (simp; omega) | (simp; done))) | with_reducible apply Bk.Blk.alloc)))); rfl)
      replace B : Below w.heap.size w w2 := Below.trans (by go_grown) (hb0.mono (by first | omega | (simp [Bk.size_set]; done) | (simp [Bk.size_set]; omega)))
      have z2 := hb0.size
      (try simp only [World.size_alloc, Bk.size_set, World.size_drew, World.drewN] at z2)
      clear hb0
      have L_cm := Lay.f2 cm
      cases hel : elB p
      · go_wp2_with (first | (go_at_call 8; refine (isEl_spec _ _).mono ?_; rintro e w' ⟨rfl, rfl⟩))
        go_ret
        exact ⟨rfl, B⟩
      · by_cases h1 : p = 1
        · have h1' : (p == 1) = true := by simpa using h1
          clear h1
          go_wp2_with (first | (go_at_call 8; refine (isEl_spec _ _).mono ?_; rintro e w' ⟨rfl, rfl⟩))
          go_ret
          exact ⟨rfl, B⟩
        · have h1' : (p == 1) = false := by simpa using h1
          cases hv : validB s e
          · clear h1
            go_wp2_with (first | (go_at_call 8; refine (isEl_spec _ _).mono ?_; rintro e w' ⟨rfl, rfl⟩))
            refine (isValidX_spec _ _ _).mono ?_
            rintro x w' ⟨rfl, rfl⟩
            rw [hv]
            go_wp2
            go_ret
            exact ⟨rfl, by go_grown⟩
          · have hq : (addS 0 (dlogM p (invM e)) == s) = true := by
              rw [ex_none (baseB_iff.2 ⟨hel, h1⟩) hv hx]; simp
            clear h1
            go_wp2_with (first | (go_at_call 8; refine (isEl_spec _ _).mono ?_; rintro e w' ⟨rfl, rfl⟩))
            refine (isValidX_spec _ _ _).mono ?_
            rintro x w' ⟨rfl, rfl⟩
            rw [hv]
            go_wp2
            go_quiet ((first | (go_at_call 12; exact Calls.quiet_of_same ((inverse_spec _ _).mono fun _ _ h => ⟨h.1, h.2.symm⟩)) | (go_at_call 11; exact Calls.quiet_of_same ((dlog_spec _ _ _).mono fun _ _ h => ⟨h.1, h.2.symm⟩)) | (go_at_call 10; exact Calls.quiet_of_same ((addScalars_impl _ _ _).mono fun _ _ h => ⟨h.1, h.2.symm⟩))))
            go_wp2
            go_ret
            exact ⟨rfl, Sls.below_drewN (by go_grown) _⟩
    · obtain ⟨hb, hv, _⟩ := ex_parts hx
      obtain ⟨hel, h1⟩ := baseB_iff.1 hb
      have h1' : (p == 1) = false := by simpa using h1
      clear h1 hb
      go_wp2_with fail
      refine (ex_true hx _).mono ?_
      rintro x w2 ⟨rfl, hb0⟩
      have cm : Bk.Blk w2 (w1.heap.size) 25 #[.int .i64 s, .int .i64 e] := (by apply Bk.Blk.to; (focus (apply Bk.Blk.under hb0; (repeat (first | with_reducible assumption | (with_reducible apply Bk.Blk.newAt; focus (first | (simp [Bk.size_set]; done) | (simp [Bk.size_set]; omega))) | with_reducible apply Bk.Blk.drewN | with_reducible apply Bk.Blk.drew | with_reducible apply Bk.Blk.set_ | (with_reducible apply Bk.Blk.far; focus (dsimp only; first | omega | (simp; omega) | (simp; done))) | with_reducible apply Bk.Blk.alloc)))); rfl)
      replace B : Below w.heap.size w w2 := Below.trans (by go_grown) (hb0.mono (by first | omega | (simp [Bk.size_set]; done) | (simp [Bk.size_set]; omega)))
      have z2 := hb0.size
      (try simp only [World.size_alloc, Bk.size_set, World.size_drew, World.drewN] at z2)
      clear hb0
      have L_cm := Lay.f2 cm
      go_wp2_with (first | (go_at_call 8; refine (isEl_spec _ _).mono ?_; rintro e w' ⟨rfl, rfl⟩))
      clear L_cm
      refine (isValidCommit_spec _ _ _).mono ?_
      rintro x w3 ⟨rfl, hb0⟩
      rw [hv]
      replace cm : Bk.Blk w3 (w1.heap.size) 25 #[.int .i64 s, .int .i64 e] := Bk.Blk.under hb0 (by (repeat (first | with_reducible assumption | (with_reducible apply Bk.Blk.newAt; focus (first | (simp [Bk.size_set]; done) | (simp [Bk.size_set]; omega))) | with_reducible apply Bk.Blk.drewN | with_reducible apply Bk.Blk.drew | with_reducible apply Bk.Blk.set_ | (with_reducible apply Bk.Blk.far; focus (dsimp only; first | omega | (simp; omega) | (simp; done))) | with_reducible apply Bk.Blk.alloc)))
      replace B : Below w.heap.size w w3 := Below.trans (by go_grown) (hb0.mono (by first | omega | (simp [Bk.size_set]; done) | (simp [Bk.size_set]; omega)))
      have z3 := hb0.size
      (try simp only [World.size_alloc, Bk.size_set, World.size_drew, World.drewN] at z3)
      clear hb0
      have L_cm := Lay.f2 cm
      go_wp2_with fail
      clear L_cm
      refine (nc_back hx _).mono ?_
      rintro x w4 ⟨rfl, hb0⟩
      replace cm : Bk.Blk w4 (w1.heap.size) 25 #[.int .i64 s, .int .i64 e] := Bk.Blk.under hb0 (by (repeat (first | with_reducible assumption | (with_reducible apply Bk.Blk.newAt; focus (first | (simp [Bk.size_set]; done) | (simp [Bk.size_set]; omega))) | with_reducible apply Bk.Blk.drewN | with_reducible apply Bk.Blk.drew | with_reducible apply Bk.Blk.set_ | (with_reducible apply Bk.Blk.far; focus (dsimp only; first | omega | (simp; omega) | (simp; done))) | with_reducible apply Bk.Blk.alloc)))
      replace B : Below w.heap.size w w4 := Below.trans (by go_grown) (hb0.mono (by first | omega | (simp [Bk.size_set]; done) | (simp [Bk.size_set]; omega)))
      have z4 := hb0.size
      (try simp only [World.size_alloc, Bk.size_set, World.size_drew, World.drewN] at z4)
      clear hb0
      have L_cm := Lay.f2 cm
      go_wp2_with fail
      clear L_cm
      generalize hW : World.alloc _ _ = w5
      have xb : Bk.Blk w5 (w4.heap.size) 25 #[.int .i64 s, .int .i64 e] := (by rw [← hW]; apply Bk.Blk.to; (focus ((repeat (first | with_reducible assumption | (with_reducible apply Bk.Blk.newAt; focus (first | (simp [Bk.size_set]; done) | (simp [Bk.size_set]; omega))) | with_reducible apply Bk.Blk.drewN | with_reducible apply Bk.Blk.drew | with_reducible apply Bk.Blk.set_ | (with_reducible apply Bk.Blk.far; focus (dsimp only; first | omega | (simp; omega) | (simp; done))) | with_reducible apply Bk.Blk.alloc)))); rfl)
      replace cm : Bk.Blk w5 (w1.heap.size) 25 #[.int .i64 s, .int .i64 e] := (by rw [← hW]; (repeat (first | with_reducible assumption | (with_reducible apply Bk.Blk.newAt; focus (first | (simp [Bk.size_set]; done) | (simp [Bk.size_set]; omega))) | with_reducible apply Bk.Blk.drewN | with_reducible apply Bk.Blk.drew | with_reducible apply Bk.Blk.set_ | (with_reducible apply Bk.Blk.far; focus (dsimp only; first | omega | (simp; omega) | (simp; done))) | with_reducible apply Bk.Blk.alloc)))
      replace B : Below w.heap.size w w5 := (by rw [← hW]; go_grown)
      have z5 : w5.heap.size = _ := congrArg (fun W : World => W.heap.size) hW.symm
      (try simp only [World.size_alloc, Bk.size_set, World.size_drew, World.drewN] at z5)
      clear hW
      refine (at_any A n c zs _ _ (HR.out.below B) HB.out (by omega) (by omega) (by omega)).mono ?_
      rintro x0 w' ⟨b0, hb0, rfl, rfl⟩
      go_wp2_with fail
      refine (at_any A n c zs _ _ (HR.out.below B) HB.out (by omega) (by omega) (by omega)).mono ?_
      rintro x1 w' ⟨b1, hb1, rfl, rfl⟩
      go_wp2_with fail
      refine (pass_impl _ b0 b1 _ (by decide) (by omega) (by omega)).mono ?_
      rintro x w6 ⟨rfl, hb0⟩
      replace cm : Bk.Blk w6 (w1.heap.size) 25 #[.int .i64 s, .int .i64 e] := Bk.Blk.under hb0 (by (repeat (first | with_reducible assumption | (with_reducible apply Bk.Blk.newAt; focus (first | (simp [Bk.size_set]; done) | (simp [Bk.size_set]; omega))) | with_reducible apply Bk.Blk.drewN | with_reducible apply Bk.Blk.drew | with_reducible apply Bk.Blk.set_ | (with_reducible apply Bk.Blk.far; focus (dsimp only; first | omega | (simp; omega) | (simp; done))) | with_reducible apply Bk.Blk.alloc)))
      replace xb : Bk.Blk w6 (w4.heap.size) 25 #[.int .i64 s, .int .i64 e] := Bk.Blk.under hb0 (by (repeat (first | with_reducible assumption | (with_reducible apply Bk.Blk.newAt; focus (first | (simp [Bk.size_set]; done) | (simp [Bk.size_set]; omega))) | with_reducible apply Bk.Blk.drewN | with_reducible apply Bk.Blk.drew | with_reducible apply Bk.Blk.set_ | (with_reducible apply Bk.Blk.far; focus (dsimp only; first | omega | (simp; omega) | (simp; done))) | with_reducible apply Bk.Blk.alloc)))
      replace B : Below w.heap.size w w6 := Below.trans (by go_grown) (hb0.mono (by first | omega | (simp [Bk.size_set]; done) | (simp [Bk.size_set]; omega)))
      have z6 := hb0.size
      (try simp only [World.size_alloc, Bk.size_set, World.size_drew, World.drewN] at z6)
      clear hb0
      have L_cm := Lay.f2 cm
      have L_xb := Lay.f2 xb
      generalize passM _ b0 b1 = gu
      cases hg : exB gu s e
      · skip
        go_wp2_with fail
        clear L_cm L_xb
        refine (ex_false hg _).mono ?_
        rintro x w7 ⟨rfl, hb0⟩
        replace cm : Bk.Blk w7 (w1.heap.size) 25 #[.int .i64 s, .int .i64 e] := Bk.Blk.under hb0 (by (repeat (first | with_reducible assumption | (with_reducible apply Bk.Blk.newAt; focus (first | (simp [Bk.size_set]; done) | (simp [Bk.size_set]; omega))) | with_reducible apply Bk.Blk.drewN | with_reducible apply Bk.Blk.drew | with_reducible apply Bk.Blk.set_ | (with_reducible apply Bk.Blk.far; focus (dsimp only; first | omega | (simp; omega) | (simp; done))) | with_reducible apply Bk.Blk.alloc)))
        replace xb : Bk.Blk w7 (w4.heap.size) 25 #[.int .i64 s, .int .i64 e] := Bk.Blk.under hb0 (by (repeat (first | with_reducible assumption | (with_reducible apply Bk.Blk.newAt; focus (first | (simp [Bk.size_set]; done) | (simp [Bk.size_set]; omega))) | with_reducible apply Bk.Blk.drewN | with_reducible apply Bk.Blk.drew | with_reducible apply Bk.Blk.set_ | (with_reducible apply Bk.Blk.far; focus (dsimp only; first | omega | (simp; omega) | (simp; done))) | with_reducible apply Bk.Blk.alloc)))
        replace B : Below w.heap.size w w7 := Below.trans (by go_grown) (hb0.mono (by first | omega | (simp [Bk.size_set]; done) | (simp [Bk.size_set]; omega)))
        have z7 := hb0.size
        (try simp only [World.size_alloc, Bk.size_set, World.size_drew, World.drewN] at z7)
        clear hb0
        have L_cm := Lay.f2 cm
        have L_xb := Lay.f2 xb
        go_wp2_with fail
        clear L_cm L_xb
        refine (nc_zero _ _).mono ?_
        rintro x w8 ⟨rfl, hb0⟩
        replace cm : Bk.Blk w8 (w1.heap.size) 25 #[.int .i64 s, .int .i64 e] := Bk.Blk.under hb0 (by (repeat (first | with_reducible assumption | (with_reducible apply Bk.Blk.newAt; focus (first | (simp [Bk.size_set]; done) | (simp [Bk.size_set]; omega))) | with_reducible apply Bk.Blk.drewN | with_reducible apply Bk.Blk.drew | with_reducible apply Bk.Blk.set_ | (with_reducible apply Bk.Blk.far; focus (dsimp only; first | omega | (simp; omega) | (simp; done))) | with_reducible apply Bk.Blk.alloc)))
        replace xb : Bk.Blk w8 (w4.heap.size) 25 #[.int .i64 s, .int .i64 e] := Bk.Blk.under hb0 (by (repeat (first | with_reducible assumption | (with_reducible apply Bk.Blk.newAt; focus (first | (simp [Bk.size_set]; done) | (simp [Bk.size_set]; omega))) | with_reducible apply Bk.Blk.drewN | with_reducible apply Bk.Blk.drew | with_reducible apply Bk.Blk.set_ | (with_reducible apply Bk.Blk.far; focus (dsimp only; first | omega | (simp; omega) | (simp; done))) | with_reducible apply Bk.Blk.alloc)))
        replace B : Below w.heap.size w w8 := Below.trans (by go_grown) (hb0.mono (by first | omega | (simp [Bk.size_set]; done) | (simp [Bk.size_set]; omega)))
        have z8 := hb0.size
        (try simp only [World.size_alloc, Bk.size_set, World.size_drew, World.drewN] at z8)
        clear hb0
        have L_cm := Lay.f2 cm
        have L_xb := Lay.f2 xb
        go_wp2
        go_ret
        exact ⟨rfl, by go_grown⟩
      · skip
        go_wp2_with fail
        clear L_cm L_xb
        refine (ex_true hg _).mono ?_
        rintro x w7 ⟨rfl, hb0⟩
        replace cm : Bk.Blk w7 (w1.heap.size) 25 #[.int .i64 s, .int .i64 e] := Bk.Blk.under hb0 (by (repeat (first | with_reducible assumption | (with_reducible apply Bk.Blk.newAt; focus (first | (simp [Bk.size_set]; done) | (simp [Bk.size_set]; omega))) | with_reducible apply Bk.Blk.drewN | with_reducible apply Bk.Blk.drew | with_reducible apply Bk.Blk.set_ | (with_reducible apply Bk.Blk.far; focus (dsimp only; first | omega | (simp; omega) | (simp; done))) | with_reducible apply Bk.Blk.alloc)))
        replace xb : Bk.Blk w7 (w4.heap.size) 25 #[.int .i64 s, .int .i64 e] := Bk.Blk.under hb0 (by (repeat (first | with_reducible assumption | (with_reducible apply Bk.Blk.newAt; focus (first | (simp [Bk.size_set]; done) | (simp [Bk.size_set]; omega))) | with_reducible apply Bk.Blk.drewN | with_reducible apply Bk.Blk.drew | with_reducible apply Bk.Blk.set_ | (with_reducible apply Bk.Blk.far; focus (dsimp only; first | omega | (simp; omega) | (simp; done))) | with_reducible apply Bk.Blk.alloc)))
        replace B : Below w.heap.size w w7 := Below.trans (by go_grown) (hb0.mono (by first | omega | (simp [Bk.size_set]; done) | (simp [Bk.size_set]; omega)))
        have z7 := hb0.size
        (try simp only [World.size_alloc, Bk.size_set, World.size_drew, World.drewN] at z7)
        clear hb0
        have L_cm := Lay.f2 cm
        have L_xb := Lay.f2 xb
        go_wp2_with fail
        clear L_cm L_xb
        refine (nc_back hg _).mono ?_
        rintro x w8 ⟨rfl, hb0⟩
        replace cm : Bk.Blk w8 (w1.heap.size) 25 #[.int .i64 s, .int .i64 e] := Bk.Blk.under hb0 (by (repeat (first | with_reducible assumption | (with_reducible apply Bk.Blk.newAt; focus (first | (simp [Bk.size_set]; done) | (simp [Bk.size_set]; omega))) | with_reducible apply Bk.Blk.drewN | with_reducible apply Bk.Blk.drew | with_reducible apply Bk.Blk.set_ | (with_reducible apply Bk.Blk.far; focus (dsimp only; first | omega | (simp; omega) | (simp; done))) | with_reducible apply Bk.Blk.alloc)))
        replace xb : Bk.Blk w8 (w4.heap.size) 25 #[.int .i64 s, .int .i64 e] := Bk.Blk.under hb0 (by (repeat (first | with_reducible assumption | (with_reducible apply Bk.Blk.newAt; focus (first | (simp [Bk.size_set]; done) | (simp [Bk.size_set]; omega))) | with_reducible apply Bk.Blk.drewN | with_reducible apply Bk.Blk.drew | with_reducible apply Bk.Blk.set_ | (with_reducible apply Bk.Blk.far; focus (dsimp only; first | omega | (simp; omega) | (simp; done))) | with_reducible apply Bk.Blk.alloc)))
        replace B : Below w.heap.size w w8 := Below.trans (by go_grown) (hb0.mono (by first | omega | (simp [Bk.size_set]; done) | (simp [Bk.size_set]; omega)))
        have z8 := hb0.size
        (try simp only [World.size_alloc, Bk.size_set, World.size_drew, World.drewN] at z8)
        clear hb0
        have L_cm := Lay.f2 cm
        have L_xb := Lay.f2 xb
        go_wp2
        go_ret
        exact ⟨rfl, by go_grown⟩
end Go.Proofs.Ytbiipcgiionhpaa.LawOff
