/- AdvanceClient of the program. -/
import Derived.Test.YtikolopdkjocgaaClient
import Derived.Test.YtikolopdkjocgaaKept
import Derived.Test.YtikolopdkjocgaaLay
namespace Go.Proofs.Ytikolopdkjocgaa.Cl
open Go.RowKit
open Go.Proofs.Ytikolopdkjocgaa.Num Go.Proofs.Ytikolopdkjocgaa.Mem Go.Proofs.Ytikolopdkjocgaa.Sls Go.Proofs.Ytikolopdkjocgaa.Scn Go.Proofs.Ytikolopdkjocgaa.Own
set_option linter.unusedSimpArgs false
set_option linter.unusedVariables false
theorem own_kept {w0 w : World} {lo l2 n c : Nat} {e : TypeId} {sz : Nat} {A : Option Addr} {xs : List Value} (h : w0.ownsRow l2 e sz (.slice A n c) n xs) (hk : Bk.Kept lo w0 w) (hl : lo ≤ l2 := by simp) : w.ownsRow l2 e sz (.slice A n c) n xs :=
  (Own.keep (Own.of h) (fun g h1 h2 => hk.2 g (by omega) h2)).1
set_option maxHeartbeats 2000000 in
theorem adv_no1 (st ap si a2 now : Int) (A : Option Addr) (n c : Nat) (zs : List Int) (w : World) (hr : Rd w 4 A n c (zs.map (Value.int .i64))) (hn : n ≤ 2097152) (ok : Bool) (h : (a2 != ap) = true) :
    Calls Try.prog 19 #[.agg #[.int .i64 st, .int .i64 ap, .int .i64 si, .slice A n c], .int .i64 a2, .bool ok, .int .i64 now] w (RetCl w st ap si n zs) := by
  have HR := Lib.hid hr
  have B : Below w.heap.size w w := Below.refl _ _
  clear hr
  go_enter Try.func19, Try.ntmps19
  go_wp2_with fail
  refine (copyCl_any st ap si A n c zs _ ((HR.out.alloc _).alloc _) hn).mono ?_
  rintro x w1 ⟨A1, c1, rfl, hown, hb0⟩
  have c0 : Bk.Blk w1 (w.heap.size) 38 #[.int .i64 st, .int .i64 ap, .int .i64 si, .slice A n c] := (by apply Bk.Blk.to; (focus (apply Bk.Blk.under hb0; (repeat (first | with_reducible assumption | (with_reducible apply Bk.Blk.newAt; focus (first | (simp [Bk.size_set]; done) | (simp [Bk.size_set]; omega))) | with_reducible apply Bk.Blk.drewN | with_reducible apply Bk.Blk.drew | with_reducible apply Bk.Blk.set_ | (with_reducible apply Bk.Blk.far; focus (dsimp only; first | omega | (simp; omega) | (simp; done))) | with_reducible apply Bk.Blk.alloc)))); rfl)
  have rr : Bk.Blk w1 (w.heap.size + 1) 38 #[.int .i64 0, .int .i64 0, .int .i64 0, .slice none 0 0] := (by apply Bk.Blk.to; (focus (apply Bk.Blk.under hb0; (repeat (first | with_reducible assumption | (with_reducible apply Bk.Blk.newAt; focus (first | (simp [Bk.size_set]; done) | (simp [Bk.size_set]; omega))) | with_reducible apply Bk.Blk.drewN | with_reducible apply Bk.Blk.drew | with_reducible apply Bk.Blk.set_ | (with_reducible apply Bk.Blk.far; focus (dsimp only; first | omega | (simp; omega) | (simp; done))) | with_reducible apply Bk.Blk.alloc)))); rfl)
  replace B : Below w.heap.size w w1 := Below.trans (by go_grown) (hb0.mono (by first | omega | (simp [Bk.size_set]; done) | (simp [Bk.size_set]; omega)))
  have z1 := hb0.size
  (try simp only [World.size_alloc, Bk.size_set, World.size_drew, World.drewN] at z1)
  clear hb0
  have F : Bk.Kept (w.heap.size + 1 + 1) w1 w1 := Bk.Kept.refl _ _
  have HO := Lib.hid hown
  clear hown
  have L_c0 := Lay.f4 c0
  have L_rr := Lay.f4 rr
  go_wp2
  clear L_c0 L_rr
  generalize hW : World.alloc _ _ = w2
  replace rr : Bk.Blk w2 (w.heap.size + 1) 38 #[.int .i64 st, .int .i64 ap, .int .i64 si, .slice A1 n c1] := (by rw [← hW]; apply Bk.Blk.to; (focus ((repeat (first | with_reducible assumption | (with_reducible apply Bk.Blk.newAt; focus (first | (simp [Bk.size_set]; done) | (simp [Bk.size_set]; omega))) | with_reducible apply Bk.Blk.drewN | with_reducible apply Bk.Blk.drew | with_reducible apply Bk.Blk.set_ | (with_reducible apply Bk.Blk.far; focus (dsimp only; first | omega | (simp; omega) | (simp; done))) | with_reducible apply Bk.Blk.alloc)))); rfl)
  replace F : Bk.Kept (w.heap.size + 1 + 1) w1 w2 := (by rw [← hW]; (repeat (first | with_reducible assumption | with_reducible exact Bk.Kept.refl _ _ | with_reducible apply Bk.Kept.alloc | with_reducible apply Bk.Kept.drewN | with_reducible apply Bk.Kept.drew | (with_reducible apply Bk.Kept.setCell; focus (dsimp only; omega)))))
  replace B : Below w.heap.size w w2 := (by rw [← hW]; go_grown)
  have z2 : w2.heap.size = _ := congrArg (fun W : World => W.heap.size) hW.symm
  (try simp only [World.size_alloc, Bk.size_set, World.size_drew, World.drewN] at z2)
  clear hW
  have L_rr := Lay.c4 rr
  refine bodyPost_ret (v := .agg #[.int .i64 st, .int .i64 ap, .int .i64 si, .slice A1 n c1]) (by simp [results, Try.results19, go_sem, L_rr]) rfl (⟨_, _, rfl, ownsRow_mono (own_kept HO.out F) (by simp <;> omega), B⟩)
set_option maxHeartbeats 2000000 in
theorem adv_no2 (st ap si a2 now : Int) (A : Option Addr) (n c : Nat) (zs : List Int) (w : World) (hr : Rd w 4 A n c (zs.map (Value.int .i64))) (hn : n ≤ 2097152) (ok : Bool) (h : (a2 != ap) = false) (h1 : (st != 1) = true) (h2 : (st != 2) = true) :
    Calls Try.prog 19 #[.agg #[.int .i64 st, .int .i64 ap, .int .i64 si, .slice A n c], .int .i64 a2, .bool ok, .int .i64 now] w (RetCl w st ap si n zs) := by
  have HR := Lib.hid hr
  have B : Below w.heap.size w w := Below.refl _ _
  clear hr
  go_enter Try.func19, Try.ntmps19
  go_wp2_with fail
  refine (copyCl_any st ap si A n c zs _ ((HR.out.alloc _).alloc _) hn).mono ?_
  rintro x w1 ⟨A1, c1, rfl, hown, hb0⟩
  have c0 : Bk.Blk w1 (w.heap.size) 38 #[.int .i64 st, .int .i64 ap, .int .i64 si, .slice A n c] := (by apply Bk.Blk.to; (focus (apply Bk.Blk.under hb0; (repeat (first | with_reducible assumption | (with_reducible apply Bk.Blk.newAt; focus (first | (simp [Bk.size_set]; done) | (simp [Bk.size_set]; omega))) | with_reducible apply Bk.Blk.drewN | with_reducible apply Bk.Blk.drew | with_reducible apply Bk.Blk.set_ | (with_reducible apply Bk.Blk.far; focus (dsimp only; first | omega | (simp; omega) | (simp; done))) | with_reducible apply Bk.Blk.alloc)))); rfl)
  have rr : Bk.Blk w1 (w.heap.size + 1) 38 #[.int .i64 0, .int .i64 0, .int .i64 0, .slice none 0 0] := (by apply Bk.Blk.to; (focus (apply Bk.Blk.under hb0; (repeat (first | with_reducible assumption | (with_reducible apply Bk.Blk.newAt; focus (first | (simp [Bk.size_set]; done) | (simp [Bk.size_set]; omega))) | with_reducible apply Bk.Blk.drewN | with_reducible apply Bk.Blk.drew | with_reducible apply Bk.Blk.set_ | (with_reducible apply Bk.Blk.far; focus (dsimp only; first | omega | (simp; omega) | (simp; done))) | with_reducible apply Bk.Blk.alloc)))); rfl)
  replace B : Below w.heap.size w w1 := Below.trans (by go_grown) (hb0.mono (by first | omega | (simp [Bk.size_set]; done) | (simp [Bk.size_set]; omega)))
  have z1 := hb0.size
  (try simp only [World.size_alloc, Bk.size_set, World.size_drew, World.drewN] at z1)
  clear hb0
  have F : Bk.Kept (w.heap.size + 1 + 1) w1 w1 := Bk.Kept.refl _ _
  have HO := Lib.hid hown
  clear hown
  have L_c0 := Lay.f4 c0
  have L_rr := Lay.f4 rr
  go_wp2
  clear L_c0 L_rr
  generalize hW : World.alloc _ _ = w2
  replace rr : Bk.Blk w2 (w.heap.size + 1) 38 #[.int .i64 st, .int .i64 ap, .int .i64 si, .slice A1 n c1] := (by rw [← hW]; apply Bk.Blk.to; (focus ((repeat (first | with_reducible assumption | (with_reducible apply Bk.Blk.newAt; focus (first | (simp [Bk.size_set]; done) | (simp [Bk.size_set]; omega))) | with_reducible apply Bk.Blk.drewN | with_reducible apply Bk.Blk.drew | with_reducible apply Bk.Blk.set_ | (with_reducible apply Bk.Blk.far; focus (dsimp only; first | omega | (simp; omega) | (simp; done))) | with_reducible apply Bk.Blk.alloc)))); rfl)
  replace F : Bk.Kept (w.heap.size + 1 + 1) w1 w2 := (by rw [← hW]; (repeat (first | with_reducible assumption | with_reducible exact Bk.Kept.refl _ _ | with_reducible apply Bk.Kept.alloc | with_reducible apply Bk.Kept.drewN | with_reducible apply Bk.Kept.drew | (with_reducible apply Bk.Kept.setCell; focus (dsimp only; omega)))))
  replace B : Below w.heap.size w w2 := (by rw [← hW]; go_grown)
  have z2 : w2.heap.size = _ := congrArg (fun W : World => W.heap.size) hW.symm
  (try simp only [World.size_alloc, Bk.size_set, World.size_drew, World.drewN] at z2)
  clear hW
  have L_rr := Lay.c4 rr
  refine bodyPost_ret (v := .agg #[.int .i64 st, .int .i64 ap, .int .i64 si, .slice A1 n c1]) (by simp [results, Try.results19, go_sem, L_rr]) rfl (⟨_, _, rfl, ownsRow_mono (own_kept HO.out F) (by simp <;> omega), B⟩)
set_option maxHeartbeats 2000000 in
theorem adv_off1 (ap si a2 now : Int) (A : Option Addr) (n c : Nat) (zs : List Int) (w : World) (hr : Rd w 4 A n c (zs.map (Value.int .i64))) (hn : n ≤ 2097152) (h : (a2 != ap) = false) :
    Calls Try.prog 19 #[.agg #[.int .i64 1, .int .i64 ap, .int .i64 si, .slice A n c], .int .i64 a2, .bool false, .int .i64 now] w (RetCl w 0 0 0 n zs) := by
  have HR := Lib.hid hr
  have B : Below w.heap.size w w := Below.refl _ _
  clear hr
  go_enter Try.func19, Try.ntmps19
  go_wp2_with fail
  refine (copyCl_any 1 ap si A n c zs _ ((HR.out.alloc _).alloc _) hn).mono ?_
  rintro x w1 ⟨A1, c1, rfl, hown, hb0⟩
  have c0 : Bk.Blk w1 (w.heap.size) 38 #[.int .i64 1, .int .i64 ap, .int .i64 si, .slice A n c] := (by apply Bk.Blk.to; (focus (apply Bk.Blk.under hb0; (repeat (first | with_reducible assumption | (with_reducible apply Bk.Blk.newAt; focus (first | (simp [Bk.size_set]; done) | (simp [Bk.size_set]; omega))) | with_reducible apply Bk.Blk.drewN | with_reducible apply Bk.Blk.drew | with_reducible apply Bk.Blk.set_ | (with_reducible apply Bk.Blk.far; focus (dsimp only; first | omega | (simp; omega) | (simp; done))) | with_reducible apply Bk.Blk.alloc)))); rfl)
  have rr : Bk.Blk w1 (w.heap.size + 1) 38 #[.int .i64 0, .int .i64 0, .int .i64 0, .slice none 0 0] := (by apply Bk.Blk.to; (focus (apply Bk.Blk.under hb0; (repeat (first | with_reducible assumption | (with_reducible apply Bk.Blk.newAt; focus (first | (simp [Bk.size_set]; done) | (simp [Bk.size_set]; omega))) | with_reducible apply Bk.Blk.drewN | with_reducible apply Bk.Blk.drew | with_reducible apply Bk.Blk.set_ | (with_reducible apply Bk.Blk.far; focus (dsimp only; first | omega | (simp; omega) | (simp; done))) | with_reducible apply Bk.Blk.alloc)))); rfl)
  replace B : Below w.heap.size w w1 := Below.trans (by go_grown) (hb0.mono (by first | omega | (simp [Bk.size_set]; done) | (simp [Bk.size_set]; omega)))
  have z1 := hb0.size
  (try simp only [World.size_alloc, Bk.size_set, World.size_drew, World.drewN] at z1)
  clear hb0
  have F : Bk.Kept (w.heap.size + 1 + 1) w1 w1 := Bk.Kept.refl _ _
  have HO := Lib.hid hown
  clear hown
  have L_c0 := Lay.f4 c0
  have L_rr := Lay.f4 rr
  go_wp2_with fail
  clear L_c0 L_rr
  refine (reset_any 1 ap si (.slice A1 n c1) _ rfl ⟨_, _, _, rfl⟩).mono ?_
  rintro x w2 ⟨rfl, hb0⟩
  replace rr : Bk.Blk w2 (w.heap.size + 1) 38 #[.int .i64 0, .int .i64 0, .int .i64 0, .slice none 0 0] := Bk.Blk.under hb0 (by (repeat (first | with_reducible assumption | (with_reducible apply Bk.Blk.newAt; focus (first | (simp [Bk.size_set]; done) | (simp [Bk.size_set]; omega))) | with_reducible apply Bk.Blk.drewN | with_reducible apply Bk.Blk.drew | with_reducible apply Bk.Blk.set_ | (with_reducible apply Bk.Blk.far; focus (dsimp only; first | omega | (simp; omega) | (simp; done))) | with_reducible apply Bk.Blk.alloc)))
  replace F : Bk.Kept (w.heap.size + 1 + 1) w1 w2 := Bk.Kept.under hb0 (by (repeat (first | with_reducible assumption | with_reducible exact Bk.Kept.refl _ _ | with_reducible apply Bk.Kept.alloc | with_reducible apply Bk.Kept.drewN | with_reducible apply Bk.Kept.drew | (with_reducible apply Bk.Kept.setCell; focus (dsimp only; omega)))))
  replace B : Below w.heap.size w w2 := Below.trans (by go_grown) (hb0.mono (by first | omega | (simp [Bk.size_set]; done) | (simp [Bk.size_set]; omega)))
  have z2 := hb0.size
  (try simp only [World.size_alloc, Bk.size_set, World.size_drew, World.drewN] at z2)
  clear hb0
  have L_rr := Lay.f4 rr
  go_wp2
  clear L_rr
  generalize hW : World.setCell _ _ _ = w3
  replace rr : Bk.Blk w3 (w.heap.size + 1) 38 #[.int .i64 0, .int .i64 0, .int .i64 0, .slice A1 n c1] := (by rw [← hW]; apply Bk.Blk.to; (focus ((repeat (first | with_reducible assumption | (with_reducible apply Bk.Blk.newAt; focus (first | (simp [Bk.size_set]; done) | (simp [Bk.size_set]; omega))) | with_reducible apply Bk.Blk.drewN | with_reducible apply Bk.Blk.drew | with_reducible apply Bk.Blk.set_ | (with_reducible apply Bk.Blk.far; focus (dsimp only; first | omega | (simp; omega) | (simp; done))) | with_reducible apply Bk.Blk.alloc)))); rfl)
  replace F : Bk.Kept (w.heap.size + 1 + 1) w1 w3 := (by rw [← hW]; (repeat (first | with_reducible assumption | with_reducible exact Bk.Kept.refl _ _ | with_reducible apply Bk.Kept.alloc | with_reducible apply Bk.Kept.drewN | with_reducible apply Bk.Kept.drew | (with_reducible apply Bk.Kept.setCell; focus (dsimp only; omega)))))
  replace B : Below w.heap.size w w3 := (by rw [← hW]; go_grown)
  have z3 : w3.heap.size = _ := congrArg (fun W : World => W.heap.size) hW.symm
  (try simp only [World.size_alloc, Bk.size_set, World.size_drew, World.drewN] at z3)
  clear hW
  have L_rr := Lay.c4 rr
  refine bodyPost_ret (v := .agg #[.int .i64 0, .int .i64 0, .int .i64 0, .slice A1 n c1]) (by simp [results, Try.results19, go_sem, L_rr]) rfl (⟨_, _, rfl, ownsRow_mono (own_kept HO.out F) (by simp <;> omega), B⟩)
set_option maxHeartbeats 2000000 in
theorem adv_on1 (ap si a2 now : Int) (A : Option Addr) (n c : Nat) (zs : List Int) (w : World) (hr : Rd w 4 A n c (zs.map (Value.int .i64))) (hn : n ≤ 2097152) (h : (a2 != ap) = false) :
    Calls Try.prog 19 #[.agg #[.int .i64 1, .int .i64 ap, .int .i64 si, .slice A n c], .int .i64 a2, .bool true, .int .i64 now] w (RetCl w 2 ap now n zs) := by
  have HR := Lib.hid hr
  have B : Below w.heap.size w w := Below.refl _ _
  clear hr
  go_enter Try.func19, Try.ntmps19
  go_wp2_with fail
  refine (copyCl_any 1 ap si A n c zs _ ((HR.out.alloc _).alloc _) hn).mono ?_
  rintro x w1 ⟨A1, c1, rfl, hown, hb0⟩
  have c0 : Bk.Blk w1 (w.heap.size) 38 #[.int .i64 1, .int .i64 ap, .int .i64 si, .slice A n c] := (by apply Bk.Blk.to; (focus (apply Bk.Blk.under hb0; (repeat (first | with_reducible assumption | (with_reducible apply Bk.Blk.newAt; focus (first | (simp [Bk.size_set]; done) | (simp [Bk.size_set]; omega))) | with_reducible apply Bk.Blk.drewN | with_reducible apply Bk.Blk.drew | with_reducible apply Bk.Blk.set_ | (with_reducible apply Bk.Blk.far; focus (dsimp only; first | omega | (simp; omega) | (simp; done))) | with_reducible apply Bk.Blk.alloc)))); rfl)
  have rr : Bk.Blk w1 (w.heap.size + 1) 38 #[.int .i64 0, .int .i64 0, .int .i64 0, .slice none 0 0] := (by apply Bk.Blk.to; (focus (apply Bk.Blk.under hb0; (repeat (first | with_reducible assumption | (with_reducible apply Bk.Blk.newAt; focus (first | (simp [Bk.size_set]; done) | (simp [Bk.size_set]; omega))) | with_reducible apply Bk.Blk.drewN | with_reducible apply Bk.Blk.drew | with_reducible apply Bk.Blk.set_ | (with_reducible apply Bk.Blk.far; focus (dsimp only; first | omega | (simp; omega) | (simp; done))) | with_reducible apply Bk.Blk.alloc)))); rfl)
  replace B : Below w.heap.size w w1 := Below.trans (by go_grown) (hb0.mono (by first | omega | (simp [Bk.size_set]; done) | (simp [Bk.size_set]; omega)))
  have z1 := hb0.size
  (try simp only [World.size_alloc, Bk.size_set, World.size_drew, World.drewN] at z1)
  clear hb0
  have F : Bk.Kept (w.heap.size + 1 + 1) w1 w1 := Bk.Kept.refl _ _
  have HO := Lib.hid hown
  clear hown
  have L_c0 := Lay.f4 c0
  have L_rr := Lay.f4 rr
  go_wp2
  clear L_c0 L_rr
  generalize hW : World.alloc _ _ = w2
  replace rr : Bk.Blk w2 (w.heap.size + 1) 38 #[.int .i64 2, .int .i64 ap, .int .i64 now, .slice A1 n c1] := (by rw [← hW]; apply Bk.Blk.to; (focus ((repeat (first | with_reducible assumption | (with_reducible apply Bk.Blk.newAt; focus (first | (simp [Bk.size_set]; done) | (simp [Bk.size_set]; omega))) | with_reducible apply Bk.Blk.drewN | with_reducible apply Bk.Blk.drew | with_reducible apply Bk.Blk.set_ | (with_reducible apply Bk.Blk.far; focus (dsimp only; first | omega | (simp; omega) | (simp; done))) | with_reducible apply Bk.Blk.alloc)))); rfl)
  replace F : Bk.Kept (w.heap.size + 1 + 1) w1 w2 := (by rw [← hW]; (repeat (first | with_reducible assumption | with_reducible exact Bk.Kept.refl _ _ | with_reducible apply Bk.Kept.alloc | with_reducible apply Bk.Kept.drewN | with_reducible apply Bk.Kept.drew | (with_reducible apply Bk.Kept.setCell; focus (dsimp only; omega)))))
  replace B : Below w.heap.size w w2 := (by rw [← hW]; go_grown)
  have z2 : w2.heap.size = _ := congrArg (fun W : World => W.heap.size) hW.symm
  (try simp only [World.size_alloc, Bk.size_set, World.size_drew, World.drewN] at z2)
  clear hW
  have L_rr := Lay.c4 rr
  refine bodyPost_ret (v := .agg #[.int .i64 2, .int .i64 ap, .int .i64 now, .slice A1 n c1]) (by simp [results, Try.results19, go_sem, L_rr]) rfl (⟨_, _, rfl, ownsRow_mono (own_kept HO.out F) (by simp <;> omega), B⟩)
set_option maxHeartbeats 2000000 in
theorem adv_off2 (ap si a2 now : Int) (A : Option Addr) (n c : Nat) (zs : List Int) (w : World) (hr : Rd w 4 A n c (zs.map (Value.int .i64))) (hn : n ≤ 2097152) (h : (a2 != ap) = false) :
    Calls Try.prog 19 #[.agg #[.int .i64 2, .int .i64 ap, .int .i64 si, .slice A n c], .int .i64 a2, .bool false, .int .i64 now] w (RetCl w 0 0 0 n zs) := by
  have HR := Lib.hid hr
  have B : Below w.heap.size w w := Below.refl _ _
  clear hr
  go_enter Try.func19, Try.ntmps19
  go_wp2_with fail
  refine (copyCl_any 2 ap si A n c zs _ ((HR.out.alloc _).alloc _) hn).mono ?_
  rintro x w1 ⟨A1, c1, rfl, hown, hb0⟩
  have c0 : Bk.Blk w1 (w.heap.size) 38 #[.int .i64 2, .int .i64 ap, .int .i64 si, .slice A n c] := (by apply Bk.Blk.to; (focus (apply Bk.Blk.under hb0; (repeat (first | with_reducible assumption | (with_reducible apply Bk.Blk.newAt; focus (first | (simp [Bk.size_set]; done) | (simp [Bk.size_set]; omega))) | with_reducible apply Bk.Blk.drewN | with_reducible apply Bk.Blk.drew | with_reducible apply Bk.Blk.set_ | (with_reducible apply Bk.Blk.far; focus (dsimp only; first | omega | (simp; omega) | (simp; done))) | with_reducible apply Bk.Blk.alloc)))); rfl)
  have rr : Bk.Blk w1 (w.heap.size + 1) 38 #[.int .i64 0, .int .i64 0, .int .i64 0, .slice none 0 0] := (by apply Bk.Blk.to; (focus (apply Bk.Blk.under hb0; (repeat (first | with_reducible assumption | (with_reducible apply Bk.Blk.newAt; focus (first | (simp [Bk.size_set]; done) | (simp [Bk.size_set]; omega))) | with_reducible apply Bk.Blk.drewN | with_reducible apply Bk.Blk.drew | with_reducible apply Bk.Blk.set_ | (with_reducible apply Bk.Blk.far; focus (dsimp only; first | omega | (simp; omega) | (simp; done))) | with_reducible apply Bk.Blk.alloc)))); rfl)
  replace B : Below w.heap.size w w1 := Below.trans (by go_grown) (hb0.mono (by first | omega | (simp [Bk.size_set]; done) | (simp [Bk.size_set]; omega)))
  have z1 := hb0.size
  (try simp only [World.size_alloc, Bk.size_set, World.size_drew, World.drewN] at z1)
  clear hb0
  have F : Bk.Kept (w.heap.size + 1 + 1) w1 w1 := Bk.Kept.refl _ _
  have HO := Lib.hid hown
  clear hown
  have L_c0 := Lay.f4 c0
  have L_rr := Lay.f4 rr
  go_wp2_with fail
  clear L_c0 L_rr
  refine (reset_any 2 ap si (.slice A1 n c1) _ rfl ⟨_, _, _, rfl⟩).mono ?_
  rintro x w2 ⟨rfl, hb0⟩
  replace rr : Bk.Blk w2 (w.heap.size + 1) 38 #[.int .i64 0, .int .i64 0, .int .i64 0, .slice none 0 0] := Bk.Blk.under hb0 (by (repeat (first | with_reducible assumption | (with_reducible apply Bk.Blk.newAt; focus (first | (simp [Bk.size_set]; done) | (simp [Bk.size_set]; omega))) | with_reducible apply Bk.Blk.drewN | with_reducible apply Bk.Blk.drew | with_reducible apply Bk.Blk.set_ | (with_reducible apply Bk.Blk.far; focus (dsimp only; first | omega | (simp; omega) | (simp; done))) | with_reducible apply Bk.Blk.alloc)))
  replace F : Bk.Kept (w.heap.size + 1 + 1) w1 w2 := Bk.Kept.under hb0 (by (repeat (first | with_reducible assumption | with_reducible exact Bk.Kept.refl _ _ | with_reducible apply Bk.Kept.alloc | with_reducible apply Bk.Kept.drewN | with_reducible apply Bk.Kept.drew | (with_reducible apply Bk.Kept.setCell; focus (dsimp only; omega)))))
  replace B : Below w.heap.size w w2 := Below.trans (by go_grown) (hb0.mono (by first | omega | (simp [Bk.size_set]; done) | (simp [Bk.size_set]; omega)))
  have z2 := hb0.size
  (try simp only [World.size_alloc, Bk.size_set, World.size_drew, World.drewN] at z2)
  clear hb0
  have L_rr := Lay.f4 rr
  go_wp2
  clear L_rr
  generalize hW : World.setCell _ _ _ = w3
  replace rr : Bk.Blk w3 (w.heap.size + 1) 38 #[.int .i64 0, .int .i64 0, .int .i64 0, .slice A1 n c1] := (by rw [← hW]; apply Bk.Blk.to; (focus ((repeat (first | with_reducible assumption | (with_reducible apply Bk.Blk.newAt; focus (first | (simp [Bk.size_set]; done) | (simp [Bk.size_set]; omega))) | with_reducible apply Bk.Blk.drewN | with_reducible apply Bk.Blk.drew | with_reducible apply Bk.Blk.set_ | (with_reducible apply Bk.Blk.far; focus (dsimp only; first | omega | (simp; omega) | (simp; done))) | with_reducible apply Bk.Blk.alloc)))); rfl)
  replace F : Bk.Kept (w.heap.size + 1 + 1) w1 w3 := (by rw [← hW]; (repeat (first | with_reducible assumption | with_reducible exact Bk.Kept.refl _ _ | with_reducible apply Bk.Kept.alloc | with_reducible apply Bk.Kept.drewN | with_reducible apply Bk.Kept.drew | (with_reducible apply Bk.Kept.setCell; focus (dsimp only; omega)))))
  replace B : Below w.heap.size w w3 := (by rw [← hW]; go_grown)
  have z3 : w3.heap.size = _ := congrArg (fun W : World => W.heap.size) hW.symm
  (try simp only [World.size_alloc, Bk.size_set, World.size_drew, World.drewN] at z3)
  clear hW
  have L_rr := Lay.c4 rr
  refine bodyPost_ret (v := .agg #[.int .i64 0, .int .i64 0, .int .i64 0, .slice A1 n c1]) (by simp [results, Try.results19, go_sem, L_rr]) rfl (⟨_, _, rfl, ownsRow_mono (own_kept HO.out F) (by simp <;> omega), B⟩)
set_option maxHeartbeats 2000000 in
theorem adv_on2 (ap si a2 now : Int) (A : Option Addr) (n c : Nat) (zs : List Int) (w : World) (hr : Rd w 4 A n c (zs.map (Value.int .i64))) (hn : n ≤ 2097152) (h : (a2 != ap) = false) :
    Calls Try.prog 19 #[.agg #[.int .i64 2, .int .i64 ap, .int .i64 si, .slice A n c], .int .i64 a2, .bool true, .int .i64 now] w (RetCl w 3 ap now n zs) := by
  have HR := Lib.hid hr
  have B : Below w.heap.size w w := Below.refl _ _
  clear hr
  go_enter Try.func19, Try.ntmps19
  go_wp2_with fail
  refine (copyCl_any 2 ap si A n c zs _ ((HR.out.alloc _).alloc _) hn).mono ?_
  rintro x w1 ⟨A1, c1, rfl, hown, hb0⟩
  have c0 : Bk.Blk w1 (w.heap.size) 38 #[.int .i64 2, .int .i64 ap, .int .i64 si, .slice A n c] := (by apply Bk.Blk.to; (focus (apply Bk.Blk.under hb0; (repeat (first | with_reducible assumption | (with_reducible apply Bk.Blk.newAt; focus (first | (simp [Bk.size_set]; done) | (simp [Bk.size_set]; omega))) | with_reducible apply Bk.Blk.drewN | with_reducible apply Bk.Blk.drew | with_reducible apply Bk.Blk.set_ | (with_reducible apply Bk.Blk.far; focus (dsimp only; first | omega | (simp; omega) | (simp; done))) | with_reducible apply Bk.Blk.alloc)))); rfl)
  have rr : Bk.Blk w1 (w.heap.size + 1) 38 #[.int .i64 0, .int .i64 0, .int .i64 0, .slice none 0 0] := (by apply Bk.Blk.to; (focus (apply Bk.Blk.under hb0; (repeat (first | with_reducible assumption | (with_reducible apply Bk.Blk.newAt; focus (first | (simp [Bk.size_set]; done) | (simp [Bk.size_set]; omega))) | with_reducible apply Bk.Blk.drewN | with_reducible apply Bk.Blk.drew | with_reducible apply Bk.Blk.set_ | (with_reducible apply Bk.Blk.far; focus (dsimp only; first | omega | (simp; omega) | (simp; done))) | with_reducible apply Bk.Blk.alloc)))); rfl)
  replace B : Below w.heap.size w w1 := Below.trans (by go_grown) (hb0.mono (by first | omega | (simp [Bk.size_set]; done) | (simp [Bk.size_set]; omega)))
  have z1 := hb0.size
  (try simp only [World.size_alloc, Bk.size_set, World.size_drew, World.drewN] at z1)
  clear hb0
  have F : Bk.Kept (w.heap.size + 1 + 1) w1 w1 := Bk.Kept.refl _ _
  have HO := Lib.hid hown
  clear hown
  have L_c0 := Lay.f4 c0
  have L_rr := Lay.f4 rr
  go_wp2
  clear L_c0 L_rr
  generalize hW : World.alloc _ _ = w2
  replace rr : Bk.Blk w2 (w.heap.size + 1) 38 #[.int .i64 3, .int .i64 ap, .int .i64 now, .slice A1 n c1] := (by rw [← hW]; apply Bk.Blk.to; (focus ((repeat (first | with_reducible assumption | (with_reducible apply Bk.Blk.newAt; focus (first | (simp [Bk.size_set]; done) | (simp [Bk.size_set]; omega))) | with_reducible apply Bk.Blk.drewN | with_reducible apply Bk.Blk.drew | with_reducible apply Bk.Blk.set_ | (with_reducible apply Bk.Blk.far; focus (dsimp only; first | omega | (simp; omega) | (simp; done))) | with_reducible apply Bk.Blk.alloc)))); rfl)
  replace F : Bk.Kept (w.heap.size + 1 + 1) w1 w2 := (by rw [← hW]; (repeat (first | with_reducible assumption | with_reducible exact Bk.Kept.refl _ _ | with_reducible apply Bk.Kept.alloc | with_reducible apply Bk.Kept.drewN | with_reducible apply Bk.Kept.drew | (with_reducible apply Bk.Kept.setCell; focus (dsimp only; omega)))))
  replace B : Below w.heap.size w w2 := (by rw [← hW]; go_grown)
  have z2 : w2.heap.size = _ := congrArg (fun W : World => W.heap.size) hW.symm
  (try simp only [World.size_alloc, Bk.size_set, World.size_drew, World.drewN] at z2)
  clear hW
  have L_rr := Lay.c4 rr
  refine bodyPost_ret (v := .agg #[.int .i64 3, .int .i64 ap, .int .i64 now, .slice A1 n c1]) (by simp [results, Try.results19, go_sem, L_rr]) rfl (⟨_, _, rfl, ownsRow_mono (own_kept HO.out F) (by simp <;> omega), B⟩)
end Go.Proofs.Ytikolopdkjocgaa.Cl
