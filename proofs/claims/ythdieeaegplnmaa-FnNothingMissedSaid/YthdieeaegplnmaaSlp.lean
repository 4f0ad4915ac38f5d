/- A sleeping station's state: what it makes of beacons and of frames. -/
import Derived.Test.YthdieeaegplnmaaMkB
namespace Go.Proofs.Ythdieeaegplnmaa.Slp
open Go.RowKit
open Go.Proofs.Ythdieeaegplnmaa.Num Go.Proofs.Ythdieeaegplnmaa.Mem Go.Proofs.Ythdieeaegplnmaa.Hsh Go.Proofs.Ythdieeaegplnmaa.Sls Go.Proofs.Ythdieeaegplnmaa.Own Go.Proofs.Ythdieeaegplnmaa.SS Go.Proofs.Ythdieeaegplnmaa.Gb Go.Proofs.Ythdieeaegplnmaa.Pb
set_option linter.unusedSimpArgs false
set_option linter.unusedVariables false
/-- a sleeping state's value -/
abbrev sv (L : Int) (aw : Bool) (bc po : Int) (wg : Bool) : Value := .agg #[.int .i64 L, .bool aw, .int .i64 bc, .int .i64 po, .bool wg]
theorem new_in (L : Int) (w : World) (h1 : 1 ≤ L) (h8 : L ≤ 8) : Calls Try.prog 52 #[.int .i64 L] w fun x w' => x = .returned (sv L false 0 0 false) ∧ Below w.heap.size w w' := by
  go_enter Try.func52, Try.ntmps52
  go_wp2_with (first | (go_at_call 74; refine (in_impl_yes _ _ _ _ (by omega) (by omega)).mono ?_; rintro e w' ⟨rfl, rfl⟩))
  go_returns
  exact ⟨rfl, by go_grown⟩
theorem must_any (L bc po : Int) (aw wg : Bool) (w : World) (v : Bool) (hv : v = ((po == 1) || wg)) : Calls Try.prog 90 #[sv L aw bc po wg] w fun x w' => x = .returned (.bool v) ∧ Below w.heap.size w w' := by
  subst hv
  cases hp : (po == 1)
  · cases wg
    all_goals
      go_enter Try.func90, Try.ntmps90
      go_wp2_with fail
      go_ret
      exact ⟨rfl, by go_grown⟩
  · go_enter Try.func90, Try.ntmps90
    go_wp2_with fail
    go_ret
    exact ⟨rfl, by go_grown⟩
theorem valid_yes (L bc po : Int) (aw wg : Bool) (w : World) (h1 : 1 ≤ L) (h8 : L ≤ 8) (b0 : 0 ≤ bc) (b1 : bc ≤ L - 1) (p0 : 0 ≤ po) (p1 : po ≤ 1) (ha : aw = true ∨ (aw = false ∧ ((po == 1) || wg) = false)) :
    Calls Try.prog 54 #[sv L aw bc po wg] w fun x w' => x = .returned (.bool true) ∧ Below w.heap.size w w' := by
  have e1 : wrap64 (L - 1) = L - 1 := IntWalk.wrap64_in _ ⟨by omega, by omega⟩
  rcases ha with rfl | ⟨rfl, hm⟩
  · go_enter Try.func54, Try.ntmps54
    go_wp2_with (first | (go_at_call 74; refine (in_impl_yes _ _ _ _ (by omega) (by omega)).mono ?_; rintro e w' ⟨rfl, rfl⟩))
    go_ret
    exact ⟨rfl, by go_grown⟩
  · have HM := Lib.hid hm
    clear hm
    go_enter Try.func54, Try.ntmps54
    go_wp2_with (first | (go_at_call 74; refine (in_impl_yes _ _ _ _ (by omega) (by omega)).mono ?_; rintro e w' ⟨rfl, rfl⟩))
    refine (must_any L bc po false wg _ false HM.out.symm).mono ?_
    rintro x w1 ⟨rfl, hb⟩
    have HB := Lib.hid (show Below w.heap.size w w1 from Below.trans (by go_grown) (hb.mono (by simp <;> omega)))
    clear hb
    go_wp2
    go_ret
    exact ⟨rfl, HB.out⟩
set_option maxHeartbeats 4000000 in
theorem before_any (L bc : Int) (w : World) (h1 : 1 ≤ L) (h8 : L ≤ 8) (b0 : 0 ≤ bc) (b1 : bc ≤ L - 1) (aw : Bool) (bc2 : Int) (h : (bc + 1 = L ∧ aw = true ∧ bc2 = 0) ∨ (bc + 1 ≠ L ∧ aw = false ∧ bc2 = bc + 1)) :
    Calls Try.prog 53 #[sv L false bc 0 false] w fun x w' => x = .returned (sv L aw bc2 0 false) ∧ Below w.heap.size w w' := by
  have B : Below w.heap.size w w := Below.refl _ _
  rcases h with ⟨h, rfl, rfl⟩ | ⟨h, rfl, rfl⟩
  · have e0 : ((bc + 1 : Int) == L) = true := by simpa using h
    go_enter Try.func53, Try.ntmps53
    go_wp2_with fail
    generalize hW : World.alloc _ _ = w1
    have bs : Bk.Blk w1 (w.heap.size) 76 #[.int .i64 L, .bool false, .int .i64 bc, .int .i64 0, .bool false] := (by rw [← hW]; apply Bk.Blk.to; (focus ((repeat (first | with_reducible assumption | (with_reducible apply Bk.Blk.newAt; focus (first | (simp [Bk.size_set]; done) | (simp [Bk.size_set]; omega))) | with_reducible apply Bk.Blk.drewN | with_reducible apply Bk.Blk.drew | with_reducible apply Bk.Blk.set_ | (with_reducible apply Bk.Blk.far; focus (dsimp only; first | omega | (simp; omega) | (simp; done))) | with_reducible apply Bk.Blk.alloc)))); rfl)
    have br : Bk.Blk w1 (w.heap.size + 1) 76 #[.int .i64 0, .bool false, .int .i64 0, .int .i64 0, .bool false] := (by rw [← hW]; apply Bk.Blk.to; (focus ((repeat (first | with_reducible assumption | (with_reducible apply Bk.Blk.newAt; focus (first | (simp [Bk.size_set]; done) | (simp [Bk.size_set]; omega))) | with_reducible apply Bk.Blk.drewN | with_reducible apply Bk.Blk.drew | with_reducible apply Bk.Blk.set_ | (with_reducible apply Bk.Blk.far; focus (dsimp only; first | omega | (simp; omega) | (simp; done))) | with_reducible apply Bk.Blk.alloc)))); rfl)
    replace B : Below w.heap.size w w1 := (by rw [← hW]; go_grown)
    have z1 : w1.heap.size = _ := congrArg (fun W : World => W.heap.size) hW.symm
    (try simp only [World.size_alloc, Bk.size_set, World.size_drew, World.drewN] at z1)
    clear hW
    refine (valid_yes L bc 0 false false _ h1 h8 b0 b1 (by omega) (by omega) (.inr ⟨rfl, rfl⟩)).mono ?_
    rintro x w2 ⟨rfl, hb0⟩
    replace bs : Bk.Blk w2 (w.heap.size) 76 #[.int .i64 L, .bool false, .int .i64 bc, .int .i64 0, .bool false] := Bk.Blk.under hb0 (by (repeat (first | with_reducible assumption | (with_reducible apply Bk.Blk.newAt; focus (first | (simp [Bk.size_set]; done) | (simp [Bk.size_set]; omega))) | with_reducible apply Bk.Blk.drewN | with_reducible apply Bk.Blk.drew | with_reducible apply Bk.Blk.set_ | (with_reducible apply Bk.Blk.far; focus (dsimp only; first | omega | (simp; omega) | (simp; done))) | with_reducible apply Bk.Blk.alloc)))
    replace br : Bk.Blk w2 (w.heap.size + 1) 76 #[.int .i64 0, .bool false, .int .i64 0, .int .i64 0, .bool false] := Bk.Blk.under hb0 (by (repeat (first | with_reducible assumption | (with_reducible apply Bk.Blk.newAt; focus (first | (simp [Bk.size_set]; done) | (simp [Bk.size_set]; omega))) | with_reducible apply Bk.Blk.drewN | with_reducible apply Bk.Blk.drew | with_reducible apply Bk.Blk.set_ | (with_reducible apply Bk.Blk.far; focus (dsimp only; first | omega | (simp; omega) | (simp; done))) | with_reducible apply Bk.Blk.alloc)))
    replace B : Below w.heap.size w w2 := Below.trans (by go_grown) (hb0.mono (by first | omega | (simp [Bk.size_set]; done) | (simp [Bk.size_set]; omega)))
    have z2 := hb0.size
    (try simp only [World.size_alloc, Bk.size_set, World.size_drew, World.drewN] at z2)
    clear hb0
    have l_bs : w.heap.size < w2.heap.size := Bk.Blk.lt bs
    have c_bs0 : w2.cell? ⟨w.heap.size, 0, none⟩ = some (.int .i64 L) := Bk.Blk.cell bs 0
    have f_bs0 : w2.frozen? ⟨w.heap.size, 0, none⟩ = false := Bk.Blk.fro bs 0
    have c_bs1 : w2.cell? ⟨w.heap.size, 1, none⟩ = some (.bool false) := Bk.Blk.cell bs 1
    have f_bs1 : w2.frozen? ⟨w.heap.size, 1, none⟩ = false := Bk.Blk.fro bs 1
    have c_bs2 : w2.cell? ⟨w.heap.size, 2, none⟩ = some (.int .i64 bc) := Bk.Blk.cell bs 2
    have f_bs2 : w2.frozen? ⟨w.heap.size, 2, none⟩ = false := Bk.Blk.fro bs 2
    have c_bs3 : w2.cell? ⟨w.heap.size, 3, none⟩ = some (.int .i64 0) := Bk.Blk.cell bs 3
    have f_bs3 : w2.frozen? ⟨w.heap.size, 3, none⟩ = false := Bk.Blk.fro bs 3
    have c_bs4 : w2.cell? ⟨w.heap.size, 4, none⟩ = some (.bool false) := Bk.Blk.cell bs 4
    have f_bs4 : w2.frozen? ⟨w.heap.size, 4, none⟩ = false := Bk.Blk.fro bs 4
    have l_br : w.heap.size + 1 < w2.heap.size := Bk.Blk.lt br
    have c_br0 : w2.cell? ⟨w.heap.size + 1, 0, none⟩ = some (.int .i64 0) := Bk.Blk.cell br 0
    have f_br0 : w2.frozen? ⟨w.heap.size + 1, 0, none⟩ = false := Bk.Blk.fro br 0
    have c_br1 : w2.cell? ⟨w.heap.size + 1, 1, none⟩ = some (.bool false) := Bk.Blk.cell br 1
    have f_br1 : w2.frozen? ⟨w.heap.size + 1, 1, none⟩ = false := Bk.Blk.fro br 1
    have c_br2 : w2.cell? ⟨w.heap.size + 1, 2, none⟩ = some (.int .i64 0) := Bk.Blk.cell br 2
    have f_br2 : w2.frozen? ⟨w.heap.size + 1, 2, none⟩ = false := Bk.Blk.fro br 2
    have c_br3 : w2.cell? ⟨w.heap.size + 1, 3, none⟩ = some (.int .i64 0) := Bk.Blk.cell br 3
    have f_br3 : w2.frozen? ⟨w.heap.size + 1, 3, none⟩ = false := Bk.Blk.fro br 3
    have c_br4 : w2.cell? ⟨w.heap.size + 1, 4, none⟩ = some (.bool false) := Bk.Blk.cell br 4
    have f_br4 : w2.frozen? ⟨w.heap.size + 1, 4, none⟩ = false := Bk.Blk.fro br 4
    go_wp2_with fail
    clear l_bs c_bs0 f_bs0 c_bs1 f_bs1 c_bs2 f_bs2 c_bs3 f_bs3 c_bs4 f_bs4 l_br c_br0 f_br0 c_br1 f_br1 c_br2 f_br2 c_br3 f_br3 c_br4 f_br4
    generalize hW : World.setCell _ _ _ = w3
    replace br : Bk.Blk w3 (w.heap.size + 1) 76 #[.int .i64 L, .bool true, .int .i64 0, .int .i64 0, .bool false] := (by rw [← hW]; apply Bk.Blk.to; (focus ((repeat (first | with_reducible assumption | (with_reducible apply Bk.Blk.newAt; focus (first | (simp [Bk.size_set]; done) | (simp [Bk.size_set]; omega))) | with_reducible apply Bk.Blk.drewN | with_reducible apply Bk.Blk.drew | with_reducible apply Bk.Blk.set_ | (with_reducible apply Bk.Blk.far; focus (dsimp only; first | omega | (simp; omega) | (simp; done))) | with_reducible apply Bk.Blk.alloc)))); rfl)
    replace B : Below w.heap.size w w3 := (by rw [← hW]; go_grown)
    have z3 : w3.heap.size = _ := congrArg (fun W : World => W.heap.size) hW.symm
    (try simp only [World.size_alloc, Bk.size_set, World.size_drew, World.drewN] at z3)
    clear hW
    have l_br : w.heap.size + 1 < w3.heap.size := Bk.Blk.lt br
    have c_br0 : w3.cell? ⟨w.heap.size + 1, 0, none⟩ = some (.int .i64 L) := Bk.Blk.cell br 0
    have f_br0 : w3.frozen? ⟨w.heap.size + 1, 0, none⟩ = false := Bk.Blk.fro br 0
    have c_br1 : w3.cell? ⟨w.heap.size + 1, 1, none⟩ = some (.bool true) := Bk.Blk.cell br 1
    have f_br1 : w3.frozen? ⟨w.heap.size + 1, 1, none⟩ = false := Bk.Blk.fro br 1
    have c_br2 : w3.cell? ⟨w.heap.size + 1, 2, none⟩ = some (.int .i64 0) := Bk.Blk.cell br 2
    have f_br2 : w3.frozen? ⟨w.heap.size + 1, 2, none⟩ = false := Bk.Blk.fro br 2
    have c_br3 : w3.cell? ⟨w.heap.size + 1, 3, none⟩ = some (.int .i64 0) := Bk.Blk.cell br 3
    have f_br3 : w3.frozen? ⟨w.heap.size + 1, 3, none⟩ = false := Bk.Blk.fro br 3
    have c_br4 : w3.cell? ⟨w.heap.size + 1, 4, none⟩ = some (.bool false) := Bk.Blk.cell br 4
    have f_br4 : w3.frozen? ⟨w.heap.size + 1, 4, none⟩ = false := Bk.Blk.fro br 4
    go_wp2
    refine bodyPost_ret (v := sv L true (0) 0 false) (by simp [results, Try.results53, go_sem, c_br0, c_br1, c_br2, c_br3, c_br4]) rfl (⟨rfl, B⟩)
  · have e0 : ((bc + 1 : Int) == L) = false := by simpa using h
    go_enter Try.func53, Try.ntmps53
    go_wp2_with fail
    generalize hW : World.alloc _ _ = w1
    have bs : Bk.Blk w1 (w.heap.size) 76 #[.int .i64 L, .bool false, .int .i64 bc, .int .i64 0, .bool false] := (by rw [← hW]; apply Bk.Blk.to; (focus ((repeat (first | with_reducible assumption | (with_reducible apply Bk.Blk.newAt; focus (first | (simp [Bk.size_set]; done) | (simp [Bk.size_set]; omega))) | with_reducible apply Bk.Blk.drewN | with_reducible apply Bk.Blk.drew | with_reducible apply Bk.Blk.set_ | (with_reducible apply Bk.Blk.far; focus (dsimp only; first | omega | (simp; omega) | (simp; done))) | with_reducible apply Bk.Blk.alloc)))); rfl)
    have br : Bk.Blk w1 (w.heap.size + 1) 76 #[.int .i64 0, .bool false, .int .i64 0, .int .i64 0, .bool false] := (by rw [← hW]; apply Bk.Blk.to; (focus ((repeat (first | with_reducible assumption | (with_reducible apply Bk.Blk.newAt; focus (first | (simp [Bk.size_set]; done) | (simp [Bk.size_set]; omega))) | with_reducible apply Bk.Blk.drewN | with_reducible apply Bk.Blk.drew | with_reducible apply Bk.Blk.set_ | (with_reducible apply Bk.Blk.far; focus (dsimp only; first | omega | (simp; omega) | (simp; done))) | with_reducible apply Bk.Blk.alloc)))); rfl)
    replace B : Below w.heap.size w w1 := (by rw [← hW]; go_grown)
    have z1 : w1.heap.size = _ := congrArg (fun W : World => W.heap.size) hW.symm
    (try simp only [World.size_alloc, Bk.size_set, World.size_drew, World.drewN] at z1)
    clear hW
    refine (valid_yes L bc 0 false false _ h1 h8 b0 b1 (by omega) (by omega) (.inr ⟨rfl, rfl⟩)).mono ?_
    rintro x w2 ⟨rfl, hb0⟩
    replace bs : Bk.Blk w2 (w.heap.size) 76 #[.int .i64 L, .bool false, .int .i64 bc, .int .i64 0, .bool false] := Bk.Blk.under hb0 (by (repeat (first | with_reducible assumption | (with_reducible apply Bk.Blk.newAt; focus (first | (simp [Bk.size_set]; done) | (simp [Bk.size_set]; omega))) | with_reducible apply Bk.Blk.drewN | with_reducible apply Bk.Blk.drew | with_reducible apply Bk.Blk.set_ | (with_reducible apply Bk.Blk.far; focus (dsimp only; first | omega | (simp; omega) | (simp; done))) | with_reducible apply Bk.Blk.alloc)))
    replace br : Bk.Blk w2 (w.heap.size + 1) 76 #[.int .i64 0, .bool false, .int .i64 0, .int .i64 0, .bool false] := Bk.Blk.under hb0 (by (repeat (first | with_reducible assumption | (with_reducible apply Bk.Blk.newAt; focus (first | (simp [Bk.size_set]; done) | (simp [Bk.size_set]; omega))) | with_reducible apply Bk.Blk.drewN | with_reducible apply Bk.Blk.drew | with_reducible apply Bk.Blk.set_ | (with_reducible apply Bk.Blk.far; focus (dsimp only; first | omega | (simp; omega) | (simp; done))) | with_reducible apply Bk.Blk.alloc)))
    replace B : Below w.heap.size w w2 := Below.trans (by go_grown) (hb0.mono (by first | omega | (simp [Bk.size_set]; done) | (simp [Bk.size_set]; omega)))
    have z2 := hb0.size
    (try simp only [World.size_alloc, Bk.size_set, World.size_drew, World.drewN] at z2)
    clear hb0
    have l_bs : w.heap.size < w2.heap.size := Bk.Blk.lt bs
    have c_bs0 : w2.cell? ⟨w.heap.size, 0, none⟩ = some (.int .i64 L) := Bk.Blk.cell bs 0
    have f_bs0 : w2.frozen? ⟨w.heap.size, 0, none⟩ = false := Bk.Blk.fro bs 0
    have c_bs1 : w2.cell? ⟨w.heap.size, 1, none⟩ = some (.bool false) := Bk.Blk.cell bs 1
    have f_bs1 : w2.frozen? ⟨w.heap.size, 1, none⟩ = false := Bk.Blk.fro bs 1
    have c_bs2 : w2.cell? ⟨w.heap.size, 2, none⟩ = some (.int .i64 bc) := Bk.Blk.cell bs 2
    have f_bs2 : w2.frozen? ⟨w.heap.size, 2, none⟩ = false := Bk.Blk.fro bs 2
    have c_bs3 : w2.cell? ⟨w.heap.size, 3, none⟩ = some (.int .i64 0) := Bk.Blk.cell bs 3
    have f_bs3 : w2.frozen? ⟨w.heap.size, 3, none⟩ = false := Bk.Blk.fro bs 3
    have c_bs4 : w2.cell? ⟨w.heap.size, 4, none⟩ = some (.bool false) := Bk.Blk.cell bs 4
    have f_bs4 : w2.frozen? ⟨w.heap.size, 4, none⟩ = false := Bk.Blk.fro bs 4
    have l_br : w.heap.size + 1 < w2.heap.size := Bk.Blk.lt br
    have c_br0 : w2.cell? ⟨w.heap.size + 1, 0, none⟩ = some (.int .i64 0) := Bk.Blk.cell br 0
    have f_br0 : w2.frozen? ⟨w.heap.size + 1, 0, none⟩ = false := Bk.Blk.fro br 0
    have c_br1 : w2.cell? ⟨w.heap.size + 1, 1, none⟩ = some (.bool false) := Bk.Blk.cell br 1
    have f_br1 : w2.frozen? ⟨w.heap.size + 1, 1, none⟩ = false := Bk.Blk.fro br 1
    have c_br2 : w2.cell? ⟨w.heap.size + 1, 2, none⟩ = some (.int .i64 0) := Bk.Blk.cell br 2
    have f_br2 : w2.frozen? ⟨w.heap.size + 1, 2, none⟩ = false := Bk.Blk.fro br 2
    have c_br3 : w2.cell? ⟨w.heap.size + 1, 3, none⟩ = some (.int .i64 0) := Bk.Blk.cell br 3
    have f_br3 : w2.frozen? ⟨w.heap.size + 1, 3, none⟩ = false := Bk.Blk.fro br 3
    have c_br4 : w2.cell? ⟨w.heap.size + 1, 4, none⟩ = some (.bool false) := Bk.Blk.cell br 4
    have f_br4 : w2.frozen? ⟨w.heap.size + 1, 4, none⟩ = false := Bk.Blk.fro br 4
    go_wp2_with fail
    clear l_bs c_bs0 f_bs0 c_bs1 f_bs1 c_bs2 f_bs2 c_bs3 f_bs3 c_bs4 f_bs4 l_br c_br0 f_br0 c_br1 f_br1 c_br2 f_br2 c_br3 f_br3 c_br4 f_br4
    generalize hW : World.setCell _ _ _ = w3
    replace br : Bk.Blk w3 (w.heap.size + 1) 76 #[.int .i64 L, .bool false, .int .i64 (bc + 1), .int .i64 0, .bool false] := (by rw [← hW]; apply Bk.Blk.to; (focus ((repeat (first | with_reducible assumption | (with_reducible apply Bk.Blk.newAt; focus (first | (simp [Bk.size_set]; done) | (simp [Bk.size_set]; omega))) | with_reducible apply Bk.Blk.drewN | with_reducible apply Bk.Blk.drew | with_reducible apply Bk.Blk.set_ | (with_reducible apply Bk.Blk.far; focus (dsimp only; first | omega | (simp; omega) | (simp; done))) | with_reducible apply Bk.Blk.alloc)))); rfl)
    replace B : Below w.heap.size w w3 := (by rw [← hW]; go_grown)
    have z3 : w3.heap.size = _ := congrArg (fun W : World => W.heap.size) hW.symm
    (try simp only [World.size_alloc, Bk.size_set, World.size_drew, World.drewN] at z3)
    clear hW
    have l_br : w.heap.size + 1 < w3.heap.size := Bk.Blk.lt br
    have c_br0 : w3.cell? ⟨w.heap.size + 1, 0, none⟩ = some (.int .i64 L) := Bk.Blk.cell br 0
    have f_br0 : w3.frozen? ⟨w.heap.size + 1, 0, none⟩ = false := Bk.Blk.fro br 0
    have c_br1 : w3.cell? ⟨w.heap.size + 1, 1, none⟩ = some (.bool false) := Bk.Blk.cell br 1
    have f_br1 : w3.frozen? ⟨w.heap.size + 1, 1, none⟩ = false := Bk.Blk.fro br 1
    have c_br2 : w3.cell? ⟨w.heap.size + 1, 2, none⟩ = some (.int .i64 (bc + 1)) := Bk.Blk.cell br 2
    have f_br2 : w3.frozen? ⟨w.heap.size + 1, 2, none⟩ = false := Bk.Blk.fro br 2
    have c_br3 : w3.cell? ⟨w.heap.size + 1, 3, none⟩ = some (.int .i64 0) := Bk.Blk.cell br 3
    have f_br3 : w3.frozen? ⟨w.heap.size + 1, 3, none⟩ = false := Bk.Blk.fro br 3
    have c_br4 : w3.cell? ⟨w.heap.size + 1, 4, none⟩ = some (.bool false) := Bk.Blk.cell br 4
    have f_br4 : w3.frozen? ⟨w.heap.size + 1, 4, none⟩ = false := Bk.Blk.fro br 4
    go_wp2
    refine bodyPost_ret (v := sv L false ((bc + 1)) 0 false) (by simp [results, Try.results53, go_sem, c_br0, c_br1, c_br2, c_br3, c_br4]) rfl (⟨rfl, B⟩)
set_option maxHeartbeats 4000000 in
theorem hear_any (L bc : Int) (mo : Bool) (w : World) (h1 : 1 ≤ L) (h8 : L ≤ 8) (b0 : 0 ≤ bc) (b1 : bc ≤ L - 1) :
    Calls Try.prog 56 #[sv L true bc 1 false, .bool mo] w fun x w' => x = .returned (.tuple #[if mo then sv L true bc 1 false else sv L false bc 0 false, .bool mo]) ∧ Below w.heap.size w w' := by
  have B : Below w.heap.size w w := Below.refl _ _
  cases mo
  · go_enter Try.func56, Try.ntmps56
    go_wp2_with fail
    generalize hW : World.alloc _ _ = w1
    have bs : Bk.Blk w1 (w.heap.size) 76 #[.int .i64 L, .bool true, .int .i64 bc, .int .i64 1, .bool false] := (by rw [← hW]; apply Bk.Blk.to; (focus ((repeat (first | with_reducible assumption | (with_reducible apply Bk.Blk.newAt; focus (first | (simp [Bk.size_set]; done) | (simp [Bk.size_set]; omega))) | with_reducible apply Bk.Blk.drewN | with_reducible apply Bk.Blk.drew | with_reducible apply Bk.Blk.set_ | (with_reducible apply Bk.Blk.far; focus (dsimp only; first | omega | (simp; omega) | (simp; done))) | with_reducible apply Bk.Blk.alloc)))); rfl)
    have br : Bk.Blk w1 (w.heap.size + 1) 76 #[.int .i64 0, .bool false, .int .i64 0, .int .i64 0, .bool false] := (by rw [← hW]; apply Bk.Blk.to; (focus ((repeat (first | with_reducible assumption | (with_reducible apply Bk.Blk.newAt; focus (first | (simp [Bk.size_set]; done) | (simp [Bk.size_set]; omega))) | with_reducible apply Bk.Blk.drewN | with_reducible apply Bk.Blk.drew | with_reducible apply Bk.Blk.set_ | (with_reducible apply Bk.Blk.far; focus (dsimp only; first | omega | (simp; omega) | (simp; done))) | with_reducible apply Bk.Blk.alloc)))); rfl)
    replace B : Below w.heap.size w w1 := (by rw [← hW]; go_grown)
    have z1 : w1.heap.size = _ := congrArg (fun W : World => W.heap.size) hW.symm
    (try simp only [World.size_alloc, Bk.size_set, World.size_drew, World.drewN] at z1)
    clear hW
    refine (valid_yes L bc 1 true false _ h1 h8 b0 b1 (by omega) (by omega) (.inl rfl)).mono ?_
    rintro x w2 ⟨rfl, hb0⟩
    replace bs : Bk.Blk w2 (w.heap.size) 76 #[.int .i64 L, .bool true, .int .i64 bc, .int .i64 1, .bool false] := Bk.Blk.under hb0 (by (repeat (first | with_reducible assumption | (with_reducible apply Bk.Blk.newAt; focus (first | (simp [Bk.size_set]; done) | (simp [Bk.size_set]; omega))) | with_reducible apply Bk.Blk.drewN | with_reducible apply Bk.Blk.drew | with_reducible apply Bk.Blk.set_ | (with_reducible apply Bk.Blk.far; focus (dsimp only; first | omega | (simp; omega) | (simp; done))) | with_reducible apply Bk.Blk.alloc)))
    replace br : Bk.Blk w2 (w.heap.size + 1) 76 #[.int .i64 0, .bool false, .int .i64 0, .int .i64 0, .bool false] := Bk.Blk.under hb0 (by (repeat (first | with_reducible assumption | (with_reducible apply Bk.Blk.newAt; focus (first | (simp [Bk.size_set]; done) | (simp [Bk.size_set]; omega))) | with_reducible apply Bk.Blk.drewN | with_reducible apply Bk.Blk.drew | with_reducible apply Bk.Blk.set_ | (with_reducible apply Bk.Blk.far; focus (dsimp only; first | omega | (simp; omega) | (simp; done))) | with_reducible apply Bk.Blk.alloc)))
    replace B : Below w.heap.size w w2 := Below.trans (by go_grown) (hb0.mono (by first | omega | (simp [Bk.size_set]; done) | (simp [Bk.size_set]; omega)))
    have z2 := hb0.size
    (try simp only [World.size_alloc, Bk.size_set, World.size_drew, World.drewN] at z2)
    clear hb0
    have l_bs : w.heap.size < w2.heap.size := Bk.Blk.lt bs
    have c_bs0 : w2.cell? ⟨w.heap.size, 0, none⟩ = some (.int .i64 L) := Bk.Blk.cell bs 0
    have f_bs0 : w2.frozen? ⟨w.heap.size, 0, none⟩ = false := Bk.Blk.fro bs 0
    have c_bs1 : w2.cell? ⟨w.heap.size, 1, none⟩ = some (.bool true) := Bk.Blk.cell bs 1
    have f_bs1 : w2.frozen? ⟨w.heap.size, 1, none⟩ = false := Bk.Blk.fro bs 1
    have c_bs2 : w2.cell? ⟨w.heap.size, 2, none⟩ = some (.int .i64 bc) := Bk.Blk.cell bs 2
    have f_bs2 : w2.frozen? ⟨w.heap.size, 2, none⟩ = false := Bk.Blk.fro bs 2
    have c_bs3 : w2.cell? ⟨w.heap.size, 3, none⟩ = some (.int .i64 1) := Bk.Blk.cell bs 3
    have f_bs3 : w2.frozen? ⟨w.heap.size, 3, none⟩ = false := Bk.Blk.fro bs 3
    have c_bs4 : w2.cell? ⟨w.heap.size, 4, none⟩ = some (.bool false) := Bk.Blk.cell bs 4
    have f_bs4 : w2.frozen? ⟨w.heap.size, 4, none⟩ = false := Bk.Blk.fro bs 4
    have l_br : w.heap.size + 1 < w2.heap.size := Bk.Blk.lt br
    have c_br0 : w2.cell? ⟨w.heap.size + 1, 0, none⟩ = some (.int .i64 0) := Bk.Blk.cell br 0
    have f_br0 : w2.frozen? ⟨w.heap.size + 1, 0, none⟩ = false := Bk.Blk.fro br 0
    have c_br1 : w2.cell? ⟨w.heap.size + 1, 1, none⟩ = some (.bool false) := Bk.Blk.cell br 1
    have f_br1 : w2.frozen? ⟨w.heap.size + 1, 1, none⟩ = false := Bk.Blk.fro br 1
    have c_br2 : w2.cell? ⟨w.heap.size + 1, 2, none⟩ = some (.int .i64 0) := Bk.Blk.cell br 2
    have f_br2 : w2.frozen? ⟨w.heap.size + 1, 2, none⟩ = false := Bk.Blk.fro br 2
    have c_br3 : w2.cell? ⟨w.heap.size + 1, 3, none⟩ = some (.int .i64 0) := Bk.Blk.cell br 3
    have f_br3 : w2.frozen? ⟨w.heap.size + 1, 3, none⟩ = false := Bk.Blk.fro br 3
    have c_br4 : w2.cell? ⟨w.heap.size + 1, 4, none⟩ = some (.bool false) := Bk.Blk.cell br 4
    have f_br4 : w2.frozen? ⟨w.heap.size + 1, 4, none⟩ = false := Bk.Blk.fro br 4
    go_wp2_with fail
    clear l_bs c_bs0 f_bs0 c_bs1 f_bs1 c_bs2 f_bs2 c_bs3 f_bs3 c_bs4 f_bs4 l_br c_br0 f_br0 c_br1 f_br1 c_br2 f_br2 c_br3 f_br3 c_br4 f_br4
    generalize hW : World.setCell _ _ _ = w3
    replace br : Bk.Blk w3 (w.heap.size + 1) 76 #[.int .i64 L, .bool false, .int .i64 bc, .int .i64 0, .bool false] := (by rw [← hW]; apply Bk.Blk.to; (focus ((repeat (first | with_reducible assumption | (with_reducible apply Bk.Blk.newAt; focus (first | (simp [Bk.size_set]; done) | (simp [Bk.size_set]; omega))) | with_reducible apply Bk.Blk.drewN | with_reducible apply Bk.Blk.drew | with_reducible apply Bk.Blk.set_ | (with_reducible apply Bk.Blk.far; focus (dsimp only; first | omega | (simp; omega) | (simp; done))) | with_reducible apply Bk.Blk.alloc)))); rfl)
    replace B : Below w.heap.size w w3 := (by rw [← hW]; go_grown)
    have z3 : w3.heap.size = _ := congrArg (fun W : World => W.heap.size) hW.symm
    (try simp only [World.size_alloc, Bk.size_set, World.size_drew, World.drewN] at z3)
    clear hW
    have l_br : w.heap.size + 1 < w3.heap.size := Bk.Blk.lt br
    have c_br0 : w3.cell? ⟨w.heap.size + 1, 0, none⟩ = some (.int .i64 L) := Bk.Blk.cell br 0
    have f_br0 : w3.frozen? ⟨w.heap.size + 1, 0, none⟩ = false := Bk.Blk.fro br 0
    have c_br1 : w3.cell? ⟨w.heap.size + 1, 1, none⟩ = some (.bool false) := Bk.Blk.cell br 1
    have f_br1 : w3.frozen? ⟨w.heap.size + 1, 1, none⟩ = false := Bk.Blk.fro br 1
    have c_br2 : w3.cell? ⟨w.heap.size + 1, 2, none⟩ = some (.int .i64 bc) := Bk.Blk.cell br 2
    have f_br2 : w3.frozen? ⟨w.heap.size + 1, 2, none⟩ = false := Bk.Blk.fro br 2
    have c_br3 : w3.cell? ⟨w.heap.size + 1, 3, none⟩ = some (.int .i64 0) := Bk.Blk.cell br 3
    have f_br3 : w3.frozen? ⟨w.heap.size + 1, 3, none⟩ = false := Bk.Blk.fro br 3
    have c_br4 : w3.cell? ⟨w.heap.size + 1, 4, none⟩ = some (.bool false) := Bk.Blk.cell br 4
    have f_br4 : w3.frozen? ⟨w.heap.size + 1, 4, none⟩ = false := Bk.Blk.fro br 4
    go_wp2
    refine bodyPost_ret (v := .tuple #[sv L false bc 0 false, .bool false]) (by simp [results, Try.results56, go_sem, c_br0, c_br1, c_br2, c_br3, c_br4]) rfl (⟨rfl, B⟩)
  · go_enter Try.func56, Try.ntmps56
    go_wp2_with fail
    generalize hW : World.alloc _ _ = w1
    have bs : Bk.Blk w1 (w.heap.size) 76 #[.int .i64 L, .bool true, .int .i64 bc, .int .i64 1, .bool false] := (by rw [← hW]; apply Bk.Blk.to; (focus ((repeat (first | with_reducible assumption | (with_reducible apply Bk.Blk.newAt; focus (first | (simp [Bk.size_set]; done) | (simp [Bk.size_set]; omega))) | with_reducible apply Bk.Blk.drewN | with_reducible apply Bk.Blk.drew | with_reducible apply Bk.Blk.set_ | (with_reducible apply Bk.Blk.far; focus (dsimp only; first | omega | (simp; omega) | (simp; done))) | with_reducible apply Bk.Blk.alloc)))); rfl)
    have br : Bk.Blk w1 (w.heap.size + 1) 76 #[.int .i64 0, .bool false, .int .i64 0, .int .i64 0, .bool false] := (by rw [← hW]; apply Bk.Blk.to; (focus ((repeat (first | with_reducible assumption | (with_reducible apply Bk.Blk.newAt; focus (first | (simp [Bk.size_set]; done) | (simp [Bk.size_set]; omega))) | with_reducible apply Bk.Blk.drewN | with_reducible apply Bk.Blk.drew | with_reducible apply Bk.Blk.set_ | (with_reducible apply Bk.Blk.far; focus (dsimp only; first | omega | (simp; omega) | (simp; done))) | with_reducible apply Bk.Blk.alloc)))); rfl)
    replace B : Below w.heap.size w w1 := (by rw [← hW]; go_grown)
    have z1 : w1.heap.size = _ := congrArg (fun W : World => W.heap.size) hW.symm
    (try simp only [World.size_alloc, Bk.size_set, World.size_drew, World.drewN] at z1)
    clear hW
    refine (valid_yes L bc 1 true false _ h1 h8 b0 b1 (by omega) (by omega) (.inl rfl)).mono ?_
    rintro x w2 ⟨rfl, hb0⟩
    replace bs : Bk.Blk w2 (w.heap.size) 76 #[.int .i64 L, .bool true, .int .i64 bc, .int .i64 1, .bool false] := Bk.Blk.under hb0 (by (repeat (first | with_reducible assumption | (with_reducible apply Bk.Blk.newAt; focus (first | (simp [Bk.size_set]; done) | (simp [Bk.size_set]; omega))) | with_reducible apply Bk.Blk.drewN | with_reducible apply Bk.Blk.drew | with_reducible apply Bk.Blk.set_ | (with_reducible apply Bk.Blk.far; focus (dsimp only; first | omega | (simp; omega) | (simp; done))) | with_reducible apply Bk.Blk.alloc)))
    replace br : Bk.Blk w2 (w.heap.size + 1) 76 #[.int .i64 0, .bool false, .int .i64 0, .int .i64 0, .bool false] := Bk.Blk.under hb0 (by (repeat (first | with_reducible assumption | (with_reducible apply Bk.Blk.newAt; focus (first | (simp [Bk.size_set]; done) | (simp [Bk.size_set]; omega))) | with_reducible apply Bk.Blk.drewN | with_reducible apply Bk.Blk.drew | with_reducible apply Bk.Blk.set_ | (with_reducible apply Bk.Blk.far; focus (dsimp only; first | omega | (simp; omega) | (simp; done))) | with_reducible apply Bk.Blk.alloc)))
    replace B : Below w.heap.size w w2 := Below.trans (by go_grown) (hb0.mono (by first | omega | (simp [Bk.size_set]; done) | (simp [Bk.size_set]; omega)))
    have z2 := hb0.size
    (try simp only [World.size_alloc, Bk.size_set, World.size_drew, World.drewN] at z2)
    clear hb0
    have l_bs : w.heap.size < w2.heap.size := Bk.Blk.lt bs
    have c_bs0 : w2.cell? ⟨w.heap.size, 0, none⟩ = some (.int .i64 L) := Bk.Blk.cell bs 0
    have f_bs0 : w2.frozen? ⟨w.heap.size, 0, none⟩ = false := Bk.Blk.fro bs 0
    have c_bs1 : w2.cell? ⟨w.heap.size, 1, none⟩ = some (.bool true) := Bk.Blk.cell bs 1
    have f_bs1 : w2.frozen? ⟨w.heap.size, 1, none⟩ = false := Bk.Blk.fro bs 1
    have c_bs2 : w2.cell? ⟨w.heap.size, 2, none⟩ = some (.int .i64 bc) := Bk.Blk.cell bs 2
    have f_bs2 : w2.frozen? ⟨w.heap.size, 2, none⟩ = false := Bk.Blk.fro bs 2
    have c_bs3 : w2.cell? ⟨w.heap.size, 3, none⟩ = some (.int .i64 1) := Bk.Blk.cell bs 3
    have f_bs3 : w2.frozen? ⟨w.heap.size, 3, none⟩ = false := Bk.Blk.fro bs 3
    have c_bs4 : w2.cell? ⟨w.heap.size, 4, none⟩ = some (.bool false) := Bk.Blk.cell bs 4
    have f_bs4 : w2.frozen? ⟨w.heap.size, 4, none⟩ = false := Bk.Blk.fro bs 4
    have l_br : w.heap.size + 1 < w2.heap.size := Bk.Blk.lt br
    have c_br0 : w2.cell? ⟨w.heap.size + 1, 0, none⟩ = some (.int .i64 0) := Bk.Blk.cell br 0
    have f_br0 : w2.frozen? ⟨w.heap.size + 1, 0, none⟩ = false := Bk.Blk.fro br 0
    have c_br1 : w2.cell? ⟨w.heap.size + 1, 1, none⟩ = some (.bool false) := Bk.Blk.cell br 1
    have f_br1 : w2.frozen? ⟨w.heap.size + 1, 1, none⟩ = false := Bk.Blk.fro br 1
    have c_br2 : w2.cell? ⟨w.heap.size + 1, 2, none⟩ = some (.int .i64 0) := Bk.Blk.cell br 2
    have f_br2 : w2.frozen? ⟨w.heap.size + 1, 2, none⟩ = false := Bk.Blk.fro br 2
    have c_br3 : w2.cell? ⟨w.heap.size + 1, 3, none⟩ = some (.int .i64 0) := Bk.Blk.cell br 3
    have f_br3 : w2.frozen? ⟨w.heap.size + 1, 3, none⟩ = false := Bk.Blk.fro br 3
    have c_br4 : w2.cell? ⟨w.heap.size + 1, 4, none⟩ = some (.bool false) := Bk.Blk.cell br 4
    have f_br4 : w2.frozen? ⟨w.heap.size + 1, 4, none⟩ = false := Bk.Blk.fro br 4
    go_wp2_with fail
    clear l_bs c_bs0 f_bs0 c_bs1 f_bs1 c_bs2 f_bs2 c_bs3 f_bs3 c_bs4 f_bs4 l_br c_br0 f_br0 c_br1 f_br1 c_br2 f_br2 c_br3 f_br3 c_br4 f_br4
    generalize hW : World.setCell _ _ _ = w3
    replace br : Bk.Blk w3 (w.heap.size + 1) 76 #[.int .i64 L, .bool true, .int .i64 bc, .int .i64 1, .bool false] := (by rw [← hW]; apply Bk.Blk.to; (focus ((repeat (first | with_reducible assumption | (with_reducible apply Bk.Blk.newAt; focus (first | (simp [Bk.size_set]; done) | (simp [Bk.size_set]; omega))) | with_reducible apply Bk.Blk.drewN | with_reducible apply Bk.Blk.drew | with_reducible apply Bk.Blk.set_ | (with_reducible apply Bk.Blk.far; focus (dsimp only; first | omega | (simp; omega) | (simp; done))) | with_reducible apply Bk.Blk.alloc)))); rfl)
    replace B : Below w.heap.size w w3 := (by rw [← hW]; go_grown)
    have z3 : w3.heap.size = _ := congrArg (fun W : World => W.heap.size) hW.symm
    (try simp only [World.size_alloc, Bk.size_set, World.size_drew, World.drewN] at z3)
    clear hW
    have l_br : w.heap.size + 1 < w3.heap.size := Bk.Blk.lt br
    have c_br0 : w3.cell? ⟨w.heap.size + 1, 0, none⟩ = some (.int .i64 L) := Bk.Blk.cell br 0
    have f_br0 : w3.frozen? ⟨w.heap.size + 1, 0, none⟩ = false := Bk.Blk.fro br 0
    have c_br1 : w3.cell? ⟨w.heap.size + 1, 1, none⟩ = some (.bool true) := Bk.Blk.cell br 1
    have f_br1 : w3.frozen? ⟨w.heap.size + 1, 1, none⟩ = false := Bk.Blk.fro br 1
    have c_br2 : w3.cell? ⟨w.heap.size + 1, 2, none⟩ = some (.int .i64 bc) := Bk.Blk.cell br 2
    have f_br2 : w3.frozen? ⟨w.heap.size + 1, 2, none⟩ = false := Bk.Blk.fro br 2
    have c_br3 : w3.cell? ⟨w.heap.size + 1, 3, none⟩ = some (.int .i64 1) := Bk.Blk.cell br 3
    have f_br3 : w3.frozen? ⟨w.heap.size + 1, 3, none⟩ = false := Bk.Blk.fro br 3
    have c_br4 : w3.cell? ⟨w.heap.size + 1, 4, none⟩ = some (.bool false) := Bk.Blk.cell br 4
    have f_br4 : w3.frozen? ⟨w.heap.size + 1, 4, none⟩ = false := Bk.Blk.fro br 4
    go_wp2
    refine bodyPost_ret (v := .tuple #[sv L true bc 1 false, .bool true]) (by simp [results, Try.results56, go_sem, c_br0, c_br1, c_br2, c_br3, c_br4]) rfl (⟨rfl, B⟩)
/-- shifted to the right -/
def shf (ti st : Int) : Int := if st = 0 then ti else ti / 2 ^ st.toNat
theorem shf_one {st : Int} (h0 : 0 ≤ st) (h15 : st ≤ 15) : (bits .and .i64 (shf (orS 0 st) st) 1 == 1) = true := by
  have hst : st = 0 ∨ st = 1 ∨ st = 2 ∨ st = 3 ∨ st = 4 ∨ st = 5 ∨ st = 6 ∨ st = 7 ∨ st = 8 ∨ st = 9 ∨ st = 10 ∨ st = 11 ∨ st = 12 ∨ st = 13 ∨ st = 14 ∨ st = 15 := by omega
  rcases hst with rfl | rfl | rfl | rfl | rfl | rfl | rfl | rfl | rfl | rfl | rfl | rfl | rfl | rfl | rfl | rfl <;> decide +kernel
theorem shf_zero {st : Int} (h0 : 0 ≤ st) (h15 : st ≤ 15) : (bits .and .i64 (shf 0 st) 1 == 1) = false := by
  have hst : st = 0 ∨ st = 1 ∨ st = 2 ∨ st = 3 ∨ st = 4 ∨ st = 5 ∨ st = 6 ∨ st = 7 ∨ st = 8 ∨ st = 9 ∨ st = 10 ∨ st = 11 ∨ st = 12 ∨ st = 13 ∨ st = 14 ∨ st = 15 := by omega
  rcases hst with rfl | rfl | rfl | rfl | rfl | rfl | rfl | rfl | rfl | rfl | rfl | rfl | rfl | rfl | rfl | rfl <;> decide +kernel
theorem one_in {st : Int} (h0 : 0 ≤ st) (h15 : st ≤ 15) : 0 ≤ orS 0 st ∧ orS 0 st ≤ 65535 := by
  have hst : st = 0 ∨ st = 1 ∨ st = 2 ∨ st = 3 ∨ st = 4 ∨ st = 5 ∨ st = 6 ∨ st = 7 ∨ st = 8 ∨ st = 9 ∨ st = 10 ∨ st = 11 ∨ st = 12 ∨ st = 13 ∨ st = 14 ∨ st = 15 := by omega
  rcases hst with rfl | rfl | rfl | rfl | rfl | rfl | rfl | rfl | rfl | rfl | rfl | rfl | rfl | rfl | rfl | rfl <;> decide +kernel
set_option maxHeartbeats 4000000 in
theorem tim_any (st fr sl dc dp ti : Int) (gt b : Bool) (w : World) (h0 : 0 ≤ st) (h15 : st ≤ 15) (hb : (bits .and .i64 (shf ti st) 1 == 1) = b) :
    Calls Try.prog 91 #[.agg #[.int .i64 fr, .int .i64 sl, .int .i64 dc, .int .i64 dp, .bool gt, .int .i64 ti], .int .i64 st] w fun x w' => x = .returned (.bool b) ∧ Below w.heap.size w w' := by
  have hst : st = 0 ∨ st = 1 ∨ st = 2 ∨ st = 3 ∨ st = 4 ∨ st = 5 ∨ st = 6 ∨ st = 7 ∨ st = 8 ∨ st = 9 ∨ st = 10 ∨ st = 11 ∨ st = 12 ∨ st = 13 ∨ st = 14 ∨ st = 15 := by omega
  have HB := Lib.hid hb
  clear hb
  rcases hst with rfl | rfl | rfl | rfl | rfl | rfl | rfl | rfl | rfl | rfl | rfl | rfl | rfl | rfl | rfl | rfl
  all_goals
    go_enter Try.func91, Try.ntmps91
    go_wp2_with (first | (go_at_call 76; refine (Bcn.station_yes _ _ (by omega) (by omega)).mono ?_; rintro e w' ⟨rfl, rfl⟩))
    go_ret
    exact ⟨congrArg (fun b => Ending.returned (Value.bool b)) HB.out, by go_grown⟩
set_option maxHeartbeats 8000000 in
theorem hb_asleep (L bc st fr sl dc dp ti : Int) (w : World) (h1 : 1 ≤ L) (h8 : L ≤ 8) (b0 : 0 ≤ bc) (b1 : bc ≤ L - 1) (h0 : 0 ≤ st) (h15 : st ≤ 15) (hv : validB fr sl dc dp false ti) :
    Calls Try.prog 55 #[sv L false bc 0 false, .agg #[.int .i64 fr, .int .i64 sl, .int .i64 dc, .int .i64 dp, .bool false, .int .i64 ti], .int .i64 st] w fun x w' => x = .returned (.tuple #[sv L false bc 0 false, .bool false]) ∧ Below w.heap.size w w' := by
  have HV := Lib.hid hv
  have B : Below w.heap.size w w := Below.refl _ _
  clear hv
  go_enter Try.func55, Try.ntmps55
  go_wp2_with fail
  generalize hW : World.alloc _ _ = w1
  have bs : Bk.Blk w1 (w.heap.size) 76 #[.int .i64 L, .bool false, .int .i64 bc, .int .i64 0, .bool false] := (by rw [← hW]; apply Bk.Blk.to; (focus ((repeat (first | with_reducible assumption | (with_reducible apply Bk.Blk.newAt; focus (first | (simp [Bk.size_set]; done) | (simp [Bk.size_set]; omega))) | with_reducible apply Bk.Blk.drewN | with_reducible apply Bk.Blk.drew | with_reducible apply Bk.Blk.set_ | (with_reducible apply Bk.Blk.far; focus (dsimp only; first | omega | (simp; omega) | (simp; done))) | with_reducible apply Bk.Blk.alloc)))); rfl)
  have bb : Bk.Blk w1 (w.heap.size + 1) 43 #[.int .i64 fr, .int .i64 sl, .int .i64 dc, .int .i64 dp, .bool false, .int .i64 ti] := (by rw [← hW]; apply Bk.Blk.to; (focus ((repeat (first | with_reducible assumption | (with_reducible apply Bk.Blk.newAt; focus (first | (simp [Bk.size_set]; done) | (simp [Bk.size_set]; omega))) | with_reducible apply Bk.Blk.drewN | with_reducible apply Bk.Blk.drew | with_reducible apply Bk.Blk.set_ | (with_reducible apply Bk.Blk.far; focus (dsimp only; first | omega | (simp; omega) | (simp; done))) | with_reducible apply Bk.Blk.alloc)))); rfl)
  have br : Bk.Blk w1 (w.heap.size + 1 + 1) 76 #[.int .i64 0, .bool false, .int .i64 0, .int .i64 0, .bool false] := (by rw [← hW]; apply Bk.Blk.to; (focus ((repeat (first | with_reducible assumption | (with_reducible apply Bk.Blk.newAt; focus (first | (simp [Bk.size_set]; done) | (simp [Bk.size_set]; omega))) | with_reducible apply Bk.Blk.drewN | with_reducible apply Bk.Blk.drew | with_reducible apply Bk.Blk.set_ | (with_reducible apply Bk.Blk.far; focus (dsimp only; first | omega | (simp; omega) | (simp; done))) | with_reducible apply Bk.Blk.alloc)))); rfl)
  replace B : Below w.heap.size w w1 := (by rw [← hW]; go_grown)
  have z1 : w1.heap.size = _ := congrArg (fun W : World => W.heap.size) hW.symm
  (try simp only [World.size_alloc, Bk.size_set, World.size_drew, World.drewN] at z1)
  clear hW
  refine (valid_yes L bc 0 false false _ h1 h8 b0 b1 (by omega) (by omega) (.inr ⟨rfl, rfl⟩)).mono ?_
  rintro x w2 ⟨rfl, hb0⟩
  replace bs : Bk.Blk w2 (w.heap.size) 76 #[.int .i64 L, .bool false, .int .i64 bc, .int .i64 0, .bool false] := Bk.Blk.under hb0 (by (repeat (first | with_reducible assumption | (with_reducible apply Bk.Blk.newAt; focus (first | (simp [Bk.size_set]; done) | (simp [Bk.size_set]; omega))) | with_reducible apply Bk.Blk.drewN | with_reducible apply Bk.Blk.drew | with_reducible apply Bk.Blk.set_ | (with_reducible apply Bk.Blk.far; focus (dsimp only; first | omega | (simp; omega) | (simp; done))) | with_reducible apply Bk.Blk.alloc)))
  replace bb : Bk.Blk w2 (w.heap.size + 1) 43 #[.int .i64 fr, .int .i64 sl, .int .i64 dc, .int .i64 dp, .bool false, .int .i64 ti] := Bk.Blk.under hb0 (by (repeat (first | with_reducible assumption | (with_reducible apply Bk.Blk.newAt; focus (first | (simp [Bk.size_set]; done) | (simp [Bk.size_set]; omega))) | with_reducible apply Bk.Blk.drewN | with_reducible apply Bk.Blk.drew | with_reducible apply Bk.Blk.set_ | (with_reducible apply Bk.Blk.far; focus (dsimp only; first | omega | (simp; omega) | (simp; done))) | with_reducible apply Bk.Blk.alloc)))
  replace br : Bk.Blk w2 (w.heap.size + 1 + 1) 76 #[.int .i64 0, .bool false, .int .i64 0, .int .i64 0, .bool false] := Bk.Blk.under hb0 (by (repeat (first | with_reducible assumption | (with_reducible apply Bk.Blk.newAt; focus (first | (simp [Bk.size_set]; done) | (simp [Bk.size_set]; omega))) | with_reducible apply Bk.Blk.drewN | with_reducible apply Bk.Blk.drew | with_reducible apply Bk.Blk.set_ | (with_reducible apply Bk.Blk.far; focus (dsimp only; first | omega | (simp; omega) | (simp; done))) | with_reducible apply Bk.Blk.alloc)))
  replace B : Below w.heap.size w w2 := Below.trans (by go_grown) (hb0.mono (by first | omega | (simp [Bk.size_set]; done) | (simp [Bk.size_set]; omega)))
  have z2 := hb0.size
  (try simp only [World.size_alloc, Bk.size_set, World.size_drew, World.drewN] at z2)
  clear hb0
  have l_bs : w.heap.size < w2.heap.size := Bk.Blk.lt bs
  have c_bs0 : w2.cell? ⟨w.heap.size, 0, none⟩ = some (.int .i64 L) := Bk.Blk.cell bs 0
  have f_bs0 : w2.frozen? ⟨w.heap.size, 0, none⟩ = false := Bk.Blk.fro bs 0
  have c_bs1 : w2.cell? ⟨w.heap.size, 1, none⟩ = some (.bool false) := Bk.Blk.cell bs 1
  have f_bs1 : w2.frozen? ⟨w.heap.size, 1, none⟩ = false := Bk.Blk.fro bs 1
  have c_bs2 : w2.cell? ⟨w.heap.size, 2, none⟩ = some (.int .i64 bc) := Bk.Blk.cell bs 2
  have f_bs2 : w2.frozen? ⟨w.heap.size, 2, none⟩ = false := Bk.Blk.fro bs 2
  have c_bs3 : w2.cell? ⟨w.heap.size, 3, none⟩ = some (.int .i64 0) := Bk.Blk.cell bs 3
  have f_bs3 : w2.frozen? ⟨w.heap.size, 3, none⟩ = false := Bk.Blk.fro bs 3
  have c_bs4 : w2.cell? ⟨w.heap.size, 4, none⟩ = some (.bool false) := Bk.Blk.cell bs 4
  have f_bs4 : w2.frozen? ⟨w.heap.size, 4, none⟩ = false := Bk.Blk.fro bs 4
  have l_bb : w.heap.size + 1 < w2.heap.size := Bk.Blk.lt bb
  have c_bb0 : w2.cell? ⟨w.heap.size + 1, 0, none⟩ = some (.int .i64 fr) := Bk.Blk.cell bb 0
  have f_bb0 : w2.frozen? ⟨w.heap.size + 1, 0, none⟩ = false := Bk.Blk.fro bb 0
  have c_bb1 : w2.cell? ⟨w.heap.size + 1, 1, none⟩ = some (.int .i64 sl) := Bk.Blk.cell bb 1
  have f_bb1 : w2.frozen? ⟨w.heap.size + 1, 1, none⟩ = false := Bk.Blk.fro bb 1
  have c_bb2 : w2.cell? ⟨w.heap.size + 1, 2, none⟩ = some (.int .i64 dc) := Bk.Blk.cell bb 2
  have f_bb2 : w2.frozen? ⟨w.heap.size + 1, 2, none⟩ = false := Bk.Blk.fro bb 2
  have c_bb3 : w2.cell? ⟨w.heap.size + 1, 3, none⟩ = some (.int .i64 dp) := Bk.Blk.cell bb 3
  have f_bb3 : w2.frozen? ⟨w.heap.size + 1, 3, none⟩ = false := Bk.Blk.fro bb 3
  have c_bb4 : w2.cell? ⟨w.heap.size + 1, 4, none⟩ = some (.bool false) := Bk.Blk.cell bb 4
  have f_bb4 : w2.frozen? ⟨w.heap.size + 1, 4, none⟩ = false := Bk.Blk.fro bb 4
  have c_bb5 : w2.cell? ⟨w.heap.size + 1, 5, none⟩ = some (.int .i64 ti) := Bk.Blk.cell bb 5
  have f_bb5 : w2.frozen? ⟨w.heap.size + 1, 5, none⟩ = false := Bk.Blk.fro bb 5
  have l_br : w.heap.size + 1 + 1 < w2.heap.size := Bk.Blk.lt br
  have c_br0 : w2.cell? ⟨w.heap.size + 1 + 1, 0, none⟩ = some (.int .i64 0) := Bk.Blk.cell br 0
  have f_br0 : w2.frozen? ⟨w.heap.size + 1 + 1, 0, none⟩ = false := Bk.Blk.fro br 0
  have c_br1 : w2.cell? ⟨w.heap.size + 1 + 1, 1, none⟩ = some (.bool false) := Bk.Blk.cell br 1
  have f_br1 : w2.frozen? ⟨w.heap.size + 1 + 1, 1, none⟩ = false := Bk.Blk.fro br 1
  have c_br2 : w2.cell? ⟨w.heap.size + 1 + 1, 2, none⟩ = some (.int .i64 0) := Bk.Blk.cell br 2
  have f_br2 : w2.frozen? ⟨w.heap.size + 1 + 1, 2, none⟩ = false := Bk.Blk.fro br 2
  have c_br3 : w2.cell? ⟨w.heap.size + 1 + 1, 3, none⟩ = some (.int .i64 0) := Bk.Blk.cell br 3
  have f_br3 : w2.frozen? ⟨w.heap.size + 1 + 1, 3, none⟩ = false := Bk.Blk.fro br 3
  have c_br4 : w2.cell? ⟨w.heap.size + 1 + 1, 4, none⟩ = some (.bool false) := Bk.Blk.cell br 4
  have f_br4 : w2.frozen? ⟨w.heap.size + 1 + 1, 4, none⟩ = false := Bk.Blk.fro br 4
  go_wp2_with fail
  clear l_bs c_bs0 f_bs0 c_bs1 f_bs1 c_bs2 f_bs2 c_bs3 f_bs3 c_bs4 f_bs4 l_bb c_bb0 f_bb0 c_bb1 f_bb1 c_bb2 f_bb2 c_bb3 f_bb3 c_bb4 f_bb4 c_bb5 f_bb5 l_br c_br0 f_br0 c_br1 f_br1 c_br2 f_br2 c_br3 f_br3 c_br4 f_br4
  refine (validB_impl fr sl dc dp false ti _).mono ?_
  rintro x w3 hsay
  obtain ⟨rfl, hb0⟩ := says_true hsay HV.out
  clear hsay
  replace bs : Bk.Blk w3 (w.heap.size) 76 #[.int .i64 L, .bool false, .int .i64 bc, .int .i64 0, .bool false] := Bk.Blk.under hb0 (by (repeat (first | with_reducible assumption | (with_reducible apply Bk.Blk.newAt; focus (first | (simp [Bk.size_set]; done) | (simp [Bk.size_set]; omega))) | with_reducible apply Bk.Blk.drewN | with_reducible apply Bk.Blk.drew | with_reducible apply Bk.Blk.set_ | (with_reducible apply Bk.Blk.far; focus (dsimp only; first | omega | (simp; omega) | (simp; done))) | with_reducible apply Bk.Blk.alloc)))
  replace bb : Bk.Blk w3 (w.heap.size + 1) 43 #[.int .i64 fr, .int .i64 sl, .int .i64 dc, .int .i64 dp, .bool false, .int .i64 ti] := Bk.Blk.under hb0 (by (repeat (first | with_reducible assumption | (with_reducible apply Bk.Blk.newAt; focus (first | (simp [Bk.size_set]; done) | (simp [Bk.size_set]; omega))) | with_reducible apply Bk.Blk.drewN | with_reducible apply Bk.Blk.drew | with_reducible apply Bk.Blk.set_ | (with_reducible apply Bk.Blk.far; focus (dsimp only; first | omega | (simp; omega) | (simp; done))) | with_reducible apply Bk.Blk.alloc)))
  replace br : Bk.Blk w3 (w.heap.size + 1 + 1) 76 #[.int .i64 0, .bool false, .int .i64 0, .int .i64 0, .bool false] := Bk.Blk.under hb0 (by (repeat (first | with_reducible assumption | (with_reducible apply Bk.Blk.newAt; focus (first | (simp [Bk.size_set]; done) | (simp [Bk.size_set]; omega))) | with_reducible apply Bk.Blk.drewN | with_reducible apply Bk.Blk.drew | with_reducible apply Bk.Blk.set_ | (with_reducible apply Bk.Blk.far; focus (dsimp only; first | omega | (simp; omega) | (simp; done))) | with_reducible apply Bk.Blk.alloc)))
  replace B : Below w.heap.size w w3 := Below.trans (by go_grown) (hb0.mono (by first | omega | (simp [Bk.size_set]; done) | (simp [Bk.size_set]; omega)))
  have z3 := hb0.size
  (try simp only [World.size_alloc, Bk.size_set, World.size_drew, World.drewN] at z3)
  clear hb0
  have l_bs : w.heap.size < w3.heap.size := Bk.Blk.lt bs
  have c_bs0 : w3.cell? ⟨w.heap.size, 0, none⟩ = some (.int .i64 L) := Bk.Blk.cell bs 0
  have f_bs0 : w3.frozen? ⟨w.heap.size, 0, none⟩ = false := Bk.Blk.fro bs 0
  have c_bs1 : w3.cell? ⟨w.heap.size, 1, none⟩ = some (.bool false) := Bk.Blk.cell bs 1
  have f_bs1 : w3.frozen? ⟨w.heap.size, 1, none⟩ = false := Bk.Blk.fro bs 1
  have c_bs2 : w3.cell? ⟨w.heap.size, 2, none⟩ = some (.int .i64 bc) := Bk.Blk.cell bs 2
  have f_bs2 : w3.frozen? ⟨w.heap.size, 2, none⟩ = false := Bk.Blk.fro bs 2
  have c_bs3 : w3.cell? ⟨w.heap.size, 3, none⟩ = some (.int .i64 0) := Bk.Blk.cell bs 3
  have f_bs3 : w3.frozen? ⟨w.heap.size, 3, none⟩ = false := Bk.Blk.fro bs 3
  have c_bs4 : w3.cell? ⟨w.heap.size, 4, none⟩ = some (.bool false) := Bk.Blk.cell bs 4
  have f_bs4 : w3.frozen? ⟨w.heap.size, 4, none⟩ = false := Bk.Blk.fro bs 4
  have l_bb : w.heap.size + 1 < w3.heap.size := Bk.Blk.lt bb
  have c_bb0 : w3.cell? ⟨w.heap.size + 1, 0, none⟩ = some (.int .i64 fr) := Bk.Blk.cell bb 0
  have f_bb0 : w3.frozen? ⟨w.heap.size + 1, 0, none⟩ = false := Bk.Blk.fro bb 0
  have c_bb1 : w3.cell? ⟨w.heap.size + 1, 1, none⟩ = some (.int .i64 sl) := Bk.Blk.cell bb 1
  have f_bb1 : w3.frozen? ⟨w.heap.size + 1, 1, none⟩ = false := Bk.Blk.fro bb 1
  have c_bb2 : w3.cell? ⟨w.heap.size + 1, 2, none⟩ = some (.int .i64 dc) := Bk.Blk.cell bb 2
  have f_bb2 : w3.frozen? ⟨w.heap.size + 1, 2, none⟩ = false := Bk.Blk.fro bb 2
  have c_bb3 : w3.cell? ⟨w.heap.size + 1, 3, none⟩ = some (.int .i64 dp) := Bk.Blk.cell bb 3
  have f_bb3 : w3.frozen? ⟨w.heap.size + 1, 3, none⟩ = false := Bk.Blk.fro bb 3
  have c_bb4 : w3.cell? ⟨w.heap.size + 1, 4, none⟩ = some (.bool false) := Bk.Blk.cell bb 4
  have f_bb4 : w3.frozen? ⟨w.heap.size + 1, 4, none⟩ = false := Bk.Blk.fro bb 4
  have c_bb5 : w3.cell? ⟨w.heap.size + 1, 5, none⟩ = some (.int .i64 ti) := Bk.Blk.cell bb 5
  have f_bb5 : w3.frozen? ⟨w.heap.size + 1, 5, none⟩ = false := Bk.Blk.fro bb 5
  have l_br : w.heap.size + 1 + 1 < w3.heap.size := Bk.Blk.lt br
  have c_br0 : w3.cell? ⟨w.heap.size + 1 + 1, 0, none⟩ = some (.int .i64 0) := Bk.Blk.cell br 0
  have f_br0 : w3.frozen? ⟨w.heap.size + 1 + 1, 0, none⟩ = false := Bk.Blk.fro br 0
  have c_br1 : w3.cell? ⟨w.heap.size + 1 + 1, 1, none⟩ = some (.bool false) := Bk.Blk.cell br 1
  have f_br1 : w3.frozen? ⟨w.heap.size + 1 + 1, 1, none⟩ = false := Bk.Blk.fro br 1
  have c_br2 : w3.cell? ⟨w.heap.size + 1 + 1, 2, none⟩ = some (.int .i64 0) := Bk.Blk.cell br 2
  have f_br2 : w3.frozen? ⟨w.heap.size + 1 + 1, 2, none⟩ = false := Bk.Blk.fro br 2
  have c_br3 : w3.cell? ⟨w.heap.size + 1 + 1, 3, none⟩ = some (.int .i64 0) := Bk.Blk.cell br 3
  have f_br3 : w3.frozen? ⟨w.heap.size + 1 + 1, 3, none⟩ = false := Bk.Blk.fro br 3
  have c_br4 : w3.cell? ⟨w.heap.size + 1 + 1, 4, none⟩ = some (.bool false) := Bk.Blk.cell br 4
  have f_br4 : w3.frozen? ⟨w.heap.size + 1 + 1, 4, none⟩ = false := Bk.Blk.fro br 4
  go_wp2_with fail
  clear l_bs c_bs0 f_bs0 c_bs1 f_bs1 c_bs2 f_bs2 c_bs3 f_bs3 c_bs4 f_bs4 l_bb c_bb0 f_bb0 c_bb1 f_bb1 c_bb2 f_bb2 c_bb3 f_bb3 c_bb4 f_bb4 c_bb5 f_bb5 l_br c_br0 f_br0 c_br1 f_br1 c_br2 f_br2 c_br3 f_br3 c_br4 f_br4
  generalize hW : World.setCell _ _ _ = w4
  replace br : Bk.Blk w4 (w.heap.size + 1 + 1) 76 #[.int .i64 L, .bool false, .int .i64 bc, .int .i64 0, .bool false] := (by rw [← hW]; apply Bk.Blk.to; (focus ((repeat (first | with_reducible assumption | (with_reducible apply Bk.Blk.newAt; focus (first | (simp [Bk.size_set]; done) | (simp [Bk.size_set]; omega))) | with_reducible apply Bk.Blk.drewN | with_reducible apply Bk.Blk.drew | with_reducible apply Bk.Blk.set_ | (with_reducible apply Bk.Blk.far; focus (dsimp only; first | omega | (simp; omega) | (simp; done))) | with_reducible apply Bk.Blk.alloc)))); rfl)
  replace B : Below w.heap.size w w4 := (by rw [← hW]; go_grown)
  have z4 : w4.heap.size = _ := congrArg (fun W : World => W.heap.size) hW.symm
  (try simp only [World.size_alloc, Bk.size_set, World.size_drew, World.drewN] at z4)
  clear hW
  have l_br : w.heap.size + 1 + 1 < w4.heap.size := Bk.Blk.lt br
  have c_br0 : w4.cell? ⟨w.heap.size + 1 + 1, 0, none⟩ = some (.int .i64 L) := Bk.Blk.cell br 0
  have f_br0 : w4.frozen? ⟨w.heap.size + 1 + 1, 0, none⟩ = false := Bk.Blk.fro br 0
  have c_br1 : w4.cell? ⟨w.heap.size + 1 + 1, 1, none⟩ = some (.bool false) := Bk.Blk.cell br 1
  have f_br1 : w4.frozen? ⟨w.heap.size + 1 + 1, 1, none⟩ = false := Bk.Blk.fro br 1
  have c_br2 : w4.cell? ⟨w.heap.size + 1 + 1, 2, none⟩ = some (.int .i64 bc) := Bk.Blk.cell br 2
  have f_br2 : w4.frozen? ⟨w.heap.size + 1 + 1, 2, none⟩ = false := Bk.Blk.fro br 2
  have c_br3 : w4.cell? ⟨w.heap.size + 1 + 1, 3, none⟩ = some (.int .i64 0) := Bk.Blk.cell br 3
  have f_br3 : w4.frozen? ⟨w.heap.size + 1 + 1, 3, none⟩ = false := Bk.Blk.fro br 3
  have c_br4 : w4.cell? ⟨w.heap.size + 1 + 1, 4, none⟩ = some (.bool false) := Bk.Blk.cell br 4
  have f_br4 : w4.frozen? ⟨w.heap.size + 1 + 1, 4, none⟩ = false := Bk.Blk.fro br 4
  go_wp2
  refine bodyPost_ret (v := .tuple #[sv L false bc 0 false, .bool false]) (by simp [results, Try.results55, go_sem, c_br0, c_br1, c_br2, c_br3, c_br4]) rfl (⟨rfl, B⟩)
set_option maxHeartbeats 8000000 in
theorem hb_none (L bc st fr sl dc dp ti : Int) (w : World) (h1 : 1 ≤ L) (h8 : L ≤ 8) (b0 : 0 ≤ bc) (b1 : bc ≤ L - 1) (h0 : 0 ≤ st) (h15 : st ≤ 15) (hv : validB fr sl dc dp false ti) (htc : (bits .and .i64 (shf ti st) 1 == 1) = false) :
    Calls Try.prog 55 #[sv L true bc 0 false, .agg #[.int .i64 fr, .int .i64 sl, .int .i64 dc, .int .i64 dp, .bool false, .int .i64 ti], .int .i64 st] w fun x w' => x = .returned (.tuple #[sv L false bc 0 false, .bool false]) ∧ Below w.heap.size w w' := by
  have HV := Lib.hid hv
  have B : Below w.heap.size w w := Below.refl _ _
  clear hv
  go_enter Try.func55, Try.ntmps55
  go_wp2_with fail
  generalize hW : World.alloc _ _ = w1
  have bs : Bk.Blk w1 (w.heap.size) 76 #[.int .i64 L, .bool true, .int .i64 bc, .int .i64 0, .bool false] := (by rw [← hW]; apply Bk.Blk.to; (focus ((repeat (first | with_reducible assumption | (with_reducible apply Bk.Blk.newAt; focus (first | (simp [Bk.size_set]; done) | (simp [Bk.size_set]; omega))) | with_reducible apply Bk.Blk.drewN | with_reducible apply Bk.Blk.drew | with_reducible apply Bk.Blk.set_ | (with_reducible apply Bk.Blk.far; focus (dsimp only; first | omega | (simp; omega) | (simp; done))) | with_reducible apply Bk.Blk.alloc)))); rfl)
  have bb : Bk.Blk w1 (w.heap.size + 1) 43 #[.int .i64 fr, .int .i64 sl, .int .i64 dc, .int .i64 dp, .bool false, .int .i64 ti] := (by rw [← hW]; apply Bk.Blk.to; (focus ((repeat (first | with_reducible assumption | (with_reducible apply Bk.Blk.newAt; focus (first | (simp [Bk.size_set]; done) | (simp [Bk.size_set]; omega))) | with_reducible apply Bk.Blk.drewN | with_reducible apply Bk.Blk.drew | with_reducible apply Bk.Blk.set_ | (with_reducible apply Bk.Blk.far; focus (dsimp only; first | omega | (simp; omega) | (simp; done))) | with_reducible apply Bk.Blk.alloc)))); rfl)
  have br : Bk.Blk w1 (w.heap.size + 1 + 1) 76 #[.int .i64 0, .bool false, .int .i64 0, .int .i64 0, .bool false] := (by rw [← hW]; apply Bk.Blk.to; (focus ((repeat (first | with_reducible assumption | (with_reducible apply Bk.Blk.newAt; focus (first | (simp [Bk.size_set]; done) | (simp [Bk.size_set]; omega))) | with_reducible apply Bk.Blk.drewN | with_reducible apply Bk.Blk.drew | with_reducible apply Bk.Blk.set_ | (with_reducible apply Bk.Blk.far; focus (dsimp only; first | omega | (simp; omega) | (simp; done))) | with_reducible apply Bk.Blk.alloc)))); rfl)
  replace B : Below w.heap.size w w1 := (by rw [← hW]; go_grown)
  have z1 : w1.heap.size = _ := congrArg (fun W : World => W.heap.size) hW.symm
  (try simp only [World.size_alloc, Bk.size_set, World.size_drew, World.drewN] at z1)
  clear hW
  refine (valid_yes L bc 0 true false _ h1 h8 b0 b1 (by omega) (by omega) (.inl rfl)).mono ?_
  rintro x w2 ⟨rfl, hb0⟩
  replace bs : Bk.Blk w2 (w.heap.size) 76 #[.int .i64 L, .bool true, .int .i64 bc, .int .i64 0, .bool false] := Bk.Blk.under hb0 (by (repeat (first | with_reducible assumption | (with_reducible apply Bk.Blk.newAt; focus (first | (simp [Bk.size_set]; done) | (simp [Bk.size_set]; omega))) | with_reducible apply Bk.Blk.drewN | with_reducible apply Bk.Blk.drew | with_reducible apply Bk.Blk.set_ | (with_reducible apply Bk.Blk.far; focus (dsimp only; first | omega | (simp; omega) | (simp; done))) | with_reducible apply Bk.Blk.alloc)))
  replace bb : Bk.Blk w2 (w.heap.size + 1) 43 #[.int .i64 fr, .int .i64 sl, .int .i64 dc, .int .i64 dp, .bool false, .int .i64 ti] := Bk.Blk.under hb0 (by (repeat (first | with_reducible assumption | (with_reducible apply Bk.Blk.newAt; focus (first | (simp [Bk.size_set]; done) | (simp [Bk.size_set]; omega))) | with_reducible apply Bk.Blk.drewN | with_reducible apply Bk.Blk.drew | with_reducible apply Bk.Blk.set_ | (with_reducible apply Bk.Blk.far; focus (dsimp only; first | omega | (simp; omega) | (simp; done))) | with_reducible apply Bk.Blk.alloc)))
  replace br : Bk.Blk w2 (w.heap.size + 1 + 1) 76 #[.int .i64 0, .bool false, .int .i64 0, .int .i64 0, .bool false] := Bk.Blk.under hb0 (by (repeat (first | with_reducible assumption | (with_reducible apply Bk.Blk.newAt; focus (first | (simp [Bk.size_set]; done) | (simp [Bk.size_set]; omega))) | with_reducible apply Bk.Blk.drewN | with_reducible apply Bk.Blk.drew | with_reducible apply Bk.Blk.set_ | (with_reducible apply Bk.Blk.far; focus (dsimp only; first | omega | (simp; omega) | (simp; done))) | with_reducible apply Bk.Blk.alloc)))
  replace B : Below w.heap.size w w2 := Below.trans (by go_grown) (hb0.mono (by first | omega | (simp [Bk.size_set]; done) | (simp [Bk.size_set]; omega)))
  have z2 := hb0.size
  (try simp only [World.size_alloc, Bk.size_set, World.size_drew, World.drewN] at z2)
  clear hb0
  have l_bs : w.heap.size < w2.heap.size := Bk.Blk.lt bs
  have c_bs0 : w2.cell? ⟨w.heap.size, 0, none⟩ = some (.int .i64 L) := Bk.Blk.cell bs 0
  have f_bs0 : w2.frozen? ⟨w.heap.size, 0, none⟩ = false := Bk.Blk.fro bs 0
  have c_bs1 : w2.cell? ⟨w.heap.size, 1, none⟩ = some (.bool true) := Bk.Blk.cell bs 1
  have f_bs1 : w2.frozen? ⟨w.heap.size, 1, none⟩ = false := Bk.Blk.fro bs 1
  have c_bs2 : w2.cell? ⟨w.heap.size, 2, none⟩ = some (.int .i64 bc) := Bk.Blk.cell bs 2
  have f_bs2 : w2.frozen? ⟨w.heap.size, 2, none⟩ = false := Bk.Blk.fro bs 2
  have c_bs3 : w2.cell? ⟨w.heap.size, 3, none⟩ = some (.int .i64 0) := Bk.Blk.cell bs 3
  have f_bs3 : w2.frozen? ⟨w.heap.size, 3, none⟩ = false := Bk.Blk.fro bs 3
  have c_bs4 : w2.cell? ⟨w.heap.size, 4, none⟩ = some (.bool false) := Bk.Blk.cell bs 4
  have f_bs4 : w2.frozen? ⟨w.heap.size, 4, none⟩ = false := Bk.Blk.fro bs 4
  have l_bb : w.heap.size + 1 < w2.heap.size := Bk.Blk.lt bb
  have c_bb0 : w2.cell? ⟨w.heap.size + 1, 0, none⟩ = some (.int .i64 fr) := Bk.Blk.cell bb 0
  have f_bb0 : w2.frozen? ⟨w.heap.size + 1, 0, none⟩ = false := Bk.Blk.fro bb 0
  have c_bb1 : w2.cell? ⟨w.heap.size + 1, 1, none⟩ = some (.int .i64 sl) := Bk.Blk.cell bb 1
  have f_bb1 : w2.frozen? ⟨w.heap.size + 1, 1, none⟩ = false := Bk.Blk.fro bb 1
  have c_bb2 : w2.cell? ⟨w.heap.size + 1, 2, none⟩ = some (.int .i64 dc) := Bk.Blk.cell bb 2
  have f_bb2 : w2.frozen? ⟨w.heap.size + 1, 2, none⟩ = false := Bk.Blk.fro bb 2
  have c_bb3 : w2.cell? ⟨w.heap.size + 1, 3, none⟩ = some (.int .i64 dp) := Bk.Blk.cell bb 3
  have f_bb3 : w2.frozen? ⟨w.heap.size + 1, 3, none⟩ = false := Bk.Blk.fro bb 3
  have c_bb4 : w2.cell? ⟨w.heap.size + 1, 4, none⟩ = some (.bool false) := Bk.Blk.cell bb 4
  have f_bb4 : w2.frozen? ⟨w.heap.size + 1, 4, none⟩ = false := Bk.Blk.fro bb 4
  have c_bb5 : w2.cell? ⟨w.heap.size + 1, 5, none⟩ = some (.int .i64 ti) := Bk.Blk.cell bb 5
  have f_bb5 : w2.frozen? ⟨w.heap.size + 1, 5, none⟩ = false := Bk.Blk.fro bb 5
  have l_br : w.heap.size + 1 + 1 < w2.heap.size := Bk.Blk.lt br
  have c_br0 : w2.cell? ⟨w.heap.size + 1 + 1, 0, none⟩ = some (.int .i64 0) := Bk.Blk.cell br 0
  have f_br0 : w2.frozen? ⟨w.heap.size + 1 + 1, 0, none⟩ = false := Bk.Blk.fro br 0
  have c_br1 : w2.cell? ⟨w.heap.size + 1 + 1, 1, none⟩ = some (.bool false) := Bk.Blk.cell br 1
  have f_br1 : w2.frozen? ⟨w.heap.size + 1 + 1, 1, none⟩ = false := Bk.Blk.fro br 1
  have c_br2 : w2.cell? ⟨w.heap.size + 1 + 1, 2, none⟩ = some (.int .i64 0) := Bk.Blk.cell br 2
  have f_br2 : w2.frozen? ⟨w.heap.size + 1 + 1, 2, none⟩ = false := Bk.Blk.fro br 2
  have c_br3 : w2.cell? ⟨w.heap.size + 1 + 1, 3, none⟩ = some (.int .i64 0) := Bk.Blk.cell br 3
  have f_br3 : w2.frozen? ⟨w.heap.size + 1 + 1, 3, none⟩ = false := Bk.Blk.fro br 3
  have c_br4 : w2.cell? ⟨w.heap.size + 1 + 1, 4, none⟩ = some (.bool false) := Bk.Blk.cell br 4
  have f_br4 : w2.frozen? ⟨w.heap.size + 1 + 1, 4, none⟩ = false := Bk.Blk.fro br 4
  go_wp2_with fail
  clear l_bs c_bs0 f_bs0 c_bs1 f_bs1 c_bs2 f_bs2 c_bs3 f_bs3 c_bs4 f_bs4 l_bb c_bb0 f_bb0 c_bb1 f_bb1 c_bb2 f_bb2 c_bb3 f_bb3 c_bb4 f_bb4 c_bb5 f_bb5 l_br c_br0 f_br0 c_br1 f_br1 c_br2 f_br2 c_br3 f_br3 c_br4 f_br4
  refine (validB_impl fr sl dc dp false ti _).mono ?_
  rintro x w3 hsay
  obtain ⟨rfl, hb0⟩ := says_true hsay HV.out
  clear hsay
  replace bs : Bk.Blk w3 (w.heap.size) 76 #[.int .i64 L, .bool true, .int .i64 bc, .int .i64 0, .bool false] := Bk.Blk.under hb0 (by (repeat (first | with_reducible assumption | (with_reducible apply Bk.Blk.newAt; focus (first | (simp [Bk.size_set]; done) | (simp [Bk.size_set]; omega))) | with_reducible apply Bk.Blk.drewN | with_reducible apply Bk.Blk.drew | with_reducible apply Bk.Blk.set_ | (with_reducible apply Bk.Blk.far; focus (dsimp only; first | omega | (simp; omega) | (simp; done))) | with_reducible apply Bk.Blk.alloc)))
  replace bb : Bk.Blk w3 (w.heap.size + 1) 43 #[.int .i64 fr, .int .i64 sl, .int .i64 dc, .int .i64 dp, .bool false, .int .i64 ti] := Bk.Blk.under hb0 (by (repeat (first | with_reducible assumption | (with_reducible apply Bk.Blk.newAt; focus (first | (simp [Bk.size_set]; done) | (simp [Bk.size_set]; omega))) | with_reducible apply Bk.Blk.drewN | with_reducible apply Bk.Blk.drew | with_reducible apply Bk.Blk.set_ | (with_reducible apply Bk.Blk.far; focus (dsimp only; first | omega | (simp; omega) | (simp; done))) | with_reducible apply Bk.Blk.alloc)))
  replace br : Bk.Blk w3 (w.heap.size + 1 + 1) 76 #[.int .i64 0, .bool false, .int .i64 0, .int .i64 0, .bool false] := Bk.Blk.under hb0 (by (repeat (first | with_reducible assumption | (with_reducible apply Bk.Blk.newAt; focus (first | (simp [Bk.size_set]; done) | (simp [Bk.size_set]; omega))) | with_reducible apply Bk.Blk.drewN | with_reducible apply Bk.Blk.drew | with_reducible apply Bk.Blk.set_ | (with_reducible apply Bk.Blk.far; focus (dsimp only; first | omega | (simp; omega) | (simp; done))) | with_reducible apply Bk.Blk.alloc)))
  replace B : Below w.heap.size w w3 := Below.trans (by go_grown) (hb0.mono (by first | omega | (simp [Bk.size_set]; done) | (simp [Bk.size_set]; omega)))
  have z3 := hb0.size
  (try simp only [World.size_alloc, Bk.size_set, World.size_drew, World.drewN] at z3)
  clear hb0
  have l_bs : w.heap.size < w3.heap.size := Bk.Blk.lt bs
  have c_bs0 : w3.cell? ⟨w.heap.size, 0, none⟩ = some (.int .i64 L) := Bk.Blk.cell bs 0
  have f_bs0 : w3.frozen? ⟨w.heap.size, 0, none⟩ = false := Bk.Blk.fro bs 0
  have c_bs1 : w3.cell? ⟨w.heap.size, 1, none⟩ = some (.bool true) := Bk.Blk.cell bs 1
  have f_bs1 : w3.frozen? ⟨w.heap.size, 1, none⟩ = false := Bk.Blk.fro bs 1
  have c_bs2 : w3.cell? ⟨w.heap.size, 2, none⟩ = some (.int .i64 bc) := Bk.Blk.cell bs 2
  have f_bs2 : w3.frozen? ⟨w.heap.size, 2, none⟩ = false := Bk.Blk.fro bs 2
  have c_bs3 : w3.cell? ⟨w.heap.size, 3, none⟩ = some (.int .i64 0) := Bk.Blk.cell bs 3
  have f_bs3 : w3.frozen? ⟨w.heap.size, 3, none⟩ = false := Bk.Blk.fro bs 3
  have c_bs4 : w3.cell? ⟨w.heap.size, 4, none⟩ = some (.bool false) := Bk.Blk.cell bs 4
  have f_bs4 : w3.frozen? ⟨w.heap.size, 4, none⟩ = false := Bk.Blk.fro bs 4
  have l_bb : w.heap.size + 1 < w3.heap.size := Bk.Blk.lt bb
  have c_bb0 : w3.cell? ⟨w.heap.size + 1, 0, none⟩ = some (.int .i64 fr) := Bk.Blk.cell bb 0
  have f_bb0 : w3.frozen? ⟨w.heap.size + 1, 0, none⟩ = false := Bk.Blk.fro bb 0
  have c_bb1 : w3.cell? ⟨w.heap.size + 1, 1, none⟩ = some (.int .i64 sl) := Bk.Blk.cell bb 1
  have f_bb1 : w3.frozen? ⟨w.heap.size + 1, 1, none⟩ = false := Bk.Blk.fro bb 1
  have c_bb2 : w3.cell? ⟨w.heap.size + 1, 2, none⟩ = some (.int .i64 dc) := Bk.Blk.cell bb 2
  have f_bb2 : w3.frozen? ⟨w.heap.size + 1, 2, none⟩ = false := Bk.Blk.fro bb 2
  have c_bb3 : w3.cell? ⟨w.heap.size + 1, 3, none⟩ = some (.int .i64 dp) := Bk.Blk.cell bb 3
  have f_bb3 : w3.frozen? ⟨w.heap.size + 1, 3, none⟩ = false := Bk.Blk.fro bb 3
  have c_bb4 : w3.cell? ⟨w.heap.size + 1, 4, none⟩ = some (.bool false) := Bk.Blk.cell bb 4
  have f_bb4 : w3.frozen? ⟨w.heap.size + 1, 4, none⟩ = false := Bk.Blk.fro bb 4
  have c_bb5 : w3.cell? ⟨w.heap.size + 1, 5, none⟩ = some (.int .i64 ti) := Bk.Blk.cell bb 5
  have f_bb5 : w3.frozen? ⟨w.heap.size + 1, 5, none⟩ = false := Bk.Blk.fro bb 5
  have l_br : w.heap.size + 1 + 1 < w3.heap.size := Bk.Blk.lt br
  have c_br0 : w3.cell? ⟨w.heap.size + 1 + 1, 0, none⟩ = some (.int .i64 0) := Bk.Blk.cell br 0
  have f_br0 : w3.frozen? ⟨w.heap.size + 1 + 1, 0, none⟩ = false := Bk.Blk.fro br 0
  have c_br1 : w3.cell? ⟨w.heap.size + 1 + 1, 1, none⟩ = some (.bool false) := Bk.Blk.cell br 1
  have f_br1 : w3.frozen? ⟨w.heap.size + 1 + 1, 1, none⟩ = false := Bk.Blk.fro br 1
  have c_br2 : w3.cell? ⟨w.heap.size + 1 + 1, 2, none⟩ = some (.int .i64 0) := Bk.Blk.cell br 2
  have f_br2 : w3.frozen? ⟨w.heap.size + 1 + 1, 2, none⟩ = false := Bk.Blk.fro br 2
  have c_br3 : w3.cell? ⟨w.heap.size + 1 + 1, 3, none⟩ = some (.int .i64 0) := Bk.Blk.cell br 3
  have f_br3 : w3.frozen? ⟨w.heap.size + 1 + 1, 3, none⟩ = false := Bk.Blk.fro br 3
  have c_br4 : w3.cell? ⟨w.heap.size + 1 + 1, 4, none⟩ = some (.bool false) := Bk.Blk.cell br 4
  have f_br4 : w3.frozen? ⟨w.heap.size + 1 + 1, 4, none⟩ = false := Bk.Blk.fro br 4
  go_wp2_with fail
  clear l_bs c_bs0 f_bs0 c_bs1 f_bs1 c_bs2 f_bs2 c_bs3 f_bs3 c_bs4 f_bs4 l_bb c_bb0 f_bb0 c_bb1 f_bb1 c_bb2 f_bb2 c_bb3 f_bb3 c_bb4 f_bb4 c_bb5 f_bb5 l_br c_br0 f_br0 c_br1 f_br1 c_br2 f_br2 c_br3 f_br3 c_br4 f_br4
  generalize hW : World.setCell _ _ _ = w4
  replace bs : Bk.Blk w4 (w.heap.size) 76 #[.int .i64 L, .bool true, .int .i64 bc, .int .i64 0, .bool false] := (by rw [← hW]; apply Bk.Blk.to; (focus ((repeat (first | with_reducible assumption | (with_reducible apply Bk.Blk.newAt; focus (first | (simp [Bk.size_set]; done) | (simp [Bk.size_set]; omega))) | with_reducible apply Bk.Blk.drewN | with_reducible apply Bk.Blk.drew | with_reducible apply Bk.Blk.set_ | (with_reducible apply Bk.Blk.far; focus (dsimp only; first | omega | (simp; omega) | (simp; done))) | with_reducible apply Bk.Blk.alloc)))); rfl)
  replace bb : Bk.Blk w4 (w.heap.size + 1) 43 #[.int .i64 fr, .int .i64 sl, .int .i64 dc, .int .i64 dp, .bool false, .int .i64 ti] := (by rw [← hW]; (repeat (first | with_reducible assumption | (with_reducible apply Bk.Blk.newAt; focus (first | (simp [Bk.size_set]; done) | (simp [Bk.size_set]; omega))) | with_reducible apply Bk.Blk.drewN | with_reducible apply Bk.Blk.drew | with_reducible apply Bk.Blk.set_ | (with_reducible apply Bk.Blk.far; focus (dsimp only; first | omega | (simp; omega) | (simp; done))) | with_reducible apply Bk.Blk.alloc)))
  replace br : Bk.Blk w4 (w.heap.size + 1 + 1) 76 #[.int .i64 0, .bool false, .int .i64 0, .int .i64 0, .bool false] := (by rw [← hW]; (repeat (first | with_reducible assumption | (with_reducible apply Bk.Blk.newAt; focus (first | (simp [Bk.size_set]; done) | (simp [Bk.size_set]; omega))) | with_reducible apply Bk.Blk.drewN | with_reducible apply Bk.Blk.drew | with_reducible apply Bk.Blk.set_ | (with_reducible apply Bk.Blk.far; focus (dsimp only; first | omega | (simp; omega) | (simp; done))) | with_reducible apply Bk.Blk.alloc)))
  replace B : Below w.heap.size w w4 := (by rw [← hW]; go_grown)
  have z4 : w4.heap.size = _ := congrArg (fun W : World => W.heap.size) hW.symm
  (try simp only [World.size_alloc, Bk.size_set, World.size_drew, World.drewN] at z4)
  clear hW
  refine (tim_any st fr sl dc dp ti false false _ h0 h15 htc).mono ?_
  rintro x w5 ⟨rfl, hb0⟩
  replace bs : Bk.Blk w5 (w.heap.size) 76 #[.int .i64 L, .bool true, .int .i64 bc, .int .i64 0, .bool false] := Bk.Blk.under hb0 (by (repeat (first | with_reducible assumption | (with_reducible apply Bk.Blk.newAt; focus (first | (simp [Bk.size_set]; done) | (simp [Bk.size_set]; omega))) | with_reducible apply Bk.Blk.drewN | with_reducible apply Bk.Blk.drew | with_reducible apply Bk.Blk.set_ | (with_reducible apply Bk.Blk.far; focus (dsimp only; first | omega | (simp; omega) | (simp; done))) | with_reducible apply Bk.Blk.alloc)))
  replace bb : Bk.Blk w5 (w.heap.size + 1) 43 #[.int .i64 fr, .int .i64 sl, .int .i64 dc, .int .i64 dp, .bool false, .int .i64 ti] := Bk.Blk.under hb0 (by (repeat (first | with_reducible assumption | (with_reducible apply Bk.Blk.newAt; focus (first | (simp [Bk.size_set]; done) | (simp [Bk.size_set]; omega))) | with_reducible apply Bk.Blk.drewN | with_reducible apply Bk.Blk.drew | with_reducible apply Bk.Blk.set_ | (with_reducible apply Bk.Blk.far; focus (dsimp only; first | omega | (simp; omega) | (simp; done))) | with_reducible apply Bk.Blk.alloc)))
  replace br : Bk.Blk w5 (w.heap.size + 1 + 1) 76 #[.int .i64 0, .bool false, .int .i64 0, .int .i64 0, .bool false] := Bk.Blk.under hb0 (by (repeat (first | with_reducible assumption | (with_reducible apply Bk.Blk.newAt; focus (first | (simp [Bk.size_set]; done) | (simp [Bk.size_set]; omega))) | with_reducible apply Bk.Blk.drewN | with_reducible apply Bk.Blk.drew | with_reducible apply Bk.Blk.set_ | (with_reducible apply Bk.Blk.far; focus (dsimp only; first | omega | (simp; omega) | (simp; done))) | with_reducible apply Bk.Blk.alloc)))
  replace B : Below w.heap.size w w5 := Below.trans (by go_grown) (hb0.mono (by first | omega | (simp [Bk.size_set]; done) | (simp [Bk.size_set]; omega)))
  have z5 := hb0.size
  (try simp only [World.size_alloc, Bk.size_set, World.size_drew, World.drewN] at z5)
  clear hb0
  have l_bs : w.heap.size < w5.heap.size := Bk.Blk.lt bs
  have c_bs0 : w5.cell? ⟨w.heap.size, 0, none⟩ = some (.int .i64 L) := Bk.Blk.cell bs 0
  have f_bs0 : w5.frozen? ⟨w.heap.size, 0, none⟩ = false := Bk.Blk.fro bs 0
  have c_bs1 : w5.cell? ⟨w.heap.size, 1, none⟩ = some (.bool true) := Bk.Blk.cell bs 1
  have f_bs1 : w5.frozen? ⟨w.heap.size, 1, none⟩ = false := Bk.Blk.fro bs 1
  have c_bs2 : w5.cell? ⟨w.heap.size, 2, none⟩ = some (.int .i64 bc) := Bk.Blk.cell bs 2
  have f_bs2 : w5.frozen? ⟨w.heap.size, 2, none⟩ = false := Bk.Blk.fro bs 2
  have c_bs3 : w5.cell? ⟨w.heap.size, 3, none⟩ = some (.int .i64 0) := Bk.Blk.cell bs 3
  have f_bs3 : w5.frozen? ⟨w.heap.size, 3, none⟩ = false := Bk.Blk.fro bs 3
  have c_bs4 : w5.cell? ⟨w.heap.size, 4, none⟩ = some (.bool false) := Bk.Blk.cell bs 4
  have f_bs4 : w5.frozen? ⟨w.heap.size, 4, none⟩ = false := Bk.Blk.fro bs 4
  have l_bb : w.heap.size + 1 < w5.heap.size := Bk.Blk.lt bb
  have c_bb0 : w5.cell? ⟨w.heap.size + 1, 0, none⟩ = some (.int .i64 fr) := Bk.Blk.cell bb 0
  have f_bb0 : w5.frozen? ⟨w.heap.size + 1, 0, none⟩ = false := Bk.Blk.fro bb 0
  have c_bb1 : w5.cell? ⟨w.heap.size + 1, 1, none⟩ = some (.int .i64 sl) := Bk.Blk.cell bb 1
  have f_bb1 : w5.frozen? ⟨w.heap.size + 1, 1, none⟩ = false := Bk.Blk.fro bb 1
  have c_bb2 : w5.cell? ⟨w.heap.size + 1, 2, none⟩ = some (.int .i64 dc) := Bk.Blk.cell bb 2
  have f_bb2 : w5.frozen? ⟨w.heap.size + 1, 2, none⟩ = false := Bk.Blk.fro bb 2
  have c_bb3 : w5.cell? ⟨w.heap.size + 1, 3, none⟩ = some (.int .i64 dp) := Bk.Blk.cell bb 3
  have f_bb3 : w5.frozen? ⟨w.heap.size + 1, 3, none⟩ = false := Bk.Blk.fro bb 3
  have c_bb4 : w5.cell? ⟨w.heap.size + 1, 4, none⟩ = some (.bool false) := Bk.Blk.cell bb 4
  have f_bb4 : w5.frozen? ⟨w.heap.size + 1, 4, none⟩ = false := Bk.Blk.fro bb 4
  have c_bb5 : w5.cell? ⟨w.heap.size + 1, 5, none⟩ = some (.int .i64 ti) := Bk.Blk.cell bb 5
  have f_bb5 : w5.frozen? ⟨w.heap.size + 1, 5, none⟩ = false := Bk.Blk.fro bb 5
  have l_br : w.heap.size + 1 + 1 < w5.heap.size := Bk.Blk.lt br
  have c_br0 : w5.cell? ⟨w.heap.size + 1 + 1, 0, none⟩ = some (.int .i64 0) := Bk.Blk.cell br 0
  have f_br0 : w5.frozen? ⟨w.heap.size + 1 + 1, 0, none⟩ = false := Bk.Blk.fro br 0
  have c_br1 : w5.cell? ⟨w.heap.size + 1 + 1, 1, none⟩ = some (.bool false) := Bk.Blk.cell br 1
  have f_br1 : w5.frozen? ⟨w.heap.size + 1 + 1, 1, none⟩ = false := Bk.Blk.fro br 1
  have c_br2 : w5.cell? ⟨w.heap.size + 1 + 1, 2, none⟩ = some (.int .i64 0) := Bk.Blk.cell br 2
  have f_br2 : w5.frozen? ⟨w.heap.size + 1 + 1, 2, none⟩ = false := Bk.Blk.fro br 2
  have c_br3 : w5.cell? ⟨w.heap.size + 1 + 1, 3, none⟩ = some (.int .i64 0) := Bk.Blk.cell br 3
  have f_br3 : w5.frozen? ⟨w.heap.size + 1 + 1, 3, none⟩ = false := Bk.Blk.fro br 3
  have c_br4 : w5.cell? ⟨w.heap.size + 1 + 1, 4, none⟩ = some (.bool false) := Bk.Blk.cell br 4
  have f_br4 : w5.frozen? ⟨w.heap.size + 1 + 1, 4, none⟩ = false := Bk.Blk.fro br 4
  go_wp2_with fail
  clear l_bs c_bs0 f_bs0 c_bs1 f_bs1 c_bs2 f_bs2 c_bs3 f_bs3 c_bs4 f_bs4 l_bb c_bb0 f_bb0 c_bb1 f_bb1 c_bb2 f_bb2 c_bb3 f_bb3 c_bb4 f_bb4 c_bb5 f_bb5 l_br c_br0 f_br0 c_br1 f_br1 c_br2 f_br2 c_br3 f_br3 c_br4 f_br4
  refine (must_any L bc 0 true false _ false rfl).mono ?_
  rintro x w6 ⟨rfl, hb0⟩
  replace bs : Bk.Blk w6 (w.heap.size) 76 #[.int .i64 L, .bool true, .int .i64 bc, .int .i64 0, .bool false] := Bk.Blk.under hb0 (by (repeat (first | with_reducible assumption | (with_reducible apply Bk.Blk.newAt; focus (first | (simp [Bk.size_set]; done) | (simp [Bk.size_set]; omega))) | with_reducible apply Bk.Blk.drewN | with_reducible apply Bk.Blk.drew | with_reducible apply Bk.Blk.set_ | (with_reducible apply Bk.Blk.far; focus (dsimp only; first | omega | (simp; omega) | (simp; done))) | with_reducible apply Bk.Blk.alloc)))
  replace bb : Bk.Blk w6 (w.heap.size + 1) 43 #[.int .i64 fr, .int .i64 sl, .int .i64 dc, .int .i64 dp, .bool false, .int .i64 ti] := Bk.Blk.under hb0 (by (repeat (first | with_reducible assumption | (with_reducible apply Bk.Blk.newAt; focus (first | (simp [Bk.size_set]; done) | (simp [Bk.size_set]; omega))) | with_reducible apply Bk.Blk.drewN | with_reducible apply Bk.Blk.drew | with_reducible apply Bk.Blk.set_ | (with_reducible apply Bk.Blk.far; focus (dsimp only; first | omega | (simp; omega) | (simp; done))) | with_reducible apply Bk.Blk.alloc)))
  replace br : Bk.Blk w6 (w.heap.size + 1 + 1) 76 #[.int .i64 0, .bool false, .int .i64 0, .int .i64 0, .bool false] := Bk.Blk.under hb0 (by (repeat (first | with_reducible assumption | (with_reducible apply Bk.Blk.newAt; focus (first | (simp [Bk.size_set]; done) | (simp [Bk.size_set]; omega))) | with_reducible apply Bk.Blk.drewN | with_reducible apply Bk.Blk.drew | with_reducible apply Bk.Blk.set_ | (with_reducible apply Bk.Blk.far; focus (dsimp only; first | omega | (simp; omega) | (simp; done))) | with_reducible apply Bk.Blk.alloc)))
  replace B : Below w.heap.size w w6 := Below.trans (by go_grown) (hb0.mono (by first | omega | (simp [Bk.size_set]; done) | (simp [Bk.size_set]; omega)))
  have z6 := hb0.size
  (try simp only [World.size_alloc, Bk.size_set, World.size_drew, World.drewN] at z6)
  clear hb0
  have l_bs : w.heap.size < w6.heap.size := Bk.Blk.lt bs
  have c_bs0 : w6.cell? ⟨w.heap.size, 0, none⟩ = some (.int .i64 L) := Bk.Blk.cell bs 0
  have f_bs0 : w6.frozen? ⟨w.heap.size, 0, none⟩ = false := Bk.Blk.fro bs 0
  have c_bs1 : w6.cell? ⟨w.heap.size, 1, none⟩ = some (.bool true) := Bk.Blk.cell bs 1
  have f_bs1 : w6.frozen? ⟨w.heap.size, 1, none⟩ = false := Bk.Blk.fro bs 1
  have c_bs2 : w6.cell? ⟨w.heap.size, 2, none⟩ = some (.int .i64 bc) := Bk.Blk.cell bs 2
  have f_bs2 : w6.frozen? ⟨w.heap.size, 2, none⟩ = false := Bk.Blk.fro bs 2
  have c_bs3 : w6.cell? ⟨w.heap.size, 3, none⟩ = some (.int .i64 0) := Bk.Blk.cell bs 3
  have f_bs3 : w6.frozen? ⟨w.heap.size, 3, none⟩ = false := Bk.Blk.fro bs 3
  have c_bs4 : w6.cell? ⟨w.heap.size, 4, none⟩ = some (.bool false) := Bk.Blk.cell bs 4
  have f_bs4 : w6.frozen? ⟨w.heap.size, 4, none⟩ = false := Bk.Blk.fro bs 4
  have l_br : w.heap.size + 1 + 1 < w6.heap.size := Bk.Blk.lt br
  have c_br0 : w6.cell? ⟨w.heap.size + 1 + 1, 0, none⟩ = some (.int .i64 0) := Bk.Blk.cell br 0
  have f_br0 : w6.frozen? ⟨w.heap.size + 1 + 1, 0, none⟩ = false := Bk.Blk.fro br 0
  have c_br1 : w6.cell? ⟨w.heap.size + 1 + 1, 1, none⟩ = some (.bool false) := Bk.Blk.cell br 1
  have f_br1 : w6.frozen? ⟨w.heap.size + 1 + 1, 1, none⟩ = false := Bk.Blk.fro br 1
  have c_br2 : w6.cell? ⟨w.heap.size + 1 + 1, 2, none⟩ = some (.int .i64 0) := Bk.Blk.cell br 2
  have f_br2 : w6.frozen? ⟨w.heap.size + 1 + 1, 2, none⟩ = false := Bk.Blk.fro br 2
  have c_br3 : w6.cell? ⟨w.heap.size + 1 + 1, 3, none⟩ = some (.int .i64 0) := Bk.Blk.cell br 3
  have f_br3 : w6.frozen? ⟨w.heap.size + 1 + 1, 3, none⟩ = false := Bk.Blk.fro br 3
  have c_br4 : w6.cell? ⟨w.heap.size + 1 + 1, 4, none⟩ = some (.bool false) := Bk.Blk.cell br 4
  have f_br4 : w6.frozen? ⟨w.heap.size + 1 + 1, 4, none⟩ = false := Bk.Blk.fro br 4
  go_wp2_with fail
  clear l_bs c_bs0 f_bs0 c_bs1 f_bs1 c_bs2 f_bs2 c_bs3 f_bs3 c_bs4 f_bs4 l_br c_br0 f_br0 c_br1 f_br1 c_br2 f_br2 c_br3 f_br3 c_br4 f_br4
  generalize hW : World.setCell _ _ _ = w7
  replace br : Bk.Blk w7 (w.heap.size + 1 + 1) 76 #[.int .i64 L, .bool false, .int .i64 bc, .int .i64 0, .bool false] := (by rw [← hW]; apply Bk.Blk.to; (focus ((repeat (first | with_reducible assumption | (with_reducible apply Bk.Blk.newAt; focus (first | (simp [Bk.size_set]; done) | (simp [Bk.size_set]; omega))) | with_reducible apply Bk.Blk.drewN | with_reducible apply Bk.Blk.drew | with_reducible apply Bk.Blk.set_ | (with_reducible apply Bk.Blk.far; focus (dsimp only; first | omega | (simp; omega) | (simp; done))) | with_reducible apply Bk.Blk.alloc)))); rfl)
  replace B : Below w.heap.size w w7 := (by rw [← hW]; go_grown)
  have z7 : w7.heap.size = _ := congrArg (fun W : World => W.heap.size) hW.symm
  (try simp only [World.size_alloc, Bk.size_set, World.size_drew, World.drewN] at z7)
  clear hW
  have l_br : w.heap.size + 1 + 1 < w7.heap.size := Bk.Blk.lt br
  have c_br0 : w7.cell? ⟨w.heap.size + 1 + 1, 0, none⟩ = some (.int .i64 L) := Bk.Blk.cell br 0
  have f_br0 : w7.frozen? ⟨w.heap.size + 1 + 1, 0, none⟩ = false := Bk.Blk.fro br 0
  have c_br1 : w7.cell? ⟨w.heap.size + 1 + 1, 1, none⟩ = some (.bool false) := Bk.Blk.cell br 1
  have f_br1 : w7.frozen? ⟨w.heap.size + 1 + 1, 1, none⟩ = false := Bk.Blk.fro br 1
  have c_br2 : w7.cell? ⟨w.heap.size + 1 + 1, 2, none⟩ = some (.int .i64 bc) := Bk.Blk.cell br 2
  have f_br2 : w7.frozen? ⟨w.heap.size + 1 + 1, 2, none⟩ = false := Bk.Blk.fro br 2
  have c_br3 : w7.cell? ⟨w.heap.size + 1 + 1, 3, none⟩ = some (.int .i64 0) := Bk.Blk.cell br 3
  have f_br3 : w7.frozen? ⟨w.heap.size + 1 + 1, 3, none⟩ = false := Bk.Blk.fro br 3
  have c_br4 : w7.cell? ⟨w.heap.size + 1 + 1, 4, none⟩ = some (.bool false) := Bk.Blk.cell br 4
  have f_br4 : w7.frozen? ⟨w.heap.size + 1 + 1, 4, none⟩ = false := Bk.Blk.fro br 4
  go_wp2
  refine bodyPost_ret (v := .tuple #[sv L false bc 0 false, .bool false]) (by simp [results, Try.results55, go_sem, c_br0, c_br1, c_br2, c_br3, c_br4]) rfl (⟨rfl, B⟩)
set_option maxHeartbeats 8000000 in
theorem hb_poll (L bc st fr sl dc dp ti : Int) (w : World) (h1 : 1 ≤ L) (h8 : L ≤ 8) (b0 : 0 ≤ bc) (b1 : bc ≤ L - 1) (h0 : 0 ≤ st) (h15 : st ≤ 15) (hv : validB fr sl dc dp false ti) (htc : (bits .and .i64 (shf ti st) 1 == 1) = true) :
    Calls Try.prog 55 #[sv L true bc 0 false, .agg #[.int .i64 fr, .int .i64 sl, .int .i64 dc, .int .i64 dp, .bool false, .int .i64 ti], .int .i64 st] w fun x w' => x = .returned (.tuple #[sv L true bc 1 false, .bool true]) ∧ Below w.heap.size w w' := by
  have HV := Lib.hid hv
  have B : Below w.heap.size w w := Below.refl _ _
  clear hv
  go_enter Try.func55, Try.ntmps55
  go_wp2_with fail
  generalize hW : World.alloc _ _ = w1
  have bs : Bk.Blk w1 (w.heap.size) 76 #[.int .i64 L, .bool true, .int .i64 bc, .int .i64 0, .bool false] := (by rw [← hW]; apply Bk.Blk.to; (focus ((repeat (first | with_reducible assumption | (with_reducible apply Bk.Blk.newAt; focus (first | (simp [Bk.size_set]; done) | (simp [Bk.size_set]; omega))) | with_reducible apply Bk.Blk.drewN | with_reducible apply Bk.Blk.drew | with_reducible apply Bk.Blk.set_ | (with_reducible apply Bk.Blk.far; focus (dsimp only; first | omega | (simp; omega) | (simp; done))) | with_reducible apply Bk.Blk.alloc)))); rfl)
  have bb : Bk.Blk w1 (w.heap.size + 1) 43 #[.int .i64 fr, .int .i64 sl, .int .i64 dc, .int .i64 dp, .bool false, .int .i64 ti] := (by rw [← hW]; apply Bk.Blk.to; (focus ((repeat (first | with_reducible assumption | (with_reducible apply Bk.Blk.newAt; focus (first | (simp [Bk.size_set]; done) | (simp [Bk.size_set]; omega))) | with_reducible apply Bk.Blk.drewN | with_reducible apply Bk.Blk.drew | with_reducible apply Bk.Blk.set_ | (with_reducible apply Bk.Blk.far; focus (dsimp only; first | omega | (simp; omega) | (simp; done))) | with_reducible apply Bk.Blk.alloc)))); rfl)
  have br : Bk.Blk w1 (w.heap.size + 1 + 1) 76 #[.int .i64 0, .bool false, .int .i64 0, .int .i64 0, .bool false] := (by rw [← hW]; apply Bk.Blk.to; (focus ((repeat (first | with_reducible assumption | (with_reducible apply Bk.Blk.newAt; focus (first | (simp [Bk.size_set]; done) | (simp [Bk.size_set]; omega))) | with_reducible apply Bk.Blk.drewN | with_reducible apply Bk.Blk.drew | with_reducible apply Bk.Blk.set_ | (with_reducible apply Bk.Blk.far; focus (dsimp only; first | omega | (simp; omega) | (simp; done))) | with_reducible apply Bk.Blk.alloc)))); rfl)
  replace B : Below w.heap.size w w1 := (by rw [← hW]; go_grown)
  have z1 : w1.heap.size = _ := congrArg (fun W : World => W.heap.size) hW.symm
  (try simp only [World.size_alloc, Bk.size_set, World.size_drew, World.drewN] at z1)
  clear hW
  refine (valid_yes L bc 0 true false _ h1 h8 b0 b1 (by omega) (by omega) (.inl rfl)).mono ?_
  rintro x w2 ⟨rfl, hb0⟩
  replace bs : Bk.Blk w2 (w.heap.size) 76 #[.int .i64 L, .bool true, .int .i64 bc, .int .i64 0, .bool false] := Bk.Blk.under hb0 (by (repeat (first | with_reducible assumption | (with_reducible apply Bk.Blk.newAt; focus (first | (simp [Bk.size_set]; done) | (simp [Bk.size_set]; omega))) | with_reducible apply Bk.Blk.drewN | with_reducible apply Bk.Blk.drew | with_reducible apply Bk.Blk.set_ | (with_reducible apply Bk.Blk.far; focus (dsimp only; first | omega | (simp; omega) | (simp; done))) | with_reducible apply Bk.Blk.alloc)))
  replace bb : Bk.Blk w2 (w.heap.size + 1) 43 #[.int .i64 fr, .int .i64 sl, .int .i64 dc, .int .i64 dp, .bool false, .int .i64 ti] := Bk.Blk.under hb0 (by (repeat (first | with_reducible assumption | (with_reducible apply Bk.Blk.newAt; focus (first | (simp [Bk.size_set]; done) | (simp [Bk.size_set]; omega))) | with_reducible apply Bk.Blk.drewN | with_reducible apply Bk.Blk.drew | with_reducible apply Bk.Blk.set_ | (with_reducible apply Bk.Blk.far; focus (dsimp only; first | omega | (simp; omega) | (simp; done))) | with_reducible apply Bk.Blk.alloc)))
  replace br : Bk.Blk w2 (w.heap.size + 1 + 1) 76 #[.int .i64 0, .bool false, .int .i64 0, .int .i64 0, .bool false] := Bk.Blk.under hb0 (by (repeat (first | with_reducible assumption | (with_reducible apply Bk.Blk.newAt; focus (first | (simp [Bk.size_set]; done) | (simp [Bk.size_set]; omega))) | with_reducible apply Bk.Blk.drewN | with_reducible apply Bk.Blk.drew | with_reducible apply Bk.Blk.set_ | (with_reducible apply Bk.Blk.far; focus (dsimp only; first | omega | (simp; omega) | (simp; done))) | with_reducible apply Bk.Blk.alloc)))
  replace B : Below w.heap.size w w2 := Below.trans (by go_grown) (hb0.mono (by first | omega | (simp [Bk.size_set]; done) | (simp [Bk.size_set]; omega)))
  have z2 := hb0.size
  (try simp only [World.size_alloc, Bk.size_set, World.size_drew, World.drewN] at z2)
  clear hb0
  have l_bs : w.heap.size < w2.heap.size := Bk.Blk.lt bs
  have c_bs0 : w2.cell? ⟨w.heap.size, 0, none⟩ = some (.int .i64 L) := Bk.Blk.cell bs 0
  have f_bs0 : w2.frozen? ⟨w.heap.size, 0, none⟩ = false := Bk.Blk.fro bs 0
  have c_bs1 : w2.cell? ⟨w.heap.size, 1, none⟩ = some (.bool true) := Bk.Blk.cell bs 1
  have f_bs1 : w2.frozen? ⟨w.heap.size, 1, none⟩ = false := Bk.Blk.fro bs 1
  have c_bs2 : w2.cell? ⟨w.heap.size, 2, none⟩ = some (.int .i64 bc) := Bk.Blk.cell bs 2
  have f_bs2 : w2.frozen? ⟨w.heap.size, 2, none⟩ = false := Bk.Blk.fro bs 2
  have c_bs3 : w2.cell? ⟨w.heap.size, 3, none⟩ = some (.int .i64 0) := Bk.Blk.cell bs 3
  have f_bs3 : w2.frozen? ⟨w.heap.size, 3, none⟩ = false := Bk.Blk.fro bs 3
  have c_bs4 : w2.cell? ⟨w.heap.size, 4, none⟩ = some (.bool false) := Bk.Blk.cell bs 4
  have f_bs4 : w2.frozen? ⟨w.heap.size, 4, none⟩ = false := Bk.Blk.fro bs 4
  have l_bb : w.heap.size + 1 < w2.heap.size := Bk.Blk.lt bb
  have c_bb0 : w2.cell? ⟨w.heap.size + 1, 0, none⟩ = some (.int .i64 fr) := Bk.Blk.cell bb 0
  have f_bb0 : w2.frozen? ⟨w.heap.size + 1, 0, none⟩ = false := Bk.Blk.fro bb 0
  have c_bb1 : w2.cell? ⟨w.heap.size + 1, 1, none⟩ = some (.int .i64 sl) := Bk.Blk.cell bb 1
  have f_bb1 : w2.frozen? ⟨w.heap.size + 1, 1, none⟩ = false := Bk.Blk.fro bb 1
  have c_bb2 : w2.cell? ⟨w.heap.size + 1, 2, none⟩ = some (.int .i64 dc) := Bk.Blk.cell bb 2
  have f_bb2 : w2.frozen? ⟨w.heap.size + 1, 2, none⟩ = false := Bk.Blk.fro bb 2
  have c_bb3 : w2.cell? ⟨w.heap.size + 1, 3, none⟩ = some (.int .i64 dp) := Bk.Blk.cell bb 3
  have f_bb3 : w2.frozen? ⟨w.heap.size + 1, 3, none⟩ = false := Bk.Blk.fro bb 3
  have c_bb4 : w2.cell? ⟨w.heap.size + 1, 4, none⟩ = some (.bool false) := Bk.Blk.cell bb 4
  have f_bb4 : w2.frozen? ⟨w.heap.size + 1, 4, none⟩ = false := Bk.Blk.fro bb 4
  have c_bb5 : w2.cell? ⟨w.heap.size + 1, 5, none⟩ = some (.int .i64 ti) := Bk.Blk.cell bb 5
  have f_bb5 : w2.frozen? ⟨w.heap.size + 1, 5, none⟩ = false := Bk.Blk.fro bb 5
  have l_br : w.heap.size + 1 + 1 < w2.heap.size := Bk.Blk.lt br
  have c_br0 : w2.cell? ⟨w.heap.size + 1 + 1, 0, none⟩ = some (.int .i64 0) := Bk.Blk.cell br 0
  have f_br0 : w2.frozen? ⟨w.heap.size + 1 + 1, 0, none⟩ = false := Bk.Blk.fro br 0
  have c_br1 : w2.cell? ⟨w.heap.size + 1 + 1, 1, none⟩ = some (.bool false) := Bk.Blk.cell br 1
  have f_br1 : w2.frozen? ⟨w.heap.size + 1 + 1, 1, none⟩ = false := Bk.Blk.fro br 1
  have c_br2 : w2.cell? ⟨w.heap.size + 1 + 1, 2, none⟩ = some (.int .i64 0) := Bk.Blk.cell br 2
  have f_br2 : w2.frozen? ⟨w.heap.size + 1 + 1, 2, none⟩ = false := Bk.Blk.fro br 2
  have c_br3 : w2.cell? ⟨w.heap.size + 1 + 1, 3, none⟩ = some (.int .i64 0) := Bk.Blk.cell br 3
  have f_br3 : w2.frozen? ⟨w.heap.size + 1 + 1, 3, none⟩ = false := Bk.Blk.fro br 3
  have c_br4 : w2.cell? ⟨w.heap.size + 1 + 1, 4, none⟩ = some (.bool false) := Bk.Blk.cell br 4
  have f_br4 : w2.frozen? ⟨w.heap.size + 1 + 1, 4, none⟩ = false := Bk.Blk.fro br 4
  go_wp2_with fail
  clear l_bs c_bs0 f_bs0 c_bs1 f_bs1 c_bs2 f_bs2 c_bs3 f_bs3 c_bs4 f_bs4 l_bb c_bb0 f_bb0 c_bb1 f_bb1 c_bb2 f_bb2 c_bb3 f_bb3 c_bb4 f_bb4 c_bb5 f_bb5 l_br c_br0 f_br0 c_br1 f_br1 c_br2 f_br2 c_br3 f_br3 c_br4 f_br4
  refine (validB_impl fr sl dc dp false ti _).mono ?_
  rintro x w3 hsay
  obtain ⟨rfl, hb0⟩ := says_true hsay HV.out
  clear hsay
  replace bs : Bk.Blk w3 (w.heap.size) 76 #[.int .i64 L, .bool true, .int .i64 bc, .int .i64 0, .bool false] := Bk.Blk.under hb0 (by (repeat (first | with_reducible assumption | (with_reducible apply Bk.Blk.newAt; focus (first | (simp [Bk.size_set]; done) | (simp [Bk.size_set]; omega))) | with_reducible apply Bk.Blk.drewN | with_reducible apply Bk.Blk.drew | with_reducible apply Bk.Blk.set_ | (with_reducible apply Bk.Blk.far; focus (dsimp only; first | omega | (simp; omega) | (simp; done))) | with_reducible apply Bk.Blk.alloc)))
  replace bb : Bk.Blk w3 (w.heap.size + 1) 43 #[.int .i64 fr, .int .i64 sl, .int .i64 dc, .int .i64 dp, .bool false, .int .i64 ti] := Bk.Blk.under hb0 (by (repeat (first | with_reducible assumption | (with_reducible apply Bk.Blk.newAt; focus (first | (simp [Bk.size_set]; done) | (simp [Bk.size_set]; omega))) | with_reducible apply Bk.Blk.drewN | with_reducible apply Bk.Blk.drew | with_reducible apply Bk.Blk.set_ | (with_reducible apply Bk.Blk.far; focus (dsimp only; first | omega | (simp; omega) | (simp; done))) | with_reducible apply Bk.Blk.alloc)))
  replace br : Bk.Blk w3 (w.heap.size + 1 + 1) 76 #[.int .i64 0, .bool false, .int .i64 0, .int .i64 0, .bool false] := Bk.Blk.under hb0 (by (repeat (first | with_reducible assumption | (with_reducible apply Bk.Blk.newAt; focus (first | (simp [Bk.size_set]; done) | (simp [Bk.size_set]; omega))) | with_reducible apply Bk.Blk.drewN | with_reducible apply Bk.Blk.drew | with_reducible apply Bk.Blk.set_ | (with_reducible apply Bk.Blk.far; focus (dsimp only; first | omega | (simp; omega) | (simp; done))) | with_reducible apply Bk.Blk.alloc)))
  replace B : Below w.heap.size w w3 := Below.trans (by go_grown) (hb0.mono (by first | omega | (simp [Bk.size_set]; done) | (simp [Bk.size_set]; omega)))
  have z3 := hb0.size
  (try simp only [World.size_alloc, Bk.size_set, World.size_drew, World.drewN] at z3)
  clear hb0
  have l_bs : w.heap.size < w3.heap.size := Bk.Blk.lt bs
  have c_bs0 : w3.cell? ⟨w.heap.size, 0, none⟩ = some (.int .i64 L) := Bk.Blk.cell bs 0
  have f_bs0 : w3.frozen? ⟨w.heap.size, 0, none⟩ = false := Bk.Blk.fro bs 0
  have c_bs1 : w3.cell? ⟨w.heap.size, 1, none⟩ = some (.bool true) := Bk.Blk.cell bs 1
  have f_bs1 : w3.frozen? ⟨w.heap.size, 1, none⟩ = false := Bk.Blk.fro bs 1
  have c_bs2 : w3.cell? ⟨w.heap.size, 2, none⟩ = some (.int .i64 bc) := Bk.Blk.cell bs 2
  have f_bs2 : w3.frozen? ⟨w.heap.size, 2, none⟩ = false := Bk.Blk.fro bs 2
  have c_bs3 : w3.cell? ⟨w.heap.size, 3, none⟩ = some (.int .i64 0) := Bk.Blk.cell bs 3
  have f_bs3 : w3.frozen? ⟨w.heap.size, 3, none⟩ = false := Bk.Blk.fro bs 3
  have c_bs4 : w3.cell? ⟨w.heap.size, 4, none⟩ = some (.bool false) := Bk.Blk.cell bs 4
  have f_bs4 : w3.frozen? ⟨w.heap.size, 4, none⟩ = false := Bk.Blk.fro bs 4
  have l_bb : w.heap.size + 1 < w3.heap.size := Bk.Blk.lt bb
  have c_bb0 : w3.cell? ⟨w.heap.size + 1, 0, none⟩ = some (.int .i64 fr) := Bk.Blk.cell bb 0
  have f_bb0 : w3.frozen? ⟨w.heap.size + 1, 0, none⟩ = false := Bk.Blk.fro bb 0
  have c_bb1 : w3.cell? ⟨w.heap.size + 1, 1, none⟩ = some (.int .i64 sl) := Bk.Blk.cell bb 1
  have f_bb1 : w3.frozen? ⟨w.heap.size + 1, 1, none⟩ = false := Bk.Blk.fro bb 1
  have c_bb2 : w3.cell? ⟨w.heap.size + 1, 2, none⟩ = some (.int .i64 dc) := Bk.Blk.cell bb 2
  have f_bb2 : w3.frozen? ⟨w.heap.size + 1, 2, none⟩ = false := Bk.Blk.fro bb 2
  have c_bb3 : w3.cell? ⟨w.heap.size + 1, 3, none⟩ = some (.int .i64 dp) := Bk.Blk.cell bb 3
  have f_bb3 : w3.frozen? ⟨w.heap.size + 1, 3, none⟩ = false := Bk.Blk.fro bb 3
  have c_bb4 : w3.cell? ⟨w.heap.size + 1, 4, none⟩ = some (.bool false) := Bk.Blk.cell bb 4
  have f_bb4 : w3.frozen? ⟨w.heap.size + 1, 4, none⟩ = false := Bk.Blk.fro bb 4
  have c_bb5 : w3.cell? ⟨w.heap.size + 1, 5, none⟩ = some (.int .i64 ti) := Bk.Blk.cell bb 5
  have f_bb5 : w3.frozen? ⟨w.heap.size + 1, 5, none⟩ = false := Bk.Blk.fro bb 5
  have l_br : w.heap.size + 1 + 1 < w3.heap.size := Bk.Blk.lt br
  have c_br0 : w3.cell? ⟨w.heap.size + 1 + 1, 0, none⟩ = some (.int .i64 0) := Bk.Blk.cell br 0
  have f_br0 : w3.frozen? ⟨w.heap.size + 1 + 1, 0, none⟩ = false := Bk.Blk.fro br 0
  have c_br1 : w3.cell? ⟨w.heap.size + 1 + 1, 1, none⟩ = some (.bool false) := Bk.Blk.cell br 1
  have f_br1 : w3.frozen? ⟨w.heap.size + 1 + 1, 1, none⟩ = false := Bk.Blk.fro br 1
  have c_br2 : w3.cell? ⟨w.heap.size + 1 + 1, 2, none⟩ = some (.int .i64 0) := Bk.Blk.cell br 2
  have f_br2 : w3.frozen? ⟨w.heap.size + 1 + 1, 2, none⟩ = false := Bk.Blk.fro br 2
  have c_br3 : w3.cell? ⟨w.heap.size + 1 + 1, 3, none⟩ = some (.int .i64 0) := Bk.Blk.cell br 3
  have f_br3 : w3.frozen? ⟨w.heap.size + 1 + 1, 3, none⟩ = false := Bk.Blk.fro br 3
  have c_br4 : w3.cell? ⟨w.heap.size + 1 + 1, 4, none⟩ = some (.bool false) := Bk.Blk.cell br 4
  have f_br4 : w3.frozen? ⟨w.heap.size + 1 + 1, 4, none⟩ = false := Bk.Blk.fro br 4
  go_wp2_with fail
  clear l_bs c_bs0 f_bs0 c_bs1 f_bs1 c_bs2 f_bs2 c_bs3 f_bs3 c_bs4 f_bs4 l_bb c_bb0 f_bb0 c_bb1 f_bb1 c_bb2 f_bb2 c_bb3 f_bb3 c_bb4 f_bb4 c_bb5 f_bb5 l_br c_br0 f_br0 c_br1 f_br1 c_br2 f_br2 c_br3 f_br3 c_br4 f_br4
  generalize hW : World.setCell _ _ _ = w4
  replace bs : Bk.Blk w4 (w.heap.size) 76 #[.int .i64 L, .bool true, .int .i64 bc, .int .i64 0, .bool false] := (by rw [← hW]; apply Bk.Blk.to; (focus ((repeat (first | with_reducible assumption | (with_reducible apply Bk.Blk.newAt; focus (first | (simp [Bk.size_set]; done) | (simp [Bk.size_set]; omega))) | with_reducible apply Bk.Blk.drewN | with_reducible apply Bk.Blk.drew | with_reducible apply Bk.Blk.set_ | (with_reducible apply Bk.Blk.far; focus (dsimp only; first | omega | (simp; omega) | (simp; done))) | with_reducible apply Bk.Blk.alloc)))); rfl)
  replace bb : Bk.Blk w4 (w.heap.size + 1) 43 #[.int .i64 fr, .int .i64 sl, .int .i64 dc, .int .i64 dp, .bool false, .int .i64 ti] := (by rw [← hW]; (repeat (first | with_reducible assumption | (with_reducible apply Bk.Blk.newAt; focus (first | (simp [Bk.size_set]; done) | (simp [Bk.size_set]; omega))) | with_reducible apply Bk.Blk.drewN | with_reducible apply Bk.Blk.drew | with_reducible apply Bk.Blk.set_ | (with_reducible apply Bk.Blk.far; focus (dsimp only; first | omega | (simp; omega) | (simp; done))) | with_reducible apply Bk.Blk.alloc)))
  replace br : Bk.Blk w4 (w.heap.size + 1 + 1) 76 #[.int .i64 0, .bool false, .int .i64 0, .int .i64 0, .bool false] := (by rw [← hW]; (repeat (first | with_reducible assumption | (with_reducible apply Bk.Blk.newAt; focus (first | (simp [Bk.size_set]; done) | (simp [Bk.size_set]; omega))) | with_reducible apply Bk.Blk.drewN | with_reducible apply Bk.Blk.drew | with_reducible apply Bk.Blk.set_ | (with_reducible apply Bk.Blk.far; focus (dsimp only; first | omega | (simp; omega) | (simp; done))) | with_reducible apply Bk.Blk.alloc)))
  replace B : Below w.heap.size w w4 := (by rw [← hW]; go_grown)
  have z4 : w4.heap.size = _ := congrArg (fun W : World => W.heap.size) hW.symm
  (try simp only [World.size_alloc, Bk.size_set, World.size_drew, World.drewN] at z4)
  clear hW
  refine (tim_any st fr sl dc dp ti false true _ h0 h15 htc).mono ?_
  rintro x w5 ⟨rfl, hb0⟩
  replace bs : Bk.Blk w5 (w.heap.size) 76 #[.int .i64 L, .bool true, .int .i64 bc, .int .i64 0, .bool false] := Bk.Blk.under hb0 (by (repeat (first | with_reducible assumption | (with_reducible apply Bk.Blk.newAt; focus (first | (simp [Bk.size_set]; done) | (simp [Bk.size_set]; omega))) | with_reducible apply Bk.Blk.drewN | with_reducible apply Bk.Blk.drew | with_reducible apply Bk.Blk.set_ | (with_reducible apply Bk.Blk.far; focus (dsimp only; first | omega | (simp; omega) | (simp; done))) | with_reducible apply Bk.Blk.alloc)))
  replace bb : Bk.Blk w5 (w.heap.size + 1) 43 #[.int .i64 fr, .int .i64 sl, .int .i64 dc, .int .i64 dp, .bool false, .int .i64 ti] := Bk.Blk.under hb0 (by (repeat (first | with_reducible assumption | (with_reducible apply Bk.Blk.newAt; focus (first | (simp [Bk.size_set]; done) | (simp [Bk.size_set]; omega))) | with_reducible apply Bk.Blk.drewN | with_reducible apply Bk.Blk.drew | with_reducible apply Bk.Blk.set_ | (with_reducible apply Bk.Blk.far; focus (dsimp only; first | omega | (simp; omega) | (simp; done))) | with_reducible apply Bk.Blk.alloc)))
  replace br : Bk.Blk w5 (w.heap.size + 1 + 1) 76 #[.int .i64 0, .bool false, .int .i64 0, .int .i64 0, .bool false] := Bk.Blk.under hb0 (by (repeat (first | with_reducible assumption | (with_reducible apply Bk.Blk.newAt; focus (first | (simp [Bk.size_set]; done) | (simp [Bk.size_set]; omega))) | with_reducible apply Bk.Blk.drewN | with_reducible apply Bk.Blk.drew | with_reducible apply Bk.Blk.set_ | (with_reducible apply Bk.Blk.far; focus (dsimp only; first | omega | (simp; omega) | (simp; done))) | with_reducible apply Bk.Blk.alloc)))
  replace B : Below w.heap.size w w5 := Below.trans (by go_grown) (hb0.mono (by first | omega | (simp [Bk.size_set]; done) | (simp [Bk.size_set]; omega)))
  have z5 := hb0.size
  (try simp only [World.size_alloc, Bk.size_set, World.size_drew, World.drewN] at z5)
  clear hb0
  have l_bs : w.heap.size < w5.heap.size := Bk.Blk.lt bs
  have c_bs0 : w5.cell? ⟨w.heap.size, 0, none⟩ = some (.int .i64 L) := Bk.Blk.cell bs 0
  have f_bs0 : w5.frozen? ⟨w.heap.size, 0, none⟩ = false := Bk.Blk.fro bs 0
  have c_bs1 : w5.cell? ⟨w.heap.size, 1, none⟩ = some (.bool true) := Bk.Blk.cell bs 1
  have f_bs1 : w5.frozen? ⟨w.heap.size, 1, none⟩ = false := Bk.Blk.fro bs 1
  have c_bs2 : w5.cell? ⟨w.heap.size, 2, none⟩ = some (.int .i64 bc) := Bk.Blk.cell bs 2
  have f_bs2 : w5.frozen? ⟨w.heap.size, 2, none⟩ = false := Bk.Blk.fro bs 2
  have c_bs3 : w5.cell? ⟨w.heap.size, 3, none⟩ = some (.int .i64 0) := Bk.Blk.cell bs 3
  have f_bs3 : w5.frozen? ⟨w.heap.size, 3, none⟩ = false := Bk.Blk.fro bs 3
  have c_bs4 : w5.cell? ⟨w.heap.size, 4, none⟩ = some (.bool false) := Bk.Blk.cell bs 4
  have f_bs4 : w5.frozen? ⟨w.heap.size, 4, none⟩ = false := Bk.Blk.fro bs 4
  have l_bb : w.heap.size + 1 < w5.heap.size := Bk.Blk.lt bb
  have c_bb0 : w5.cell? ⟨w.heap.size + 1, 0, none⟩ = some (.int .i64 fr) := Bk.Blk.cell bb 0
  have f_bb0 : w5.frozen? ⟨w.heap.size + 1, 0, none⟩ = false := Bk.Blk.fro bb 0
  have c_bb1 : w5.cell? ⟨w.heap.size + 1, 1, none⟩ = some (.int .i64 sl) := Bk.Blk.cell bb 1
  have f_bb1 : w5.frozen? ⟨w.heap.size + 1, 1, none⟩ = false := Bk.Blk.fro bb 1
  have c_bb2 : w5.cell? ⟨w.heap.size + 1, 2, none⟩ = some (.int .i64 dc) := Bk.Blk.cell bb 2
  have f_bb2 : w5.frozen? ⟨w.heap.size + 1, 2, none⟩ = false := Bk.Blk.fro bb 2
  have c_bb3 : w5.cell? ⟨w.heap.size + 1, 3, none⟩ = some (.int .i64 dp) := Bk.Blk.cell bb 3
  have f_bb3 : w5.frozen? ⟨w.heap.size + 1, 3, none⟩ = false := Bk.Blk.fro bb 3
  have c_bb4 : w5.cell? ⟨w.heap.size + 1, 4, none⟩ = some (.bool false) := Bk.Blk.cell bb 4
  have f_bb4 : w5.frozen? ⟨w.heap.size + 1, 4, none⟩ = false := Bk.Blk.fro bb 4
  have c_bb5 : w5.cell? ⟨w.heap.size + 1, 5, none⟩ = some (.int .i64 ti) := Bk.Blk.cell bb 5
  have f_bb5 : w5.frozen? ⟨w.heap.size + 1, 5, none⟩ = false := Bk.Blk.fro bb 5
  have l_br : w.heap.size + 1 + 1 < w5.heap.size := Bk.Blk.lt br
  have c_br0 : w5.cell? ⟨w.heap.size + 1 + 1, 0, none⟩ = some (.int .i64 0) := Bk.Blk.cell br 0
  have f_br0 : w5.frozen? ⟨w.heap.size + 1 + 1, 0, none⟩ = false := Bk.Blk.fro br 0
  have c_br1 : w5.cell? ⟨w.heap.size + 1 + 1, 1, none⟩ = some (.bool false) := Bk.Blk.cell br 1
  have f_br1 : w5.frozen? ⟨w.heap.size + 1 + 1, 1, none⟩ = false := Bk.Blk.fro br 1
  have c_br2 : w5.cell? ⟨w.heap.size + 1 + 1, 2, none⟩ = some (.int .i64 0) := Bk.Blk.cell br 2
  have f_br2 : w5.frozen? ⟨w.heap.size + 1 + 1, 2, none⟩ = false := Bk.Blk.fro br 2
  have c_br3 : w5.cell? ⟨w.heap.size + 1 + 1, 3, none⟩ = some (.int .i64 0) := Bk.Blk.cell br 3
  have f_br3 : w5.frozen? ⟨w.heap.size + 1 + 1, 3, none⟩ = false := Bk.Blk.fro br 3
  have c_br4 : w5.cell? ⟨w.heap.size + 1 + 1, 4, none⟩ = some (.bool false) := Bk.Blk.cell br 4
  have f_br4 : w5.frozen? ⟨w.heap.size + 1 + 1, 4, none⟩ = false := Bk.Blk.fro br 4
  go_wp2_with fail
  clear l_bs c_bs0 f_bs0 c_bs1 f_bs1 c_bs2 f_bs2 c_bs3 f_bs3 c_bs4 f_bs4 l_bb c_bb0 f_bb0 c_bb1 f_bb1 c_bb2 f_bb2 c_bb3 f_bb3 c_bb4 f_bb4 c_bb5 f_bb5 l_br c_br0 f_br0 c_br1 f_br1 c_br2 f_br2 c_br3 f_br3 c_br4 f_br4
  generalize hW : World.setCell _ _ _ = w6
  replace bs : Bk.Blk w6 (w.heap.size) 76 #[.int .i64 L, .bool true, .int .i64 bc, .int .i64 1, .bool false] := (by rw [← hW]; apply Bk.Blk.to; (focus ((repeat (first | with_reducible assumption | (with_reducible apply Bk.Blk.newAt; focus (first | (simp [Bk.size_set]; done) | (simp [Bk.size_set]; omega))) | with_reducible apply Bk.Blk.drewN | with_reducible apply Bk.Blk.drew | with_reducible apply Bk.Blk.set_ | (with_reducible apply Bk.Blk.far; focus (dsimp only; first | omega | (simp; omega) | (simp; done))) | with_reducible apply Bk.Blk.alloc)))); rfl)
  replace bb : Bk.Blk w6 (w.heap.size + 1) 43 #[.int .i64 fr, .int .i64 sl, .int .i64 dc, .int .i64 dp, .bool false, .int .i64 ti] := (by rw [← hW]; (repeat (first | with_reducible assumption | (with_reducible apply Bk.Blk.newAt; focus (first | (simp [Bk.size_set]; done) | (simp [Bk.size_set]; omega))) | with_reducible apply Bk.Blk.drewN | with_reducible apply Bk.Blk.drew | with_reducible apply Bk.Blk.set_ | (with_reducible apply Bk.Blk.far; focus (dsimp only; first | omega | (simp; omega) | (simp; done))) | with_reducible apply Bk.Blk.alloc)))
  replace br : Bk.Blk w6 (w.heap.size + 1 + 1) 76 #[.int .i64 0, .bool false, .int .i64 0, .int .i64 0, .bool false] := (by rw [← hW]; (repeat (first | with_reducible assumption | (with_reducible apply Bk.Blk.newAt; focus (first | (simp [Bk.size_set]; done) | (simp [Bk.size_set]; omega))) | with_reducible apply Bk.Blk.drewN | with_reducible apply Bk.Blk.drew | with_reducible apply Bk.Blk.set_ | (with_reducible apply Bk.Blk.far; focus (dsimp only; first | omega | (simp; omega) | (simp; done))) | with_reducible apply Bk.Blk.alloc)))
  replace B : Below w.heap.size w w6 := (by rw [← hW]; go_grown)
  have z6 : w6.heap.size = _ := congrArg (fun W : World => W.heap.size) hW.symm
  (try simp only [World.size_alloc, Bk.size_set, World.size_drew, World.drewN] at z6)
  clear hW
  refine (must_any L bc 1 true false _ true rfl).mono ?_
  rintro x w7 ⟨rfl, hb0⟩
  replace bs : Bk.Blk w7 (w.heap.size) 76 #[.int .i64 L, .bool true, .int .i64 bc, .int .i64 1, .bool false] := Bk.Blk.under hb0 (by (repeat (first | with_reducible assumption | (with_reducible apply Bk.Blk.newAt; focus (first | (simp [Bk.size_set]; done) | (simp [Bk.size_set]; omega))) | with_reducible apply Bk.Blk.drewN | with_reducible apply Bk.Blk.drew | with_reducible apply Bk.Blk.set_ | (with_reducible apply Bk.Blk.far; focus (dsimp only; first | omega | (simp; omega) | (simp; done))) | with_reducible apply Bk.Blk.alloc)))
  replace bb : Bk.Blk w7 (w.heap.size + 1) 43 #[.int .i64 fr, .int .i64 sl, .int .i64 dc, .int .i64 dp, .bool false, .int .i64 ti] := Bk.Blk.under hb0 (by (repeat (first | with_reducible assumption | (with_reducible apply Bk.Blk.newAt; focus (first | (simp [Bk.size_set]; done) | (simp [Bk.size_set]; omega))) | with_reducible apply Bk.Blk.drewN | with_reducible apply Bk.Blk.drew | with_reducible apply Bk.Blk.set_ | (with_reducible apply Bk.Blk.far; focus (dsimp only; first | omega | (simp; omega) | (simp; done))) | with_reducible apply Bk.Blk.alloc)))
  replace br : Bk.Blk w7 (w.heap.size + 1 + 1) 76 #[.int .i64 0, .bool false, .int .i64 0, .int .i64 0, .bool false] := Bk.Blk.under hb0 (by (repeat (first | with_reducible assumption | (with_reducible apply Bk.Blk.newAt; focus (first | (simp [Bk.size_set]; done) | (simp [Bk.size_set]; omega))) | with_reducible apply Bk.Blk.drewN | with_reducible apply Bk.Blk.drew | with_reducible apply Bk.Blk.set_ | (with_reducible apply Bk.Blk.far; focus (dsimp only; first | omega | (simp; omega) | (simp; done))) | with_reducible apply Bk.Blk.alloc)))
  replace B : Below w.heap.size w w7 := Below.trans (by go_grown) (hb0.mono (by first | omega | (simp [Bk.size_set]; done) | (simp [Bk.size_set]; omega)))
  have z7 := hb0.size
  (try simp only [World.size_alloc, Bk.size_set, World.size_drew, World.drewN] at z7)
  clear hb0
  have l_bs : w.heap.size < w7.heap.size := Bk.Blk.lt bs
  have c_bs0 : w7.cell? ⟨w.heap.size, 0, none⟩ = some (.int .i64 L) := Bk.Blk.cell bs 0
  have f_bs0 : w7.frozen? ⟨w.heap.size, 0, none⟩ = false := Bk.Blk.fro bs 0
  have c_bs1 : w7.cell? ⟨w.heap.size, 1, none⟩ = some (.bool true) := Bk.Blk.cell bs 1
  have f_bs1 : w7.frozen? ⟨w.heap.size, 1, none⟩ = false := Bk.Blk.fro bs 1
  have c_bs2 : w7.cell? ⟨w.heap.size, 2, none⟩ = some (.int .i64 bc) := Bk.Blk.cell bs 2
  have f_bs2 : w7.frozen? ⟨w.heap.size, 2, none⟩ = false := Bk.Blk.fro bs 2
  have c_bs3 : w7.cell? ⟨w.heap.size, 3, none⟩ = some (.int .i64 1) := Bk.Blk.cell bs 3
  have f_bs3 : w7.frozen? ⟨w.heap.size, 3, none⟩ = false := Bk.Blk.fro bs 3
  have c_bs4 : w7.cell? ⟨w.heap.size, 4, none⟩ = some (.bool false) := Bk.Blk.cell bs 4
  have f_bs4 : w7.frozen? ⟨w.heap.size, 4, none⟩ = false := Bk.Blk.fro bs 4
  have l_br : w.heap.size + 1 + 1 < w7.heap.size := Bk.Blk.lt br
  have c_br0 : w7.cell? ⟨w.heap.size + 1 + 1, 0, none⟩ = some (.int .i64 0) := Bk.Blk.cell br 0
  have f_br0 : w7.frozen? ⟨w.heap.size + 1 + 1, 0, none⟩ = false := Bk.Blk.fro br 0
  have c_br1 : w7.cell? ⟨w.heap.size + 1 + 1, 1, none⟩ = some (.bool false) := Bk.Blk.cell br 1
  have f_br1 : w7.frozen? ⟨w.heap.size + 1 + 1, 1, none⟩ = false := Bk.Blk.fro br 1
  have c_br2 : w7.cell? ⟨w.heap.size + 1 + 1, 2, none⟩ = some (.int .i64 0) := Bk.Blk.cell br 2
  have f_br2 : w7.frozen? ⟨w.heap.size + 1 + 1, 2, none⟩ = false := Bk.Blk.fro br 2
  have c_br3 : w7.cell? ⟨w.heap.size + 1 + 1, 3, none⟩ = some (.int .i64 0) := Bk.Blk.cell br 3
  have f_br3 : w7.frozen? ⟨w.heap.size + 1 + 1, 3, none⟩ = false := Bk.Blk.fro br 3
  have c_br4 : w7.cell? ⟨w.heap.size + 1 + 1, 4, none⟩ = some (.bool false) := Bk.Blk.cell br 4
  have f_br4 : w7.frozen? ⟨w.heap.size + 1 + 1, 4, none⟩ = false := Bk.Blk.fro br 4
  go_wp2_with fail
  clear l_bs c_bs0 f_bs0 c_bs1 f_bs1 c_bs2 f_bs2 c_bs3 f_bs3 c_bs4 f_bs4 l_br c_br0 f_br0 c_br1 f_br1 c_br2 f_br2 c_br3 f_br3 c_br4 f_br4
  generalize hW : World.setCell _ _ _ = w8
  replace br : Bk.Blk w8 (w.heap.size + 1 + 1) 76 #[.int .i64 L, .bool true, .int .i64 bc, .int .i64 1, .bool false] := (by rw [← hW]; apply Bk.Blk.to; (focus ((repeat (first | with_reducible assumption | (with_reducible apply Bk.Blk.newAt; focus (first | (simp [Bk.size_set]; done) | (simp [Bk.size_set]; omega))) | with_reducible apply Bk.Blk.drewN | with_reducible apply Bk.Blk.drew | with_reducible apply Bk.Blk.set_ | (with_reducible apply Bk.Blk.far; focus (dsimp only; first | omega | (simp; omega) | (simp; done))) | with_reducible apply Bk.Blk.alloc)))); rfl)
  replace B : Below w.heap.size w w8 := (by rw [← hW]; go_grown)
  have z8 : w8.heap.size = _ := congrArg (fun W : World => W.heap.size) hW.symm
  (try simp only [World.size_alloc, Bk.size_set, World.size_drew, World.drewN] at z8)
  clear hW
  have l_br : w.heap.size + 1 + 1 < w8.heap.size := Bk.Blk.lt br
  have c_br0 : w8.cell? ⟨w.heap.size + 1 + 1, 0, none⟩ = some (.int .i64 L) := Bk.Blk.cell br 0
  have f_br0 : w8.frozen? ⟨w.heap.size + 1 + 1, 0, none⟩ = false := Bk.Blk.fro br 0
  have c_br1 : w8.cell? ⟨w.heap.size + 1 + 1, 1, none⟩ = some (.bool true) := Bk.Blk.cell br 1
  have f_br1 : w8.frozen? ⟨w.heap.size + 1 + 1, 1, none⟩ = false := Bk.Blk.fro br 1
  have c_br2 : w8.cell? ⟨w.heap.size + 1 + 1, 2, none⟩ = some (.int .i64 bc) := Bk.Blk.cell br 2
  have f_br2 : w8.frozen? ⟨w.heap.size + 1 + 1, 2, none⟩ = false := Bk.Blk.fro br 2
  have c_br3 : w8.cell? ⟨w.heap.size + 1 + 1, 3, none⟩ = some (.int .i64 1) := Bk.Blk.cell br 3
  have f_br3 : w8.frozen? ⟨w.heap.size + 1 + 1, 3, none⟩ = false := Bk.Blk.fro br 3
  have c_br4 : w8.cell? ⟨w.heap.size + 1 + 1, 4, none⟩ = some (.bool false) := Bk.Blk.cell br 4
  have f_br4 : w8.frozen? ⟨w.heap.size + 1 + 1, 4, none⟩ = false := Bk.Blk.fro br 4
  go_wp2
  refine bodyPost_ret (v := .tuple #[sv L true bc 1 false, .bool true]) (by simp [results, Try.results55, go_sem, c_br0, c_br1, c_br2, c_br3, c_br4]) rfl (⟨rfl, B⟩)
end Go.Proofs.Ythdieeaegplnmaa.Slp
