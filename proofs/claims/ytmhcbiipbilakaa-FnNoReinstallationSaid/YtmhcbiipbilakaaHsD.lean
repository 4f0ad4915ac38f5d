/- The draw of both sides. -/
import Derived.Test.YtmhcbiipbilakaaHsF
import Derived.Test.YtmhcbiipbilakaaCurB
namespace Go.Proofs.Ytmhcbiipbilakaa.Hs
open Go.RowKit
open Go.Proofs.Ytmhcbiipbilakaa.Num Go.Proofs.Ytmhcbiipbilakaa.Mem Go.Proofs.Ytmhcbiipbilakaa.Hsh Go.Proofs.Ytmhcbiipbilakaa.Keys Go.Proofs.Ytmhcbiipbilakaa.Hand Go.Proofs.Ytmhcbiipbilakaa.Auth Go.Proofs.Ytmhcbiipbilakaa.Cur
set_option linter.unusedSimpArgs false
set_option linter.unusedVariables false
/-- both sides of a handshake that begins -/
def DrewSides (w : World) (e : Ending) (w' : World) : Prop :=
  ∃ p : Par, p.Ok ∧ e = .returned (.tuple #[.agg #[.int .i64 p.K, .int .i64 p.A, .int .i64 0, .int .i64 0, .int .i64 p.G, .int .i64 0, .bool false], .agg #[.int .i64 p.K, .int .i64 p.S, .int .i64 0, .int .i64 0, .int .i64 0, .int .i64 0, .int .i64 0]]) ∧ Below w.heap.size w w'
theorem sides_ok {x y z u : Int} (h1 : 0 ≤ x ∧ x < 50) (h2 : 0 ≤ y ∧ y < 50) (h3 : 0 ≤ z ∧ z < 900) (h4 : 0 ≤ u ∧ u < 50) : (Par.mk (1 + x) (1000 + y) (2000 + u) (1 + z)).Ok := ⟨by dsimp only; omega, by dsimp only; omega, by dsimp only; omega, by dsimp only; omega⟩
set_option maxHeartbeats 4000000 in
theorem drawSides_any (A : Option Addr) (n c : Nat) (bs : List Int) (w : World) (hr : Rd w 1 A n c (bs.map (Value.int .u8))) (hb : AllBytes bs) (hn : n ≤ 2097152) :
    Calls Try.prog 32 #[.slice A n c] w (DrewSides w) := by
  have HAL := Lib.hid (CurB.old_of hr)
  have HR := Lib.hid hr
  have HB := Lib.hid hb
  have HN := Lib.hid hn
  have B : Below w.heap.size w w := Below.refl _ _
  clear hr hb
  go_enter Try.func32, Try.ntmps32
  go_wp2_with fail
  refine (l1New_any A n c bs _ ((HR.out.alloc _).alloc _) HB.out hn).mono ?_
  rintro e w1 ⟨h, rfl, rfl⟩
  simp only [World.size_alloc]
  generalize hW : World.alloc _ _ = w1
  have ra : Bk.Blk w1 (w.heap.size) 36 #[.int .i64 0, .int .i64 0, .int .i64 0, .int .i64 0, .int .i64 0, .int .i64 0, .bool false] := (by rw [← hW]; apply Bk.Blk.to; (focus ((repeat (first | with_reducible assumption | (with_reducible apply Bk.Blk.newAt; focus (first | (simp [Bk.size_set]; done) | (simp [Bk.size_set]; omega))) | with_reducible apply Bk.Blk.drewN | with_reducible apply Bk.Blk.drew | with_reducible apply Bk.Blk.set_ | (with_reducible apply Bk.Blk.far; focus (dsimp only; first | omega | (simp; omega) | (simp; done))) | with_reducible apply Bk.Blk.alloc)))); rfl)
  have rs : Bk.Blk w1 (w.heap.size + 1) 47 #[.int .i64 0, .int .i64 0, .int .i64 0, .int .i64 0, .int .i64 0, .int .i64 0, .int .i64 0] := (by rw [← hW]; apply Bk.Blk.to; (focus ((repeat (first | with_reducible assumption | (with_reducible apply Bk.Blk.newAt; focus (first | (simp [Bk.size_set]; done) | (simp [Bk.size_set]; omega))) | with_reducible apply Bk.Blk.drewN | with_reducible apply Bk.Blk.drew | with_reducible apply Bk.Blk.set_ | (with_reducible apply Bk.Blk.far; focus (dsimp only; first | omega | (simp; omega) | (simp; done))) | with_reducible apply Bk.Blk.alloc)))); rfl)
  have C : Cur.Cur w1 (w.heap.size + 1 + 1) A n c bs := (by rw [← hW]; exact CurB.cur_newAt (by first | rfl | (simp; done)) (by first | exact HR.out | exact HR.out.alloc _ | exact (HR.out.alloc _).alloc _ | exact ((HR.out.alloc _).alloc _).alloc _) HB.out HN.out _)
  replace B : Below w.heap.size w w1 := (by rw [← hW]; go_grown)
  have z1 : w1.heap.size = _ := congrArg (fun W : World => W.heap.size) hW.symm
  (try simp only [World.size_alloc, Bk.size_set, World.size_drew, World.drewN] at z1)
  clear hW
  go_wp2_with fail
  refine (l1Below_any A n c bs _ _ _ (by (repeat (first | with_reducible assumption | with_reducible apply Cur.Cur.alloc | with_reducible apply CurB.cur_drewN | with_reducible apply CurB.cur_drew | ((with_reducible refine CurB.cur_set HAL.out ?_ ?_ ?_ _); focus (first | omega | (dsimp only; done) | (dsimp only; omega)); focus (first | omega | (dsimp only; omega)))))) (by omega) (by omega)).mono ?_
  rintro x w2 ⟨x, hx, rfl, C0, hg0⟩
  replace ra : Bk.Blk w2 (w.heap.size) 36 #[.int .i64 0, .int .i64 0, .int .i64 0, .int .i64 0, .int .i64 0, .int .i64 0, .bool false] := Bk.Blk.grown hg0 (by omega) (by (repeat (first | with_reducible assumption | (with_reducible apply Bk.Blk.newAt; focus (first | (simp [Bk.size_set]; done) | (simp [Bk.size_set]; omega))) | with_reducible apply Bk.Blk.drewN | with_reducible apply Bk.Blk.drew | with_reducible apply Bk.Blk.set_ | (with_reducible apply Bk.Blk.far; focus (dsimp only; first | omega | (simp; omega) | (simp; done))) | with_reducible apply Bk.Blk.alloc)))
  replace rs : Bk.Blk w2 (w.heap.size + 1) 47 #[.int .i64 0, .int .i64 0, .int .i64 0, .int .i64 0, .int .i64 0, .int .i64 0, .int .i64 0] := Bk.Blk.grown hg0 (by omega) (by (repeat (first | with_reducible assumption | (with_reducible apply Bk.Blk.newAt; focus (first | (simp [Bk.size_set]; done) | (simp [Bk.size_set]; omega))) | with_reducible apply Bk.Blk.drewN | with_reducible apply Bk.Blk.drew | with_reducible apply Bk.Blk.set_ | (with_reducible apply Bk.Blk.far; focus (dsimp only; first | omega | (simp; omega) | (simp; done))) | with_reducible apply Bk.Blk.alloc)))
  replace C := C0
  replace B : Below w.heap.size w w2 := Bk.below_grown (by go_grown) hg0 (by omega) (by first | omega | (simp [Bk.size_set]; done) | (simp [Bk.size_set]; omega))
  have z2 := hg0.size
  (try simp only [World.size_alloc, Bk.size_set, World.size_drew, World.drewN] at z2)
  clear hg0
  have HX := Lib.hid hx
  obtain ⟨x0, x1⟩ := hx
  go_wp2_with fail
  refine (l1Below_any A n c bs _ _ _ (by (repeat (first | with_reducible assumption | with_reducible apply Cur.Cur.alloc | with_reducible apply CurB.cur_drewN | with_reducible apply CurB.cur_drew | ((with_reducible refine CurB.cur_set HAL.out ?_ ?_ ?_ _); focus (first | omega | (dsimp only; done) | (dsimp only; omega)); focus (first | omega | (dsimp only; omega)))))) (by omega) (by omega)).mono ?_
  rintro x w3 ⟨y, hy, rfl, C0, hg0⟩
  replace ra : Bk.Blk w3 (w.heap.size) 36 #[.int .i64 0, .int .i64 0, .int .i64 0, .int .i64 0, .int .i64 0, .int .i64 0, .bool false] := Bk.Blk.grown hg0 (by omega) (by (repeat (first | with_reducible assumption | (with_reducible apply Bk.Blk.newAt; focus (first | (simp [Bk.size_set]; done) | (simp [Bk.size_set]; omega))) | with_reducible apply Bk.Blk.drewN | with_reducible apply Bk.Blk.drew | with_reducible apply Bk.Blk.set_ | (with_reducible apply Bk.Blk.far; focus (dsimp only; first | omega | (simp; omega) | (simp; done))) | with_reducible apply Bk.Blk.alloc)))
  replace rs : Bk.Blk w3 (w.heap.size + 1) 47 #[.int .i64 0, .int .i64 0, .int .i64 0, .int .i64 0, .int .i64 0, .int .i64 0, .int .i64 0] := Bk.Blk.grown hg0 (by omega) (by (repeat (first | with_reducible assumption | (with_reducible apply Bk.Blk.newAt; focus (first | (simp [Bk.size_set]; done) | (simp [Bk.size_set]; omega))) | with_reducible apply Bk.Blk.drewN | with_reducible apply Bk.Blk.drew | with_reducible apply Bk.Blk.set_ | (with_reducible apply Bk.Blk.far; focus (dsimp only; first | omega | (simp; omega) | (simp; done))) | with_reducible apply Bk.Blk.alloc)))
  replace C := C0
  replace B : Below w.heap.size w w3 := Bk.below_grown (by go_grown) hg0 (by omega) (by first | omega | (simp [Bk.size_set]; done) | (simp [Bk.size_set]; omega))
  have z3 := hg0.size
  (try simp only [World.size_alloc, Bk.size_set, World.size_drew, World.drewN] at z3)
  clear hg0
  have HY := Lib.hid hy
  obtain ⟨y0, y1⟩ := hy
  go_wp2_with fail
  refine (l1Below_any A n c bs _ _ _ (by (repeat (first | with_reducible assumption | with_reducible apply Cur.Cur.alloc | with_reducible apply CurB.cur_drewN | with_reducible apply CurB.cur_drew | ((with_reducible refine CurB.cur_set HAL.out ?_ ?_ ?_ _); focus (first | omega | (dsimp only; done) | (dsimp only; omega)); focus (first | omega | (dsimp only; omega)))))) (by omega) (by omega)).mono ?_
  rintro x w4 ⟨z, hz, rfl, C0, hg0⟩
  replace ra : Bk.Blk w4 (w.heap.size) 36 #[.int .i64 0, .int .i64 0, .int .i64 0, .int .i64 0, .int .i64 0, .int .i64 0, .bool false] := Bk.Blk.grown hg0 (by omega) (by (repeat (first | with_reducible assumption | (with_reducible apply Bk.Blk.newAt; focus (first | (simp [Bk.size_set]; done) | (simp [Bk.size_set]; omega))) | with_reducible apply Bk.Blk.drewN | with_reducible apply Bk.Blk.drew | with_reducible apply Bk.Blk.set_ | (with_reducible apply Bk.Blk.far; focus (dsimp only; first | omega | (simp; omega) | (simp; done))) | with_reducible apply Bk.Blk.alloc)))
  replace rs : Bk.Blk w4 (w.heap.size + 1) 47 #[.int .i64 0, .int .i64 0, .int .i64 0, .int .i64 0, .int .i64 0, .int .i64 0, .int .i64 0] := Bk.Blk.grown hg0 (by omega) (by (repeat (first | with_reducible assumption | (with_reducible apply Bk.Blk.newAt; focus (first | (simp [Bk.size_set]; done) | (simp [Bk.size_set]; omega))) | with_reducible apply Bk.Blk.drewN | with_reducible apply Bk.Blk.drew | with_reducible apply Bk.Blk.set_ | (with_reducible apply Bk.Blk.far; focus (dsimp only; first | omega | (simp; omega) | (simp; done))) | with_reducible apply Bk.Blk.alloc)))
  replace C := C0
  replace B : Below w.heap.size w w4 := Bk.below_grown (by go_grown) hg0 (by omega) (by first | omega | (simp [Bk.size_set]; done) | (simp [Bk.size_set]; omega))
  have z4 := hg0.size
  (try simp only [World.size_alloc, Bk.size_set, World.size_drew, World.drewN] at z4)
  clear hg0
  have HZ := Lib.hid hz
  obtain ⟨z0', z1'⟩ := hz
  go_wp2_with fail
  refine (l1Below_any A n c bs _ _ _ (by (repeat (first | with_reducible assumption | with_reducible apply Cur.Cur.alloc | with_reducible apply CurB.cur_drewN | with_reducible apply CurB.cur_drew | ((with_reducible refine CurB.cur_set HAL.out ?_ ?_ ?_ _); focus (first | omega | (dsimp only; done) | (dsimp only; omega)); focus (first | omega | (dsimp only; omega)))))) (by omega) (by omega)).mono ?_
  rintro x w5 ⟨u, hu, rfl, C0, hg0⟩
  replace ra : Bk.Blk w5 (w.heap.size) 36 #[.int .i64 0, .int .i64 0, .int .i64 0, .int .i64 0, .int .i64 0, .int .i64 0, .bool false] := Bk.Blk.grown hg0 (by omega) (by (repeat (first | with_reducible assumption | (with_reducible apply Bk.Blk.newAt; focus (first | (simp [Bk.size_set]; done) | (simp [Bk.size_set]; omega))) | with_reducible apply Bk.Blk.drewN | with_reducible apply Bk.Blk.drew | with_reducible apply Bk.Blk.set_ | (with_reducible apply Bk.Blk.far; focus (dsimp only; first | omega | (simp; omega) | (simp; done))) | with_reducible apply Bk.Blk.alloc)))
  replace rs : Bk.Blk w5 (w.heap.size + 1) 47 #[.int .i64 0, .int .i64 0, .int .i64 0, .int .i64 0, .int .i64 0, .int .i64 0, .int .i64 0] := Bk.Blk.grown hg0 (by omega) (by (repeat (first | with_reducible assumption | (with_reducible apply Bk.Blk.newAt; focus (first | (simp [Bk.size_set]; done) | (simp [Bk.size_set]; omega))) | with_reducible apply Bk.Blk.drewN | with_reducible apply Bk.Blk.drew | with_reducible apply Bk.Blk.set_ | (with_reducible apply Bk.Blk.far; focus (dsimp only; first | omega | (simp; omega) | (simp; done))) | with_reducible apply Bk.Blk.alloc)))
  replace C := C0
  replace B : Below w.heap.size w w5 := Bk.below_grown (by go_grown) hg0 (by omega) (by first | omega | (simp [Bk.size_set]; done) | (simp [Bk.size_set]; omega))
  have z5 := hg0.size
  (try simp only [World.size_alloc, Bk.size_set, World.size_drew, World.drewN] at z5)
  clear hg0
  have HU := Lib.hid hu
  obtain ⟨u0, u1⟩ := hu
  have l_ra : w.heap.size < w5.heap.size := Bk.Blk.lt ra
  have c_ra0 : w5.cell? ⟨w.heap.size, 0, none⟩ = some (.int .i64 0) := Bk.Blk.cell ra 0
  have f_ra0 : w5.frozen? ⟨w.heap.size, 0, none⟩ = false := Bk.Blk.fro ra 0
  have c_ra1 : w5.cell? ⟨w.heap.size, 1, none⟩ = some (.int .i64 0) := Bk.Blk.cell ra 1
  have f_ra1 : w5.frozen? ⟨w.heap.size, 1, none⟩ = false := Bk.Blk.fro ra 1
  have c_ra2 : w5.cell? ⟨w.heap.size, 2, none⟩ = some (.int .i64 0) := Bk.Blk.cell ra 2
  have f_ra2 : w5.frozen? ⟨w.heap.size, 2, none⟩ = false := Bk.Blk.fro ra 2
  have c_ra3 : w5.cell? ⟨w.heap.size, 3, none⟩ = some (.int .i64 0) := Bk.Blk.cell ra 3
  have f_ra3 : w5.frozen? ⟨w.heap.size, 3, none⟩ = false := Bk.Blk.fro ra 3
  have c_ra4 : w5.cell? ⟨w.heap.size, 4, none⟩ = some (.int .i64 0) := Bk.Blk.cell ra 4
  have f_ra4 : w5.frozen? ⟨w.heap.size, 4, none⟩ = false := Bk.Blk.fro ra 4
  have c_ra5 : w5.cell? ⟨w.heap.size, 5, none⟩ = some (.int .i64 0) := Bk.Blk.cell ra 5
  have f_ra5 : w5.frozen? ⟨w.heap.size, 5, none⟩ = false := Bk.Blk.fro ra 5
  have c_ra6 : w5.cell? ⟨w.heap.size, 6, none⟩ = some (.bool false) := Bk.Blk.cell ra 6
  have f_ra6 : w5.frozen? ⟨w.heap.size, 6, none⟩ = false := Bk.Blk.fro ra 6
  have l_rs : w.heap.size + 1 < w5.heap.size := Bk.Blk.lt rs
  have c_rs0 : w5.cell? ⟨w.heap.size + 1, 0, none⟩ = some (.int .i64 0) := Bk.Blk.cell rs 0
  have f_rs0 : w5.frozen? ⟨w.heap.size + 1, 0, none⟩ = false := Bk.Blk.fro rs 0
  have c_rs1 : w5.cell? ⟨w.heap.size + 1, 1, none⟩ = some (.int .i64 0) := Bk.Blk.cell rs 1
  have f_rs1 : w5.frozen? ⟨w.heap.size + 1, 1, none⟩ = false := Bk.Blk.fro rs 1
  have c_rs2 : w5.cell? ⟨w.heap.size + 1, 2, none⟩ = some (.int .i64 0) := Bk.Blk.cell rs 2
  have f_rs2 : w5.frozen? ⟨w.heap.size + 1, 2, none⟩ = false := Bk.Blk.fro rs 2
  have c_rs3 : w5.cell? ⟨w.heap.size + 1, 3, none⟩ = some (.int .i64 0) := Bk.Blk.cell rs 3
  have f_rs3 : w5.frozen? ⟨w.heap.size + 1, 3, none⟩ = false := Bk.Blk.fro rs 3
  have c_rs4 : w5.cell? ⟨w.heap.size + 1, 4, none⟩ = some (.int .i64 0) := Bk.Blk.cell rs 4
  have f_rs4 : w5.frozen? ⟨w.heap.size + 1, 4, none⟩ = false := Bk.Blk.fro rs 4
  have c_rs5 : w5.cell? ⟨w.heap.size + 1, 5, none⟩ = some (.int .i64 0) := Bk.Blk.cell rs 5
  have f_rs5 : w5.frozen? ⟨w.heap.size + 1, 5, none⟩ = false := Bk.Blk.fro rs 5
  have c_rs6 : w5.cell? ⟨w.heap.size + 1, 6, none⟩ = some (.int .i64 0) := Bk.Blk.cell rs 6
  have f_rs6 : w5.frozen? ⟨w.heap.size + 1, 6, none⟩ = false := Bk.Blk.fro rs 6
  go_wp2
  clear l_ra c_ra0 f_ra0 c_ra1 f_ra1 c_ra2 f_ra2 c_ra3 f_ra3 c_ra4 f_ra4 c_ra5 f_ra5 c_ra6 f_ra6 l_rs c_rs0 f_rs0 c_rs1 f_rs1 c_rs2 f_rs2 c_rs3 f_rs3 c_rs4 f_rs4 c_rs5 f_rs5 c_rs6 f_rs6
  generalize hW : World.setCell _ _ _ = w6
  replace ra : Bk.Blk w6 (w.heap.size) 36 #[.int .i64 (1 + x), .int .i64 (1000 + y), .int .i64 0, .int .i64 0, .int .i64 (1 + z), .int .i64 0, .bool false] := (by rw [← hW]; apply Bk.Blk.to; (focus ((repeat (first | with_reducible assumption | (with_reducible apply Bk.Blk.newAt; focus (first | (simp [Bk.size_set]; done) | (simp [Bk.size_set]; omega))) | with_reducible apply Bk.Blk.drewN | with_reducible apply Bk.Blk.drew | with_reducible apply Bk.Blk.set_ | (with_reducible apply Bk.Blk.far; focus (dsimp only; first | omega | (simp; omega) | (simp; done))) | with_reducible apply Bk.Blk.alloc)))); rfl)
  replace rs : Bk.Blk w6 (w.heap.size + 1) 47 #[.int .i64 (1 + x), .int .i64 (2000 + u), .int .i64 0, .int .i64 0, .int .i64 0, .int .i64 0, .int .i64 0] := (by rw [← hW]; apply Bk.Blk.to; (focus ((repeat (first | with_reducible assumption | (with_reducible apply Bk.Blk.newAt; focus (first | (simp [Bk.size_set]; done) | (simp [Bk.size_set]; omega))) | with_reducible apply Bk.Blk.drewN | with_reducible apply Bk.Blk.drew | with_reducible apply Bk.Blk.set_ | (with_reducible apply Bk.Blk.far; focus (dsimp only; first | omega | (simp; omega) | (simp; done))) | with_reducible apply Bk.Blk.alloc)))); rfl)
  replace B : Below w.heap.size w w6 := (by rw [← hW]; go_grown)
  have z6 : w6.heap.size = _ := congrArg (fun W : World => W.heap.size) hW.symm
  (try simp only [World.size_alloc, Bk.size_set, World.size_drew, World.drewN] at z6)
  clear hW
  have l_ra : w.heap.size < w6.heap.size := Bk.Blk.lt ra
  have c_ra0 : w6.cell? ⟨w.heap.size, 0, none⟩ = some (.int .i64 (1 + x)) := Bk.Blk.cell ra 0
  have c_ra1 : w6.cell? ⟨w.heap.size, 1, none⟩ = some (.int .i64 (1000 + y)) := Bk.Blk.cell ra 1
  have c_ra2 : w6.cell? ⟨w.heap.size, 2, none⟩ = some (.int .i64 0) := Bk.Blk.cell ra 2
  have c_ra3 : w6.cell? ⟨w.heap.size, 3, none⟩ = some (.int .i64 0) := Bk.Blk.cell ra 3
  have c_ra4 : w6.cell? ⟨w.heap.size, 4, none⟩ = some (.int .i64 (1 + z)) := Bk.Blk.cell ra 4
  have c_ra5 : w6.cell? ⟨w.heap.size, 5, none⟩ = some (.int .i64 0) := Bk.Blk.cell ra 5
  have c_ra6 : w6.cell? ⟨w.heap.size, 6, none⟩ = some (.bool false) := Bk.Blk.cell ra 6
  have l_rs : w.heap.size + 1 < w6.heap.size := Bk.Blk.lt rs
  have c_rs0 : w6.cell? ⟨w.heap.size + 1, 0, none⟩ = some (.int .i64 (1 + x)) := Bk.Blk.cell rs 0
  have c_rs1 : w6.cell? ⟨w.heap.size + 1, 1, none⟩ = some (.int .i64 (2000 + u)) := Bk.Blk.cell rs 1
  have c_rs2 : w6.cell? ⟨w.heap.size + 1, 2, none⟩ = some (.int .i64 0) := Bk.Blk.cell rs 2
  have c_rs3 : w6.cell? ⟨w.heap.size + 1, 3, none⟩ = some (.int .i64 0) := Bk.Blk.cell rs 3
  have c_rs4 : w6.cell? ⟨w.heap.size + 1, 4, none⟩ = some (.int .i64 0) := Bk.Blk.cell rs 4
  have c_rs5 : w6.cell? ⟨w.heap.size + 1, 5, none⟩ = some (.int .i64 0) := Bk.Blk.cell rs 5
  have c_rs6 : w6.cell? ⟨w.heap.size + 1, 6, none⟩ = some (.int .i64 0) := Bk.Blk.cell rs 6
  refine bodyPost_ret (v := .tuple #[.agg #[.int .i64 (1 + x), .int .i64 (1000 + y), .int .i64 0, .int .i64 0, .int .i64 (1 + z), .int .i64 0, .bool false], .agg #[.int .i64 (1 + x), .int .i64 (2000 + u), .int .i64 0, .int .i64 0, .int .i64 0, .int .i64 0, .int .i64 0]]) (by simp [results, Try.results32, go_sem, c_ra0, c_ra1, c_ra2, c_ra3, c_ra4, c_ra5, c_ra6, c_rs0, c_rs1, c_rs2, c_rs3, c_rs4, c_rs5, c_rs6]) rfl (⟨⟨1 + x, 1000 + y, 2000 + u, 1 + z⟩, sides_ok HX.out HY.out HZ.out HU.out, rfl, B⟩)
end Go.Proofs.Ytmhcbiipbilakaa.Hs
