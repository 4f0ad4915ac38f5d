/- The walk of the law on a handshake without losses. -/
import Derived.Test.YtmhcbiipbilakaaHsJ
import Derived.Test.YtmhcbiipbilakaaHsK
import Derived.Test.YtmhcbiipbilakaaHsD
import Derived.Test.YtmhcbiipbilakaaAt
namespace Go.Proofs.Ytmhcbiipbilakaa.Hs
open Go.RowKit
open Go.Proofs.Ytmhcbiipbilakaa.Num Go.Proofs.Ytmhcbiipbilakaa.Mem Go.Proofs.Ytmhcbiipbilakaa.Hsh Go.Proofs.Ytmhcbiipbilakaa.Keys Go.Proofs.Ytmhcbiipbilakaa.Hand Go.Proofs.Ytmhcbiipbilakaa.Auth Go.Proofs.Ytmhcbiipbilakaa.Cur
set_option linter.unusedSimpArgs false
set_option linter.unusedVariables false
def mu2 (p : Par) : Int := (m2 p).m
def mu3 (p : Par) : Int := (m3 p).m
def mu4 (p : Par) : Int := (m4 p).m
def ga3 (p : Par) : Int := (m3 p).g
theorem par_i64 {p : Par} (hp : p.Ok) : I64 p.K ∧ I64 p.A ∧ I64 p.S ∧ I64 p.G := by
  have := hp.k; have := hp.a; have := hp.s; have := hp.g
  unfold I64
  omega
theorem one_i64 (n : Int) (h : 0 ≤ n ∧ n ≤ 100) : I64 n := by unfold I64; omega
theorem hc0 (p : Par) (hp : p.Ok) (w : World) : Calls Try.prog 27 #[.agg #[.int .i64 p.K, .int .i64 p.A, .int .i64 0, .int .i64 0, .int .i64 p.G, .int .i64 0, .bool false]] w fun x w' => x = .returned (.tuple #[.agg #[.int .i64 p.K, .int .i64 p.A, .int .i64 0, .int .i64 1, .int .i64 p.G, .int .i64 2, .bool false], .agg #[.int .i64 1, .int .i64 1, .int .i64 p.A, .int .i64 0, .int .i64 0]]) ∧ Below w.heap.size w w' := by
  exact first_yes_impl p.K p.A 0 0 p.G 0 false w (by omega) (by omega)
theorem hc1 (p : Par) (hp : p.Ok) (w : World) : Calls Try.prog 33 #[.agg #[.int .i64 p.K, .int .i64 p.S, .int .i64 0, .int .i64 0, .int .i64 0, .int .i64 0, .int .i64 0], .agg #[.int .i64 1, .int .i64 1, .int .i64 p.A, .int .i64 0, .int .i64 0]] w fun x w' => x = .returned (.agg #[.int .i64 p.K, .int .i64 p.S, .int .i64 p.A, .int .i64 1, .int .i64 0, .int .i64 0, .int .i64 0, .int .i64 2, .int .i64 1, .int .i64 p.S, .int .i64 0, .int .i64 (mu2 p), .bool true, .bool false]) ∧ Below w.heap.size w w' := by
  obtain ⟨k1, k2, k3, k4⟩ := par_i64 hp
  have h := sup_impl ⟨p.K, p.S, 0, 0, 0, 0, 0⟩ (m1 p) w ⟨k1, k3, zero_i64, zero_i64, zero_i64, zero_i64, zero_i64⟩ ⟨one_i64 1 (by omega), one_i64 1 (by omega), k2, zero_i64, zero_i64⟩
  rw [hs1] at h
  exact h
theorem hc2 (p : Par) (hp : p.Ok) (w : World) : Calls Try.prog 34 #[.agg #[.int .i64 p.K, .int .i64 p.A, .int .i64 0, .int .i64 1, .int .i64 p.G, .int .i64 2, .bool false], .agg #[.int .i64 2, .int .i64 1, .int .i64 p.S, .int .i64 0, .int .i64 (mu2 p)]] w fun x w' => x = .returned (.tuple #[.agg #[.int .i64 p.K, .int .i64 p.A, .int .i64 p.S, .int .i64 2, .int .i64 p.G, .int .i64 4, .bool false], .agg #[.int .i64 3, .int .i64 2, .int .i64 p.A, .int .i64 (ga3 p), .int .i64 (mu3 p)], .bool true]) ∧ Below w.heap.size w w' := by
  obtain ⟨k1, k2, k3, k4⟩ := par_i64 hp
  have h := aut_impl ⟨p.K, p.A, 0, 1, p.G, 2, false⟩ (m2 p) w ⟨k1, k2, zero_i64, one_i64 1 (by omega), k4, one_i64 2 (by omega)⟩ ⟨one_i64 2 (by omega), one_i64 1 (by omega), k3, zero_i64, macM_i64 _ _⟩
  rw [hs2] at h
  exact h
theorem hc3 (p : Par) (hp : p.Ok) (w : World) : Calls Try.prog 33 #[.agg #[.int .i64 p.K, .int .i64 p.S, .int .i64 p.A, .int .i64 1, .int .i64 0, .int .i64 0, .int .i64 0], .agg #[.int .i64 3, .int .i64 2, .int .i64 p.A, .int .i64 (ga3 p), .int .i64 (mu3 p)]] w fun x w' => x = .returned (.agg #[.int .i64 p.K, .int .i64 p.S, .int .i64 p.A, .int .i64 2, .int .i64 (kk p), .int .i64 p.G, .int .i64 1, .int .i64 4, .int .i64 2, .int .i64 0, .int .i64 0, .int .i64 (mu4 p), .bool true, .bool true]) ∧ Below w.heap.size w w' := by
  obtain ⟨k1, k2, k3, k4⟩ := par_i64 hp
  have h := sup_impl ⟨p.K, p.S, p.A, 1, 0, 0, 0⟩ (m3 p) w ⟨k1, k3, k2, one_i64 1 (by omega), zero_i64, zero_i64, zero_i64⟩ ⟨one_i64 3 (by omega), one_i64 2 (by omega), k2, hidM_i64 _ _ _, macM_i64 _ _⟩
  rw [hs3 p hp] at h
  exact h
theorem hc4 (p : Par) (hp : p.Ok) (w : World) : Calls Try.prog 34 #[.agg #[.int .i64 p.K, .int .i64 p.A, .int .i64 p.S, .int .i64 2, .int .i64 p.G, .int .i64 4, .bool false], .agg #[.int .i64 4, .int .i64 2, .int .i64 0, .int .i64 0, .int .i64 (mu4 p)]] w fun x w' => x = .returned (.tuple #[.agg #[.int .i64 p.K, .int .i64 p.A, .int .i64 p.S, .int .i64 2, .int .i64 p.G, .int .i64 0, .bool true], .agg #[.int .i64 0, .int .i64 0, .int .i64 0, .int .i64 0, .int .i64 0], .bool false]) ∧ Below w.heap.size w w' := by
  obtain ⟨k1, k2, k3, k4⟩ := par_i64 hp
  have h := aut_impl ⟨p.K, p.A, p.S, 2, p.G, 4, false⟩ (m4 p) w ⟨k1, k2, k3, one_i64 2 (by omega), k4, one_i64 4 (by omega)⟩ ⟨one_i64 4 (by omega), one_i64 2 (by omega), zero_i64, zero_i64, macM_i64 _ _⟩
  rw [hs4] at h
  exact h
theorem hc5 (p : Par) (hp : p.Ok) (w : World) : Calls Try.prog 16 #[.int .i64 p.K, .int .i64 p.A, .int .i64 p.S] w fun x w' => x = .returned (.int .i64 (kk p)) ∧ Below w.heap.size w w' := by
  obtain ⟨k1, k2, k3, k4⟩ := par_i64 hp
  exact pairKey_impl p.K p.A p.S w k1 k2 k3
theorem hc6 (p : Par) (hp : p.Ok) (w : World) : Calls Try.prog 21 #[.int .i64 (kk p), .agg #[.int .i64 4, .int .i64 2, .int .i64 0, .int .i64 0, .int .i64 (mu4 p)]] w fun x w' => x = .returned (.bool true) ∧ Below w.heap.size w w' := by
  have h := verify_impl (kk p) 4 2 0 0 (mu4 p) w (keyM_i64 _ _) (one_i64 4 (by omega)) (one_i64 2 (by omega)) zero_i64 zero_i64
  have e : (mu4 p == macM (kk p) [43, 4, 2, 0, 0]) = true := by
    rw [beq_iff_eq]; rfl
  rw [e] at h
  exact h
attribute [local irreducible] mu2 mu3 mu4 ga3 kk
set_option maxRecDepth 100000 in
set_option maxHeartbeats 8000000 in
theorem hand_law (A : Option Addr) (n c : Nat) (zs : List Int) (w : World) (hrow : RowIn .u8 w A n c zs) :
    Calls Try.prog 10 #[.slice A n c] w fun e w' => e = .returned (.bool true) ∧ Below w.heap.size w w' := by
  have HR := Lib.hid hrow.1
  have HB := Lib.hid (bytes_of_row hrow)
  have B : Below w.heap.size w w := Below.refl _ _
  clear hrow
  by_cases hbig : 1048576 < (n : Int)
  · go_enter Try.func10, Try.ntmps10
    go_wp2_with (first | (go_at_call 31; refine (big_any _ _ _ _).mono ?_; rintro e w' ⟨rfl, rfl⟩))
    go_ret
    exact ⟨rfl, B⟩
  · go_enter Try.func10, Try.ntmps10
    go_wp2_with (first | (go_at_call 31; refine (big_any _ _ _ _).mono ?_; rintro e w' ⟨rfl, rfl⟩))
    refine (drawSides_any A n c zs _ HR.out HB.out (by omega)).mono ?_
    rintro x w1 ⟨p, hp, rfl, hb0⟩
    replace B : Below w.heap.size w w1 := Below.trans (by go_grown) (hb0.mono (by first | omega | (simp [Bk.size_set]; done) | (simp [Bk.size_set]; omega)))
    have z1 := hb0.size
    (try simp only [World.size_alloc, Bk.size_set, World.size_drew, World.drewN] at z1)
    clear hb0
    have HP := Lib.hid hp
    clear hp
    go_wp2_with fail
    refine (hc0 p HP.out _).mono ?_
    rintro x w2 ⟨rfl, hb0⟩
    have a : Bk.Blk w2 (w1.heap.size) 36 #[.int .i64 p.K, .int .i64 p.A, .int .i64 0, .int .i64 0, .int .i64 p.G, .int .i64 0, .bool false] := (by apply Bk.Blk.to; (focus (apply Bk.Blk.under hb0; (repeat (first | with_reducible assumption | (with_reducible apply Bk.Blk.newAt; focus (first | (simp [Bk.size_set]; done) | (simp [Bk.size_set]; omega))) | with_reducible apply Bk.Blk.drewN | with_reducible apply Bk.Blk.drew | with_reducible apply Bk.Blk.set_ | (with_reducible apply Bk.Blk.far; focus (dsimp only; first | omega | (simp; omega) | (simp; done))) | with_reducible apply Bk.Blk.alloc)))); rfl)
    have s : Bk.Blk w2 (w1.heap.size + 1) 47 #[.int .i64 p.K, .int .i64 p.S, .int .i64 0, .int .i64 0, .int .i64 0, .int .i64 0, .int .i64 0] := (by apply Bk.Blk.to; (focus (apply Bk.Blk.under hb0; (repeat (first | with_reducible assumption | (with_reducible apply Bk.Blk.newAt; focus (first | (simp [Bk.size_set]; done) | (simp [Bk.size_set]; omega))) | with_reducible apply Bk.Blk.drewN | with_reducible apply Bk.Blk.drew | with_reducible apply Bk.Blk.set_ | (with_reducible apply Bk.Blk.far; focus (dsimp only; first | omega | (simp; omega) | (simp; done))) | with_reducible apply Bk.Blk.alloc)))); rfl)
    replace B : Below w.heap.size w w2 := Below.trans (by go_grown) (hb0.mono (by first | omega | (simp [Bk.size_set]; done) | (simp [Bk.size_set]; omega)))
    have z2 := hb0.size
    (try simp only [World.size_alloc, Bk.size_set, World.size_drew, World.drewN] at z2)
    clear hb0
    have l_a : w1.heap.size < w2.heap.size := Bk.Blk.lt a
    have c_a0 : w2.cell? ⟨w1.heap.size, 0, none⟩ = some (.int .i64 p.K) := Bk.Blk.cell a 0
    have f_a0 : w2.frozen? ⟨w1.heap.size, 0, none⟩ = false := Bk.Blk.fro a 0
    have c_a1 : w2.cell? ⟨w1.heap.size, 1, none⟩ = some (.int .i64 p.A) := Bk.Blk.cell a 1
    have f_a1 : w2.frozen? ⟨w1.heap.size, 1, none⟩ = false := Bk.Blk.fro a 1
    have c_a2 : w2.cell? ⟨w1.heap.size, 2, none⟩ = some (.int .i64 0) := Bk.Blk.cell a 2
    have f_a2 : w2.frozen? ⟨w1.heap.size, 2, none⟩ = false := Bk.Blk.fro a 2
    have c_a3 : w2.cell? ⟨w1.heap.size, 3, none⟩ = some (.int .i64 0) := Bk.Blk.cell a 3
    have f_a3 : w2.frozen? ⟨w1.heap.size, 3, none⟩ = false := Bk.Blk.fro a 3
    have c_a4 : w2.cell? ⟨w1.heap.size, 4, none⟩ = some (.int .i64 p.G) := Bk.Blk.cell a 4
    have f_a4 : w2.frozen? ⟨w1.heap.size, 4, none⟩ = false := Bk.Blk.fro a 4
    have c_a5 : w2.cell? ⟨w1.heap.size, 5, none⟩ = some (.int .i64 0) := Bk.Blk.cell a 5
    have f_a5 : w2.frozen? ⟨w1.heap.size, 5, none⟩ = false := Bk.Blk.fro a 5
    have c_a6 : w2.cell? ⟨w1.heap.size, 6, none⟩ = some (.bool false) := Bk.Blk.cell a 6
    have f_a6 : w2.frozen? ⟨w1.heap.size, 6, none⟩ = false := Bk.Blk.fro a 6
    have l_s : w1.heap.size + 1 < w2.heap.size := Bk.Blk.lt s
    have c_s0 : w2.cell? ⟨w1.heap.size + 1, 0, none⟩ = some (.int .i64 p.K) := Bk.Blk.cell s 0
    have f_s0 : w2.frozen? ⟨w1.heap.size + 1, 0, none⟩ = false := Bk.Blk.fro s 0
    have c_s1 : w2.cell? ⟨w1.heap.size + 1, 1, none⟩ = some (.int .i64 p.S) := Bk.Blk.cell s 1
    have f_s1 : w2.frozen? ⟨w1.heap.size + 1, 1, none⟩ = false := Bk.Blk.fro s 1
    have c_s2 : w2.cell? ⟨w1.heap.size + 1, 2, none⟩ = some (.int .i64 0) := Bk.Blk.cell s 2
    have f_s2 : w2.frozen? ⟨w1.heap.size + 1, 2, none⟩ = false := Bk.Blk.fro s 2
    have c_s3 : w2.cell? ⟨w1.heap.size + 1, 3, none⟩ = some (.int .i64 0) := Bk.Blk.cell s 3
    have f_s3 : w2.frozen? ⟨w1.heap.size + 1, 3, none⟩ = false := Bk.Blk.fro s 3
    have c_s4 : w2.cell? ⟨w1.heap.size + 1, 4, none⟩ = some (.int .i64 0) := Bk.Blk.cell s 4
    have f_s4 : w2.frozen? ⟨w1.heap.size + 1, 4, none⟩ = false := Bk.Blk.fro s 4
    have c_s5 : w2.cell? ⟨w1.heap.size + 1, 5, none⟩ = some (.int .i64 0) := Bk.Blk.cell s 5
    have f_s5 : w2.frozen? ⟨w1.heap.size + 1, 5, none⟩ = false := Bk.Blk.fro s 5
    have c_s6 : w2.cell? ⟨w1.heap.size + 1, 6, none⟩ = some (.int .i64 0) := Bk.Blk.cell s 6
    have f_s6 : w2.frozen? ⟨w1.heap.size + 1, 6, none⟩ = false := Bk.Blk.fro s 6
    go_wp2_with fail
    clear l_a c_a0 f_a0 c_a1 f_a1 c_a2 f_a2 c_a3 f_a3 c_a4 f_a4 c_a5 f_a5 c_a6 f_a6 l_s c_s0 f_s0 c_s1 f_s1 c_s2 f_s2 c_s3 f_s3 c_s4 f_s4 c_s5 f_s5 c_s6 f_s6
    refine (hc1 p HP.out _).mono ?_
    rintro x w3 ⟨rfl, hb0⟩
    replace a : Bk.Blk w3 (w1.heap.size) 36 #[.int .i64 p.K, .int .i64 p.A, .int .i64 0, .int .i64 1, .int .i64 p.G, .int .i64 2, .bool false] := (by apply Bk.Blk.to; (focus (apply Bk.Blk.under hb0; (repeat (first | with_reducible assumption | (with_reducible apply Bk.Blk.newAt; focus (first | (simp [Bk.size_set]; done) | (simp [Bk.size_set]; omega))) | with_reducible apply Bk.Blk.drewN | with_reducible apply Bk.Blk.drew | with_reducible apply Bk.Blk.set_ | (with_reducible apply Bk.Blk.far; focus (dsimp only; first | omega | (simp; omega) | (simp; done))) | with_reducible apply Bk.Blk.alloc)))); rfl)
    replace s : Bk.Blk w3 (w1.heap.size + 1) 47 #[.int .i64 p.K, .int .i64 p.S, .int .i64 0, .int .i64 0, .int .i64 0, .int .i64 0, .int .i64 0] := Bk.Blk.under hb0 (by (repeat (first | with_reducible assumption | (with_reducible apply Bk.Blk.newAt; focus (first | (simp [Bk.size_set]; done) | (simp [Bk.size_set]; omega))) | with_reducible apply Bk.Blk.drewN | with_reducible apply Bk.Blk.drew | with_reducible apply Bk.Blk.set_ | (with_reducible apply Bk.Blk.far; focus (dsimp only; first | omega | (simp; omega) | (simp; done))) | with_reducible apply Bk.Blk.alloc)))
    have m : Bk.Blk w3 (w2.heap.size) 29 #[.int .i64 1, .int .i64 1, .int .i64 p.A, .int .i64 0, .int .i64 0] := (by apply Bk.Blk.to; (focus (apply Bk.Blk.under hb0; (repeat (first | with_reducible assumption | (with_reducible apply Bk.Blk.newAt; focus (first | (simp [Bk.size_set]; done) | (simp [Bk.size_set]; omega))) | with_reducible apply Bk.Blk.drewN | with_reducible apply Bk.Blk.drew | with_reducible apply Bk.Blk.set_ | (with_reducible apply Bk.Blk.far; focus (dsimp only; first | omega | (simp; omega) | (simp; done))) | with_reducible apply Bk.Blk.alloc)))); rfl)
    replace B : Below w.heap.size w w3 := Below.trans (by go_grown) (hb0.mono (by first | omega | (simp [Bk.size_set]; done) | (simp [Bk.size_set]; omega)))
    have z3 := hb0.size
    (try simp only [World.size_alloc, Bk.size_set, World.size_drew, World.drewN] at z3)
    clear hb0
    have l_a : w1.heap.size < w3.heap.size := Bk.Blk.lt a
    have c_a0 : w3.cell? ⟨w1.heap.size, 0, none⟩ = some (.int .i64 p.K) := Bk.Blk.cell a 0
    have c_a1 : w3.cell? ⟨w1.heap.size, 1, none⟩ = some (.int .i64 p.A) := Bk.Blk.cell a 1
    have c_a2 : w3.cell? ⟨w1.heap.size, 2, none⟩ = some (.int .i64 0) := Bk.Blk.cell a 2
    have c_a3 : w3.cell? ⟨w1.heap.size, 3, none⟩ = some (.int .i64 1) := Bk.Blk.cell a 3
    have c_a4 : w3.cell? ⟨w1.heap.size, 4, none⟩ = some (.int .i64 p.G) := Bk.Blk.cell a 4
    have c_a5 : w3.cell? ⟨w1.heap.size, 5, none⟩ = some (.int .i64 2) := Bk.Blk.cell a 5
    have c_a6 : w3.cell? ⟨w1.heap.size, 6, none⟩ = some (.bool false) := Bk.Blk.cell a 6
    have l_s : w1.heap.size + 1 < w3.heap.size := Bk.Blk.lt s
    have c_s0 : w3.cell? ⟨w1.heap.size + 1, 0, none⟩ = some (.int .i64 p.K) := Bk.Blk.cell s 0
    have c_s1 : w3.cell? ⟨w1.heap.size + 1, 1, none⟩ = some (.int .i64 p.S) := Bk.Blk.cell s 1
    have c_s2 : w3.cell? ⟨w1.heap.size + 1, 2, none⟩ = some (.int .i64 0) := Bk.Blk.cell s 2
    have c_s3 : w3.cell? ⟨w1.heap.size + 1, 3, none⟩ = some (.int .i64 0) := Bk.Blk.cell s 3
    have c_s4 : w3.cell? ⟨w1.heap.size + 1, 4, none⟩ = some (.int .i64 0) := Bk.Blk.cell s 4
    have c_s5 : w3.cell? ⟨w1.heap.size + 1, 5, none⟩ = some (.int .i64 0) := Bk.Blk.cell s 5
    have c_s6 : w3.cell? ⟨w1.heap.size + 1, 6, none⟩ = some (.int .i64 0) := Bk.Blk.cell s 6
    have l_m : w2.heap.size < w3.heap.size := Bk.Blk.lt m
    have c_m0 : w3.cell? ⟨w2.heap.size, 0, none⟩ = some (.int .i64 1) := Bk.Blk.cell m 0
    have c_m1 : w3.cell? ⟨w2.heap.size, 1, none⟩ = some (.int .i64 1) := Bk.Blk.cell m 1
    have c_m2 : w3.cell? ⟨w2.heap.size, 2, none⟩ = some (.int .i64 p.A) := Bk.Blk.cell m 2
    have c_m3 : w3.cell? ⟨w2.heap.size, 3, none⟩ = some (.int .i64 0) := Bk.Blk.cell m 3
    have c_m4 : w3.cell? ⟨w2.heap.size, 4, none⟩ = some (.int .i64 0) := Bk.Blk.cell m 4
    go_wp2_with fail
    clear l_a c_a0 c_a1 c_a2 c_a3 c_a4 c_a5 c_a6 l_s c_s0 c_s1 c_s2 c_s3 c_s4 c_s5 c_s6 l_m c_m0 c_m1 c_m2 c_m3 c_m4
    refine (hc2 p HP.out _).mono ?_
    rintro x w4 ⟨rfl, hb0⟩
    replace a : Bk.Blk w4 (w1.heap.size) 36 #[.int .i64 p.K, .int .i64 p.A, .int .i64 0, .int .i64 1, .int .i64 p.G, .int .i64 2, .bool false] := Bk.Blk.under hb0 (by (repeat (first | with_reducible assumption | (with_reducible apply Bk.Blk.newAt; focus (first | (simp [Bk.size_set]; done) | (simp [Bk.size_set]; omega))) | with_reducible apply Bk.Blk.drewN | with_reducible apply Bk.Blk.drew | with_reducible apply Bk.Blk.set_ | (with_reducible apply Bk.Blk.far; focus (dsimp only; first | omega | (simp; omega) | (simp; done))) | with_reducible apply Bk.Blk.alloc)))
    have r : Bk.Blk w4 (w3.heap.size) 51 #[.int .i64 p.K, .int .i64 p.S, .int .i64 p.A, .int .i64 1, .int .i64 0, .int .i64 0, .int .i64 0, .int .i64 2, .int .i64 1, .int .i64 p.S, .int .i64 0, .int .i64 (mu2 p), .bool true, .bool false] := (by apply Bk.Blk.to; (focus (apply Bk.Blk.under hb0; (repeat (first | with_reducible assumption | (with_reducible apply Bk.Blk.newAt; focus (first | (simp [Bk.size_set]; done) | (simp [Bk.size_set]; omega))) | with_reducible apply Bk.Blk.drewN | with_reducible apply Bk.Blk.drew | with_reducible apply Bk.Blk.set_ | (with_reducible apply Bk.Blk.far; focus (dsimp only; first | omega | (simp; omega) | (simp; done))) | with_reducible apply Bk.Blk.alloc)))); rfl)
    replace B : Below w.heap.size w w4 := Below.trans (by go_grown) (hb0.mono (by first | omega | (simp [Bk.size_set]; done) | (simp [Bk.size_set]; omega)))
    have z4 := hb0.size
    (try simp only [World.size_alloc, Bk.size_set, World.size_drew, World.drewN] at z4)
    clear hb0
    have l_a : w1.heap.size < w4.heap.size := Bk.Blk.lt a
    have c_a0 : w4.cell? ⟨w1.heap.size, 0, none⟩ = some (.int .i64 p.K) := Bk.Blk.cell a 0
    have c_a1 : w4.cell? ⟨w1.heap.size, 1, none⟩ = some (.int .i64 p.A) := Bk.Blk.cell a 1
    have c_a2 : w4.cell? ⟨w1.heap.size, 2, none⟩ = some (.int .i64 0) := Bk.Blk.cell a 2
    have c_a3 : w4.cell? ⟨w1.heap.size, 3, none⟩ = some (.int .i64 1) := Bk.Blk.cell a 3
    have c_a4 : w4.cell? ⟨w1.heap.size, 4, none⟩ = some (.int .i64 p.G) := Bk.Blk.cell a 4
    have c_a5 : w4.cell? ⟨w1.heap.size, 5, none⟩ = some (.int .i64 2) := Bk.Blk.cell a 5
    have c_a6 : w4.cell? ⟨w1.heap.size, 6, none⟩ = some (.bool false) := Bk.Blk.cell a 6
    have l_r : w3.heap.size < w4.heap.size := Bk.Blk.lt r
    have c_r0 : w4.cell? ⟨w3.heap.size, 0, none⟩ = some (.int .i64 p.K) := Bk.Blk.cell r 0
    have c_r1 : w4.cell? ⟨w3.heap.size, 1, none⟩ = some (.int .i64 p.S) := Bk.Blk.cell r 1
    have c_r2 : w4.cell? ⟨w3.heap.size, 2, none⟩ = some (.int .i64 p.A) := Bk.Blk.cell r 2
    have c_r3 : w4.cell? ⟨w3.heap.size, 3, none⟩ = some (.int .i64 1) := Bk.Blk.cell r 3
    have c_r4 : w4.cell? ⟨w3.heap.size, 4, none⟩ = some (.int .i64 0) := Bk.Blk.cell r 4
    have c_r5 : w4.cell? ⟨w3.heap.size, 5, none⟩ = some (.int .i64 0) := Bk.Blk.cell r 5
    have c_r6 : w4.cell? ⟨w3.heap.size, 6, none⟩ = some (.int .i64 0) := Bk.Blk.cell r 6
    have c_r7 : w4.cell? ⟨w3.heap.size, 7, none⟩ = some (.int .i64 2) := Bk.Blk.cell r 7
    have c_r8 : w4.cell? ⟨w3.heap.size, 8, none⟩ = some (.int .i64 1) := Bk.Blk.cell r 8
    have c_r9 : w4.cell? ⟨w3.heap.size, 9, none⟩ = some (.int .i64 p.S) := Bk.Blk.cell r 9
    have c_r10 : w4.cell? ⟨w3.heap.size, 10, none⟩ = some (.int .i64 0) := Bk.Blk.cell r 10
    have c_r11 : w4.cell? ⟨w3.heap.size, 11, none⟩ = some (.int .i64 (mu2 p)) := Bk.Blk.cell r 11
    have c_r12 : w4.cell? ⟨w3.heap.size, 12, none⟩ = some (.bool true) := Bk.Blk.cell r 12
    have c_r13 : w4.cell? ⟨w3.heap.size, 13, none⟩ = some (.bool false) := Bk.Blk.cell r 13
    go_wp2_with fail
    clear l_a c_a0 c_a1 c_a2 c_a3 c_a4 c_a5 c_a6 l_r c_r0 c_r1 c_r2 c_r3 c_r4 c_r5 c_r6 c_r7 c_r8 c_r9 c_r10 c_r11 c_r12 c_r13
    refine (hc3 p HP.out _).mono ?_
    rintro x w5 ⟨rfl, hb0⟩
    replace a : Bk.Blk w5 (w1.heap.size) 36 #[.int .i64 p.K, .int .i64 p.A, .int .i64 0, .int .i64 1, .int .i64 p.G, .int .i64 2, .bool false] := Bk.Blk.under hb0 (by (repeat (first | with_reducible assumption | (with_reducible apply Bk.Blk.newAt; focus (first | (simp [Bk.size_set]; done) | (simp [Bk.size_set]; omega))) | with_reducible apply Bk.Blk.drewN | with_reducible apply Bk.Blk.drew | with_reducible apply Bk.Blk.set_ | (with_reducible apply Bk.Blk.far; focus (dsimp only; first | omega | (simp; omega) | (simp; done))) | with_reducible apply Bk.Blk.alloc)))
    have b : Bk.Blk w5 (w4.heap.size) 36 #[.int .i64 p.K, .int .i64 p.A, .int .i64 p.S, .int .i64 2, .int .i64 p.G, .int .i64 4, .bool false] := (by apply Bk.Blk.to; (focus (apply Bk.Blk.under hb0; (repeat (first | with_reducible assumption | (with_reducible apply Bk.Blk.newAt; focus (first | (simp [Bk.size_set]; done) | (simp [Bk.size_set]; omega))) | with_reducible apply Bk.Blk.drewN | with_reducible apply Bk.Blk.drew | with_reducible apply Bk.Blk.set_ | (with_reducible apply Bk.Blk.far; focus (dsimp only; first | omega | (simp; omega) | (simp; done))) | with_reducible apply Bk.Blk.alloc)))); rfl)
    replace B : Below w.heap.size w w5 := Below.trans (by go_grown) (hb0.mono (by first | omega | (simp [Bk.size_set]; done) | (simp [Bk.size_set]; omega)))
    have z5 := hb0.size
    (try simp only [World.size_alloc, Bk.size_set, World.size_drew, World.drewN] at z5)
    clear hb0
    have l_b : w4.heap.size < w5.heap.size := Bk.Blk.lt b
    have c_b0 : w5.cell? ⟨w4.heap.size, 0, none⟩ = some (.int .i64 p.K) := Bk.Blk.cell b 0
    have c_b1 : w5.cell? ⟨w4.heap.size, 1, none⟩ = some (.int .i64 p.A) := Bk.Blk.cell b 1
    have c_b2 : w5.cell? ⟨w4.heap.size, 2, none⟩ = some (.int .i64 p.S) := Bk.Blk.cell b 2
    have c_b3 : w5.cell? ⟨w4.heap.size, 3, none⟩ = some (.int .i64 2) := Bk.Blk.cell b 3
    have c_b4 : w5.cell? ⟨w4.heap.size, 4, none⟩ = some (.int .i64 p.G) := Bk.Blk.cell b 4
    have c_b5 : w5.cell? ⟨w4.heap.size, 5, none⟩ = some (.int .i64 4) := Bk.Blk.cell b 5
    have c_b6 : w5.cell? ⟨w4.heap.size, 6, none⟩ = some (.bool false) := Bk.Blk.cell b 6
    go_wp2_with fail
    clear l_b c_b0 c_b1 c_b2 c_b3 c_b4 c_b5 c_b6
    refine (hc4 p HP.out _).mono ?_
    rintro x w6 ⟨rfl, hb0⟩
    replace b : Bk.Blk w6 (w4.heap.size) 36 #[.int .i64 p.K, .int .i64 p.A, .int .i64 p.S, .int .i64 2, .int .i64 p.G, .int .i64 4, .bool false] := Bk.Blk.under hb0 (by (repeat (first | with_reducible assumption | (with_reducible apply Bk.Blk.newAt; focus (first | (simp [Bk.size_set]; done) | (simp [Bk.size_set]; omega))) | with_reducible apply Bk.Blk.drewN | with_reducible apply Bk.Blk.drew | with_reducible apply Bk.Blk.set_ | (with_reducible apply Bk.Blk.far; focus (dsimp only; first | omega | (simp; omega) | (simp; done))) | with_reducible apply Bk.Blk.alloc)))
    have t : Bk.Blk w6 (w5.heap.size) 51 #[.int .i64 p.K, .int .i64 p.S, .int .i64 p.A, .int .i64 2, .int .i64 (kk p), .int .i64 p.G, .int .i64 1, .int .i64 4, .int .i64 2, .int .i64 0, .int .i64 0, .int .i64 (mu4 p), .bool true, .bool true] := (by apply Bk.Blk.to; (focus (apply Bk.Blk.under hb0; (repeat (first | with_reducible assumption | (with_reducible apply Bk.Blk.newAt; focus (first | (simp [Bk.size_set]; done) | (simp [Bk.size_set]; omega))) | with_reducible apply Bk.Blk.drewN | with_reducible apply Bk.Blk.drew | with_reducible apply Bk.Blk.set_ | (with_reducible apply Bk.Blk.far; focus (dsimp only; first | omega | (simp; omega) | (simp; done))) | with_reducible apply Bk.Blk.alloc)))); rfl)
    replace B : Below w.heap.size w w6 := Below.trans (by go_grown) (hb0.mono (by first | omega | (simp [Bk.size_set]; done) | (simp [Bk.size_set]; omega)))
    have z6 := hb0.size
    (try simp only [World.size_alloc, Bk.size_set, World.size_drew, World.drewN] at z6)
    clear hb0
    have l_b : w4.heap.size < w6.heap.size := Bk.Blk.lt b
    have c_b0 : w6.cell? ⟨w4.heap.size, 0, none⟩ = some (.int .i64 p.K) := Bk.Blk.cell b 0
    have c_b1 : w6.cell? ⟨w4.heap.size, 1, none⟩ = some (.int .i64 p.A) := Bk.Blk.cell b 1
    have c_b2 : w6.cell? ⟨w4.heap.size, 2, none⟩ = some (.int .i64 p.S) := Bk.Blk.cell b 2
    have c_b3 : w6.cell? ⟨w4.heap.size, 3, none⟩ = some (.int .i64 2) := Bk.Blk.cell b 3
    have c_b4 : w6.cell? ⟨w4.heap.size, 4, none⟩ = some (.int .i64 p.G) := Bk.Blk.cell b 4
    have c_b5 : w6.cell? ⟨w4.heap.size, 5, none⟩ = some (.int .i64 4) := Bk.Blk.cell b 5
    have c_b6 : w6.cell? ⟨w4.heap.size, 6, none⟩ = some (.bool false) := Bk.Blk.cell b 6
    have l_t : w5.heap.size < w6.heap.size := Bk.Blk.lt t
    have c_t0 : w6.cell? ⟨w5.heap.size, 0, none⟩ = some (.int .i64 p.K) := Bk.Blk.cell t 0
    have c_t1 : w6.cell? ⟨w5.heap.size, 1, none⟩ = some (.int .i64 p.S) := Bk.Blk.cell t 1
    have c_t2 : w6.cell? ⟨w5.heap.size, 2, none⟩ = some (.int .i64 p.A) := Bk.Blk.cell t 2
    have c_t3 : w6.cell? ⟨w5.heap.size, 3, none⟩ = some (.int .i64 2) := Bk.Blk.cell t 3
    have c_t4 : w6.cell? ⟨w5.heap.size, 4, none⟩ = some (.int .i64 (kk p)) := Bk.Blk.cell t 4
    have c_t5 : w6.cell? ⟨w5.heap.size, 5, none⟩ = some (.int .i64 p.G) := Bk.Blk.cell t 5
    have c_t6 : w6.cell? ⟨w5.heap.size, 6, none⟩ = some (.int .i64 1) := Bk.Blk.cell t 6
    have c_t7 : w6.cell? ⟨w5.heap.size, 7, none⟩ = some (.int .i64 4) := Bk.Blk.cell t 7
    have c_t8 : w6.cell? ⟨w5.heap.size, 8, none⟩ = some (.int .i64 2) := Bk.Blk.cell t 8
    have c_t9 : w6.cell? ⟨w5.heap.size, 9, none⟩ = some (.int .i64 0) := Bk.Blk.cell t 9
    have c_t10 : w6.cell? ⟨w5.heap.size, 10, none⟩ = some (.int .i64 0) := Bk.Blk.cell t 10
    have c_t11 : w6.cell? ⟨w5.heap.size, 11, none⟩ = some (.int .i64 (mu4 p)) := Bk.Blk.cell t 11
    have c_t12 : w6.cell? ⟨w5.heap.size, 12, none⟩ = some (.bool true) := Bk.Blk.cell t 12
    have c_t13 : w6.cell? ⟨w5.heap.size, 13, none⟩ = some (.bool true) := Bk.Blk.cell t 13
    go_wp2_with fail
    clear l_b c_b0 c_b1 c_b2 c_b3 c_b4 c_b5 c_b6 l_t c_t0 c_t1 c_t2 c_t3 c_t4 c_t5 c_t6 c_t7 c_t8 c_t9 c_t10 c_t11 c_t12 c_t13
    refine (hc5 p HP.out _).mono ?_
    rintro x w7 ⟨rfl, hb0⟩
    replace t : Bk.Blk w7 (w5.heap.size) 51 #[.int .i64 p.K, .int .i64 p.S, .int .i64 p.A, .int .i64 2, .int .i64 (kk p), .int .i64 p.G, .int .i64 1, .int .i64 4, .int .i64 2, .int .i64 0, .int .i64 0, .int .i64 (mu4 p), .bool true, .bool true] := Bk.Blk.under hb0 (by (repeat (first | with_reducible assumption | (with_reducible apply Bk.Blk.newAt; focus (first | (simp [Bk.size_set]; done) | (simp [Bk.size_set]; omega))) | with_reducible apply Bk.Blk.drewN | with_reducible apply Bk.Blk.drew | with_reducible apply Bk.Blk.set_ | (with_reducible apply Bk.Blk.far; focus (dsimp only; first | omega | (simp; omega) | (simp; done))) | with_reducible apply Bk.Blk.alloc)))
    have d : Bk.Blk w7 (w6.heap.size) 36 #[.int .i64 p.K, .int .i64 p.A, .int .i64 p.S, .int .i64 2, .int .i64 p.G, .int .i64 0, .bool true] := (by apply Bk.Blk.to; (focus (apply Bk.Blk.under hb0; (repeat (first | with_reducible assumption | (with_reducible apply Bk.Blk.newAt; focus (first | (simp [Bk.size_set]; done) | (simp [Bk.size_set]; omega))) | with_reducible apply Bk.Blk.drewN | with_reducible apply Bk.Blk.drew | with_reducible apply Bk.Blk.set_ | (with_reducible apply Bk.Blk.far; focus (dsimp only; first | omega | (simp; omega) | (simp; done))) | with_reducible apply Bk.Blk.alloc)))); rfl)
    replace B : Below w.heap.size w w7 := Below.trans (by go_grown) (hb0.mono (by first | omega | (simp [Bk.size_set]; done) | (simp [Bk.size_set]; omega)))
    have z7 := hb0.size
    (try simp only [World.size_alloc, Bk.size_set, World.size_drew, World.drewN] at z7)
    clear hb0
    have l_t : w5.heap.size < w7.heap.size := Bk.Blk.lt t
    have c_t0 : w7.cell? ⟨w5.heap.size, 0, none⟩ = some (.int .i64 p.K) := Bk.Blk.cell t 0
    have c_t1 : w7.cell? ⟨w5.heap.size, 1, none⟩ = some (.int .i64 p.S) := Bk.Blk.cell t 1
    have c_t2 : w7.cell? ⟨w5.heap.size, 2, none⟩ = some (.int .i64 p.A) := Bk.Blk.cell t 2
    have c_t3 : w7.cell? ⟨w5.heap.size, 3, none⟩ = some (.int .i64 2) := Bk.Blk.cell t 3
    have c_t4 : w7.cell? ⟨w5.heap.size, 4, none⟩ = some (.int .i64 (kk p)) := Bk.Blk.cell t 4
    have c_t5 : w7.cell? ⟨w5.heap.size, 5, none⟩ = some (.int .i64 p.G) := Bk.Blk.cell t 5
    have c_t6 : w7.cell? ⟨w5.heap.size, 6, none⟩ = some (.int .i64 1) := Bk.Blk.cell t 6
    have c_t7 : w7.cell? ⟨w5.heap.size, 7, none⟩ = some (.int .i64 4) := Bk.Blk.cell t 7
    have c_t8 : w7.cell? ⟨w5.heap.size, 8, none⟩ = some (.int .i64 2) := Bk.Blk.cell t 8
    have c_t9 : w7.cell? ⟨w5.heap.size, 9, none⟩ = some (.int .i64 0) := Bk.Blk.cell t 9
    have c_t10 : w7.cell? ⟨w5.heap.size, 10, none⟩ = some (.int .i64 0) := Bk.Blk.cell t 10
    have c_t11 : w7.cell? ⟨w5.heap.size, 11, none⟩ = some (.int .i64 (mu4 p)) := Bk.Blk.cell t 11
    have c_t12 : w7.cell? ⟨w5.heap.size, 12, none⟩ = some (.bool true) := Bk.Blk.cell t 12
    have c_t13 : w7.cell? ⟨w5.heap.size, 13, none⟩ = some (.bool true) := Bk.Blk.cell t 13
    have l_d : w6.heap.size < w7.heap.size := Bk.Blk.lt d
    have c_d0 : w7.cell? ⟨w6.heap.size, 0, none⟩ = some (.int .i64 p.K) := Bk.Blk.cell d 0
    have c_d1 : w7.cell? ⟨w6.heap.size, 1, none⟩ = some (.int .i64 p.A) := Bk.Blk.cell d 1
    have c_d2 : w7.cell? ⟨w6.heap.size, 2, none⟩ = some (.int .i64 p.S) := Bk.Blk.cell d 2
    have c_d3 : w7.cell? ⟨w6.heap.size, 3, none⟩ = some (.int .i64 2) := Bk.Blk.cell d 3
    have c_d4 : w7.cell? ⟨w6.heap.size, 4, none⟩ = some (.int .i64 p.G) := Bk.Blk.cell d 4
    have c_d5 : w7.cell? ⟨w6.heap.size, 5, none⟩ = some (.int .i64 0) := Bk.Blk.cell d 5
    have c_d6 : w7.cell? ⟨w6.heap.size, 6, none⟩ = some (.bool true) := Bk.Blk.cell d 6
    have hkk : (kk p == kk p) = true := by simp
    go_wp2_with fail
    clear l_t c_t0 c_t1 c_t2 c_t3 c_t4 c_t5 c_t6 c_t7 c_t8 c_t9 c_t10 c_t11 c_t12 c_t13 l_d c_d0 c_d1 c_d2 c_d3 c_d4 c_d5 c_d6
    refine (hc6 p HP.out _).mono ?_
    rintro x w8 ⟨rfl, hb0⟩
    replace B : Below w.heap.size w w8 := Below.trans (by go_grown) (hb0.mono (by first | omega | (simp [Bk.size_set]; done) | (simp [Bk.size_set]; omega)))
    have z8 := hb0.size
    (try simp only [World.size_alloc, Bk.size_set, World.size_drew, World.drewN] at z8)
    clear hb0
    go_wp2
    go_ret
    exact ⟨rfl, B⟩
end Go.Proofs.Ytmhcbiipbilakaa.Hs
