/- The walk of the law that a key is installed once. -/
import Derived.Test.YtmhcbiipbilakaaHsS
import Derived.Test.YtmhcbiipbilakaaLawHand
namespace Go.Proofs.Ytmhcbiipbilakaa.Hs
open Go.RowKit
open Go.Proofs.Ytmhcbiipbilakaa.Num Go.Proofs.Ytmhcbiipbilakaa.Mem Go.Proofs.Ytmhcbiipbilakaa.Hsh Go.Proofs.Ytmhcbiipbilakaa.Keys Go.Proofs.Ytmhcbiipbilakaa.Hand Go.Proofs.Ytmhcbiipbilakaa.Auth Go.Proofs.Ytmhcbiipbilakaa.Cur Go.Proofs.Ytmhcbiipbilakaa.Own
set_option linter.unusedSimpArgs false
set_option linter.unusedVariables false
theorem kk_i64 (p : Par) : I64 (kk p) := keyM_i64 _ _
attribute [local irreducible] mu2 mu3 mu4 ga3 kk
/-- what the rounds keep -/
def NoRel (w : World) (p : Par) (ga gs lo : Nat) (v6 v7 : Value) (wr : World) : Prop :=
  ∃ (k : Nat) (a : Aut) (s : Sup) (l : List Msg) (A : Option Addr) (c : Nat), k ≤ 24 ∧ v7 = .int .i64 (k : Int) ∧ v6 = .slice A l.length c ∧ wr.ownsRow lo 29 5 (.slice A l.length c) l.length (mcs l) ∧ Inv p k a s l ∧ (1 ≤ l.length ∧ l.length ≤ k + 1) ∧
    Bk.Blk wr ga 36 #[.int .i64 a.ms, .int .i64 a.no, .int .i64 a.pe, .int .i64 a.re, .int .i64 a.gr, .int .i64 a.wa, .bool a.dn] ∧ Bk.Blk wr gs 47 #[.int .i64 s.ms, .int .i64 s.no, .int .i64 s.pn, .int .i64 s.re, .int .i64 s.pw, .int .i64 s.gk, .int .i64 s.ins] ∧ lo ≤ wr.heap.size ∧ Below w.heap.size w wr
theorem inv_start {p : Par} (hp : p.Ok) : Inv p 0 ⟨p.K, p.A, 0, 1, p.G, 2, false⟩ ⟨p.K, p.S, 0, 0, 0, 0, 0⟩ [m1 p] := by
  obtain ⟨k1, k2, k3, k4⟩ := par_i64 hp
  refine ⟨rfl, rfl, rfl, ⟨by show (1 : Int) ≤ 1; omega, by show (1 : Int) ≤ _; omega⟩, .inl rfl, (fun e => by cases e), rfl, rfl, ⟨by show (0 : Int) ≤ 0; omega, by show (0 : Int) ≤ _; omega⟩, .inl rfl, .inl ⟨rfl, rfl⟩, ⟨k1, k2, zero_i64, one_i64 1 (by omega), k4, one_i64 2 (by omega)⟩, ⟨k1, k3, zero_i64, zero_i64, zero_i64, zero_i64, zero_i64⟩, fun x hx => ?_⟩
  rw [List.mem_singleton] at hx
  subst hx
  exact ⟨.inl ⟨rfl, rfl⟩, by show (0 : Int) ≤ 1; omega, by show (1 : Int) ≤ _; omega, one_i64 1 (by omega), one_i64 1 (by omega), k2, zero_i64, zero_i64⟩
theorem ins_bd {p : Par} {i : Nat} {a : Aut} {s : Sup} {l : List Msg} (h : Inv p i a s l) : 0 ≤ s.ins ∧ s.ins ≤ 1 := by rcases h.sin with e | e <;> (have := e.1; omega)
theorem ends_eq {p : Par} {a : Aut} {s : Sup} (h0 : 0 ≤ s.ins ∧ s.ins ≤ 1) (h1 : s.ins = 0 ↔ s.pw = 0) (h2 : s.ins = 0 ∨ (s.pw = kk p ∧ s.gk = a.gr)) (h3 : a.dn = false ∨ s.ins = 1) :
    ((s.ins == 0) = true ∧ (s.pw == 0) = true ∧ a.dn = false) ∨ ((s.ins == 0) = false ∧ (s.pw == 0) = false ∧ (s.pw == kk p) = true ∧ (s.gk == a.gr) = true ∧ (s.ins == 1) = true) := by
  by_cases e : s.ins = 0
  · refine .inl ⟨by simpa using e, by simpa using h1.1 e, ?_⟩
    rcases h3 with h | h
    · exact h
    · omega
  · rcases h2 with h | ⟨h4, h5⟩
    · exact absurd h e
    · refine .inr ⟨by simpa using e, by simpa using fun h => e (h1.2 h), by simpa using h4, by simpa using h5, ?_⟩
      have : s.ins = 1 := by omega
      simpa using this
theorem key_con {p : Par} {a : Aut} {s : Sup} (hk : keyM s.ms [41, a.no, s.no] = kk p) (h1 : I64 s.ms) (h2 : I64 a.no) (h3 : I64 s.no) (w : World) : Calls Try.prog 16 #[.int .i64 s.ms, .int .i64 a.no, .int .i64 s.no] w fun x w' => x = .returned (.int .i64 (kk p)) ∧ Below w.heap.size w w' := by
  have h := pairKey_impl s.ms a.no s.no w h1 h2 h3
  rw [hk] at h
  exact h
theorem verSelf (k : Int) (y : Msg) (w : World) (hy : y.Ok) (hk : I64 k) : Calls Try.prog 21 #[.int .i64 k, .agg #[.int .i64 y.n, .int .i64 y.r, .int .i64 y.c, .int .i64 y.g, .int .i64 (macM k [43, y.n, y.r, y.c, y.g])]] w fun x w' => x = .returned (.bool true) ∧ Below w.heap.size w w' := by
  have h := verify_impl k y.n y.r y.c y.g (macM k [43, y.n, y.r, y.c, y.g]) w hk hy.1 hy.2.1 hy.2.2.1 hy.2.2.2.1
  have e : (macM k [43, y.n, y.r, y.c, y.g] == macM k [43, y.n, y.r, y.c, y.g]) = true := by simp
  rw [e] at h
  exact h
theorem it_eq' {s t : Sup} {it : Bool} (h : it = true ↔ t.ins = s.ins + 1) : (t.ins == s.ins + 1) = it := by
  by_cases e : t.ins = s.ins + 1
  · rw [h.2 e]; simpa using e
  · cases it
    · simpa using e
    · exact absurd (h.1 rfl) e
set_option maxRecDepth 100000 in
set_option maxHeartbeats 16000000 in
theorem nore_law (A : Option Addr) (n c : Nat) (zs : List Int) (w : World) (hrow : RowIn .u8 w A n c zs) :
    Calls Try.prog 11 #[.slice A n c] w fun e w' => e = .returned (.bool true) ∧ Below w.heap.size w w' := by
  obtain ⟨i0, hi, hz0, hz1, hz2⟩ := info_parts msgInfo
  have HR := Lib.hid hrow.1
  have HB := Lib.hid (bytes_of_row hrow)
  have B : Below w.heap.size w w := Below.refl _ _
  clear hrow
  by_cases hbig : 1048576 < (n : Int)
  · go_enter Try.func11, Try.ntmps11
    go_wp2_with (first | (go_at_call 31; refine (big_any _ _ _ _).mono ?_; rintro e w' ⟨rfl, rfl⟩))
    go_ret
    exact ⟨rfl, B⟩
  · go_enter Try.func11, Try.ntmps11
    go_wp2_with (first | (go_at_call 31; refine (big_any _ _ _ _).mono ?_; rintro e w' ⟨rfl, rfl⟩))
    refine (drawSides_any A n c zs _ HR.out HB.out (by omega)).mono ?_
    rintro x w1 ⟨p, hp, rfl, hb0⟩
    replace B : Below w.heap.size w w1 := Below.trans (by go_grown) (hb0.mono (by first | omega | (simp [Bk.size_set]; done) | (simp [Bk.size_set]; omega)))
    have z1 := hb0.size
    (try simp only [World.size_alloc, Bk.size_set, World.size_drew, World.drewN] at z1)
    clear hb0
    have HP := Lib.hid hp
    clear hp
    go_wp2_with fail
    refine (hc0 p HP.out _).mono ?_
    rintro x w2 ⟨rfl, hb0⟩
    have a : Bk.Blk w2 (w1.heap.size) 36 #[.int .i64 p.K, .int .i64 p.A, .int .i64 0, .int .i64 0, .int .i64 p.G, .int .i64 0, .bool false] := (by apply Bk.Blk.to; (focus (apply Bk.Blk.under hb0; (repeat (first | with_reducible assumption | (with_reducible apply Bk.Blk.newAt; focus (first | (simp [Bk.size_set]; done) | (simp [Bk.size_set]; omega))) | with_reducible apply Bk.Blk.drewN | with_reducible apply Bk.Blk.drew | with_reducible apply Bk.Blk.set_ | (with_reducible apply Bk.Blk.far; focus (dsimp only; first | omega | (simp; omega) | (simp; done))) | with_reducible apply Bk.Blk.alloc)))); rfl)
    have s : Bk.Blk w2 (w1.heap.size + 1) 47 #[.int .i64 p.K, .int .i64 p.S, .int .i64 0, .int .i64 0, .int .i64 0, .int .i64 0, .int .i64 0] := (by apply Bk.Blk.to; (focus (apply Bk.Blk.under hb0; (repeat (first | with_reducible assumption | (with_reducible apply Bk.Blk.newAt; focus (first | (simp [Bk.size_set]; done) | (simp [Bk.size_set]; omega))) | with_reducible apply Bk.Blk.drewN | with_reducible apply Bk.Blk.drew | with_reducible apply Bk.Blk.set_ | (with_reducible apply Bk.Blk.far; focus (dsimp only; first | omega | (simp; omega) | (simp; done))) | with_reducible apply Bk.Blk.alloc)))); rfl)
    replace B : Below w.heap.size w w2 := Below.trans (by go_grown) (hb0.mono (by first | omega | (simp [Bk.size_set]; done) | (simp [Bk.size_set]; omega)))
    have z2 := hb0.size
    (try simp only [World.size_alloc, Bk.size_set, World.size_drew, World.drewN] at z2)
    clear hb0
    have l_a : w1.heap.size < w2.heap.size := Bk.Blk.lt a
    have c_a0 : w2.cell? ⟨w1.heap.size, 0, none⟩ = some (.int .i64 p.K) := Bk.Blk.cell a 0
    have f_a0 : w2.frozen? ⟨w1.heap.size, 0, none⟩ = false := Bk.Blk.fro a 0
    have c_a1 : w2.cell? ⟨w1.heap.size, 1, none⟩ = some (.int .i64 p.A) := Bk.Blk.cell a 1
    have f_a1 : w2.frozen? ⟨w1.heap.size, 1, none⟩ = false := Bk.Blk.fro a 1
    have c_a2 : w2.cell? ⟨w1.heap.size, 2, none⟩ = some (.int .i64 0) := Bk.Blk.cell a 2
    have f_a2 : w2.frozen? ⟨w1.heap.size, 2, none⟩ = false := Bk.Blk.fro a 2
    have c_a3 : w2.cell? ⟨w1.heap.size, 3, none⟩ = some (.int .i64 0) := Bk.Blk.cell a 3
    have f_a3 : w2.frozen? ⟨w1.heap.size, 3, none⟩ = false := Bk.Blk.fro a 3
    have c_a4 : w2.cell? ⟨w1.heap.size, 4, none⟩ = some (.int .i64 p.G) := Bk.Blk.cell a 4
    have f_a4 : w2.frozen? ⟨w1.heap.size, 4, none⟩ = false := Bk.Blk.fro a 4
    have c_a5 : w2.cell? ⟨w1.heap.size, 5, none⟩ = some (.int .i64 0) := Bk.Blk.cell a 5
    have f_a5 : w2.frozen? ⟨w1.heap.size, 5, none⟩ = false := Bk.Blk.fro a 5
    have c_a6 : w2.cell? ⟨w1.heap.size, 6, none⟩ = some (.bool false) := Bk.Blk.cell a 6
    have f_a6 : w2.frozen? ⟨w1.heap.size, 6, none⟩ = false := Bk.Blk.fro a 6
    have l_s : w1.heap.size + 1 < w2.heap.size := Bk.Blk.lt s
    have c_s0 : w2.cell? ⟨w1.heap.size + 1, 0, none⟩ = some (.int .i64 p.K) := Bk.Blk.cell s 0
    have f_s0 : w2.frozen? ⟨w1.heap.size + 1, 0, none⟩ = false := Bk.Blk.fro s 0
    have c_s1 : w2.cell? ⟨w1.heap.size + 1, 1, none⟩ = some (.int .i64 p.S) := Bk.Blk.cell s 1
    have f_s1 : w2.frozen? ⟨w1.heap.size + 1, 1, none⟩ = false := Bk.Blk.fro s 1
    have c_s2 : w2.cell? ⟨w1.heap.size + 1, 2, none⟩ = some (.int .i64 0) := Bk.Blk.cell s 2
    have f_s2 : w2.frozen? ⟨w1.heap.size + 1, 2, none⟩ = false := Bk.Blk.fro s 2
    have c_s3 : w2.cell? ⟨w1.heap.size + 1, 3, none⟩ = some (.int .i64 0) := Bk.Blk.cell s 3
    have f_s3 : w2.frozen? ⟨w1.heap.size + 1, 3, none⟩ = false := Bk.Blk.fro s 3
    have c_s4 : w2.cell? ⟨w1.heap.size + 1, 4, none⟩ = some (.int .i64 0) := Bk.Blk.cell s 4
    have f_s4 : w2.frozen? ⟨w1.heap.size + 1, 4, none⟩ = false := Bk.Blk.fro s 4
    have c_s5 : w2.cell? ⟨w1.heap.size + 1, 5, none⟩ = some (.int .i64 0) := Bk.Blk.cell s 5
    have f_s5 : w2.frozen? ⟨w1.heap.size + 1, 5, none⟩ = false := Bk.Blk.fro s 5
    have c_s6 : w2.cell? ⟨w1.heap.size + 1, 6, none⟩ = some (.int .i64 0) := Bk.Blk.cell s 6
    have f_s6 : w2.frozen? ⟨w1.heap.size + 1, 6, none⟩ = false := Bk.Blk.fro s 6
    go_wp2_with fail
    clear l_a c_a0 f_a0 c_a1 f_a1 c_a2 f_a2 c_a3 f_a3 c_a4 f_a4 c_a5 f_a5 c_a6 f_a6 l_s c_s0 f_s0 c_s1 f_s1 c_s2 f_s2 c_s3 f_s3 c_s4 f_s4 c_s5 f_s5 c_s6 f_s6
    generalize hW : World.alloc _ _ = w3
    replace a : Bk.Blk w3 (w1.heap.size) 36 #[.int .i64 p.K, .int .i64 p.A, .int .i64 0, .int .i64 1, .int .i64 p.G, .int .i64 2, .bool false] := (by rw [← hW]; apply Bk.Blk.to; (focus ((repeat (first | with_reducible assumption | (with_reducible apply Bk.Blk.newAt; focus (first | (simp [Bk.size_set]; done) | (simp [Bk.size_set]; omega))) | with_reducible apply Bk.Blk.drewN | with_reducible apply Bk.Blk.drew | with_reducible apply Bk.Blk.set_ | (with_reducible apply Bk.Blk.far; focus (dsimp only; first | omega | (simp; omega) | (simp; done))) | with_reducible apply Bk.Blk.alloc)))); rfl)
    replace s : Bk.Blk w3 (w1.heap.size + 1) 47 #[.int .i64 p.K, .int .i64 p.S, .int .i64 0, .int .i64 0, .int .i64 0, .int .i64 0, .int .i64 0] := (by rw [← hW]; (repeat (first | with_reducible assumption | (with_reducible apply Bk.Blk.newAt; focus (first | (simp [Bk.size_set]; done) | (simp [Bk.size_set]; omega))) | with_reducible apply Bk.Blk.drewN | with_reducible apply Bk.Blk.drew | with_reducible apply Bk.Blk.set_ | (with_reducible apply Bk.Blk.far; focus (dsimp only; first | omega | (simp; omega) | (simp; done))) | with_reducible apply Bk.Blk.alloc)))
    have hown : w3.ownsRow (w2.heap.size + 1) 29 5 (.slice (some ⟨w2.heap.size + 1, 0, none⟩) 1 1) 1 (mcs [m1 p]) := by
      rw [← hW]; exact own_lit _ (m1 p) _ _ (by simp [Bk.size_set])
    replace B : Below w.heap.size w w3 := (by rw [← hW]; go_grown)
    have z3 : w3.heap.size = _ := congrArg (fun W : World => W.heap.size) hW.symm
    (try simp only [World.size_alloc, Bk.size_set, World.size_drew, World.drewN] at z3)
    clear hW
    have HO := Lib.hid hown
    clear hown
    go_loopw [6, 7] (fun v6 v7 wr => NoRel w p w1.heap.size (w1.heap.size + 1) (w2.heap.size + 1) v6 v7 wr) (fun _ v7 _ => 24 - (intOf v7).toNat)
    case atStart => exact ⟨0, ⟨p.K, p.A, 0, 1, p.G, 2, false⟩, ⟨p.K, p.S, 0, 0, 0, 0, 0⟩, [m1 p], _, _, by omega, rfl, rfl, HO.out, inv_start HP.out, ⟨by simp, by simp⟩, a, s, by omega, B⟩
    case round =>
      obtain ⟨w20, rfl⟩ : ∃ wo : World, wo = wr := ⟨_, rfl⟩
      clear HO a s B z3
      obtain ⟨k, a, s, l, A1, c1, hk, rfl, rfl, hown, hinv, ⟨hl1, hl2⟩, ba, bs, hlo, B⟩ := hrel
      have sib := ins_bd hinv
      have HAO := Lib.hid hinv.aok
      have HSO := Lib.hid hinv.sok
      have HINV := Lib.hid hinv
      have HO := Lib.hid hown
      clear hinv hown
      by_cases hlt : k < 24
      · go_wp2_with fail
        refine (at_any A n c zs _ _ (HR.out.below B) HB.out (by omega) (by omega) (by omega)).mono ?_
        rintro e w' ⟨x, ⟨x0, x1⟩, rfl, rfl⟩
        have hm0 := Int.emod_nonneg x (show (l.length : Int) ≠ 0 by omega)
        have hm1 := Int.emod_lt_of_pos x (show (0 : Int) < (l.length : Int) by omega)
        obtain ⟨j, hj⟩ := Int.eq_ofNat_of_zero_le hm0
        rw [hj] at hm0 hm1
        obtain ⟨g, y, rfl, hy, hg1, hg2, d0, d1, d2, d3, d4⟩ := own_at HO.out (k := j) (by omega)
        have hl0 : (0 : Int) < (l.length : Int) := by omega
        go_wp2_with fail
        have F : Bk.Kept (w2.heap.size + 1) w20 w20 := Bk.Kept.refl _ _
        refine (at_any A n c zs _ _ (HR.out.below (B.alloc (by omega) _)) HB.out (by omega) (by omega) (by omega)).mono ?_
        rintro e w' ⟨u, ⟨u0, u1⟩, rfl, rfl⟩
        have v0 := Int.emod_nonneg u (show (5 : Int) ≠ 0 by omega)
        have v1 := Int.emod_lt_of_pos u (show (0 : Int) < 5 by omega)
        clear d0 d1 d2 d3 d4
        by_cases h0 : u % 5 = 0
        · have e0 : (u % 5 == 0) = true := by simpa using h0
          have HC := Lib.hid (fun w => resend_any a w HAO.out)
          have HI := Lib.hid (inv_resend HINV.out (by omega))
          clear h0 HINV
          generalize resend a = R at HC HI
          obtain ⟨a2, y2, ok2⟩ := R
          dsimp only at HC HI
          have l_ba : w1.heap.size < w20.heap.size := Bk.Blk.lt ba
          have c_ba0 : w20.cell? ⟨w1.heap.size, 0, none⟩ = some (.int .i64 a.ms) := Bk.Blk.cell ba 0
          have c_ba1 : w20.cell? ⟨w1.heap.size, 1, none⟩ = some (.int .i64 a.no) := Bk.Blk.cell ba 1
          have c_ba2 : w20.cell? ⟨w1.heap.size, 2, none⟩ = some (.int .i64 a.pe) := Bk.Blk.cell ba 2
          have c_ba3 : w20.cell? ⟨w1.heap.size, 3, none⟩ = some (.int .i64 a.re) := Bk.Blk.cell ba 3
          have c_ba4 : w20.cell? ⟨w1.heap.size, 4, none⟩ = some (.int .i64 a.gr) := Bk.Blk.cell ba 4
          have c_ba5 : w20.cell? ⟨w1.heap.size, 5, none⟩ = some (.int .i64 a.wa) := Bk.Blk.cell ba 5
          have c_ba6 : w20.cell? ⟨w1.heap.size, 6, none⟩ = some (.bool a.dn) := Bk.Blk.cell ba 6
          have l_bs : w1.heap.size + 1 < w20.heap.size := Bk.Blk.lt bs
          have c_bs0 : w20.cell? ⟨w1.heap.size + 1, 0, none⟩ = some (.int .i64 s.ms) := Bk.Blk.cell bs 0
          have c_bs1 : w20.cell? ⟨w1.heap.size + 1, 1, none⟩ = some (.int .i64 s.no) := Bk.Blk.cell bs 1
          have c_bs2 : w20.cell? ⟨w1.heap.size + 1, 2, none⟩ = some (.int .i64 s.pn) := Bk.Blk.cell bs 2
          have c_bs3 : w20.cell? ⟨w1.heap.size + 1, 3, none⟩ = some (.int .i64 s.re) := Bk.Blk.cell bs 3
          have c_bs4 : w20.cell? ⟨w1.heap.size + 1, 4, none⟩ = some (.int .i64 s.pw) := Bk.Blk.cell bs 4
          have c_bs5 : w20.cell? ⟨w1.heap.size + 1, 5, none⟩ = some (.int .i64 s.gk) := Bk.Blk.cell bs 5
          have c_bs6 : w20.cell? ⟨w1.heap.size + 1, 6, none⟩ = some (.int .i64 s.ins) := Bk.Blk.cell bs 6
          go_wp2_with fail
          clear l_ba c_ba0 c_ba1 c_ba2 c_ba3 c_ba4 c_ba5 c_ba6 l_bs c_bs0 c_bs1 c_bs2 c_bs3 c_bs4 c_bs5 c_bs6
          refine (HC.out _).mono ?_
          rintro x w21 ⟨rfl, hb0⟩
          replace ba : Bk.Blk w21 (w1.heap.size) 36 #[.int .i64 a.ms, .int .i64 a.no, .int .i64 a.pe, .int .i64 a.re, .int .i64 a.gr, .int .i64 a.wa, .bool a.dn] := Bk.Blk.under hb0 (by (repeat (first | with_reducible assumption | (with_reducible apply Bk.Blk.newAt; focus (first | (simp [Bk.size_set]; done) | (simp [Bk.size_set]; omega))) | with_reducible apply Bk.Blk.drewN | with_reducible apply Bk.Blk.drew | with_reducible apply Bk.Blk.set_ | (with_reducible apply Bk.Blk.far; focus (dsimp only; first | omega | (simp; omega) | (simp; done))) | with_reducible apply Bk.Blk.alloc)))
          replace bs : Bk.Blk w21 (w1.heap.size + 1) 47 #[.int .i64 s.ms, .int .i64 s.no, .int .i64 s.pn, .int .i64 s.re, .int .i64 s.pw, .int .i64 s.gk, .int .i64 s.ins] := Bk.Blk.under hb0 (by (repeat (first | with_reducible assumption | (with_reducible apply Bk.Blk.newAt; focus (first | (simp [Bk.size_set]; done) | (simp [Bk.size_set]; omega))) | with_reducible apply Bk.Blk.drewN | with_reducible apply Bk.Blk.drew | with_reducible apply Bk.Blk.set_ | (with_reducible apply Bk.Blk.far; focus (dsimp only; first | omega | (simp; omega) | (simp; done))) | with_reducible apply Bk.Blk.alloc)))
          replace F : Bk.Kept (w2.heap.size + 1) w20 w21 := Bk.Kept.under hb0 (by (repeat (first | with_reducible assumption | with_reducible exact Bk.Kept.refl _ _ | with_reducible apply Bk.Kept.alloc | with_reducible apply Bk.Kept.drewN | with_reducible apply Bk.Kept.drew | (with_reducible apply Bk.Kept.setCell; focus (dsimp only; omega)))))
          replace B : Below w.heap.size w w21 := Below.trans (by go_grown) (hb0.mono (by first | omega | (simp [Bk.size_set]; done) | (simp [Bk.size_set]; omega)))
          have z21 := hb0.size
          (try simp only [World.size_alloc, Bk.size_set, World.size_drew, World.drewN] at z21)
          clear hb0
          have l_ba : w1.heap.size < w21.heap.size := Bk.Blk.lt ba
          have c_ba0 : w21.cell? ⟨w1.heap.size, 0, none⟩ = some (.int .i64 a.ms) := Bk.Blk.cell ba 0
          have f_ba0 : w21.frozen? ⟨w1.heap.size, 0, none⟩ = false := Bk.Blk.fro ba 0
          have c_ba1 : w21.cell? ⟨w1.heap.size, 1, none⟩ = some (.int .i64 a.no) := Bk.Blk.cell ba 1
          have f_ba1 : w21.frozen? ⟨w1.heap.size, 1, none⟩ = false := Bk.Blk.fro ba 1
          have c_ba2 : w21.cell? ⟨w1.heap.size, 2, none⟩ = some (.int .i64 a.pe) := Bk.Blk.cell ba 2
          have f_ba2 : w21.frozen? ⟨w1.heap.size, 2, none⟩ = false := Bk.Blk.fro ba 2
          have c_ba3 : w21.cell? ⟨w1.heap.size, 3, none⟩ = some (.int .i64 a.re) := Bk.Blk.cell ba 3
          have f_ba3 : w21.frozen? ⟨w1.heap.size, 3, none⟩ = false := Bk.Blk.fro ba 3
          have c_ba4 : w21.cell? ⟨w1.heap.size, 4, none⟩ = some (.int .i64 a.gr) := Bk.Blk.cell ba 4
          have f_ba4 : w21.frozen? ⟨w1.heap.size, 4, none⟩ = false := Bk.Blk.fro ba 4
          have c_ba5 : w21.cell? ⟨w1.heap.size, 5, none⟩ = some (.int .i64 a.wa) := Bk.Blk.cell ba 5
          have f_ba5 : w21.frozen? ⟨w1.heap.size, 5, none⟩ = false := Bk.Blk.fro ba 5
          have c_ba6 : w21.cell? ⟨w1.heap.size, 6, none⟩ = some (.bool a.dn) := Bk.Blk.cell ba 6
          have f_ba6 : w21.frozen? ⟨w1.heap.size, 6, none⟩ = false := Bk.Blk.fro ba 6
          cases ok2
          · have HJ := Lib.hid (HI.out.1 rfl)
            clear HI
            go_wp2
            go_roundw
            case rel => exact ⟨k + 1, a2, s, l, _, c1, by omega, by go_num, rfl, own_kept HO.out (by (repeat (first | with_reducible assumption | with_reducible exact Bk.Kept.refl _ _ | with_reducible apply Bk.Kept.alloc | with_reducible apply Bk.Kept.drewN | with_reducible apply Bk.Kept.drew | (with_reducible apply Bk.Kept.setCell; focus (dsimp only; omega))))), HJ.out, ⟨by omega, by omega⟩, (by (apply Bk.Blk.to; (focus (repeat (first | with_reducible assumption | (with_reducible apply Bk.Blk.newAt; focus (first | (simp [Bk.size_set]; done) | (simp [Bk.size_set]; omega))) | with_reducible apply Bk.Blk.drewN | with_reducible apply Bk.Blk.drew | with_reducible apply Bk.Blk.set_ | (with_reducible apply Bk.Blk.far; focus (dsimp only; first | omega | (simp; omega) | (simp; done))) | with_reducible apply Bk.Blk.alloc))); rfl)), (by (apply Bk.Blk.to; (focus (repeat (first | with_reducible assumption | (with_reducible apply Bk.Blk.newAt; focus (first | (simp [Bk.size_set]; done) | (simp [Bk.size_set]; omega))) | with_reducible apply Bk.Blk.drewN | with_reducible apply Bk.Blk.drew | with_reducible apply Bk.Blk.set_ | (with_reducible apply Bk.Blk.far; focus (dsimp only; first | omega | (simp; omega) | (simp; done))) | with_reducible apply Bk.Blk.alloc))); rfl)), (by first | omega | (simp [Bk.size_set]; omega)), by go_grown⟩
            case measure => simp [intOf]; omega
          · have HJ := Lib.hid (HI.out.2 rfl)
            clear HI
            go_wp2_with (at_builtin; refine Bk.stopHere ?_)
            show wpList _ _ _ _ _ _
            generalize hW : World.alloc _ _ = w22
            replace ba : Bk.Blk w22 (w1.heap.size) 36 #[.int .i64 a2.ms, .int .i64 a2.no, .int .i64 a2.pe, .int .i64 a2.re, .int .i64 a2.gr, .int .i64 a2.wa, .bool a2.dn] := (by rw [← hW]; apply Bk.Blk.to; (focus ((repeat (first | with_reducible assumption | (with_reducible apply Bk.Blk.newAt; focus (first | (simp [Bk.size_set]; done) | (simp [Bk.size_set]; omega))) | with_reducible apply Bk.Blk.drewN | with_reducible apply Bk.Blk.drew | with_reducible apply Bk.Blk.set_ | (with_reducible apply Bk.Blk.far; focus (dsimp only; first | omega | (simp; omega) | (simp; done))) | with_reducible apply Bk.Blk.alloc)))); rfl)
            replace bs : Bk.Blk w22 (w1.heap.size + 1) 47 #[.int .i64 s.ms, .int .i64 s.no, .int .i64 s.pn, .int .i64 s.re, .int .i64 s.pw, .int .i64 s.gk, .int .i64 s.ins] := (by rw [← hW]; apply Bk.Blk.to; (focus ((repeat (first | with_reducible assumption | (with_reducible apply Bk.Blk.newAt; focus (first | (simp [Bk.size_set]; done) | (simp [Bk.size_set]; omega))) | with_reducible apply Bk.Blk.drewN | with_reducible apply Bk.Blk.drew | with_reducible apply Bk.Blk.set_ | (with_reducible apply Bk.Blk.far; focus (dsimp only; first | omega | (simp; omega) | (simp; done))) | with_reducible apply Bk.Blk.alloc)))); rfl)
            replace F : Bk.Kept (w2.heap.size + 1) w20 w22 := (by rw [← hW]; (repeat (first | with_reducible assumption | with_reducible exact Bk.Kept.refl _ _ | with_reducible apply Bk.Kept.alloc | with_reducible apply Bk.Kept.drewN | with_reducible apply Bk.Kept.drew | (with_reducible apply Bk.Kept.setCell; focus (dsimp only; omega)))))
            have hrd : Rd w22 5 (some ⟨w21.heap.size + 1 + 1, 0, none⟩) 1 1 (mc y2) := by rw [← hW]; exact rd_five _ y2 _ _ (by simp [Bk.size_set])
            replace B : Below w.heap.size w w22 := (by rw [← hW]; go_grown)
            have z22 : w22.heap.size = _ := congrArg (fun W : World => W.heap.size) hW.symm
            (try simp only [World.size_alloc, Bk.size_set, World.size_drew, World.drewN] at z22)
            clear hW
            have hown := own_kept HO.out F
            refine wpl_app _ rfl _ _ 54 rfl (w2.heap.size + 1) 29 i0 (.agg #[.int .i64 0, .int .i64 0, .int .i64 0, .int .i64 0, .int .i64 0]) 5 40 Try.underlying54 hi hz0 hz1 hz2 rfl (by decide) _ _ _ _ rfl hown _ 1 1 (mc y2) rfl hrd (mc_one _) (by unfold maxLen; omega) (by omega) (by omega) ?_
            intro A2 c2 w23 hown2 hg2 hat2
            have ba2 : Bk.Blk w23 (w1.heap.size) 36 #[.int .i64 a2.ms, .int .i64 a2.no, .int .i64 a2.pe, .int .i64 a2.re, .int .i64 a2.gr, .int .i64 a2.wa, .bool a2.dn] := Bk.Blk.grown (k := g) hg2 (by omega) ba
            have bs2 : Bk.Blk w23 (w1.heap.size + 1) 47 #[.int .i64 s.ms, .int .i64 s.no, .int .i64 s.pn, .int .i64 s.re, .int .i64 s.pw, .int .i64 s.gk, .int .i64 s.ins] := Bk.Blk.grown (k := g) hg2 (by omega) bs
            have B2 : Below w.heap.size w w23 := Bk.below_grown (k := g) B hg2 (by omega) (by omega)
            have hz23 := hg2.size
            have HO2 := Lib.hid (show w23.ownsRow (w2.heap.size + 1) 29 5 (.slice A2 (l ++ [y2]).length c2) (l ++ [y2]).length (mcs (l ++ [y2])) by rw [mcs_snoc, List.length_append]; exact hown2)
            have HL := Lib.hid (show (l ++ [y2]).length = l.length + 1 by simp)
            clear hown hown2 hg2 hat2 ba bs hrd
            go_wp2
            go_roundw
            case rel => exact ⟨k + 1, a2, s, l ++ [y2], A2, c2, by omega, by go_num, by rw [HL.out], HO2.out, HJ.out, ⟨by rw [HL.out]; omega, by rw [HL.out]; omega⟩, ba2, bs2, by omega, B2⟩
            case measure => simp [intOf]; omega
        · have e0 : (u % 5 == 0) = false := by simpa using h0
          by_cases h12 : u % 5 = 1 ∨ u % 5 = 2
          · have HC := Lib.hid (fun w => sup_impl s y w HSO.out (HINV.out.all y hy).2.2.2)
            have HI := Lib.hid (inv_sup HP.out HINV.out hy)
            have hE : (u % 5 == 1) = true ∨ ((u % 5 == 1) = false ∧ (u % 5 == 2) = true) := by
              rcases h12 with e | e
              · exact .inl (by simpa using e)
              · exact .inr ⟨by rw [e]; rfl, by simpa using e⟩
            clear h0 h12 HINV
            generalize supR s y = R at HC HI
            obtain ⟨t, y2, rp, it⟩ := R
            dsimp only at HC HI
            have hit := it_eq' HI.out.1
            have hre : decide (t.re < s.re) = false := by simpa using HI.out.2.1
            rcases hE with e1 | ⟨e1, e2⟩
            all_goals
              have l_ba : w1.heap.size < w20.heap.size := Bk.Blk.lt ba
              have c_ba0 : w20.cell? ⟨w1.heap.size, 0, none⟩ = some (.int .i64 a.ms) := Bk.Blk.cell ba 0
              have c_ba1 : w20.cell? ⟨w1.heap.size, 1, none⟩ = some (.int .i64 a.no) := Bk.Blk.cell ba 1
              have c_ba2 : w20.cell? ⟨w1.heap.size, 2, none⟩ = some (.int .i64 a.pe) := Bk.Blk.cell ba 2
              have c_ba3 : w20.cell? ⟨w1.heap.size, 3, none⟩ = some (.int .i64 a.re) := Bk.Blk.cell ba 3
              have c_ba4 : w20.cell? ⟨w1.heap.size, 4, none⟩ = some (.int .i64 a.gr) := Bk.Blk.cell ba 4
              have c_ba5 : w20.cell? ⟨w1.heap.size, 5, none⟩ = some (.int .i64 a.wa) := Bk.Blk.cell ba 5
              have c_ba6 : w20.cell? ⟨w1.heap.size, 6, none⟩ = some (.bool a.dn) := Bk.Blk.cell ba 6
              have l_bs : w1.heap.size + 1 < w20.heap.size := Bk.Blk.lt bs
              have c_bs0 : w20.cell? ⟨w1.heap.size + 1, 0, none⟩ = some (.int .i64 s.ms) := Bk.Blk.cell bs 0
              have c_bs1 : w20.cell? ⟨w1.heap.size + 1, 1, none⟩ = some (.int .i64 s.no) := Bk.Blk.cell bs 1
              have c_bs2 : w20.cell? ⟨w1.heap.size + 1, 2, none⟩ = some (.int .i64 s.pn) := Bk.Blk.cell bs 2
              have c_bs3 : w20.cell? ⟨w1.heap.size + 1, 3, none⟩ = some (.int .i64 s.re) := Bk.Blk.cell bs 3
              have c_bs4 : w20.cell? ⟨w1.heap.size + 1, 4, none⟩ = some (.int .i64 s.pw) := Bk.Blk.cell bs 4
              have c_bs5 : w20.cell? ⟨w1.heap.size + 1, 5, none⟩ = some (.int .i64 s.gk) := Bk.Blk.cell bs 5
              have c_bs6 : w20.cell? ⟨w1.heap.size + 1, 6, none⟩ = some (.int .i64 s.ins) := Bk.Blk.cell bs 6
              go_wp2_with fail
              clear l_ba c_ba0 c_ba1 c_ba2 c_ba3 c_ba4 c_ba5 c_ba6 l_bs c_bs0 c_bs1 c_bs2 c_bs3 c_bs4 c_bs5 c_bs6
              refine (HC.out _).mono ?_
              rintro x w21 ⟨rfl, hb0⟩
              replace ba : Bk.Blk w21 (w1.heap.size) 36 #[.int .i64 a.ms, .int .i64 a.no, .int .i64 a.pe, .int .i64 a.re, .int .i64 a.gr, .int .i64 a.wa, .bool a.dn] := Bk.Blk.under hb0 (by (repeat (first | with_reducible assumption | (with_reducible apply Bk.Blk.newAt; focus (first | (simp [Bk.size_set]; done) | (simp [Bk.size_set]; omega))) | with_reducible apply Bk.Blk.drewN | with_reducible apply Bk.Blk.drew | with_reducible apply Bk.Blk.set_ | (with_reducible apply Bk.Blk.far; focus (dsimp only; first | omega | (simp; omega) | (simp; done))) | with_reducible apply Bk.Blk.alloc)))
              replace bs : Bk.Blk w21 (w1.heap.size + 1) 47 #[.int .i64 s.ms, .int .i64 s.no, .int .i64 s.pn, .int .i64 s.re, .int .i64 s.pw, .int .i64 s.gk, .int .i64 s.ins] := Bk.Blk.under hb0 (by (repeat (first | with_reducible assumption | (with_reducible apply Bk.Blk.newAt; focus (first | (simp [Bk.size_set]; done) | (simp [Bk.size_set]; omega))) | with_reducible apply Bk.Blk.drewN | with_reducible apply Bk.Blk.drew | with_reducible apply Bk.Blk.set_ | (with_reducible apply Bk.Blk.far; focus (dsimp only; first | omega | (simp; omega) | (simp; done))) | with_reducible apply Bk.Blk.alloc)))
              replace F : Bk.Kept (w2.heap.size + 1) w20 w21 := Bk.Kept.under hb0 (by (repeat (first | with_reducible assumption | with_reducible exact Bk.Kept.refl _ _ | with_reducible apply Bk.Kept.alloc | with_reducible apply Bk.Kept.drewN | with_reducible apply Bk.Kept.drew | (with_reducible apply Bk.Kept.setCell; focus (dsimp only; omega)))))
              replace B : Below w.heap.size w w21 := Below.trans (by go_grown) (hb0.mono (by first | omega | (simp [Bk.size_set]; done) | (simp [Bk.size_set]; omega)))
              have z21 := hb0.size
              (try simp only [World.size_alloc, Bk.size_set, World.size_drew, World.drewN] at z21)
              clear hb0
              have l_bs : w1.heap.size + 1 < w21.heap.size := Bk.Blk.lt bs
              have c_bs0 : w21.cell? ⟨w1.heap.size + 1, 0, none⟩ = some (.int .i64 s.ms) := Bk.Blk.cell bs 0
              have f_bs0 : w21.frozen? ⟨w1.heap.size + 1, 0, none⟩ = false := Bk.Blk.fro bs 0
              have c_bs1 : w21.cell? ⟨w1.heap.size + 1, 1, none⟩ = some (.int .i64 s.no) := Bk.Blk.cell bs 1
              have f_bs1 : w21.frozen? ⟨w1.heap.size + 1, 1, none⟩ = false := Bk.Blk.fro bs 1
              have c_bs2 : w21.cell? ⟨w1.heap.size + 1, 2, none⟩ = some (.int .i64 s.pn) := Bk.Blk.cell bs 2
              have f_bs2 : w21.frozen? ⟨w1.heap.size + 1, 2, none⟩ = false := Bk.Blk.fro bs 2
              have c_bs3 : w21.cell? ⟨w1.heap.size + 1, 3, none⟩ = some (.int .i64 s.re) := Bk.Blk.cell bs 3
              have f_bs3 : w21.frozen? ⟨w1.heap.size + 1, 3, none⟩ = false := Bk.Blk.fro bs 3
              have c_bs4 : w21.cell? ⟨w1.heap.size + 1, 4, none⟩ = some (.int .i64 s.pw) := Bk.Blk.cell bs 4
              have f_bs4 : w21.frozen? ⟨w1.heap.size + 1, 4, none⟩ = false := Bk.Blk.fro bs 4
              have c_bs5 : w21.cell? ⟨w1.heap.size + 1, 5, none⟩ = some (.int .i64 s.gk) := Bk.Blk.cell bs 5
              have f_bs5 : w21.frozen? ⟨w1.heap.size + 1, 5, none⟩ = false := Bk.Blk.fro bs 5
              have c_bs6 : w21.cell? ⟨w1.heap.size + 1, 6, none⟩ = some (.int .i64 s.ins) := Bk.Blk.cell bs 6
              have f_bs6 : w21.frozen? ⟨w1.heap.size + 1, 6, none⟩ = false := Bk.Blk.fro bs 6
              cases rp
              · have HJ := Lib.hid (HI.out.2.2.1 rfl)
                clear HI
                go_wp2
                go_roundw
                case rel => exact ⟨k + 1, a, t, l, _, c1, by omega, by go_num, rfl, own_kept HO.out (by (repeat (first | with_reducible assumption | with_reducible exact Bk.Kept.refl _ _ | with_reducible apply Bk.Kept.alloc | with_reducible apply Bk.Kept.drewN | with_reducible apply Bk.Kept.drew | (with_reducible apply Bk.Kept.setCell; focus (dsimp only; omega))))), HJ.out, ⟨by omega, by omega⟩, (by (apply Bk.Blk.to; (focus (repeat (first | with_reducible assumption | (with_reducible apply Bk.Blk.newAt; focus (first | (simp [Bk.size_set]; done) | (simp [Bk.size_set]; omega))) | with_reducible apply Bk.Blk.drewN | with_reducible apply Bk.Blk.drew | with_reducible apply Bk.Blk.set_ | (with_reducible apply Bk.Blk.far; focus (dsimp only; first | omega | (simp; omega) | (simp; done))) | with_reducible apply Bk.Blk.alloc))); rfl)), (by (apply Bk.Blk.to; (focus (repeat (first | with_reducible assumption | (with_reducible apply Bk.Blk.newAt; focus (first | (simp [Bk.size_set]; done) | (simp [Bk.size_set]; omega))) | with_reducible apply Bk.Blk.drewN | with_reducible apply Bk.Blk.drew | with_reducible apply Bk.Blk.set_ | (with_reducible apply Bk.Blk.far; focus (dsimp only; first | omega | (simp; omega) | (simp; done))) | with_reducible apply Bk.Blk.alloc))); rfl)), (by first | omega | (simp [Bk.size_set]; omega)), by go_grown⟩
                case measure => simp [intOf]; omega
              · have HJ := Lib.hid (HI.out.2.2.2 rfl)
                clear HI
                go_wp2_with (at_builtin; refine Bk.stopHere ?_)
                show wpList _ _ _ _ _ _
                generalize hW : World.alloc _ _ = w22
                replace ba : Bk.Blk w22 (w1.heap.size) 36 #[.int .i64 a.ms, .int .i64 a.no, .int .i64 a.pe, .int .i64 a.re, .int .i64 a.gr, .int .i64 a.wa, .bool a.dn] := (by rw [← hW]; apply Bk.Blk.to; (focus ((repeat (first | with_reducible assumption | (with_reducible apply Bk.Blk.newAt; focus (first | (simp [Bk.size_set]; done) | (simp [Bk.size_set]; omega))) | with_reducible apply Bk.Blk.drewN | with_reducible apply Bk.Blk.drew | with_reducible apply Bk.Blk.set_ | (with_reducible apply Bk.Blk.far; focus (dsimp only; first | omega | (simp; omega) | (simp; done))) | with_reducible apply Bk.Blk.alloc)))); rfl)
                replace bs : Bk.Blk w22 (w1.heap.size + 1) 47 #[.int .i64 t.ms, .int .i64 t.no, .int .i64 t.pn, .int .i64 t.re, .int .i64 t.pw, .int .i64 t.gk, .int .i64 t.ins] := (by rw [← hW]; apply Bk.Blk.to; (focus ((repeat (first | with_reducible assumption | (with_reducible apply Bk.Blk.newAt; focus (first | (simp [Bk.size_set]; done) | (simp [Bk.size_set]; omega))) | with_reducible apply Bk.Blk.drewN | with_reducible apply Bk.Blk.drew | with_reducible apply Bk.Blk.set_ | (with_reducible apply Bk.Blk.far; focus (dsimp only; first | omega | (simp; omega) | (simp; done))) | with_reducible apply Bk.Blk.alloc)))); rfl)
                replace F : Bk.Kept (w2.heap.size + 1) w20 w22 := (by rw [← hW]; (repeat (first | with_reducible assumption | with_reducible exact Bk.Kept.refl _ _ | with_reducible apply Bk.Kept.alloc | with_reducible apply Bk.Kept.drewN | with_reducible apply Bk.Kept.drew | (with_reducible apply Bk.Kept.setCell; focus (dsimp only; omega)))))
                have hrd : Rd w22 5 (some ⟨w21.heap.size + 1, 0, none⟩) 1 1 (mc y2) := by rw [← hW]; exact rd_five _ y2 _ _ (by simp [Bk.size_set])
                replace B : Below w.heap.size w w22 := (by rw [← hW]; go_grown)
                have z22 : w22.heap.size = _ := congrArg (fun W : World => W.heap.size) hW.symm
                (try simp only [World.size_alloc, Bk.size_set, World.size_drew, World.drewN] at z22)
                clear hW
                have hown := own_kept HO.out F
                refine wpl_app _ rfl _ _ 54 rfl (w2.heap.size + 1) 29 i0 (.agg #[.int .i64 0, .int .i64 0, .int .i64 0, .int .i64 0, .int .i64 0]) 5 40 Try.underlying54 hi hz0 hz1 hz2 rfl (by decide) _ _ _ _ rfl hown _ 1 1 (mc y2) rfl hrd (mc_one _) (by unfold maxLen; omega) (by omega) (by omega) ?_
                intro A2 c2 w23 hown2 hg2 hat2
                have ba2 : Bk.Blk w23 (w1.heap.size) 36 #[.int .i64 a.ms, .int .i64 a.no, .int .i64 a.pe, .int .i64 a.re, .int .i64 a.gr, .int .i64 a.wa, .bool a.dn] := Bk.Blk.grown (k := g) hg2 (by omega) ba
                have bs2 : Bk.Blk w23 (w1.heap.size + 1) 47 #[.int .i64 t.ms, .int .i64 t.no, .int .i64 t.pn, .int .i64 t.re, .int .i64 t.pw, .int .i64 t.gk, .int .i64 t.ins] := Bk.Blk.grown (k := g) hg2 (by omega) bs
                have B2 : Below w.heap.size w w23 := Bk.below_grown (k := g) B hg2 (by omega) (by omega)
                have hz23 := hg2.size
                have HO2 := Lib.hid (show w23.ownsRow (w2.heap.size + 1) 29 5 (.slice A2 (l ++ [y2]).length c2) (l ++ [y2]).length (mcs (l ++ [y2])) by rw [mcs_snoc, List.length_append]; exact hown2)
                have HL := Lib.hid (show (l ++ [y2]).length = l.length + 1 by simp)
                clear hown hown2 hg2 hat2 ba bs hrd
                go_wp2
                go_roundw
                case rel => exact ⟨k + 1, a, t, l ++ [y2], A2, c2, by omega, by go_num, by rw [HL.out], HO2.out, HJ.out, ⟨by rw [HL.out]; omega, by rw [HL.out]; omega⟩, ba2, bs2, by omega, B2⟩
                case measure => simp [intOf]; omega
          · have e1 : (u % 5 == 1) = false := by simpa using fun e => h12 (.inl e)
            have e2 : (u % 5 == 2) = false := by simpa using fun e => h12 (.inr e)
            have HC := Lib.hid (fun w => aut_impl a y w HAO.out (HINV.out.all y hy).2.2.2)
            have HI := Lib.hid (inv_aut HINV.out hy (by omega))
            clear h0 h12 HINV
            generalize autR a y = R at HC HI
            obtain ⟨a2, y2, ok2⟩ := R
            dsimp only at HC HI
            have hre : decide (a2.re < a.re) = false := by simpa using HI.out.1
            have l_ba : w1.heap.size < w20.heap.size := Bk.Blk.lt ba
            have c_ba0 : w20.cell? ⟨w1.heap.size, 0, none⟩ = some (.int .i64 a.ms) := Bk.Blk.cell ba 0
            have c_ba1 : w20.cell? ⟨w1.heap.size, 1, none⟩ = some (.int .i64 a.no) := Bk.Blk.cell ba 1
            have c_ba2 : w20.cell? ⟨w1.heap.size, 2, none⟩ = some (.int .i64 a.pe) := Bk.Blk.cell ba 2
            have c_ba3 : w20.cell? ⟨w1.heap.size, 3, none⟩ = some (.int .i64 a.re) := Bk.Blk.cell ba 3
            have c_ba4 : w20.cell? ⟨w1.heap.size, 4, none⟩ = some (.int .i64 a.gr) := Bk.Blk.cell ba 4
            have c_ba5 : w20.cell? ⟨w1.heap.size, 5, none⟩ = some (.int .i64 a.wa) := Bk.Blk.cell ba 5
            have c_ba6 : w20.cell? ⟨w1.heap.size, 6, none⟩ = some (.bool a.dn) := Bk.Blk.cell ba 6
            have l_bs : w1.heap.size + 1 < w20.heap.size := Bk.Blk.lt bs
            have c_bs0 : w20.cell? ⟨w1.heap.size + 1, 0, none⟩ = some (.int .i64 s.ms) := Bk.Blk.cell bs 0
            have c_bs1 : w20.cell? ⟨w1.heap.size + 1, 1, none⟩ = some (.int .i64 s.no) := Bk.Blk.cell bs 1
            have c_bs2 : w20.cell? ⟨w1.heap.size + 1, 2, none⟩ = some (.int .i64 s.pn) := Bk.Blk.cell bs 2
            have c_bs3 : w20.cell? ⟨w1.heap.size + 1, 3, none⟩ = some (.int .i64 s.re) := Bk.Blk.cell bs 3
            have c_bs4 : w20.cell? ⟨w1.heap.size + 1, 4, none⟩ = some (.int .i64 s.pw) := Bk.Blk.cell bs 4
            have c_bs5 : w20.cell? ⟨w1.heap.size + 1, 5, none⟩ = some (.int .i64 s.gk) := Bk.Blk.cell bs 5
            have c_bs6 : w20.cell? ⟨w1.heap.size + 1, 6, none⟩ = some (.int .i64 s.ins) := Bk.Blk.cell bs 6
            go_wp2_with fail
            clear l_ba c_ba0 c_ba1 c_ba2 c_ba3 c_ba4 c_ba5 c_ba6 l_bs c_bs0 c_bs1 c_bs2 c_bs3 c_bs4 c_bs5 c_bs6
            refine (HC.out _).mono ?_
            rintro x w21 ⟨rfl, hb0⟩
            replace ba : Bk.Blk w21 (w1.heap.size) 36 #[.int .i64 a.ms, .int .i64 a.no, .int .i64 a.pe, .int .i64 a.re, .int .i64 a.gr, .int .i64 a.wa, .bool a.dn] := Bk.Blk.under hb0 (by (repeat (first | with_reducible assumption | (with_reducible apply Bk.Blk.newAt; focus (first | (simp [Bk.size_set]; done) | (simp [Bk.size_set]; omega))) | with_reducible apply Bk.Blk.drewN | with_reducible apply Bk.Blk.drew | with_reducible apply Bk.Blk.set_ | (with_reducible apply Bk.Blk.far; focus (dsimp only; first | omega | (simp; omega) | (simp; done))) | with_reducible apply Bk.Blk.alloc)))
            replace bs : Bk.Blk w21 (w1.heap.size + 1) 47 #[.int .i64 s.ms, .int .i64 s.no, .int .i64 s.pn, .int .i64 s.re, .int .i64 s.pw, .int .i64 s.gk, .int .i64 s.ins] := Bk.Blk.under hb0 (by (repeat (first | with_reducible assumption | (with_reducible apply Bk.Blk.newAt; focus (first | (simp [Bk.size_set]; done) | (simp [Bk.size_set]; omega))) | with_reducible apply Bk.Blk.drewN | with_reducible apply Bk.Blk.drew | with_reducible apply Bk.Blk.set_ | (with_reducible apply Bk.Blk.far; focus (dsimp only; first | omega | (simp; omega) | (simp; done))) | with_reducible apply Bk.Blk.alloc)))
            replace F : Bk.Kept (w2.heap.size + 1) w20 w21 := Bk.Kept.under hb0 (by (repeat (first | with_reducible assumption | with_reducible exact Bk.Kept.refl _ _ | with_reducible apply Bk.Kept.alloc | with_reducible apply Bk.Kept.drewN | with_reducible apply Bk.Kept.drew | (with_reducible apply Bk.Kept.setCell; focus (dsimp only; omega)))))
            replace B : Below w.heap.size w w21 := Below.trans (by go_grown) (hb0.mono (by first | omega | (simp [Bk.size_set]; done) | (simp [Bk.size_set]; omega)))
            have z21 := hb0.size
            (try simp only [World.size_alloc, Bk.size_set, World.size_drew, World.drewN] at z21)
            clear hb0
            have l_ba : w1.heap.size < w21.heap.size := Bk.Blk.lt ba
            have c_ba0 : w21.cell? ⟨w1.heap.size, 0, none⟩ = some (.int .i64 a.ms) := Bk.Blk.cell ba 0
            have f_ba0 : w21.frozen? ⟨w1.heap.size, 0, none⟩ = false := Bk.Blk.fro ba 0
            have c_ba1 : w21.cell? ⟨w1.heap.size, 1, none⟩ = some (.int .i64 a.no) := Bk.Blk.cell ba 1
            have f_ba1 : w21.frozen? ⟨w1.heap.size, 1, none⟩ = false := Bk.Blk.fro ba 1
            have c_ba2 : w21.cell? ⟨w1.heap.size, 2, none⟩ = some (.int .i64 a.pe) := Bk.Blk.cell ba 2
            have f_ba2 : w21.frozen? ⟨w1.heap.size, 2, none⟩ = false := Bk.Blk.fro ba 2
            have c_ba3 : w21.cell? ⟨w1.heap.size, 3, none⟩ = some (.int .i64 a.re) := Bk.Blk.cell ba 3
            have f_ba3 : w21.frozen? ⟨w1.heap.size, 3, none⟩ = false := Bk.Blk.fro ba 3
            have c_ba4 : w21.cell? ⟨w1.heap.size, 4, none⟩ = some (.int .i64 a.gr) := Bk.Blk.cell ba 4
            have f_ba4 : w21.frozen? ⟨w1.heap.size, 4, none⟩ = false := Bk.Blk.fro ba 4
            have c_ba5 : w21.cell? ⟨w1.heap.size, 5, none⟩ = some (.int .i64 a.wa) := Bk.Blk.cell ba 5
            have f_ba5 : w21.frozen? ⟨w1.heap.size, 5, none⟩ = false := Bk.Blk.fro ba 5
            have c_ba6 : w21.cell? ⟨w1.heap.size, 6, none⟩ = some (.bool a.dn) := Bk.Blk.cell ba 6
            have f_ba6 : w21.frozen? ⟨w1.heap.size, 6, none⟩ = false := Bk.Blk.fro ba 6
            cases ok2
            · have HJ := Lib.hid (HI.out.2.1 rfl)
              clear HI
              go_wp2
              go_roundw
              case rel => exact ⟨k + 1, a2, s, l, _, c1, by omega, by go_num, rfl, own_kept HO.out (by (repeat (first | with_reducible assumption | with_reducible exact Bk.Kept.refl _ _ | with_reducible apply Bk.Kept.alloc | with_reducible apply Bk.Kept.drewN | with_reducible apply Bk.Kept.drew | (with_reducible apply Bk.Kept.setCell; focus (dsimp only; omega))))), HJ.out, ⟨by omega, by omega⟩, (by (apply Bk.Blk.to; (focus (repeat (first | with_reducible assumption | (with_reducible apply Bk.Blk.newAt; focus (first | (simp [Bk.size_set]; done) | (simp [Bk.size_set]; omega))) | with_reducible apply Bk.Blk.drewN | with_reducible apply Bk.Blk.drew | with_reducible apply Bk.Blk.set_ | (with_reducible apply Bk.Blk.far; focus (dsimp only; first | omega | (simp; omega) | (simp; done))) | with_reducible apply Bk.Blk.alloc))); rfl)), (by (apply Bk.Blk.to; (focus (repeat (first | with_reducible assumption | (with_reducible apply Bk.Blk.newAt; focus (first | (simp [Bk.size_set]; done) | (simp [Bk.size_set]; omega))) | with_reducible apply Bk.Blk.drewN | with_reducible apply Bk.Blk.drew | with_reducible apply Bk.Blk.set_ | (with_reducible apply Bk.Blk.far; focus (dsimp only; first | omega | (simp; omega) | (simp; done))) | with_reducible apply Bk.Blk.alloc))); rfl)), (by first | omega | (simp [Bk.size_set]; omega)), by go_grown⟩
              case measure => simp [intOf]; omega
            · have HJ := Lib.hid (HI.out.2.2 rfl)
              clear HI
              go_wp2_with (at_builtin; refine Bk.stopHere ?_)
              show wpList _ _ _ _ _ _
              generalize hW : World.alloc _ _ = w22
              replace ba : Bk.Blk w22 (w1.heap.size) 36 #[.int .i64 a2.ms, .int .i64 a2.no, .int .i64 a2.pe, .int .i64 a2.re, .int .i64 a2.gr, .int .i64 a2.wa, .bool a2.dn] := (by rw [← hW]; apply Bk.Blk.to; (focus ((repeat (first | with_reducible assumption | (with_reducible apply Bk.Blk.newAt; focus (first | (simp [Bk.size_set]; done) | (simp [Bk.size_set]; omega))) | with_reducible apply Bk.Blk.drewN | with_reducible apply Bk.Blk.drew | with_reducible apply Bk.Blk.set_ | (with_reducible apply Bk.Blk.far; focus (dsimp only; first | omega | (simp; omega) | (simp; done))) | with_reducible apply Bk.Blk.alloc)))); rfl)
              replace bs : Bk.Blk w22 (w1.heap.size + 1) 47 #[.int .i64 s.ms, .int .i64 s.no, .int .i64 s.pn, .int .i64 s.re, .int .i64 s.pw, .int .i64 s.gk, .int .i64 s.ins] := (by rw [← hW]; apply Bk.Blk.to; (focus ((repeat (first | with_reducible assumption | (with_reducible apply Bk.Blk.newAt; focus (first | (simp [Bk.size_set]; done) | (simp [Bk.size_set]; omega))) | with_reducible apply Bk.Blk.drewN | with_reducible apply Bk.Blk.drew | with_reducible apply Bk.Blk.set_ | (with_reducible apply Bk.Blk.far; focus (dsimp only; first | omega | (simp; omega) | (simp; done))) | with_reducible apply Bk.Blk.alloc)))); rfl)
              replace F : Bk.Kept (w2.heap.size + 1) w20 w22 := (by rw [← hW]; (repeat (first | with_reducible assumption | with_reducible exact Bk.Kept.refl _ _ | with_reducible apply Bk.Kept.alloc | with_reducible apply Bk.Kept.drewN | with_reducible apply Bk.Kept.drew | (with_reducible apply Bk.Kept.setCell; focus (dsimp only; omega)))))
              have hrd : Rd w22 5 (some ⟨w21.heap.size + 1 + 1, 0, none⟩) 1 1 (mc y2) := by rw [← hW]; exact rd_five _ y2 _ _ (by simp [Bk.size_set])
              replace B : Below w.heap.size w w22 := (by rw [← hW]; go_grown)
              have z22 : w22.heap.size = _ := congrArg (fun W : World => W.heap.size) hW.symm
              (try simp only [World.size_alloc, Bk.size_set, World.size_drew, World.drewN] at z22)
              clear hW
              have hown := own_kept HO.out F
              refine wpl_app _ rfl _ _ 54 rfl (w2.heap.size + 1) 29 i0 (.agg #[.int .i64 0, .int .i64 0, .int .i64 0, .int .i64 0, .int .i64 0]) 5 40 Try.underlying54 hi hz0 hz1 hz2 rfl (by decide) _ _ _ _ rfl hown _ 1 1 (mc y2) rfl hrd (mc_one _) (by unfold maxLen; omega) (by omega) (by omega) ?_
              intro A2 c2 w23 hown2 hg2 hat2
              have ba2 : Bk.Blk w23 (w1.heap.size) 36 #[.int .i64 a2.ms, .int .i64 a2.no, .int .i64 a2.pe, .int .i64 a2.re, .int .i64 a2.gr, .int .i64 a2.wa, .bool a2.dn] := Bk.Blk.grown (k := g) hg2 (by omega) ba
              have bs2 : Bk.Blk w23 (w1.heap.size + 1) 47 #[.int .i64 s.ms, .int .i64 s.no, .int .i64 s.pn, .int .i64 s.re, .int .i64 s.pw, .int .i64 s.gk, .int .i64 s.ins] := Bk.Blk.grown (k := g) hg2 (by omega) bs
              have B2 : Below w.heap.size w w23 := Bk.below_grown (k := g) B hg2 (by omega) (by omega)
              have hz23 := hg2.size
              have HO2 := Lib.hid (show w23.ownsRow (w2.heap.size + 1) 29 5 (.slice A2 (l ++ [y2]).length c2) (l ++ [y2]).length (mcs (l ++ [y2])) by rw [mcs_snoc, List.length_append]; exact hown2)
              have HL := Lib.hid (show (l ++ [y2]).length = l.length + 1 by simp)
              clear hown hown2 hg2 hat2 ba bs hrd
              go_wp2
              go_roundw
              case rel => exact ⟨k + 1, a2, s, l ++ [y2], A2, c2, by omega, by go_num, by rw [HL.out], HO2.out, HJ.out, ⟨by rw [HL.out]; omega, by rw [HL.out]; omega⟩, ba2, bs2, by omega, B2⟩
              case measure => simp [intOf]; omega
      · obtain ⟨q1, q2, q3, q4, q5⟩ := inv_end HINV.out
        have HK := Lib.hid q1
        have HCK := Lib.hid (key_con HK.out HSO.out.1 HAO.out.2.1 HSO.out.2.1)
        obtain ⟨g, y, rfl, hy, hg1, hg2, d0, d1, d2, d3, d4⟩ := own_at HO.out (k := 0) (by omega)
        have HY := Lib.hid (HINV.out.all y hy).2.2.2
        simp only [Nat.zero_mul, Nat.zero_add] at d0 d1 d2 d3 d4
        have hl0 : (0 : Int) < (l.length : Int) := by omega
        clear q1 HINV
        have l_ba : w1.heap.size < w20.heap.size := Bk.Blk.lt ba
        have c_ba0 : w20.cell? ⟨w1.heap.size, 0, none⟩ = some (.int .i64 a.ms) := Bk.Blk.cell ba 0
        have c_ba1 : w20.cell? ⟨w1.heap.size, 1, none⟩ = some (.int .i64 a.no) := Bk.Blk.cell ba 1
        have c_ba2 : w20.cell? ⟨w1.heap.size, 2, none⟩ = some (.int .i64 a.pe) := Bk.Blk.cell ba 2
        have c_ba3 : w20.cell? ⟨w1.heap.size, 3, none⟩ = some (.int .i64 a.re) := Bk.Blk.cell ba 3
        have c_ba4 : w20.cell? ⟨w1.heap.size, 4, none⟩ = some (.int .i64 a.gr) := Bk.Blk.cell ba 4
        have c_ba5 : w20.cell? ⟨w1.heap.size, 5, none⟩ = some (.int .i64 a.wa) := Bk.Blk.cell ba 5
        have c_ba6 : w20.cell? ⟨w1.heap.size, 6, none⟩ = some (.bool a.dn) := Bk.Blk.cell ba 6
        have l_bs : w1.heap.size + 1 < w20.heap.size := Bk.Blk.lt bs
        have c_bs0 : w20.cell? ⟨w1.heap.size + 1, 0, none⟩ = some (.int .i64 s.ms) := Bk.Blk.cell bs 0
        have c_bs1 : w20.cell? ⟨w1.heap.size + 1, 1, none⟩ = some (.int .i64 s.no) := Bk.Blk.cell bs 1
        have c_bs2 : w20.cell? ⟨w1.heap.size + 1, 2, none⟩ = some (.int .i64 s.pn) := Bk.Blk.cell bs 2
        have c_bs3 : w20.cell? ⟨w1.heap.size + 1, 3, none⟩ = some (.int .i64 s.re) := Bk.Blk.cell bs 3
        have c_bs4 : w20.cell? ⟨w1.heap.size + 1, 4, none⟩ = some (.int .i64 s.pw) := Bk.Blk.cell bs 4
        have c_bs5 : w20.cell? ⟨w1.heap.size + 1, 5, none⟩ = some (.int .i64 s.gk) := Bk.Blk.cell bs 5
        have c_bs6 : w20.cell? ⟨w1.heap.size + 1, 6, none⟩ = some (.int .i64 s.ins) := Bk.Blk.cell bs 6
        go_wp2_with fail
        clear l_ba c_ba0 c_ba1 c_ba2 c_ba3 c_ba4 c_ba5 c_ba6 l_bs c_bs0 c_bs1 c_bs2 c_bs3 c_bs4 c_bs5 c_bs6
        refine (HCK.out _).mono ?_
        rintro x w21 ⟨rfl, hb0⟩
        replace d0 := Mem.lift hb0 d0; replace d1 := Mem.lift hb0 d1; replace d2 := Mem.lift hb0 d2; replace d3 := Mem.lift hb0 d3; replace d4 := Mem.lift hb0 d4
        replace ba : Bk.Blk w21 (w1.heap.size) 36 #[.int .i64 a.ms, .int .i64 a.no, .int .i64 a.pe, .int .i64 a.re, .int .i64 a.gr, .int .i64 a.wa, .bool a.dn] := Bk.Blk.under hb0 (by (repeat (first | with_reducible assumption | (with_reducible apply Bk.Blk.newAt; focus (first | (simp [Bk.size_set]; done) | (simp [Bk.size_set]; omega))) | with_reducible apply Bk.Blk.drewN | with_reducible apply Bk.Blk.drew | with_reducible apply Bk.Blk.set_ | (with_reducible apply Bk.Blk.far; focus (dsimp only; first | omega | (simp; omega) | (simp; done))) | with_reducible apply Bk.Blk.alloc)))
        replace bs : Bk.Blk w21 (w1.heap.size + 1) 47 #[.int .i64 s.ms, .int .i64 s.no, .int .i64 s.pn, .int .i64 s.re, .int .i64 s.pw, .int .i64 s.gk, .int .i64 s.ins] := Bk.Blk.under hb0 (by (repeat (first | with_reducible assumption | (with_reducible apply Bk.Blk.newAt; focus (first | (simp [Bk.size_set]; done) | (simp [Bk.size_set]; omega))) | with_reducible apply Bk.Blk.drewN | with_reducible apply Bk.Blk.drew | with_reducible apply Bk.Blk.set_ | (with_reducible apply Bk.Blk.far; focus (dsimp only; first | omega | (simp; omega) | (simp; done))) | with_reducible apply Bk.Blk.alloc)))
        replace B : Below w.heap.size w w21 := Below.trans (by go_grown) (hb0.mono (by first | omega | (simp [Bk.size_set]; done) | (simp [Bk.size_set]; omega)))
        have z21 := hb0.size
        (try simp only [World.size_alloc, Bk.size_set, World.size_drew, World.drewN] at z21)
        clear hb0
        have hE : ((s.ins == 0) = true ∧ (s.pw == 0) = true ∧ a.dn = false) ∨ ((s.ins == 0) = false ∧ (s.pw == 0) = false ∧ (s.pw == kk p) = true ∧ (s.gk == a.gr) = true ∧ (s.ins == 1) = true) := ends_eq sib q3 q4 q5
        clear q3 q4 q5
        have l_ba : w1.heap.size < w21.heap.size := Bk.Blk.lt ba
        have c_ba0 : w21.cell? ⟨w1.heap.size, 0, none⟩ = some (.int .i64 a.ms) := Bk.Blk.cell ba 0
        have c_ba1 : w21.cell? ⟨w1.heap.size, 1, none⟩ = some (.int .i64 a.no) := Bk.Blk.cell ba 1
        have c_ba2 : w21.cell? ⟨w1.heap.size, 2, none⟩ = some (.int .i64 a.pe) := Bk.Blk.cell ba 2
        have c_ba3 : w21.cell? ⟨w1.heap.size, 3, none⟩ = some (.int .i64 a.re) := Bk.Blk.cell ba 3
        have c_ba4 : w21.cell? ⟨w1.heap.size, 4, none⟩ = some (.int .i64 a.gr) := Bk.Blk.cell ba 4
        have c_ba5 : w21.cell? ⟨w1.heap.size, 5, none⟩ = some (.int .i64 a.wa) := Bk.Blk.cell ba 5
        have c_ba6 : w21.cell? ⟨w1.heap.size, 6, none⟩ = some (.bool a.dn) := Bk.Blk.cell ba 6
        have l_bs : w1.heap.size + 1 < w21.heap.size := Bk.Blk.lt bs
        have c_bs0 : w21.cell? ⟨w1.heap.size + 1, 0, none⟩ = some (.int .i64 s.ms) := Bk.Blk.cell bs 0
        have c_bs1 : w21.cell? ⟨w1.heap.size + 1, 1, none⟩ = some (.int .i64 s.no) := Bk.Blk.cell bs 1
        have c_bs2 : w21.cell? ⟨w1.heap.size + 1, 2, none⟩ = some (.int .i64 s.pn) := Bk.Blk.cell bs 2
        have c_bs3 : w21.cell? ⟨w1.heap.size + 1, 3, none⟩ = some (.int .i64 s.re) := Bk.Blk.cell bs 3
        have c_bs4 : w21.cell? ⟨w1.heap.size + 1, 4, none⟩ = some (.int .i64 s.pw) := Bk.Blk.cell bs 4
        have c_bs5 : w21.cell? ⟨w1.heap.size + 1, 5, none⟩ = some (.int .i64 s.gk) := Bk.Blk.cell bs 5
        have c_bs6 : w21.cell? ⟨w1.heap.size + 1, 6, none⟩ = some (.int .i64 s.ins) := Bk.Blk.cell bs 6
        rcases hE with ⟨f1, f2, f3⟩ | ⟨f1, f2, f3, f4, f5⟩
        · skip
          go_wp2_with fail
          clear l_ba c_ba0 c_ba1 c_ba2 c_ba3 c_ba4 c_ba5 c_ba6 l_bs c_bs0 c_bs1 c_bs2 c_bs3 c_bs4 c_bs5 c_bs6
          refine (sign_impl (kk p) y.n y.r y.c y.g y.m _ (kk_i64 p) HY.out.1 HY.out.2.1 HY.out.2.2.1 HY.out.2.2.2.1).mono ?_
          rintro x w22 ⟨rfl, hb0⟩
          replace B : Below w.heap.size w w22 := Below.trans (by go_grown) (hb0.mono (by first | omega | (simp [Bk.size_set]; done) | (simp [Bk.size_set]; omega)))
          have z22 := hb0.size
          (try simp only [World.size_alloc, Bk.size_set, World.size_drew, World.drewN] at z22)
          clear hb0
          go_wp2_with fail
          refine (verSelf (kk p) y _ HY.out (kk_i64 p)).mono ?_
          rintro x w23 ⟨rfl, hb0⟩
          replace B : Below w.heap.size w w23 := Below.trans (by go_grown) (hb0.mono (by first | omega | (simp [Bk.size_set]; done) | (simp [Bk.size_set]; omega)))
          have z23 := hb0.size
          (try simp only [World.size_alloc, Bk.size_set, World.size_drew, World.drewN] at z23)
          clear hb0
          go_wp2
          go_ret
          exact ⟨rfl, B⟩
        · skip
          cases hdn : a.dn
          all_goals
            go_wp2_with fail
            refine (sign_impl (kk p) y.n y.r y.c y.g y.m _ (kk_i64 p) HY.out.1 HY.out.2.1 HY.out.2.2.1 HY.out.2.2.2.1).mono ?_
            rintro x w22 ⟨rfl, hb0⟩
            replace B : Below w.heap.size w w22 := Below.trans (by go_grown) (hb0.mono (by first | omega | (simp [Bk.size_set]; omega)))
            clear hb0
            go_wp2_with fail
            refine (verSelf (kk p) y _ HY.out (kk_i64 p)).mono ?_
            rintro x w23 ⟨rfl, hb0⟩
            replace B : Below w.heap.size w w23 := Below.trans (by go_grown) (hb0.mono (by have := B.size; first | omega | (simp [Bk.size_set]; omega)))
            clear hb0
            go_wp2
            go_ret
            exact ⟨rfl, B⟩
end Go.Proofs.Ytmhcbiipbilakaa.Hs
