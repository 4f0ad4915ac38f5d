/- Contracts of SupplicantReceive. -/
import Derived.Test.YtmhcbiipbilakaaHsI
namespace Go.Proofs.Ytmhcbiipbilakaa.Hs
open Go.RowKit
open Go.Proofs.Ytmhcbiipbilakaa.Num Go.Proofs.Ytmhcbiipbilakaa.Mem Go.Proofs.Ytmhcbiipbilakaa.Hsh Go.Proofs.Ytmhcbiipbilakaa.Keys Go.Proofs.Ytmhcbiipbilakaa.Hand Go.Proofs.Ytmhcbiipbilakaa.Auth
set_option linter.unusedSimpArgs false
set_option linter.unusedVariables false
attribute [local irreducible] macM keyM modI hidM unhM
set_option maxHeartbeats 8000000 in
theorem sup_old (s : Sup) (m : Msg) (w : World) (hs : s.Ok) (hm : m.Ok) (hr : m.r ≤ s.re) :
    Calls Try.prog 33 #[.agg #[.int .i64 s.ms, .int .i64 s.no, .int .i64 s.pn, .int .i64 s.re, .int .i64 s.pw, .int .i64 s.gk, .int .i64 s.ins], .agg #[.int .i64 m.n, .int .i64 m.r, .int .i64 m.c, .int .i64 m.g, .int .i64 m.m]] w fun x w' => x = .returned (.agg #[.int .i64 s.ms, .int .i64 s.no, .int .i64 s.pn, .int .i64 s.re, .int .i64 s.pw, .int .i64 s.gk, .int .i64 s.ins, .int .i64 0, .int .i64 0, .int .i64 0, .int .i64 0, .int .i64 0, .bool false, .bool false]) ∧ Below w.heap.size w w' := by
  have HS := Lib.hid hs
  have HM := Lib.hid hm
  have HK := Lib.hid (keyM_i64 s.ms [41, s.pn, s.no])
  have HK1 := Lib.hid (keyM_i64 s.ms [41, m.c, s.no])
  have B : Below w.heap.size w w := Below.refl _ _
  clear hs hm
  go_enter Try.func33, Try.ntmps33
  go_wp2
  go_returns
  exact ⟨rfl, by go_grown⟩
set_option maxHeartbeats 8000000 in
theorem sup_other (s : Sup) (m : Msg) (w : World) (hs : s.Ok) (hm : m.Ok) (hr : s.re < m.r) (h1 : (m.n == 1) = false) (h3 : (m.n == 3) = false) :
    Calls Try.prog 33 #[.agg #[.int .i64 s.ms, .int .i64 s.no, .int .i64 s.pn, .int .i64 s.re, .int .i64 s.pw, .int .i64 s.gk, .int .i64 s.ins], .agg #[.int .i64 m.n, .int .i64 m.r, .int .i64 m.c, .int .i64 m.g, .int .i64 m.m]] w fun x w' => x = .returned (.agg #[.int .i64 s.ms, .int .i64 s.no, .int .i64 s.pn, .int .i64 s.re, .int .i64 s.pw, .int .i64 s.gk, .int .i64 s.ins, .int .i64 0, .int .i64 0, .int .i64 0, .int .i64 0, .int .i64 0, .bool false, .bool false]) ∧ Below w.heap.size w w' := by
  have HS := Lib.hid hs
  have HM := Lib.hid hm
  have HK := Lib.hid (keyM_i64 s.ms [41, s.pn, s.no])
  have HK1 := Lib.hid (keyM_i64 s.ms [41, m.c, s.no])
  have B : Below w.heap.size w w := Below.refl _ _
  clear hs hm
  go_enter Try.func33, Try.ntmps33
  go_wp2
  go_returns
  exact ⟨rfl, by go_grown⟩
set_option maxHeartbeats 8000000 in
theorem sup_one (s : Sup) (m : Msg) (w : World) (hs : s.Ok) (hm : m.Ok) (hr : s.re < m.r) (h1 : (m.n == 1) = true) :
    Calls Try.prog 33 #[.agg #[.int .i64 s.ms, .int .i64 s.no, .int .i64 s.pn, .int .i64 s.re, .int .i64 s.pw, .int .i64 s.gk, .int .i64 s.ins], .agg #[.int .i64 m.n, .int .i64 m.r, .int .i64 m.c, .int .i64 m.g, .int .i64 m.m]] w fun x w' => x = .returned (.agg #[.int .i64 s.ms, .int .i64 s.no, .int .i64 m.c, .int .i64 m.r, .int .i64 s.pw, .int .i64 s.gk, .int .i64 s.ins, .int .i64 2, .int .i64 m.r, .int .i64 s.no, .int .i64 0, .int .i64 (macM (keyM s.ms [41, m.c, s.no]) [43, 2, m.r, s.no, 0]), .bool true, .bool false]) ∧ Below w.heap.size w w' := by
  have HS := Lib.hid hs
  have HM := Lib.hid hm
  have HK := Lib.hid (keyM_i64 s.ms [41, s.pn, s.no])
  have HK1 := Lib.hid (keyM_i64 s.ms [41, m.c, s.no])
  have B : Below w.heap.size w w := Below.refl _ _
  clear hs hm
  go_enter Try.func33, Try.ntmps33
  go_wp2_with fail
  refine (pairKey_impl s.ms m.c s.no _ HS.out.1 HM.out.2.2.1 HS.out.2.1).mono ?_
  rintro x w1 ⟨rfl, hb0⟩
  have s0 : Bk.Blk w1 (w.heap.size) 47 #[.int .i64 s.ms, .int .i64 s.no, .int .i64 m.c, .int .i64 m.r, .int .i64 s.pw, .int .i64 s.gk, .int .i64 s.ins] := (by apply Bk.Blk.to; (focus (apply Bk.Blk.under hb0; (repeat (first | with_reducible assumption | (with_reducible apply Bk.Blk.newAt; focus (first | (simp [Bk.size_set]; done) | (simp [Bk.size_set]; omega))) | with_reducible apply Bk.Blk.drewN | with_reducible apply Bk.Blk.drew | with_reducible apply Bk.Blk.set_ | (with_reducible apply Bk.Blk.far; focus (dsimp only; first | omega | (simp; omega) | (simp; done))) | with_reducible apply Bk.Blk.alloc)))); rfl)
  have m0 : Bk.Blk w1 (w.heap.size + 1) 29 #[.int .i64 m.n, .int .i64 m.r, .int .i64 m.c, .int .i64 m.g, .int .i64 m.m] := (by apply Bk.Blk.to; (focus (apply Bk.Blk.under hb0; (repeat (first | with_reducible assumption | (with_reducible apply Bk.Blk.newAt; focus (first | (simp [Bk.size_set]; done) | (simp [Bk.size_set]; omega))) | with_reducible apply Bk.Blk.drewN | with_reducible apply Bk.Blk.drew | with_reducible apply Bk.Blk.set_ | (with_reducible apply Bk.Blk.far; focus (dsimp only; first | omega | (simp; omega) | (simp; done))) | with_reducible apply Bk.Blk.alloc)))); rfl)
  have rr : Bk.Blk w1 (w.heap.size + 1 + 1) 51 #[.int .i64 0, .int .i64 0, .int .i64 0, .int .i64 0, .int .i64 0, .int .i64 0, .int .i64 0, .int .i64 0, .int .i64 0, .int .i64 0, .int .i64 0, .int .i64 0, .bool false, .bool false] := (by apply Bk.Blk.to; (focus (apply Bk.Blk.under hb0; (repeat (first | with_reducible assumption | (with_reducible apply Bk.Blk.newAt; focus (first | (simp [Bk.size_set]; done) | (simp [Bk.size_set]; omega))) | with_reducible apply Bk.Blk.drewN | with_reducible apply Bk.Blk.drew | with_reducible apply Bk.Blk.set_ | (with_reducible apply Bk.Blk.far; focus (dsimp only; first | omega | (simp; omega) | (simp; done))) | with_reducible apply Bk.Blk.alloc)))); rfl)
  replace B : Below w.heap.size w w1 := Below.trans (by go_grown) (hb0.mono (by first | omega | (simp [Bk.size_set]; done) | (simp [Bk.size_set]; omega)))
  have z1 := hb0.size
  (try simp only [World.size_alloc, Bk.size_set, World.size_drew, World.drewN] at z1)
  clear hb0
  have l_s0 : w.heap.size < w1.heap.size := Bk.Blk.lt s0
  have c_s00 : w1.cell? ⟨w.heap.size, 0, none⟩ = some (.int .i64 s.ms) := Bk.Blk.cell s0 0
  have c_s01 : w1.cell? ⟨w.heap.size, 1, none⟩ = some (.int .i64 s.no) := Bk.Blk.cell s0 1
  have c_s02 : w1.cell? ⟨w.heap.size, 2, none⟩ = some (.int .i64 m.c) := Bk.Blk.cell s0 2
  have c_s03 : w1.cell? ⟨w.heap.size, 3, none⟩ = some (.int .i64 m.r) := Bk.Blk.cell s0 3
  have c_s04 : w1.cell? ⟨w.heap.size, 4, none⟩ = some (.int .i64 s.pw) := Bk.Blk.cell s0 4
  have c_s05 : w1.cell? ⟨w.heap.size, 5, none⟩ = some (.int .i64 s.gk) := Bk.Blk.cell s0 5
  have c_s06 : w1.cell? ⟨w.heap.size, 6, none⟩ = some (.int .i64 s.ins) := Bk.Blk.cell s0 6
  have l_m0 : w.heap.size + 1 < w1.heap.size := Bk.Blk.lt m0
  have c_m00 : w1.cell? ⟨w.heap.size + 1, 0, none⟩ = some (.int .i64 m.n) := Bk.Blk.cell m0 0
  have c_m01 : w1.cell? ⟨w.heap.size + 1, 1, none⟩ = some (.int .i64 m.r) := Bk.Blk.cell m0 1
  have c_m02 : w1.cell? ⟨w.heap.size + 1, 2, none⟩ = some (.int .i64 m.c) := Bk.Blk.cell m0 2
  have c_m03 : w1.cell? ⟨w.heap.size + 1, 3, none⟩ = some (.int .i64 m.g) := Bk.Blk.cell m0 3
  have c_m04 : w1.cell? ⟨w.heap.size + 1, 4, none⟩ = some (.int .i64 m.m) := Bk.Blk.cell m0 4
  go_wp2_with fail
  clear l_s0 c_s00 c_s01 c_s02 c_s03 c_s04 c_s05 c_s06 l_m0 c_m00 c_m01 c_m02 c_m03 c_m04
  refine (sign_impl (keyM s.ms [41, m.c, s.no]) 2 m.r s.no 0 0 _ HK1.out (c64 2 (by omega)) HM.out.2.1 HS.out.2.1 (c64 0 (by omega))).mono ?_
  rintro x w2 ⟨rfl, hb0⟩
  replace s0 : Bk.Blk w2 (w.heap.size) 47 #[.int .i64 s.ms, .int .i64 s.no, .int .i64 m.c, .int .i64 m.r, .int .i64 s.pw, .int .i64 s.gk, .int .i64 s.ins] := Bk.Blk.under hb0 (by (repeat (first | with_reducible assumption | (with_reducible apply Bk.Blk.newAt; focus (first | (simp [Bk.size_set]; done) | (simp [Bk.size_set]; omega))) | with_reducible apply Bk.Blk.drewN | with_reducible apply Bk.Blk.drew | with_reducible apply Bk.Blk.set_ | (with_reducible apply Bk.Blk.far; focus (dsimp only; first | omega | (simp; omega) | (simp; done))) | with_reducible apply Bk.Blk.alloc)))
  replace rr : Bk.Blk w2 (w.heap.size + 1 + 1) 51 #[.int .i64 0, .int .i64 0, .int .i64 0, .int .i64 0, .int .i64 0, .int .i64 0, .int .i64 0, .int .i64 0, .int .i64 0, .int .i64 0, .int .i64 0, .int .i64 0, .bool false, .bool false] := Bk.Blk.under hb0 (by (repeat (first | with_reducible assumption | (with_reducible apply Bk.Blk.newAt; focus (first | (simp [Bk.size_set]; done) | (simp [Bk.size_set]; omega))) | with_reducible apply Bk.Blk.drewN | with_reducible apply Bk.Blk.drew | with_reducible apply Bk.Blk.set_ | (with_reducible apply Bk.Blk.far; focus (dsimp only; first | omega | (simp; omega) | (simp; done))) | with_reducible apply Bk.Blk.alloc)))
  replace B : Below w.heap.size w w2 := Below.trans (by go_grown) (hb0.mono (by first | omega | (simp [Bk.size_set]; done) | (simp [Bk.size_set]; omega)))
  have z2 := hb0.size
  (try simp only [World.size_alloc, Bk.size_set, World.size_drew, World.drewN] at z2)
  clear hb0
  have l_s0 : w.heap.size < w2.heap.size := Bk.Blk.lt s0
  have c_s00 : w2.cell? ⟨w.heap.size, 0, none⟩ = some (.int .i64 s.ms) := Bk.Blk.cell s0 0
  have c_s01 : w2.cell? ⟨w.heap.size, 1, none⟩ = some (.int .i64 s.no) := Bk.Blk.cell s0 1
  have c_s02 : w2.cell? ⟨w.heap.size, 2, none⟩ = some (.int .i64 m.c) := Bk.Blk.cell s0 2
  have c_s03 : w2.cell? ⟨w.heap.size, 3, none⟩ = some (.int .i64 m.r) := Bk.Blk.cell s0 3
  have c_s04 : w2.cell? ⟨w.heap.size, 4, none⟩ = some (.int .i64 s.pw) := Bk.Blk.cell s0 4
  have c_s05 : w2.cell? ⟨w.heap.size, 5, none⟩ = some (.int .i64 s.gk) := Bk.Blk.cell s0 5
  have c_s06 : w2.cell? ⟨w.heap.size, 6, none⟩ = some (.int .i64 s.ins) := Bk.Blk.cell s0 6
  go_wp2_with ((with_reducible refine Bk.atOp (o := ⟨none, .store 51 (.tmp 4) (.tmp 43), _, _, _, _⟩) ?_); refine Bk.wpl_store (by rfl) 51 (.tmp 4) (.tmp 43) (by rfl) (w.heap.size + 1 + 1) 51 #[.int .i64 0, .int .i64 0, .int .i64 0, .int .i64 0, .int .i64 0, .int .i64 0, .int .i64 0, .int .i64 0, .int .i64 0, .int .i64 0, .int .i64 0, .int .i64 0, .bool false, .bool false] [.int .i64 s.ms, .int .i64 s.no, .int .i64 m.c, .int .i64 m.r, .int .i64 s.pw, .int .i64 s.gk, .int .i64 s.ins, .int .i64 2, .int .i64 m.r, .int .i64 s.no, .int .i64 0, .int .i64 (macM (keyM s.ms [41, m.c, s.no]) [43, 2, m.r, s.no, 0]), .bool true, .bool false] (by rfl) (by rfl) (by (repeat (first | with_reducible assumption | (with_reducible apply Bk.Blk.newAt; focus (first | (simp [Bk.size_set]; done) | (simp [Bk.size_set]; omega))) | with_reducible apply Bk.Blk.drewN | with_reducible apply Bk.Blk.drew | with_reducible apply Bk.Blk.set_ | (with_reducible apply Bk.Blk.far; focus (dsimp only; first | omega | (simp; omega) | (simp; done))) | with_reducible apply Bk.Blk.alloc))) (by rfl) (by kernel_rfl) (by rfl) ?_)
  clear l_s0 c_s00 c_s01 c_s02 c_s03 c_s04 c_s05 c_s06
  intro w3 hb0 hg0 hs0
  replace rr : Bk.Blk w3 (w.heap.size + 1 + 1) 51 #[.int .i64 s.ms, .int .i64 s.no, .int .i64 m.c, .int .i64 m.r, .int .i64 s.pw, .int .i64 s.gk, .int .i64 s.ins, .int .i64 2, .int .i64 m.r, .int .i64 s.no, .int .i64 0, .int .i64 (macM (keyM s.ms [41, m.c, s.no]) [43, 2, m.r, s.no, 0]), .bool true, .bool false] := hb0
  replace B : Below w.heap.size w w3 := Bk.below_grown (by go_grown) hg0 (by omega) (by first | omega | (simp [Bk.size_set]; done) | (simp [Bk.size_set]; omega))
  have z3 := hs0
  (try simp only [World.size_alloc, Bk.size_set, World.size_drew, World.drewN] at z3)
  clear hb0 hg0 hs0
  have l_rr : w.heap.size + 1 + 1 < w3.heap.size := Bk.Blk.lt rr
  have c_rr0 : w3.cell? ⟨w.heap.size + 1 + 1, 0, none⟩ = some (.int .i64 s.ms) := Bk.Blk.cell rr 0
  have c_rr1 : w3.cell? ⟨w.heap.size + 1 + 1, 1, none⟩ = some (.int .i64 s.no) := Bk.Blk.cell rr 1
  have c_rr2 : w3.cell? ⟨w.heap.size + 1 + 1, 2, none⟩ = some (.int .i64 m.c) := Bk.Blk.cell rr 2
  have c_rr3 : w3.cell? ⟨w.heap.size + 1 + 1, 3, none⟩ = some (.int .i64 m.r) := Bk.Blk.cell rr 3
  have c_rr4 : w3.cell? ⟨w.heap.size + 1 + 1, 4, none⟩ = some (.int .i64 s.pw) := Bk.Blk.cell rr 4
  have c_rr5 : w3.cell? ⟨w.heap.size + 1 + 1, 5, none⟩ = some (.int .i64 s.gk) := Bk.Blk.cell rr 5
  have c_rr6 : w3.cell? ⟨w.heap.size + 1 + 1, 6, none⟩ = some (.int .i64 s.ins) := Bk.Blk.cell rr 6
  have c_rr7 : w3.cell? ⟨w.heap.size + 1 + 1, 7, none⟩ = some (.int .i64 2) := Bk.Blk.cell rr 7
  have c_rr8 : w3.cell? ⟨w.heap.size + 1 + 1, 8, none⟩ = some (.int .i64 m.r) := Bk.Blk.cell rr 8
  have c_rr9 : w3.cell? ⟨w.heap.size + 1 + 1, 9, none⟩ = some (.int .i64 s.no) := Bk.Blk.cell rr 9
  have c_rr10 : w3.cell? ⟨w.heap.size + 1 + 1, 10, none⟩ = some (.int .i64 0) := Bk.Blk.cell rr 10
  have c_rr11 : w3.cell? ⟨w.heap.size + 1 + 1, 11, none⟩ = some (.int .i64 (macM (keyM s.ms [41, m.c, s.no]) [43, 2, m.r, s.no, 0])) := Bk.Blk.cell rr 11
  have c_rr12 : w3.cell? ⟨w.heap.size + 1 + 1, 12, none⟩ = some (.bool true) := Bk.Blk.cell rr 12
  have c_rr13 : w3.cell? ⟨w.heap.size + 1 + 1, 13, none⟩ = some (.bool false) := Bk.Blk.cell rr 13
  go_wp2
  refine bodyPost_ret (v := .agg #[.int .i64 s.ms, .int .i64 s.no, .int .i64 m.c, .int .i64 m.r, .int .i64 s.pw, .int .i64 s.gk, .int .i64 s.ins, .int .i64 2, .int .i64 m.r, .int .i64 s.no, .int .i64 0, .int .i64 (macM (keyM s.ms [41, m.c, s.no]) [43, 2, m.r, s.no, 0]), .bool true, .bool false]) (by simp [results, Try.results33, go_sem, c_rr0, c_rr1, c_rr2, c_rr3, c_rr4, c_rr5, c_rr6, c_rr7, c_rr8, c_rr9, c_rr10, c_rr11, c_rr12, c_rr13]) rfl (⟨rfl, B⟩)
set_option maxHeartbeats 8000000 in
theorem sup_nonce (s : Sup) (m : Msg) (w : World) (hs : s.Ok) (hm : m.Ok) (hr : s.re < m.r) (h1 : (m.n == 1) = false) (h3 : (m.n == 3) = true) (hc : (m.c != s.pn) = true) :
    Calls Try.prog 33 #[.agg #[.int .i64 s.ms, .int .i64 s.no, .int .i64 s.pn, .int .i64 s.re, .int .i64 s.pw, .int .i64 s.gk, .int .i64 s.ins], .agg #[.int .i64 m.n, .int .i64 m.r, .int .i64 m.c, .int .i64 m.g, .int .i64 m.m]] w fun x w' => x = .returned (.agg #[.int .i64 s.ms, .int .i64 s.no, .int .i64 s.pn, .int .i64 s.re, .int .i64 s.pw, .int .i64 s.gk, .int .i64 s.ins, .int .i64 0, .int .i64 0, .int .i64 0, .int .i64 0, .int .i64 0, .bool false, .bool false]) ∧ Below w.heap.size w w' := by
  have HS := Lib.hid hs
  have HM := Lib.hid hm
  have HK := Lib.hid (keyM_i64 s.ms [41, s.pn, s.no])
  have HK1 := Lib.hid (keyM_i64 s.ms [41, m.c, s.no])
  have B : Below w.heap.size w w := Below.refl _ _
  clear hs hm
  go_enter Try.func33, Try.ntmps33
  go_wp2_with fail
  refine (pairKey_impl s.ms s.pn s.no _ HS.out.1 HS.out.2.2.1 HS.out.2.1).mono ?_
  rintro x w1 ⟨rfl, hb0⟩
  have s0 : Bk.Blk w1 (w.heap.size) 47 #[.int .i64 s.ms, .int .i64 s.no, .int .i64 s.pn, .int .i64 s.re, .int .i64 s.pw, .int .i64 s.gk, .int .i64 s.ins] := (by apply Bk.Blk.to; (focus (apply Bk.Blk.under hb0; (repeat (first | with_reducible assumption | (with_reducible apply Bk.Blk.newAt; focus (first | (simp [Bk.size_set]; done) | (simp [Bk.size_set]; omega))) | with_reducible apply Bk.Blk.drewN | with_reducible apply Bk.Blk.drew | with_reducible apply Bk.Blk.set_ | (with_reducible apply Bk.Blk.far; focus (dsimp only; first | omega | (simp; omega) | (simp; done))) | with_reducible apply Bk.Blk.alloc)))); rfl)
  have m0 : Bk.Blk w1 (w.heap.size + 1) 29 #[.int .i64 m.n, .int .i64 m.r, .int .i64 m.c, .int .i64 m.g, .int .i64 m.m] := (by apply Bk.Blk.to; (focus (apply Bk.Blk.under hb0; (repeat (first | with_reducible assumption | (with_reducible apply Bk.Blk.newAt; focus (first | (simp [Bk.size_set]; done) | (simp [Bk.size_set]; omega))) | with_reducible apply Bk.Blk.drewN | with_reducible apply Bk.Blk.drew | with_reducible apply Bk.Blk.set_ | (with_reducible apply Bk.Blk.far; focus (dsimp only; first | omega | (simp; omega) | (simp; done))) | with_reducible apply Bk.Blk.alloc)))); rfl)
  have rr : Bk.Blk w1 (w.heap.size + 1 + 1) 51 #[.int .i64 0, .int .i64 0, .int .i64 0, .int .i64 0, .int .i64 0, .int .i64 0, .int .i64 0, .int .i64 0, .int .i64 0, .int .i64 0, .int .i64 0, .int .i64 0, .bool false, .bool false] := (by apply Bk.Blk.to; (focus (apply Bk.Blk.under hb0; (repeat (first | with_reducible assumption | (with_reducible apply Bk.Blk.newAt; focus (first | (simp [Bk.size_set]; done) | (simp [Bk.size_set]; omega))) | with_reducible apply Bk.Blk.drewN | with_reducible apply Bk.Blk.drew | with_reducible apply Bk.Blk.set_ | (with_reducible apply Bk.Blk.far; focus (dsimp only; first | omega | (simp; omega) | (simp; done))) | with_reducible apply Bk.Blk.alloc)))); rfl)
  have no : Bk.Blk w1 (w.heap.size + 1 + 1 + 1) 51 #[.int .i64 s.ms, .int .i64 s.no, .int .i64 s.pn, .int .i64 s.re, .int .i64 s.pw, .int .i64 s.gk, .int .i64 s.ins, .int .i64 0, .int .i64 0, .int .i64 0, .int .i64 0, .int .i64 0, .bool false, .bool false] := (by apply Bk.Blk.to; (focus (apply Bk.Blk.under hb0; (repeat (first | with_reducible assumption | (with_reducible apply Bk.Blk.newAt; focus (first | (simp [Bk.size_set]; done) | (simp [Bk.size_set]; omega))) | with_reducible apply Bk.Blk.drewN | with_reducible apply Bk.Blk.drew | with_reducible apply Bk.Blk.set_ | (with_reducible apply Bk.Blk.far; focus (dsimp only; first | omega | (simp; omega) | (simp; done))) | with_reducible apply Bk.Blk.alloc)))); rfl)
  replace B : Below w.heap.size w w1 := Below.trans (by go_grown) (hb0.mono (by first | omega | (simp [Bk.size_set]; done) | (simp [Bk.size_set]; omega)))
  have z1 := hb0.size
  (try simp only [World.size_alloc, Bk.size_set, World.size_drew, World.drewN] at z1)
  clear hb0
  have l_s0 : w.heap.size < w1.heap.size := Bk.Blk.lt s0
  have c_s00 : w1.cell? ⟨w.heap.size, 0, none⟩ = some (.int .i64 s.ms) := Bk.Blk.cell s0 0
  have c_s01 : w1.cell? ⟨w.heap.size, 1, none⟩ = some (.int .i64 s.no) := Bk.Blk.cell s0 1
  have c_s02 : w1.cell? ⟨w.heap.size, 2, none⟩ = some (.int .i64 s.pn) := Bk.Blk.cell s0 2
  have c_s03 : w1.cell? ⟨w.heap.size, 3, none⟩ = some (.int .i64 s.re) := Bk.Blk.cell s0 3
  have c_s04 : w1.cell? ⟨w.heap.size, 4, none⟩ = some (.int .i64 s.pw) := Bk.Blk.cell s0 4
  have c_s05 : w1.cell? ⟨w.heap.size, 5, none⟩ = some (.int .i64 s.gk) := Bk.Blk.cell s0 5
  have c_s06 : w1.cell? ⟨w.heap.size, 6, none⟩ = some (.int .i64 s.ins) := Bk.Blk.cell s0 6
  have l_m0 : w.heap.size + 1 < w1.heap.size := Bk.Blk.lt m0
  have c_m00 : w1.cell? ⟨w.heap.size + 1, 0, none⟩ = some (.int .i64 m.n) := Bk.Blk.cell m0 0
  have c_m01 : w1.cell? ⟨w.heap.size + 1, 1, none⟩ = some (.int .i64 m.r) := Bk.Blk.cell m0 1
  have c_m02 : w1.cell? ⟨w.heap.size + 1, 2, none⟩ = some (.int .i64 m.c) := Bk.Blk.cell m0 2
  have c_m03 : w1.cell? ⟨w.heap.size + 1, 3, none⟩ = some (.int .i64 m.g) := Bk.Blk.cell m0 3
  have c_m04 : w1.cell? ⟨w.heap.size + 1, 4, none⟩ = some (.int .i64 m.m) := Bk.Blk.cell m0 4
  have l_no : w.heap.size + 1 + 1 + 1 < w1.heap.size := Bk.Blk.lt no
  have c_no0 : w1.cell? ⟨w.heap.size + 1 + 1 + 1, 0, none⟩ = some (.int .i64 s.ms) := Bk.Blk.cell no 0
  have c_no1 : w1.cell? ⟨w.heap.size + 1 + 1 + 1, 1, none⟩ = some (.int .i64 s.no) := Bk.Blk.cell no 1
  have c_no2 : w1.cell? ⟨w.heap.size + 1 + 1 + 1, 2, none⟩ = some (.int .i64 s.pn) := Bk.Blk.cell no 2
  have c_no3 : w1.cell? ⟨w.heap.size + 1 + 1 + 1, 3, none⟩ = some (.int .i64 s.re) := Bk.Blk.cell no 3
  have c_no4 : w1.cell? ⟨w.heap.size + 1 + 1 + 1, 4, none⟩ = some (.int .i64 s.pw) := Bk.Blk.cell no 4
  have c_no5 : w1.cell? ⟨w.heap.size + 1 + 1 + 1, 5, none⟩ = some (.int .i64 s.gk) := Bk.Blk.cell no 5
  have c_no6 : w1.cell? ⟨w.heap.size + 1 + 1 + 1, 6, none⟩ = some (.int .i64 s.ins) := Bk.Blk.cell no 6
  have c_no7 : w1.cell? ⟨w.heap.size + 1 + 1 + 1, 7, none⟩ = some (.int .i64 0) := Bk.Blk.cell no 7
  have c_no8 : w1.cell? ⟨w.heap.size + 1 + 1 + 1, 8, none⟩ = some (.int .i64 0) := Bk.Blk.cell no 8
  have c_no9 : w1.cell? ⟨w.heap.size + 1 + 1 + 1, 9, none⟩ = some (.int .i64 0) := Bk.Blk.cell no 9
  have c_no10 : w1.cell? ⟨w.heap.size + 1 + 1 + 1, 10, none⟩ = some (.int .i64 0) := Bk.Blk.cell no 10
  have c_no11 : w1.cell? ⟨w.heap.size + 1 + 1 + 1, 11, none⟩ = some (.int .i64 0) := Bk.Blk.cell no 11
  have c_no12 : w1.cell? ⟨w.heap.size + 1 + 1 + 1, 12, none⟩ = some (.bool false) := Bk.Blk.cell no 12
  have c_no13 : w1.cell? ⟨w.heap.size + 1 + 1 + 1, 13, none⟩ = some (.bool false) := Bk.Blk.cell no 13
  go_wp2_with ((with_reducible refine Bk.atOp (o := ⟨none, .store 51 (.tmp 4) (.tmp 64), _, _, _, _⟩) ?_); refine Bk.wpl_store (by rfl) 51 (.tmp 4) (.tmp 64) (by rfl) (w.heap.size + 1 + 1) 51 #[.int .i64 0, .int .i64 0, .int .i64 0, .int .i64 0, .int .i64 0, .int .i64 0, .int .i64 0, .int .i64 0, .int .i64 0, .int .i64 0, .int .i64 0, .int .i64 0, .bool false, .bool false] [.int .i64 s.ms, .int .i64 s.no, .int .i64 s.pn, .int .i64 s.re, .int .i64 s.pw, .int .i64 s.gk, .int .i64 s.ins, .int .i64 0, .int .i64 0, .int .i64 0, .int .i64 0, .int .i64 0, .bool false, .bool false] (by rfl) (by rfl) (by (repeat (first | with_reducible assumption | (with_reducible apply Bk.Blk.newAt; focus (first | (simp [Bk.size_set]; done) | (simp [Bk.size_set]; omega))) | with_reducible apply Bk.Blk.drewN | with_reducible apply Bk.Blk.drew | with_reducible apply Bk.Blk.set_ | (with_reducible apply Bk.Blk.far; focus (dsimp only; first | omega | (simp; omega) | (simp; done))) | with_reducible apply Bk.Blk.alloc))) (by rfl) (by kernel_rfl) (by rfl) ?_)
  clear l_s0 c_s00 c_s01 c_s02 c_s03 c_s04 c_s05 c_s06 l_m0 c_m00 c_m01 c_m02 c_m03 c_m04 l_no c_no0 c_no1 c_no2 c_no3 c_no4 c_no5 c_no6 c_no7 c_no8 c_no9 c_no10 c_no11 c_no12 c_no13
  intro w2 hb0 hg0 hs0
  replace rr : Bk.Blk w2 (w.heap.size + 1 + 1) 51 #[.int .i64 s.ms, .int .i64 s.no, .int .i64 s.pn, .int .i64 s.re, .int .i64 s.pw, .int .i64 s.gk, .int .i64 s.ins, .int .i64 0, .int .i64 0, .int .i64 0, .int .i64 0, .int .i64 0, .bool false, .bool false] := hb0
  replace B : Below w.heap.size w w2 := Bk.below_grown (by go_grown) hg0 (by omega) (by first | omega | (simp [Bk.size_set]; done) | (simp [Bk.size_set]; omega))
  have z2 := hs0
  (try simp only [World.size_alloc, Bk.size_set, World.size_drew, World.drewN] at z2)
  clear hb0 hg0 hs0
  have l_rr : w.heap.size + 1 + 1 < w2.heap.size := Bk.Blk.lt rr
  have c_rr0 : w2.cell? ⟨w.heap.size + 1 + 1, 0, none⟩ = some (.int .i64 s.ms) := Bk.Blk.cell rr 0
  have c_rr1 : w2.cell? ⟨w.heap.size + 1 + 1, 1, none⟩ = some (.int .i64 s.no) := Bk.Blk.cell rr 1
  have c_rr2 : w2.cell? ⟨w.heap.size + 1 + 1, 2, none⟩ = some (.int .i64 s.pn) := Bk.Blk.cell rr 2
  have c_rr3 : w2.cell? ⟨w.heap.size + 1 + 1, 3, none⟩ = some (.int .i64 s.re) := Bk.Blk.cell rr 3
  have c_rr4 : w2.cell? ⟨w.heap.size + 1 + 1, 4, none⟩ = some (.int .i64 s.pw) := Bk.Blk.cell rr 4
  have c_rr5 : w2.cell? ⟨w.heap.size + 1 + 1, 5, none⟩ = some (.int .i64 s.gk) := Bk.Blk.cell rr 5
  have c_rr6 : w2.cell? ⟨w.heap.size + 1 + 1, 6, none⟩ = some (.int .i64 s.ins) := Bk.Blk.cell rr 6
  have c_rr7 : w2.cell? ⟨w.heap.size + 1 + 1, 7, none⟩ = some (.int .i64 0) := Bk.Blk.cell rr 7
  have c_rr8 : w2.cell? ⟨w.heap.size + 1 + 1, 8, none⟩ = some (.int .i64 0) := Bk.Blk.cell rr 8
  have c_rr9 : w2.cell? ⟨w.heap.size + 1 + 1, 9, none⟩ = some (.int .i64 0) := Bk.Blk.cell rr 9
  have c_rr10 : w2.cell? ⟨w.heap.size + 1 + 1, 10, none⟩ = some (.int .i64 0) := Bk.Blk.cell rr 10
  have c_rr11 : w2.cell? ⟨w.heap.size + 1 + 1, 11, none⟩ = some (.int .i64 0) := Bk.Blk.cell rr 11
  have c_rr12 : w2.cell? ⟨w.heap.size + 1 + 1, 12, none⟩ = some (.bool false) := Bk.Blk.cell rr 12
  have c_rr13 : w2.cell? ⟨w.heap.size + 1 + 1, 13, none⟩ = some (.bool false) := Bk.Blk.cell rr 13
  go_wp2
  refine bodyPost_ret (v := .agg #[.int .i64 s.ms, .int .i64 s.no, .int .i64 s.pn, .int .i64 s.re, .int .i64 s.pw, .int .i64 s.gk, .int .i64 s.ins, .int .i64 0, .int .i64 0, .int .i64 0, .int .i64 0, .int .i64 0, .bool false, .bool false]) (by simp [results, Try.results33, go_sem, c_rr0, c_rr1, c_rr2, c_rr3, c_rr4, c_rr5, c_rr6, c_rr7, c_rr8, c_rr9, c_rr10, c_rr11, c_rr12, c_rr13]) rfl (⟨rfl, B⟩)
set_option maxHeartbeats 8000000 in
theorem sup_bad (s : Sup) (m : Msg) (w : World) (hs : s.Ok) (hm : m.Ok) (hr : s.re < m.r) (h1 : (m.n == 1) = false) (h3 : (m.n == 3) = true) (hc : (m.c != s.pn) = false) (hv : (m.m == macM (keyM s.ms [41, s.pn, s.no]) [43, m.n, m.r, m.c, m.g]) = false) :
    Calls Try.prog 33 #[.agg #[.int .i64 s.ms, .int .i64 s.no, .int .i64 s.pn, .int .i64 s.re, .int .i64 s.pw, .int .i64 s.gk, .int .i64 s.ins], .agg #[.int .i64 m.n, .int .i64 m.r, .int .i64 m.c, .int .i64 m.g, .int .i64 m.m]] w fun x w' => x = .returned (.agg #[.int .i64 s.ms, .int .i64 s.no, .int .i64 s.pn, .int .i64 s.re, .int .i64 s.pw, .int .i64 s.gk, .int .i64 s.ins, .int .i64 0, .int .i64 0, .int .i64 0, .int .i64 0, .int .i64 0, .bool false, .bool false]) ∧ Below w.heap.size w w' := by
  have HS := Lib.hid hs
  have HM := Lib.hid hm
  have HK := Lib.hid (keyM_i64 s.ms [41, s.pn, s.no])
  have HK1 := Lib.hid (keyM_i64 s.ms [41, m.c, s.no])
  have B : Below w.heap.size w w := Below.refl _ _
  clear hs hm
  go_enter Try.func33, Try.ntmps33
  go_wp2_with fail
  refine (pairKey_impl s.ms s.pn s.no _ HS.out.1 HS.out.2.2.1 HS.out.2.1).mono ?_
  rintro x w1 ⟨rfl, hb0⟩
  have s0 : Bk.Blk w1 (w.heap.size) 47 #[.int .i64 s.ms, .int .i64 s.no, .int .i64 s.pn, .int .i64 s.re, .int .i64 s.pw, .int .i64 s.gk, .int .i64 s.ins] := (by apply Bk.Blk.to; (focus (apply Bk.Blk.under hb0; (repeat (first | with_reducible assumption | (with_reducible apply Bk.Blk.newAt; focus (first | (simp [Bk.size_set]; done) | (simp [Bk.size_set]; omega))) | with_reducible apply Bk.Blk.drewN | with_reducible apply Bk.Blk.drew | with_reducible apply Bk.Blk.set_ | (with_reducible apply Bk.Blk.far; focus (dsimp only; first | omega | (simp; omega) | (simp; done))) | with_reducible apply Bk.Blk.alloc)))); rfl)
  have m0 : Bk.Blk w1 (w.heap.size + 1) 29 #[.int .i64 m.n, .int .i64 m.r, .int .i64 m.c, .int .i64 m.g, .int .i64 m.m] := (by apply Bk.Blk.to; (focus (apply Bk.Blk.under hb0; (repeat (first | with_reducible assumption | (with_reducible apply Bk.Blk.newAt; focus (first | (simp [Bk.size_set]; done) | (simp [Bk.size_set]; omega))) | with_reducible apply Bk.Blk.drewN | with_reducible apply Bk.Blk.drew | with_reducible apply Bk.Blk.set_ | (with_reducible apply Bk.Blk.far; focus (dsimp only; first | omega | (simp; omega) | (simp; done))) | with_reducible apply Bk.Blk.alloc)))); rfl)
  have rr : Bk.Blk w1 (w.heap.size + 1 + 1) 51 #[.int .i64 0, .int .i64 0, .int .i64 0, .int .i64 0, .int .i64 0, .int .i64 0, .int .i64 0, .int .i64 0, .int .i64 0, .int .i64 0, .int .i64 0, .int .i64 0, .bool false, .bool false] := (by apply Bk.Blk.to; (focus (apply Bk.Blk.under hb0; (repeat (first | with_reducible assumption | (with_reducible apply Bk.Blk.newAt; focus (first | (simp [Bk.size_set]; done) | (simp [Bk.size_set]; omega))) | with_reducible apply Bk.Blk.drewN | with_reducible apply Bk.Blk.drew | with_reducible apply Bk.Blk.set_ | (with_reducible apply Bk.Blk.far; focus (dsimp only; first | omega | (simp; omega) | (simp; done))) | with_reducible apply Bk.Blk.alloc)))); rfl)
  have no : Bk.Blk w1 (w.heap.size + 1 + 1 + 1) 51 #[.int .i64 s.ms, .int .i64 s.no, .int .i64 s.pn, .int .i64 s.re, .int .i64 s.pw, .int .i64 s.gk, .int .i64 s.ins, .int .i64 0, .int .i64 0, .int .i64 0, .int .i64 0, .int .i64 0, .bool false, .bool false] := (by apply Bk.Blk.to; (focus (apply Bk.Blk.under hb0; (repeat (first | with_reducible assumption | (with_reducible apply Bk.Blk.newAt; focus (first | (simp [Bk.size_set]; done) | (simp [Bk.size_set]; omega))) | with_reducible apply Bk.Blk.drewN | with_reducible apply Bk.Blk.drew | with_reducible apply Bk.Blk.set_ | (with_reducible apply Bk.Blk.far; focus (dsimp only; first | omega | (simp; omega) | (simp; done))) | with_reducible apply Bk.Blk.alloc)))); rfl)
  replace B : Below w.heap.size w w1 := Below.trans (by go_grown) (hb0.mono (by first | omega | (simp [Bk.size_set]; done) | (simp [Bk.size_set]; omega)))
  have z1 := hb0.size
  (try simp only [World.size_alloc, Bk.size_set, World.size_drew, World.drewN] at z1)
  clear hb0
  have l_s0 : w.heap.size < w1.heap.size := Bk.Blk.lt s0
  have c_s00 : w1.cell? ⟨w.heap.size, 0, none⟩ = some (.int .i64 s.ms) := Bk.Blk.cell s0 0
  have c_s01 : w1.cell? ⟨w.heap.size, 1, none⟩ = some (.int .i64 s.no) := Bk.Blk.cell s0 1
  have c_s02 : w1.cell? ⟨w.heap.size, 2, none⟩ = some (.int .i64 s.pn) := Bk.Blk.cell s0 2
  have c_s03 : w1.cell? ⟨w.heap.size, 3, none⟩ = some (.int .i64 s.re) := Bk.Blk.cell s0 3
  have c_s04 : w1.cell? ⟨w.heap.size, 4, none⟩ = some (.int .i64 s.pw) := Bk.Blk.cell s0 4
  have c_s05 : w1.cell? ⟨w.heap.size, 5, none⟩ = some (.int .i64 s.gk) := Bk.Blk.cell s0 5
  have c_s06 : w1.cell? ⟨w.heap.size, 6, none⟩ = some (.int .i64 s.ins) := Bk.Blk.cell s0 6
  have l_m0 : w.heap.size + 1 < w1.heap.size := Bk.Blk.lt m0
  have c_m00 : w1.cell? ⟨w.heap.size + 1, 0, none⟩ = some (.int .i64 m.n) := Bk.Blk.cell m0 0
  have c_m01 : w1.cell? ⟨w.heap.size + 1, 1, none⟩ = some (.int .i64 m.r) := Bk.Blk.cell m0 1
  have c_m02 : w1.cell? ⟨w.heap.size + 1, 2, none⟩ = some (.int .i64 m.c) := Bk.Blk.cell m0 2
  have c_m03 : w1.cell? ⟨w.heap.size + 1, 3, none⟩ = some (.int .i64 m.g) := Bk.Blk.cell m0 3
  have c_m04 : w1.cell? ⟨w.heap.size + 1, 4, none⟩ = some (.int .i64 m.m) := Bk.Blk.cell m0 4
  go_wp2_with fail
  clear l_s0 c_s00 c_s01 c_s02 c_s03 c_s04 c_s05 c_s06 l_m0 c_m00 c_m01 c_m02 c_m03 c_m04
  refine (verify_impl (keyM s.ms [41, s.pn, s.no]) m.n m.r m.c m.g m.m _ HK.out HM.out.1 HM.out.2.1 HM.out.2.2.1 HM.out.2.2.2.1).mono ?_
  rintro x w2 ⟨rfl, hb0⟩
  replace s0 : Bk.Blk w2 (w.heap.size) 47 #[.int .i64 s.ms, .int .i64 s.no, .int .i64 s.pn, .int .i64 s.re, .int .i64 s.pw, .int .i64 s.gk, .int .i64 s.ins] := Bk.Blk.under hb0 (by (repeat (first | with_reducible assumption | (with_reducible apply Bk.Blk.newAt; focus (first | (simp [Bk.size_set]; done) | (simp [Bk.size_set]; omega))) | with_reducible apply Bk.Blk.drewN | with_reducible apply Bk.Blk.drew | with_reducible apply Bk.Blk.set_ | (with_reducible apply Bk.Blk.far; focus (dsimp only; first | omega | (simp; omega) | (simp; done))) | with_reducible apply Bk.Blk.alloc)))
  replace m0 : Bk.Blk w2 (w.heap.size + 1) 29 #[.int .i64 m.n, .int .i64 m.r, .int .i64 m.c, .int .i64 m.g, .int .i64 m.m] := Bk.Blk.under hb0 (by (repeat (first | with_reducible assumption | (with_reducible apply Bk.Blk.newAt; focus (first | (simp [Bk.size_set]; done) | (simp [Bk.size_set]; omega))) | with_reducible apply Bk.Blk.drewN | with_reducible apply Bk.Blk.drew | with_reducible apply Bk.Blk.set_ | (with_reducible apply Bk.Blk.far; focus (dsimp only; first | omega | (simp; omega) | (simp; done))) | with_reducible apply Bk.Blk.alloc)))
  replace rr : Bk.Blk w2 (w.heap.size + 1 + 1) 51 #[.int .i64 0, .int .i64 0, .int .i64 0, .int .i64 0, .int .i64 0, .int .i64 0, .int .i64 0, .int .i64 0, .int .i64 0, .int .i64 0, .int .i64 0, .int .i64 0, .bool false, .bool false] := Bk.Blk.under hb0 (by (repeat (first | with_reducible assumption | (with_reducible apply Bk.Blk.newAt; focus (first | (simp [Bk.size_set]; done) | (simp [Bk.size_set]; omega))) | with_reducible apply Bk.Blk.drewN | with_reducible apply Bk.Blk.drew | with_reducible apply Bk.Blk.set_ | (with_reducible apply Bk.Blk.far; focus (dsimp only; first | omega | (simp; omega) | (simp; done))) | with_reducible apply Bk.Blk.alloc)))
  replace no : Bk.Blk w2 (w.heap.size + 1 + 1 + 1) 51 #[.int .i64 s.ms, .int .i64 s.no, .int .i64 s.pn, .int .i64 s.re, .int .i64 s.pw, .int .i64 s.gk, .int .i64 s.ins, .int .i64 0, .int .i64 0, .int .i64 0, .int .i64 0, .int .i64 0, .bool false, .bool false] := Bk.Blk.under hb0 (by (repeat (first | with_reducible assumption | (with_reducible apply Bk.Blk.newAt; focus (first | (simp [Bk.size_set]; done) | (simp [Bk.size_set]; omega))) | with_reducible apply Bk.Blk.drewN | with_reducible apply Bk.Blk.drew | with_reducible apply Bk.Blk.set_ | (with_reducible apply Bk.Blk.far; focus (dsimp only; first | omega | (simp; omega) | (simp; done))) | with_reducible apply Bk.Blk.alloc)))
  replace B : Below w.heap.size w w2 := Below.trans (by go_grown) (hb0.mono (by first | omega | (simp [Bk.size_set]; done) | (simp [Bk.size_set]; omega)))
  have z2 := hb0.size
  (try simp only [World.size_alloc, Bk.size_set, World.size_drew, World.drewN] at z2)
  clear hb0
  have l_no : w.heap.size + 1 + 1 + 1 < w2.heap.size := Bk.Blk.lt no
  have c_no0 : w2.cell? ⟨w.heap.size + 1 + 1 + 1, 0, none⟩ = some (.int .i64 s.ms) := Bk.Blk.cell no 0
  have c_no1 : w2.cell? ⟨w.heap.size + 1 + 1 + 1, 1, none⟩ = some (.int .i64 s.no) := Bk.Blk.cell no 1
  have c_no2 : w2.cell? ⟨w.heap.size + 1 + 1 + 1, 2, none⟩ = some (.int .i64 s.pn) := Bk.Blk.cell no 2
  have c_no3 : w2.cell? ⟨w.heap.size + 1 + 1 + 1, 3, none⟩ = some (.int .i64 s.re) := Bk.Blk.cell no 3
  have c_no4 : w2.cell? ⟨w.heap.size + 1 + 1 + 1, 4, none⟩ = some (.int .i64 s.pw) := Bk.Blk.cell no 4
  have c_no5 : w2.cell? ⟨w.heap.size + 1 + 1 + 1, 5, none⟩ = some (.int .i64 s.gk) := Bk.Blk.cell no 5
  have c_no6 : w2.cell? ⟨w.heap.size + 1 + 1 + 1, 6, none⟩ = some (.int .i64 s.ins) := Bk.Blk.cell no 6
  have c_no7 : w2.cell? ⟨w.heap.size + 1 + 1 + 1, 7, none⟩ = some (.int .i64 0) := Bk.Blk.cell no 7
  have c_no8 : w2.cell? ⟨w.heap.size + 1 + 1 + 1, 8, none⟩ = some (.int .i64 0) := Bk.Blk.cell no 8
  have c_no9 : w2.cell? ⟨w.heap.size + 1 + 1 + 1, 9, none⟩ = some (.int .i64 0) := Bk.Blk.cell no 9
  have c_no10 : w2.cell? ⟨w.heap.size + 1 + 1 + 1, 10, none⟩ = some (.int .i64 0) := Bk.Blk.cell no 10
  have c_no11 : w2.cell? ⟨w.heap.size + 1 + 1 + 1, 11, none⟩ = some (.int .i64 0) := Bk.Blk.cell no 11
  have c_no12 : w2.cell? ⟨w.heap.size + 1 + 1 + 1, 12, none⟩ = some (.bool false) := Bk.Blk.cell no 12
  have c_no13 : w2.cell? ⟨w.heap.size + 1 + 1 + 1, 13, none⟩ = some (.bool false) := Bk.Blk.cell no 13
  go_wp2_with ((with_reducible refine Bk.atOp (o := ⟨none, .store 51 (.tmp 4) (.tmp 64), _, _, _, _⟩) ?_); refine Bk.wpl_store (by rfl) 51 (.tmp 4) (.tmp 64) (by rfl) (w.heap.size + 1 + 1) 51 #[.int .i64 0, .int .i64 0, .int .i64 0, .int .i64 0, .int .i64 0, .int .i64 0, .int .i64 0, .int .i64 0, .int .i64 0, .int .i64 0, .int .i64 0, .int .i64 0, .bool false, .bool false] [.int .i64 s.ms, .int .i64 s.no, .int .i64 s.pn, .int .i64 s.re, .int .i64 s.pw, .int .i64 s.gk, .int .i64 s.ins, .int .i64 0, .int .i64 0, .int .i64 0, .int .i64 0, .int .i64 0, .bool false, .bool false] (by rfl) (by rfl) (by (repeat (first | with_reducible assumption | (with_reducible apply Bk.Blk.newAt; focus (first | (simp [Bk.size_set]; done) | (simp [Bk.size_set]; omega))) | with_reducible apply Bk.Blk.drewN | with_reducible apply Bk.Blk.drew | with_reducible apply Bk.Blk.set_ | (with_reducible apply Bk.Blk.far; focus (dsimp only; first | omega | (simp; omega) | (simp; done))) | with_reducible apply Bk.Blk.alloc))) (by rfl) (by kernel_rfl) (by rfl) ?_)
  clear l_no c_no0 c_no1 c_no2 c_no3 c_no4 c_no5 c_no6 c_no7 c_no8 c_no9 c_no10 c_no11 c_no12 c_no13
  intro w3 hb0 hg0 hs0
  replace rr : Bk.Blk w3 (w.heap.size + 1 + 1) 51 #[.int .i64 s.ms, .int .i64 s.no, .int .i64 s.pn, .int .i64 s.re, .int .i64 s.pw, .int .i64 s.gk, .int .i64 s.ins, .int .i64 0, .int .i64 0, .int .i64 0, .int .i64 0, .int .i64 0, .bool false, .bool false] := hb0
  replace B : Below w.heap.size w w3 := Bk.below_grown (by go_grown) hg0 (by omega) (by first | omega | (simp [Bk.size_set]; done) | (simp [Bk.size_set]; omega))
  have z3 := hs0
  (try simp only [World.size_alloc, Bk.size_set, World.size_drew, World.drewN] at z3)
  clear hb0 hg0 hs0
  have l_rr : w.heap.size + 1 + 1 < w3.heap.size := Bk.Blk.lt rr
  have c_rr0 : w3.cell? ⟨w.heap.size + 1 + 1, 0, none⟩ = some (.int .i64 s.ms) := Bk.Blk.cell rr 0
  have c_rr1 : w3.cell? ⟨w.heap.size + 1 + 1, 1, none⟩ = some (.int .i64 s.no) := Bk.Blk.cell rr 1
  have c_rr2 : w3.cell? ⟨w.heap.size + 1 + 1, 2, none⟩ = some (.int .i64 s.pn) := Bk.Blk.cell rr 2
  have c_rr3 : w3.cell? ⟨w.heap.size + 1 + 1, 3, none⟩ = some (.int .i64 s.re) := Bk.Blk.cell rr 3
  have c_rr4 : w3.cell? ⟨w.heap.size + 1 + 1, 4, none⟩ = some (.int .i64 s.pw) := Bk.Blk.cell rr 4
  have c_rr5 : w3.cell? ⟨w.heap.size + 1 + 1, 5, none⟩ = some (.int .i64 s.gk) := Bk.Blk.cell rr 5
  have c_rr6 : w3.cell? ⟨w.heap.size + 1 + 1, 6, none⟩ = some (.int .i64 s.ins) := Bk.Blk.cell rr 6
  have c_rr7 : w3.cell? ⟨w.heap.size + 1 + 1, 7, none⟩ = some (.int .i64 0) := Bk.Blk.cell rr 7
  have c_rr8 : w3.cell? ⟨w.heap.size + 1 + 1, 8, none⟩ = some (.int .i64 0) := Bk.Blk.cell rr 8
  have c_rr9 : w3.cell? ⟨w.heap.size + 1 + 1, 9, none⟩ = some (.int .i64 0) := Bk.Blk.cell rr 9
  have c_rr10 : w3.cell? ⟨w.heap.size + 1 + 1, 10, none⟩ = some (.int .i64 0) := Bk.Blk.cell rr 10
  have c_rr11 : w3.cell? ⟨w.heap.size + 1 + 1, 11, none⟩ = some (.int .i64 0) := Bk.Blk.cell rr 11
  have c_rr12 : w3.cell? ⟨w.heap.size + 1 + 1, 12, none⟩ = some (.bool false) := Bk.Blk.cell rr 12
  have c_rr13 : w3.cell? ⟨w.heap.size + 1 + 1, 13, none⟩ = some (.bool false) := Bk.Blk.cell rr 13
  go_wp2
  refine bodyPost_ret (v := .agg #[.int .i64 s.ms, .int .i64 s.no, .int .i64 s.pn, .int .i64 s.re, .int .i64 s.pw, .int .i64 s.gk, .int .i64 s.ins, .int .i64 0, .int .i64 0, .int .i64 0, .int .i64 0, .int .i64 0, .bool false, .bool false]) (by simp [results, Try.results33, go_sem, c_rr0, c_rr1, c_rr2, c_rr3, c_rr4, c_rr5, c_rr6, c_rr7, c_rr8, c_rr9, c_rr10, c_rr11, c_rr12, c_rr13]) rfl (⟨rfl, B⟩)
set_option maxHeartbeats 8000000 in
theorem sup_again (s : Sup) (m : Msg) (w : World) (hs : s.Ok) (hm : m.Ok) (hr : s.re < m.r) (h1 : (m.n == 1) = false) (h3 : (m.n == 3) = true) (hc : (m.c != s.pn) = false) (hv : (m.m == macM (keyM s.ms [41, s.pn, s.no]) [43, m.n, m.r, m.c, m.g]) = true) (hp : (s.pw != (keyM s.ms [41, s.pn, s.no])) = false) :
    Calls Try.prog 33 #[.agg #[.int .i64 s.ms, .int .i64 s.no, .int .i64 s.pn, .int .i64 s.re, .int .i64 s.pw, .int .i64 s.gk, .int .i64 s.ins], .agg #[.int .i64 m.n, .int .i64 m.r, .int .i64 m.c, .int .i64 m.g, .int .i64 m.m]] w fun x w' => x = .returned (.agg #[.int .i64 s.ms, .int .i64 s.no, .int .i64 s.pn, .int .i64 m.r, .int .i64 s.pw, .int .i64 s.gk, .int .i64 s.ins, .int .i64 4, .int .i64 m.r, .int .i64 0, .int .i64 0, .int .i64 (macM (keyM s.ms [41, s.pn, s.no]) [43, 4, m.r, 0, 0]), .bool true, .bool false]) ∧ Below w.heap.size w w' := by
  have HS := Lib.hid hs
  have HM := Lib.hid hm
  have HK := Lib.hid (keyM_i64 s.ms [41, s.pn, s.no])
  have HK1 := Lib.hid (keyM_i64 s.ms [41, m.c, s.no])
  have B : Below w.heap.size w w := Below.refl _ _
  have HP := Lib.hid hp
  clear hs hm hp
  go_enter Try.func33, Try.ntmps33
  go_wp2_with fail
  refine (pairKey_impl s.ms s.pn s.no _ HS.out.1 HS.out.2.2.1 HS.out.2.1).mono ?_
  rintro x w1 ⟨rfl, hb0⟩
  have s0 : Bk.Blk w1 (w.heap.size) 47 #[.int .i64 s.ms, .int .i64 s.no, .int .i64 s.pn, .int .i64 s.re, .int .i64 s.pw, .int .i64 s.gk, .int .i64 s.ins] := (by apply Bk.Blk.to; (focus (apply Bk.Blk.under hb0; (repeat (first | with_reducible assumption | (with_reducible apply Bk.Blk.newAt; focus (first | (simp [Bk.size_set]; done) | (simp [Bk.size_set]; omega))) | with_reducible apply Bk.Blk.drewN | with_reducible apply Bk.Blk.drew | with_reducible apply Bk.Blk.set_ | (with_reducible apply Bk.Blk.far; focus (dsimp only; first | omega | (simp; omega) | (simp; done))) | with_reducible apply Bk.Blk.alloc)))); rfl)
  have m0 : Bk.Blk w1 (w.heap.size + 1) 29 #[.int .i64 m.n, .int .i64 m.r, .int .i64 m.c, .int .i64 m.g, .int .i64 m.m] := (by apply Bk.Blk.to; (focus (apply Bk.Blk.under hb0; (repeat (first | with_reducible assumption | (with_reducible apply Bk.Blk.newAt; focus (first | (simp [Bk.size_set]; done) | (simp [Bk.size_set]; omega))) | with_reducible apply Bk.Blk.drewN | with_reducible apply Bk.Blk.drew | with_reducible apply Bk.Blk.set_ | (with_reducible apply Bk.Blk.far; focus (dsimp only; first | omega | (simp; omega) | (simp; done))) | with_reducible apply Bk.Blk.alloc)))); rfl)
  have rr : Bk.Blk w1 (w.heap.size + 1 + 1) 51 #[.int .i64 0, .int .i64 0, .int .i64 0, .int .i64 0, .int .i64 0, .int .i64 0, .int .i64 0, .int .i64 0, .int .i64 0, .int .i64 0, .int .i64 0, .int .i64 0, .bool false, .bool false] := (by apply Bk.Blk.to; (focus (apply Bk.Blk.under hb0; (repeat (first | with_reducible assumption | (with_reducible apply Bk.Blk.newAt; focus (first | (simp [Bk.size_set]; done) | (simp [Bk.size_set]; omega))) | with_reducible apply Bk.Blk.drewN | with_reducible apply Bk.Blk.drew | with_reducible apply Bk.Blk.set_ | (with_reducible apply Bk.Blk.far; focus (dsimp only; first | omega | (simp; omega) | (simp; done))) | with_reducible apply Bk.Blk.alloc)))); rfl)
  have no : Bk.Blk w1 (w.heap.size + 1 + 1 + 1) 51 #[.int .i64 s.ms, .int .i64 s.no, .int .i64 s.pn, .int .i64 s.re, .int .i64 s.pw, .int .i64 s.gk, .int .i64 s.ins, .int .i64 0, .int .i64 0, .int .i64 0, .int .i64 0, .int .i64 0, .bool false, .bool false] := (by apply Bk.Blk.to; (focus (apply Bk.Blk.under hb0; (repeat (first | with_reducible assumption | (with_reducible apply Bk.Blk.newAt; focus (first | (simp [Bk.size_set]; done) | (simp [Bk.size_set]; omega))) | with_reducible apply Bk.Blk.drewN | with_reducible apply Bk.Blk.drew | with_reducible apply Bk.Blk.set_ | (with_reducible apply Bk.Blk.far; focus (dsimp only; first | omega | (simp; omega) | (simp; done))) | with_reducible apply Bk.Blk.alloc)))); rfl)
  replace B : Below w.heap.size w w1 := Below.trans (by go_grown) (hb0.mono (by first | omega | (simp [Bk.size_set]; done) | (simp [Bk.size_set]; omega)))
  have z1 := hb0.size
  (try simp only [World.size_alloc, Bk.size_set, World.size_drew, World.drewN] at z1)
  clear hb0
  have l_s0 : w.heap.size < w1.heap.size := Bk.Blk.lt s0
  have c_s00 : w1.cell? ⟨w.heap.size, 0, none⟩ = some (.int .i64 s.ms) := Bk.Blk.cell s0 0
  have c_s01 : w1.cell? ⟨w.heap.size, 1, none⟩ = some (.int .i64 s.no) := Bk.Blk.cell s0 1
  have c_s02 : w1.cell? ⟨w.heap.size, 2, none⟩ = some (.int .i64 s.pn) := Bk.Blk.cell s0 2
  have c_s03 : w1.cell? ⟨w.heap.size, 3, none⟩ = some (.int .i64 s.re) := Bk.Blk.cell s0 3
  have c_s04 : w1.cell? ⟨w.heap.size, 4, none⟩ = some (.int .i64 s.pw) := Bk.Blk.cell s0 4
  have c_s05 : w1.cell? ⟨w.heap.size, 5, none⟩ = some (.int .i64 s.gk) := Bk.Blk.cell s0 5
  have c_s06 : w1.cell? ⟨w.heap.size, 6, none⟩ = some (.int .i64 s.ins) := Bk.Blk.cell s0 6
  have l_m0 : w.heap.size + 1 < w1.heap.size := Bk.Blk.lt m0
  have c_m00 : w1.cell? ⟨w.heap.size + 1, 0, none⟩ = some (.int .i64 m.n) := Bk.Blk.cell m0 0
  have c_m01 : w1.cell? ⟨w.heap.size + 1, 1, none⟩ = some (.int .i64 m.r) := Bk.Blk.cell m0 1
  have c_m02 : w1.cell? ⟨w.heap.size + 1, 2, none⟩ = some (.int .i64 m.c) := Bk.Blk.cell m0 2
  have c_m03 : w1.cell? ⟨w.heap.size + 1, 3, none⟩ = some (.int .i64 m.g) := Bk.Blk.cell m0 3
  have c_m04 : w1.cell? ⟨w.heap.size + 1, 4, none⟩ = some (.int .i64 m.m) := Bk.Blk.cell m0 4
  go_wp2_with fail
  clear l_s0 c_s00 c_s01 c_s02 c_s03 c_s04 c_s05 c_s06 l_m0 c_m00 c_m01 c_m02 c_m03 c_m04
  refine (verify_impl (keyM s.ms [41, s.pn, s.no]) m.n m.r m.c m.g m.m _ HK.out HM.out.1 HM.out.2.1 HM.out.2.2.1 HM.out.2.2.2.1).mono ?_
  rintro x w2 ⟨rfl, hb0⟩
  replace s0 : Bk.Blk w2 (w.heap.size) 47 #[.int .i64 s.ms, .int .i64 s.no, .int .i64 s.pn, .int .i64 s.re, .int .i64 s.pw, .int .i64 s.gk, .int .i64 s.ins] := Bk.Blk.under hb0 (by (repeat (first | with_reducible assumption | (with_reducible apply Bk.Blk.newAt; focus (first | (simp [Bk.size_set]; done) | (simp [Bk.size_set]; omega))) | with_reducible apply Bk.Blk.drewN | with_reducible apply Bk.Blk.drew | with_reducible apply Bk.Blk.set_ | (with_reducible apply Bk.Blk.far; focus (dsimp only; first | omega | (simp; omega) | (simp; done))) | with_reducible apply Bk.Blk.alloc)))
  replace m0 : Bk.Blk w2 (w.heap.size + 1) 29 #[.int .i64 m.n, .int .i64 m.r, .int .i64 m.c, .int .i64 m.g, .int .i64 m.m] := Bk.Blk.under hb0 (by (repeat (first | with_reducible assumption | (with_reducible apply Bk.Blk.newAt; focus (first | (simp [Bk.size_set]; done) | (simp [Bk.size_set]; omega))) | with_reducible apply Bk.Blk.drewN | with_reducible apply Bk.Blk.drew | with_reducible apply Bk.Blk.set_ | (with_reducible apply Bk.Blk.far; focus (dsimp only; first | omega | (simp; omega) | (simp; done))) | with_reducible apply Bk.Blk.alloc)))
  replace rr : Bk.Blk w2 (w.heap.size + 1 + 1) 51 #[.int .i64 0, .int .i64 0, .int .i64 0, .int .i64 0, .int .i64 0, .int .i64 0, .int .i64 0, .int .i64 0, .int .i64 0, .int .i64 0, .int .i64 0, .int .i64 0, .bool false, .bool false] := Bk.Blk.under hb0 (by (repeat (first | with_reducible assumption | (with_reducible apply Bk.Blk.newAt; focus (first | (simp [Bk.size_set]; done) | (simp [Bk.size_set]; omega))) | with_reducible apply Bk.Blk.drewN | with_reducible apply Bk.Blk.drew | with_reducible apply Bk.Blk.set_ | (with_reducible apply Bk.Blk.far; focus (dsimp only; first | omega | (simp; omega) | (simp; done))) | with_reducible apply Bk.Blk.alloc)))
  replace no : Bk.Blk w2 (w.heap.size + 1 + 1 + 1) 51 #[.int .i64 s.ms, .int .i64 s.no, .int .i64 s.pn, .int .i64 s.re, .int .i64 s.pw, .int .i64 s.gk, .int .i64 s.ins, .int .i64 0, .int .i64 0, .int .i64 0, .int .i64 0, .int .i64 0, .bool false, .bool false] := Bk.Blk.under hb0 (by (repeat (first | with_reducible assumption | (with_reducible apply Bk.Blk.newAt; focus (first | (simp [Bk.size_set]; done) | (simp [Bk.size_set]; omega))) | with_reducible apply Bk.Blk.drewN | with_reducible apply Bk.Blk.drew | with_reducible apply Bk.Blk.set_ | (with_reducible apply Bk.Blk.far; focus (dsimp only; first | omega | (simp; omega) | (simp; done))) | with_reducible apply Bk.Blk.alloc)))
  replace B : Below w.heap.size w w2 := Below.trans (by go_grown) (hb0.mono (by first | omega | (simp [Bk.size_set]; done) | (simp [Bk.size_set]; omega)))
  have z2 := hb0.size
  (try simp only [World.size_alloc, Bk.size_set, World.size_drew, World.drewN] at z2)
  clear hb0
  have l_s0 : w.heap.size < w2.heap.size := Bk.Blk.lt s0
  have c_s00 : w2.cell? ⟨w.heap.size, 0, none⟩ = some (.int .i64 s.ms) := Bk.Blk.cell s0 0
  have c_s01 : w2.cell? ⟨w.heap.size, 1, none⟩ = some (.int .i64 s.no) := Bk.Blk.cell s0 1
  have c_s02 : w2.cell? ⟨w.heap.size, 2, none⟩ = some (.int .i64 s.pn) := Bk.Blk.cell s0 2
  have c_s03 : w2.cell? ⟨w.heap.size, 3, none⟩ = some (.int .i64 s.re) := Bk.Blk.cell s0 3
  have c_s04 : w2.cell? ⟨w.heap.size, 4, none⟩ = some (.int .i64 s.pw) := Bk.Blk.cell s0 4
  have c_s05 : w2.cell? ⟨w.heap.size, 5, none⟩ = some (.int .i64 s.gk) := Bk.Blk.cell s0 5
  have c_s06 : w2.cell? ⟨w.heap.size, 6, none⟩ = some (.int .i64 s.ins) := Bk.Blk.cell s0 6
  have l_m0 : w.heap.size + 1 < w2.heap.size := Bk.Blk.lt m0
  have c_m00 : w2.cell? ⟨w.heap.size + 1, 0, none⟩ = some (.int .i64 m.n) := Bk.Blk.cell m0 0
  have c_m01 : w2.cell? ⟨w.heap.size + 1, 1, none⟩ = some (.int .i64 m.r) := Bk.Blk.cell m0 1
  have c_m02 : w2.cell? ⟨w.heap.size + 1, 2, none⟩ = some (.int .i64 m.c) := Bk.Blk.cell m0 2
  have c_m03 : w2.cell? ⟨w.heap.size + 1, 3, none⟩ = some (.int .i64 m.g) := Bk.Blk.cell m0 3
  have c_m04 : w2.cell? ⟨w.heap.size + 1, 4, none⟩ = some (.int .i64 m.m) := Bk.Blk.cell m0 4
  go_wp2_with fail
  clear l_s0 c_s00 c_s01 c_s02 c_s03 c_s04 c_s05 c_s06 l_m0 c_m00 c_m01 c_m02 c_m03 c_m04
  refine (inst_no s m (keyM s.ms [41, s.pn, s.no]) _ HS.out HM.out HK.out HP.out).mono ?_
  rintro x w3 ⟨rfl, hb0⟩
  replace rr : Bk.Blk w3 (w.heap.size + 1 + 1) 51 #[.int .i64 0, .int .i64 0, .int .i64 0, .int .i64 0, .int .i64 0, .int .i64 0, .int .i64 0, .int .i64 0, .int .i64 0, .int .i64 0, .int .i64 0, .int .i64 0, .bool false, .bool false] := Bk.Blk.under hb0 (by (repeat (first | with_reducible assumption | (with_reducible apply Bk.Blk.newAt; focus (first | (simp [Bk.size_set]; done) | (simp [Bk.size_set]; omega))) | with_reducible apply Bk.Blk.drewN | with_reducible apply Bk.Blk.drew | with_reducible apply Bk.Blk.set_ | (with_reducible apply Bk.Blk.far; focus (dsimp only; first | omega | (simp; omega) | (simp; done))) | with_reducible apply Bk.Blk.alloc)))
  replace B : Below w.heap.size w w3 := Below.trans (by go_grown) (hb0.mono (by first | omega | (simp [Bk.size_set]; done) | (simp [Bk.size_set]; omega)))
  have z3 := hb0.size
  (try simp only [World.size_alloc, Bk.size_set, World.size_drew, World.drewN] at z3)
  clear hb0
  go_wp2_with ((with_reducible refine Bk.atOp (o := ⟨none, .store 51 (.tmp 4) (.tmp 68), _, _, _, _⟩) ?_); refine Bk.wpl_store (by rfl) 51 (.tmp 4) (.tmp 68) (by rfl) (w.heap.size + 1 + 1) 51 #[.int .i64 0, .int .i64 0, .int .i64 0, .int .i64 0, .int .i64 0, .int .i64 0, .int .i64 0, .int .i64 0, .int .i64 0, .int .i64 0, .int .i64 0, .int .i64 0, .bool false, .bool false] [.int .i64 s.ms, .int .i64 s.no, .int .i64 s.pn, .int .i64 m.r, .int .i64 s.pw, .int .i64 s.gk, .int .i64 s.ins, .int .i64 4, .int .i64 m.r, .int .i64 0, .int .i64 0, .int .i64 (macM (keyM s.ms [41, s.pn, s.no]) [43, 4, m.r, 0, 0]), .bool true, .bool false] (by rfl) (by rfl) (by (repeat (first | with_reducible assumption | (with_reducible apply Bk.Blk.newAt; focus (first | (simp [Bk.size_set]; done) | (simp [Bk.size_set]; omega))) | with_reducible apply Bk.Blk.drewN | with_reducible apply Bk.Blk.drew | with_reducible apply Bk.Blk.set_ | (with_reducible apply Bk.Blk.far; focus (dsimp only; first | omega | (simp; omega) | (simp; done))) | with_reducible apply Bk.Blk.alloc))) (by rfl) (by kernel_rfl) (by rfl) ?_)
  intro w4 hb0 hg0 hs0
  replace rr : Bk.Blk w4 (w.heap.size + 1 + 1) 51 #[.int .i64 s.ms, .int .i64 s.no, .int .i64 s.pn, .int .i64 m.r, .int .i64 s.pw, .int .i64 s.gk, .int .i64 s.ins, .int .i64 4, .int .i64 m.r, .int .i64 0, .int .i64 0, .int .i64 (macM (keyM s.ms [41, s.pn, s.no]) [43, 4, m.r, 0, 0]), .bool true, .bool false] := hb0
  replace B : Below w.heap.size w w4 := Bk.below_grown (by go_grown) hg0 (by omega) (by first | omega | (simp [Bk.size_set]; done) | (simp [Bk.size_set]; omega))
  have z4 := hs0
  (try simp only [World.size_alloc, Bk.size_set, World.size_drew, World.drewN] at z4)
  clear hb0 hg0 hs0
  have l_rr : w.heap.size + 1 + 1 < w4.heap.size := Bk.Blk.lt rr
  have c_rr0 : w4.cell? ⟨w.heap.size + 1 + 1, 0, none⟩ = some (.int .i64 s.ms) := Bk.Blk.cell rr 0
  have c_rr1 : w4.cell? ⟨w.heap.size + 1 + 1, 1, none⟩ = some (.int .i64 s.no) := Bk.Blk.cell rr 1
  have c_rr2 : w4.cell? ⟨w.heap.size + 1 + 1, 2, none⟩ = some (.int .i64 s.pn) := Bk.Blk.cell rr 2
  have c_rr3 : w4.cell? ⟨w.heap.size + 1 + 1, 3, none⟩ = some (.int .i64 m.r) := Bk.Blk.cell rr 3
  have c_rr4 : w4.cell? ⟨w.heap.size + 1 + 1, 4, none⟩ = some (.int .i64 s.pw) := Bk.Blk.cell rr 4
  have c_rr5 : w4.cell? ⟨w.heap.size + 1 + 1, 5, none⟩ = some (.int .i64 s.gk) := Bk.Blk.cell rr 5
  have c_rr6 : w4.cell? ⟨w.heap.size + 1 + 1, 6, none⟩ = some (.int .i64 s.ins) := Bk.Blk.cell rr 6
  have c_rr7 : w4.cell? ⟨w.heap.size + 1 + 1, 7, none⟩ = some (.int .i64 4) := Bk.Blk.cell rr 7
  have c_rr8 : w4.cell? ⟨w.heap.size + 1 + 1, 8, none⟩ = some (.int .i64 m.r) := Bk.Blk.cell rr 8
  have c_rr9 : w4.cell? ⟨w.heap.size + 1 + 1, 9, none⟩ = some (.int .i64 0) := Bk.Blk.cell rr 9
  have c_rr10 : w4.cell? ⟨w.heap.size + 1 + 1, 10, none⟩ = some (.int .i64 0) := Bk.Blk.cell rr 10
  have c_rr11 : w4.cell? ⟨w.heap.size + 1 + 1, 11, none⟩ = some (.int .i64 (macM (keyM s.ms [41, s.pn, s.no]) [43, 4, m.r, 0, 0])) := Bk.Blk.cell rr 11
  have c_rr12 : w4.cell? ⟨w.heap.size + 1 + 1, 12, none⟩ = some (.bool true) := Bk.Blk.cell rr 12
  have c_rr13 : w4.cell? ⟨w.heap.size + 1 + 1, 13, none⟩ = some (.bool false) := Bk.Blk.cell rr 13
  go_wp2
  refine bodyPost_ret (v := .agg #[.int .i64 s.ms, .int .i64 s.no, .int .i64 s.pn, .int .i64 m.r, .int .i64 s.pw, .int .i64 s.gk, .int .i64 s.ins, .int .i64 4, .int .i64 m.r, .int .i64 0, .int .i64 0, .int .i64 (macM (keyM s.ms [41, s.pn, s.no]) [43, 4, m.r, 0, 0]), .bool true, .bool false]) (by simp [results, Try.results33, go_sem, c_rr0, c_rr1, c_rr2, c_rr3, c_rr4, c_rr5, c_rr6, c_rr7, c_rr8, c_rr9, c_rr10, c_rr11, c_rr12, c_rr13]) rfl (⟨rfl, B⟩)
set_option maxHeartbeats 8000000 in
theorem sup_take (s : Sup) (m : Msg) (w : World) (hs : s.Ok) (hm : m.Ok) (hr : s.re < m.r) (h1 : (m.n == 1) = false) (h3 : (m.n == 3) = true) (hc : (m.c != s.pn) = false) (hv : (m.m == macM (keyM s.ms [41, s.pn, s.no]) [43, m.n, m.r, m.c, m.g]) = true) (hp : (s.pw != (keyM s.ms [41, s.pn, s.no])) = true) :
    Calls Try.prog 33 #[.agg #[.int .i64 s.ms, .int .i64 s.no, .int .i64 s.pn, .int .i64 s.re, .int .i64 s.pw, .int .i64 s.gk, .int .i64 s.ins], .agg #[.int .i64 m.n, .int .i64 m.r, .int .i64 m.c, .int .i64 m.g, .int .i64 m.m]] w fun x w' => x = .returned (.agg #[.int .i64 s.ms, .int .i64 s.no, .int .i64 s.pn, .int .i64 m.r, .int .i64 (keyM s.ms [41, s.pn, s.no]), .int .i64 (unhM (keyM s.ms [41, s.pn, s.no]) m.r m.g), .int .i64 (wrap64 (s.ins + 1)), .int .i64 4, .int .i64 m.r, .int .i64 0, .int .i64 0, .int .i64 (macM (keyM s.ms [41, s.pn, s.no]) [43, 4, m.r, 0, 0]), .bool true, .bool true]) ∧ Below w.heap.size w w' := by
  have HS := Lib.hid hs
  have HM := Lib.hid hm
  have HK := Lib.hid (keyM_i64 s.ms [41, s.pn, s.no])
  have HK1 := Lib.hid (keyM_i64 s.ms [41, m.c, s.no])
  have B : Below w.heap.size w w := Below.refl _ _
  have HP := Lib.hid hp
  clear hs hm hp
  go_enter Try.func33, Try.ntmps33
  go_wp2_with fail
  refine (pairKey_impl s.ms s.pn s.no _ HS.out.1 HS.out.2.2.1 HS.out.2.1).mono ?_
  rintro x w1 ⟨rfl, hb0⟩
  have s0 : Bk.Blk w1 (w.heap.size) 47 #[.int .i64 s.ms, .int .i64 s.no, .int .i64 s.pn, .int .i64 s.re, .int .i64 s.pw, .int .i64 s.gk, .int .i64 s.ins] := (by apply Bk.Blk.to; (focus (apply Bk.Blk.under hb0; (repeat (first | with_reducible assumption | (with_reducible apply Bk.Blk.newAt; focus (first | (simp [Bk.size_set]; done) | (simp [Bk.size_set]; omega))) | with_reducible apply Bk.Blk.drewN | with_reducible apply Bk.Blk.drew | with_reducible apply Bk.Blk.set_ | (with_reducible apply Bk.Blk.far; focus (dsimp only; first | omega | (simp; omega) | (simp; done))) | with_reducible apply Bk.Blk.alloc)))); rfl)
  have m0 : Bk.Blk w1 (w.heap.size + 1) 29 #[.int .i64 m.n, .int .i64 m.r, .int .i64 m.c, .int .i64 m.g, .int .i64 m.m] := (by apply Bk.Blk.to; (focus (apply Bk.Blk.under hb0; (repeat (first | with_reducible assumption | (with_reducible apply Bk.Blk.newAt; focus (first | (simp [Bk.size_set]; done) | (simp [Bk.size_set]; omega))) | with_reducible apply Bk.Blk.drewN | with_reducible apply Bk.Blk.drew | with_reducible apply Bk.Blk.set_ | (with_reducible apply Bk.Blk.far; focus (dsimp only; first | omega | (simp; omega) | (simp; done))) | with_reducible apply Bk.Blk.alloc)))); rfl)
  have rr : Bk.Blk w1 (w.heap.size + 1 + 1) 51 #[.int .i64 0, .int .i64 0, .int .i64 0, .int .i64 0, .int .i64 0, .int .i64 0, .int .i64 0, .int .i64 0, .int .i64 0, .int .i64 0, .int .i64 0, .int .i64 0, .bool false, .bool false] := (by apply Bk.Blk.to; (focus (apply Bk.Blk.under hb0; (repeat (first | with_reducible assumption | (with_reducible apply Bk.Blk.newAt; focus (first | (simp [Bk.size_set]; done) | (simp [Bk.size_set]; omega))) | with_reducible apply Bk.Blk.drewN | with_reducible apply Bk.Blk.drew | with_reducible apply Bk.Blk.set_ | (with_reducible apply Bk.Blk.far; focus (dsimp only; first | omega | (simp; omega) | (simp; done))) | with_reducible apply Bk.Blk.alloc)))); rfl)
  have no : Bk.Blk w1 (w.heap.size + 1 + 1 + 1) 51 #[.int .i64 s.ms, .int .i64 s.no, .int .i64 s.pn, .int .i64 s.re, .int .i64 s.pw, .int .i64 s.gk, .int .i64 s.ins, .int .i64 0, .int .i64 0, .int .i64 0, .int .i64 0, .int .i64 0, .bool false, .bool false] := (by apply Bk.Blk.to; (focus (apply Bk.Blk.under hb0; (repeat (first | with_reducible assumption | (with_reducible apply Bk.Blk.newAt; focus (first | (simp [Bk.size_set]; done) | (simp [Bk.size_set]; omega))) | with_reducible apply Bk.Blk.drewN | with_reducible apply Bk.Blk.drew | with_reducible apply Bk.Blk.set_ | (with_reducible apply Bk.Blk.far; focus (dsimp only; first | omega | (simp; omega) | (simp; done))) | with_reducible apply Bk.Blk.alloc)))); rfl)
  replace B : Below w.heap.size w w1 := Below.trans (by go_grown) (hb0.mono (by first | omega | (simp [Bk.size_set]; done) | (simp [Bk.size_set]; omega)))
  have z1 := hb0.size
  (try simp only [World.size_alloc, Bk.size_set, World.size_drew, World.drewN] at z1)
  clear hb0
  have l_s0 : w.heap.size < w1.heap.size := Bk.Blk.lt s0
  have c_s00 : w1.cell? ⟨w.heap.size, 0, none⟩ = some (.int .i64 s.ms) := Bk.Blk.cell s0 0
  have c_s01 : w1.cell? ⟨w.heap.size, 1, none⟩ = some (.int .i64 s.no) := Bk.Blk.cell s0 1
  have c_s02 : w1.cell? ⟨w.heap.size, 2, none⟩ = some (.int .i64 s.pn) := Bk.Blk.cell s0 2
  have c_s03 : w1.cell? ⟨w.heap.size, 3, none⟩ = some (.int .i64 s.re) := Bk.Blk.cell s0 3
  have c_s04 : w1.cell? ⟨w.heap.size, 4, none⟩ = some (.int .i64 s.pw) := Bk.Blk.cell s0 4
  have c_s05 : w1.cell? ⟨w.heap.size, 5, none⟩ = some (.int .i64 s.gk) := Bk.Blk.cell s0 5
  have c_s06 : w1.cell? ⟨w.heap.size, 6, none⟩ = some (.int .i64 s.ins) := Bk.Blk.cell s0 6
  have l_m0 : w.heap.size + 1 < w1.heap.size := Bk.Blk.lt m0
  have c_m00 : w1.cell? ⟨w.heap.size + 1, 0, none⟩ = some (.int .i64 m.n) := Bk.Blk.cell m0 0
  have c_m01 : w1.cell? ⟨w.heap.size + 1, 1, none⟩ = some (.int .i64 m.r) := Bk.Blk.cell m0 1
  have c_m02 : w1.cell? ⟨w.heap.size + 1, 2, none⟩ = some (.int .i64 m.c) := Bk.Blk.cell m0 2
  have c_m03 : w1.cell? ⟨w.heap.size + 1, 3, none⟩ = some (.int .i64 m.g) := Bk.Blk.cell m0 3
  have c_m04 : w1.cell? ⟨w.heap.size + 1, 4, none⟩ = some (.int .i64 m.m) := Bk.Blk.cell m0 4
  go_wp2_with fail
  clear l_s0 c_s00 c_s01 c_s02 c_s03 c_s04 c_s05 c_s06 l_m0 c_m00 c_m01 c_m02 c_m03 c_m04
  refine (verify_impl (keyM s.ms [41, s.pn, s.no]) m.n m.r m.c m.g m.m _ HK.out HM.out.1 HM.out.2.1 HM.out.2.2.1 HM.out.2.2.2.1).mono ?_
  rintro x w2 ⟨rfl, hb0⟩
  replace s0 : Bk.Blk w2 (w.heap.size) 47 #[.int .i64 s.ms, .int .i64 s.no, .int .i64 s.pn, .int .i64 s.re, .int .i64 s.pw, .int .i64 s.gk, .int .i64 s.ins] := Bk.Blk.under hb0 (by (repeat (first | with_reducible assumption | (with_reducible apply Bk.Blk.newAt; focus (first | (simp [Bk.size_set]; done) | (simp [Bk.size_set]; omega))) | with_reducible apply Bk.Blk.drewN | with_reducible apply Bk.Blk.drew | with_reducible apply Bk.Blk.set_ | (with_reducible apply Bk.Blk.far; focus (dsimp only; first | omega | (simp; omega) | (simp; done))) | with_reducible apply Bk.Blk.alloc)))
  replace m0 : Bk.Blk w2 (w.heap.size + 1) 29 #[.int .i64 m.n, .int .i64 m.r, .int .i64 m.c, .int .i64 m.g, .int .i64 m.m] := Bk.Blk.under hb0 (by (repeat (first | with_reducible assumption | (with_reducible apply Bk.Blk.newAt; focus (first | (simp [Bk.size_set]; done) | (simp [Bk.size_set]; omega))) | with_reducible apply Bk.Blk.drewN | with_reducible apply Bk.Blk.drew | with_reducible apply Bk.Blk.set_ | (with_reducible apply Bk.Blk.far; focus (dsimp only; first | omega | (simp; omega) | (simp; done))) | with_reducible apply Bk.Blk.alloc)))
  replace rr : Bk.Blk w2 (w.heap.size + 1 + 1) 51 #[.int .i64 0, .int .i64 0, .int .i64 0, .int .i64 0, .int .i64 0, .int .i64 0, .int .i64 0, .int .i64 0, .int .i64 0, .int .i64 0, .int .i64 0, .int .i64 0, .bool false, .bool false] := Bk.Blk.under hb0 (by (repeat (first | with_reducible assumption | (with_reducible apply Bk.Blk.newAt; focus (first | (simp [Bk.size_set]; done) | (simp [Bk.size_set]; omega))) | with_reducible apply Bk.Blk.drewN | with_reducible apply Bk.Blk.drew | with_reducible apply Bk.Blk.set_ | (with_reducible apply Bk.Blk.far; focus (dsimp only; first | omega | (simp; omega) | (simp; done))) | with_reducible apply Bk.Blk.alloc)))
  replace no : Bk.Blk w2 (w.heap.size + 1 + 1 + 1) 51 #[.int .i64 s.ms, .int .i64 s.no, .int .i64 s.pn, .int .i64 s.re, .int .i64 s.pw, .int .i64 s.gk, .int .i64 s.ins, .int .i64 0, .int .i64 0, .int .i64 0, .int .i64 0, .int .i64 0, .bool false, .bool false] := Bk.Blk.under hb0 (by (repeat (first | with_reducible assumption | (with_reducible apply Bk.Blk.newAt; focus (first | (simp [Bk.size_set]; done) | (simp [Bk.size_set]; omega))) | with_reducible apply Bk.Blk.drewN | with_reducible apply Bk.Blk.drew | with_reducible apply Bk.Blk.set_ | (with_reducible apply Bk.Blk.far; focus (dsimp only; first | omega | (simp; omega) | (simp; done))) | with_reducible apply Bk.Blk.alloc)))
  replace B : Below w.heap.size w w2 := Below.trans (by go_grown) (hb0.mono (by first | omega | (simp [Bk.size_set]; done) | (simp [Bk.size_set]; omega)))
  have z2 := hb0.size
  (try simp only [World.size_alloc, Bk.size_set, World.size_drew, World.drewN] at z2)
  clear hb0
  have l_s0 : w.heap.size < w2.heap.size := Bk.Blk.lt s0
  have c_s00 : w2.cell? ⟨w.heap.size, 0, none⟩ = some (.int .i64 s.ms) := Bk.Blk.cell s0 0
  have c_s01 : w2.cell? ⟨w.heap.size, 1, none⟩ = some (.int .i64 s.no) := Bk.Blk.cell s0 1
  have c_s02 : w2.cell? ⟨w.heap.size, 2, none⟩ = some (.int .i64 s.pn) := Bk.Blk.cell s0 2
  have c_s03 : w2.cell? ⟨w.heap.size, 3, none⟩ = some (.int .i64 s.re) := Bk.Blk.cell s0 3
  have c_s04 : w2.cell? ⟨w.heap.size, 4, none⟩ = some (.int .i64 s.pw) := Bk.Blk.cell s0 4
  have c_s05 : w2.cell? ⟨w.heap.size, 5, none⟩ = some (.int .i64 s.gk) := Bk.Blk.cell s0 5
  have c_s06 : w2.cell? ⟨w.heap.size, 6, none⟩ = some (.int .i64 s.ins) := Bk.Blk.cell s0 6
  have l_m0 : w.heap.size + 1 < w2.heap.size := Bk.Blk.lt m0
  have c_m00 : w2.cell? ⟨w.heap.size + 1, 0, none⟩ = some (.int .i64 m.n) := Bk.Blk.cell m0 0
  have c_m01 : w2.cell? ⟨w.heap.size + 1, 1, none⟩ = some (.int .i64 m.r) := Bk.Blk.cell m0 1
  have c_m02 : w2.cell? ⟨w.heap.size + 1, 2, none⟩ = some (.int .i64 m.c) := Bk.Blk.cell m0 2
  have c_m03 : w2.cell? ⟨w.heap.size + 1, 3, none⟩ = some (.int .i64 m.g) := Bk.Blk.cell m0 3
  have c_m04 : w2.cell? ⟨w.heap.size + 1, 4, none⟩ = some (.int .i64 m.m) := Bk.Blk.cell m0 4
  go_wp2_with fail
  clear l_s0 c_s00 c_s01 c_s02 c_s03 c_s04 c_s05 c_s06 l_m0 c_m00 c_m01 c_m02 c_m03 c_m04
  refine (inst_yes s m (keyM s.ms [41, s.pn, s.no]) _ HS.out HM.out HK.out HP.out).mono ?_
  rintro x w3 ⟨rfl, hb0⟩
  replace rr : Bk.Blk w3 (w.heap.size + 1 + 1) 51 #[.int .i64 0, .int .i64 0, .int .i64 0, .int .i64 0, .int .i64 0, .int .i64 0, .int .i64 0, .int .i64 0, .int .i64 0, .int .i64 0, .int .i64 0, .int .i64 0, .bool false, .bool false] := Bk.Blk.under hb0 (by (repeat (first | with_reducible assumption | (with_reducible apply Bk.Blk.newAt; focus (first | (simp [Bk.size_set]; done) | (simp [Bk.size_set]; omega))) | with_reducible apply Bk.Blk.drewN | with_reducible apply Bk.Blk.drew | with_reducible apply Bk.Blk.set_ | (with_reducible apply Bk.Blk.far; focus (dsimp only; first | omega | (simp; omega) | (simp; done))) | with_reducible apply Bk.Blk.alloc)))
  replace B : Below w.heap.size w w3 := Below.trans (by go_grown) (hb0.mono (by first | omega | (simp [Bk.size_set]; done) | (simp [Bk.size_set]; omega)))
  have z3 := hb0.size
  (try simp only [World.size_alloc, Bk.size_set, World.size_drew, World.drewN] at z3)
  clear hb0
  go_wp2_with ((with_reducible refine Bk.atOp (o := ⟨none, .store 51 (.tmp 4) (.tmp 68), _, _, _, _⟩) ?_); refine Bk.wpl_store (by rfl) 51 (.tmp 4) (.tmp 68) (by rfl) (w.heap.size + 1 + 1) 51 #[.int .i64 0, .int .i64 0, .int .i64 0, .int .i64 0, .int .i64 0, .int .i64 0, .int .i64 0, .int .i64 0, .int .i64 0, .int .i64 0, .int .i64 0, .int .i64 0, .bool false, .bool false] [.int .i64 s.ms, .int .i64 s.no, .int .i64 s.pn, .int .i64 m.r, .int .i64 (keyM s.ms [41, s.pn, s.no]), .int .i64 (unhM (keyM s.ms [41, s.pn, s.no]) m.r m.g), .int .i64 (wrap64 (s.ins + 1)), .int .i64 4, .int .i64 m.r, .int .i64 0, .int .i64 0, .int .i64 (macM (keyM s.ms [41, s.pn, s.no]) [43, 4, m.r, 0, 0]), .bool true, .bool true] (by rfl) (by rfl) (by (repeat (first | with_reducible assumption | (with_reducible apply Bk.Blk.newAt; focus (first | (simp [Bk.size_set]; done) | (simp [Bk.size_set]; omega))) | with_reducible apply Bk.Blk.drewN | with_reducible apply Bk.Blk.drew | with_reducible apply Bk.Blk.set_ | (with_reducible apply Bk.Blk.far; focus (dsimp only; first | omega | (simp; omega) | (simp; done))) | with_reducible apply Bk.Blk.alloc))) (by rfl) (by kernel_rfl) (by rfl) ?_)
  intro w4 hb0 hg0 hs0
  replace rr : Bk.Blk w4 (w.heap.size + 1 + 1) 51 #[.int .i64 s.ms, .int .i64 s.no, .int .i64 s.pn, .int .i64 m.r, .int .i64 (keyM s.ms [41, s.pn, s.no]), .int .i64 (unhM (keyM s.ms [41, s.pn, s.no]) m.r m.g), .int .i64 (wrap64 (s.ins + 1)), .int .i64 4, .int .i64 m.r, .int .i64 0, .int .i64 0, .int .i64 (macM (keyM s.ms [41, s.pn, s.no]) [43, 4, m.r, 0, 0]), .bool true, .bool true] := hb0
  replace B : Below w.heap.size w w4 := Bk.below_grown (by go_grown) hg0 (by omega) (by first | omega | (simp [Bk.size_set]; done) | (simp [Bk.size_set]; omega))
  have z4 := hs0
  (try simp only [World.size_alloc, Bk.size_set, World.size_drew, World.drewN] at z4)
  clear hb0 hg0 hs0
  have l_rr : w.heap.size + 1 + 1 < w4.heap.size := Bk.Blk.lt rr
  have c_rr0 : w4.cell? ⟨w.heap.size + 1 + 1, 0, none⟩ = some (.int .i64 s.ms) := Bk.Blk.cell rr 0
  have c_rr1 : w4.cell? ⟨w.heap.size + 1 + 1, 1, none⟩ = some (.int .i64 s.no) := Bk.Blk.cell rr 1
  have c_rr2 : w4.cell? ⟨w.heap.size + 1 + 1, 2, none⟩ = some (.int .i64 s.pn) := Bk.Blk.cell rr 2
  have c_rr3 : w4.cell? ⟨w.heap.size + 1 + 1, 3, none⟩ = some (.int .i64 m.r) := Bk.Blk.cell rr 3
  have c_rr4 : w4.cell? ⟨w.heap.size + 1 + 1, 4, none⟩ = some (.int .i64 (keyM s.ms [41, s.pn, s.no])) := Bk.Blk.cell rr 4
  have c_rr5 : w4.cell? ⟨w.heap.size + 1 + 1, 5, none⟩ = some (.int .i64 (unhM (keyM s.ms [41, s.pn, s.no]) m.r m.g)) := Bk.Blk.cell rr 5
  have c_rr6 : w4.cell? ⟨w.heap.size + 1 + 1, 6, none⟩ = some (.int .i64 (wrap64 (s.ins + 1))) := Bk.Blk.cell rr 6
  have c_rr7 : w4.cell? ⟨w.heap.size + 1 + 1, 7, none⟩ = some (.int .i64 4) := Bk.Blk.cell rr 7
  have c_rr8 : w4.cell? ⟨w.heap.size + 1 + 1, 8, none⟩ = some (.int .i64 m.r) := Bk.Blk.cell rr 8
  have c_rr9 : w4.cell? ⟨w.heap.size + 1 + 1, 9, none⟩ = some (.int .i64 0) := Bk.Blk.cell rr 9
  have c_rr10 : w4.cell? ⟨w.heap.size + 1 + 1, 10, none⟩ = some (.int .i64 0) := Bk.Blk.cell rr 10
  have c_rr11 : w4.cell? ⟨w.heap.size + 1 + 1, 11, none⟩ = some (.int .i64 (macM (keyM s.ms [41, s.pn, s.no]) [43, 4, m.r, 0, 0])) := Bk.Blk.cell rr 11
  have c_rr12 : w4.cell? ⟨w.heap.size + 1 + 1, 12, none⟩ = some (.bool true) := Bk.Blk.cell rr 12
  have c_rr13 : w4.cell? ⟨w.heap.size + 1 + 1, 13, none⟩ = some (.bool true) := Bk.Blk.cell rr 13
  go_wp2
  refine bodyPost_ret (v := .agg #[.int .i64 s.ms, .int .i64 s.no, .int .i64 s.pn, .int .i64 m.r, .int .i64 (keyM s.ms [41, s.pn, s.no]), .int .i64 (unhM (keyM s.ms [41, s.pn, s.no]) m.r m.g), .int .i64 (wrap64 (s.ins + 1)), .int .i64 4, .int .i64 m.r, .int .i64 0, .int .i64 0, .int .i64 (macM (keyM s.ms [41, s.pn, s.no]) [43, 4, m.r, 0, 0]), .bool true, .bool true]) (by simp [results, Try.results33, go_sem, c_rr0, c_rr1, c_rr2, c_rr3, c_rr4, c_rr5, c_rr6, c_rr7, c_rr8, c_rr9, c_rr10, c_rr11, c_rr12, c_rr13]) rfl (⟨rfl, B⟩)
/-- SupplicantReceive of the program is what the plain words say -/
theorem sup_impl (s : Sup) (m : Msg) (w : World) (hs : s.Ok) (hm : m.Ok) :
    Calls Try.prog 33 #[.agg #[.int .i64 s.ms, .int .i64 s.no, .int .i64 s.pn, .int .i64 s.re, .int .i64 s.pw, .int .i64 s.gk, .int .i64 s.ins], .agg #[.int .i64 m.n, .int .i64 m.r, .int .i64 m.c, .int .i64 m.g, .int .i64 m.m]] w fun x w' => x = .returned (.agg #[.int .i64 (supR s m).s.ms, .int .i64 (supR s m).s.no, .int .i64 (supR s m).s.pn, .int .i64 (supR s m).s.re, .int .i64 (supR s m).s.pw, .int .i64 (supR s m).s.gk, .int .i64 (supR s m).s.ins, .int .i64 (supR s m).m.n, .int .i64 (supR s m).m.r, .int .i64 (supR s m).m.c, .int .i64 (supR s m).m.g, .int .i64 (supR s m).m.m, .bool (supR s m).rp, .bool (supR s m).it]) ∧ Below w.heap.size w w' := by
  by_cases hr : m.r ≤ s.re
  · have e : supR s m = ⟨s, noMsg, false, false⟩ := by unfold supR; rw [if_pos hr]
    rw [e]
    exact sup_old s m w hs hm hr
  · have hr' : s.re < m.r := by omega
    by_cases h1 : m.n = 1
    · have e : supR s m = ⟨heard1 s m, sgn (sKey (heard1 s m)) ⟨2, m.r, s.no, 0, 0⟩, true, false⟩ := by unfold supR; rw [if_neg hr, if_pos h1]
      rw [e]
      exact sup_one s m w hs hm hr' (by simpa using h1)
    · have h1' : (m.n == 1) = false := by simpa using h1
      by_cases h3 : m.n = 3
      · have h3' : (m.n == 3) = true := by simpa using h3
        by_cases hg : good3 s m
        · have hc : (m.c != s.pn) = false := by simpa using hg.1
          have hv : (m.m == macM (keyM s.ms [41, s.pn, s.no]) [43, m.n, m.r, m.c, m.g]) = true := by simpa [macOf, sKey] using hg.2
          by_cases hp : s.pw = sKey s
          · have e : supR s m = ⟨heard3 s m, sgn (sKey s) ⟨4, m.r, 0, 0, 0⟩, true, false⟩ := by unfold supR inst3; rw [if_neg hr, if_neg h1, if_pos ⟨h3, hg⟩, if_pos hp]
            rw [e]
            exact sup_again s m w hs hm hr' h1' h3' hc hv (by simpa [sKey] using hp)
          · have e : supR s m = ⟨took3 s m (sKey s), sgn (sKey s) ⟨4, m.r, 0, 0, 0⟩, true, true⟩ := by unfold supR inst3; rw [if_neg hr, if_neg h1, if_pos ⟨h3, hg⟩, if_neg hp]
            rw [e]
            exact sup_take s m w hs hm hr' h1' h3' hc hv (by simpa [sKey] using hp)
        · have e : supR s m = ⟨s, noMsg, false, false⟩ := by unfold supR; rw [if_neg hr, if_neg h1, if_neg (fun h => hg h.2)]
          rw [e]
          by_cases hc : m.c = s.pn
          · exact sup_bad s m w hs hm hr' h1' h3' (by simpa using hc) (by simpa [macOf, sKey] using fun hv => hg ⟨hc, hv⟩)
          · exact sup_nonce s m w hs hm hr' h1' h3' (by simpa using hc)
      · have e : supR s m = ⟨s, noMsg, false, false⟩ := by unfold supR; rw [if_neg hr, if_neg h1, if_neg (fun h => h3 h.1)]
        rw [e]
        exact sup_other s m w hs hm hr' h1' (by simpa using h3)
end Go.Proofs.Ytmhcbiipbilakaa.Hs
