/- The walk of the law on ProtectFrame. -/
import Derived.Test.YtgbmbnofnhhblaaDoorProtS
import Derived.Test.YtgbmbnofnhhblaaDoorMarkB
import Derived.Test.YtgbmbnofnhhblaaDoorKsL
import Derived.Test.YtgbmbnofnhhblaaDoorAt
namespace Go.Proofs.YtgbmbnofnhhblaaDoor.Seal
open Go.RowKit
open Go.Proofs.YtgbmbnofnhhblaaDoor.Num Go.Proofs.YtgbmbnofnhhblaaDoor.Mem Go.Proofs.YtgbmbnofnhhblaaDoor.Hsh Go.Proofs.YtgbmbnofnhhblaaDoor.Itoa Go.Proofs.YtgbmbnofnhhblaaDoor.Pass Go.Proofs.YtgbmbnofnhhblaaDoor.Sls Go.Proofs.YtgbmbnofnhhblaaDoor.Own Go.Proofs.YtgbmbnofnhhblaaDoor.Ks Go.Proofs.YtgbmbnofnhhblaaDoor.SS
set_option linter.unusedSimpArgs false
set_option linter.unusedVariables false
/-- what protecting makes of a state and a body -/
def ProtR (ke se re : Int) (zs : List Int) (n m : Nat) (bs : List Int) (gse pc : Int) (pm : Nat) (ps : List Int) (mac : Int) (ok : Bool) : Prop :=
  (protP ke se re zs n m ∧ se + 1 = gse ∧ se + 1 = pc ∧ m = pm ∧ encL (cipM ke (se + 1)) bs = ps ∧ macF ke (se + 1) (encL (cipM ke (se + 1)) bs) = mac ∧ true = ok) ∨ (¬ protP ke se re zs n m ∧ se = gse ∧ 0 = pc ∧ 0 = pm ∧ [] = ps ∧ 0 = mac ∧ false = ok)
theorem protR_is (ke se re : Int) (zs : List Int) (n m : Nat) (bs : List Int) : ∃ gse pc pm ps mac ok, ProtR ke se re zs n m bs gse pc pm ps mac ok := by
  by_cases h : protP ke se re zs n m
  · exact ⟨_, _, _, _, _, _, .inl ⟨h, rfl, rfl, rfl, rfl, rfl, rfl⟩⟩
  · exact ⟨_, _, _, _, _, _, .inr ⟨h, rfl, rfl, rfl, rfl, rfl, rfl⟩⟩
theorem prot_impl (ke se re : Int) (A : Option Addr) (n c : Nat) (zs : List Int) (B' : Option Addr) (m d : Nat) (bs : List Int) (gse pc : Int) (pm : Nat) (ps : List Int) (mac : Int) (ok : Bool) (w : World) (hk : ProtR ke se re zs n m bs gse pc pm ps mac ok) (ht : Tab w) (hr : Rd w 1 A n c (zs.map (Value.int .i64))) (hn : n ≤ 2097152) (hm : m ≤ 2097152) (hbd : Rd w 1 B' m d (bs.map (Value.int .u8))) (hb : AllBytes bs) :
    Calls Tryd.prog 10 #[.agg #[.int .i64 ke, .int .i64 se, .int .i64 re, .slice A n c], .slice B' m d] w (RetPf w ke gse re n zs pc pm ps mac ok) := by
  rcases hk with ⟨h, rfl, rfl, rfl, rfl, rfl, rfl⟩ | ⟨h, rfl, rfl, rfl, rfl, rfl, rfl⟩
  · exact prot_impl_yes ke se re A n c zs B' m d bs w h ht hr hn hbd hb
  · exact prot_impl_no ke se re A n c zs B' m d w h hr hn (by omega)
theorem prot_spec (ke se re : Int) (A : Option Addr) (n c : Nat) (zs : List Int) (B' : Option Addr) (m d : Nat) (bs : List Int) (gse pc : Int) (pm : Nat) (ps : List Int) (mac : Int) (ok : Bool) (w : World) (hk : ProtR ke se re zs n m bs gse pc pm ps mac ok) (ht : Tab w) (hr : Rd w 1 A n c (zs.map (Value.int .i64))) (hn : n ≤ 2097152) (hm : m ≤ 2097152) (hbd : Rd w 1 B' m d (bs.map (Value.int .u8))) (hb : AllBytes bs) :
    Calls Tryd.prog 7 #[.agg #[.int .i64 ke, .int .i64 se, .int .i64 re, .slice A n c], .slice B' m d] w (RetPf w ke gse re n zs pc pm ps mac ok) := by
  rcases hk with ⟨h, rfl, rfl, rfl, rfl, rfl, rfl⟩ | ⟨h, rfl, rfl, rfl, rfl, rfl, rfl⟩
  · exact prot_spec_yes ke se re A n c zs B' m d bs w h ht hr hn hbd hb
  · exact prot_spec_no ke se re A n c zs B' m d w h hr hn (by omega)
set_option maxRecDepth 100000 in
set_option maxHeartbeats 16000000 in
theorem prot_core (ke se re : Int) (A : Option Addr) (n c : Nat) (zs : List Int) (Bd : Option Addr) (m db : Nat) (bs : List Int) (gse pc : Int) (pm : Nat) (ps : List Int) (mac : Int) (ok : Bool) (w : World)
    (hk : ProtR ke se re zs n m bs gse pc pm ps mac ok) (ht : Tab w) (hr : Rd w 1 A n c (zs.map (Value.int .i64))) (hbd : Rd w 1 Bd m db (bs.map (Value.int .u8))) (hby : AllBytes bs) (hn : n ≤ 1048576) (hm : m ≤ 1048576) :
    Calls Tryd.prog 3 #[.agg #[.int .i64 ke, .int .i64 se, .int .i64 re, .slice A n c], .slice Bd m db] w fun x w' => x = .returned (.bool true) ∧ Below w.heap.size w w' := by
  have g1 : pm ≤ 1048576 := by
    rcases hk with ⟨_, _, _, rfl, _⟩ | ⟨_, _, _, rfl, _⟩ <;> omega
  have HR := Lib.hid hr
  have HBD := Lib.hid hbd
  have HT := Lib.hid ht
  have HBY := Lib.hid hby
  have HS := Lib.hid (fun A c B d w t h h2 => prot_spec ke se re A n c zs B m d bs gse pc pm ps mac ok w hk t h (by omega) (by omega) h2 HBY.out)
  have HI := Lib.hid (fun A c B d w t h h2 => prot_impl ke se re A n c zs B m d bs gse pc pm ps mac ok w hk t h (by omega) (by omega) h2 HBY.out)
  have B : Below w.heap.size w w := Below.refl _ _
  obtain ⟨K, hK⟩ : ∃ K : Int, 1 + (n : Int) = K := ⟨_, rfl⟩
  obtain ⟨M, hM⟩ : ∃ M : Int, K + (pm : Int) = M := ⟨_, rfl⟩
  have HKK := Lib.hid hK
  have HMM := Lib.hid hM
  have HKB := Lib.hid (show 0 ≤ K ∧ K ≤ 1048577 by omega)
  have k0a : ¬ K + (m : Int) < 0 := by omega
  have k1a : ¬ K < 0 := by omega
  have k2a : ¬ M < 0 := by omega
  have okk : (ok != ok) = false := by simp
  clear hr hbd hk hK hM ht hby
  go_enter Tryd.func3, Tryd.ntmps3
  go_wp2_with fail
  generalize hW : World.alloc _ _ = w1
  have ba : Bk.Blk w1 (w.heap.size) 24 #[.int .i64 ke, .int .i64 se, .int .i64 re, .slice A n c] := (by rw [← hW]; apply Bk.Blk.to; (focus ((repeat (first | with_reducible assumption | (with_reducible apply Bk.Blk.newAt; focus (first | (simp [Bk.size_set]; done) | (simp [Bk.size_set]; omega))) | with_reducible apply Bk.Blk.drewN | with_reducible apply Bk.Blk.drew | with_reducible apply Bk.Blk.set_ | (with_reducible apply Bk.Blk.far; focus (dsimp only; first | omega | (simp; omega) | (simp; done))) | with_reducible apply Bk.Blk.alloc)))); rfl)
  replace B : Below w.heap.size w w1 := (by rw [← hW]; go_grown)
  have z1 : w1.heap.size = _ := congrArg (fun W : World => W.heap.size) hW.symm
  (try simp only [World.size_alloc, Bk.size_set, World.size_drew, World.drewN] at z1)
  clear hW
  refine (szKs_any ke se re A n c 1048576 _ (by omega) (by omega) (by omega)).mono ?_
  rintro x w2 ⟨rfl, hb0⟩
  rw [if_neg (by omega)]
  replace ba : Bk.Blk w2 (w.heap.size) 24 #[.int .i64 ke, .int .i64 se, .int .i64 re, .slice A n c] := Bk.Blk.under hb0 (by (repeat (first | with_reducible assumption | (with_reducible apply Bk.Blk.newAt; focus (first | (simp [Bk.size_set]; done) | (simp [Bk.size_set]; omega))) | with_reducible apply Bk.Blk.drewN | with_reducible apply Bk.Blk.drew | with_reducible apply Bk.Blk.set_ | (with_reducible apply Bk.Blk.far; focus (dsimp only; first | omega | (simp; omega) | (simp; done))) | with_reducible apply Bk.Blk.alloc)))
  replace B : Below w.heap.size w w2 := Below.trans (by go_grown) (hb0.mono (by first | omega | (simp [Bk.size_set]; done) | (simp [Bk.size_set]; omega)))
  have z2 := hb0.size
  (try simp only [World.size_alloc, Bk.size_set, World.size_drew, World.drewN] at z2)
  clear hb0
  have L_ba := Lay.f4 ba
  go_wp2_with fail
  clear L_ba
  refine (toKs_any ke se re A n c zs _ (HR.out.below B) (by omega)).mono ?_
  rintro x w3 ⟨A1, c1, rfl, hown, hb0⟩
  have H1 := Lib.hid (Rd.of_own hown)
  replace ba : Bk.Blk w3 (w.heap.size) 24 #[.int .i64 ke, .int .i64 se, .int .i64 re, .slice A n c] := Bk.Blk.under hb0 (by (repeat (first | with_reducible assumption | (with_reducible apply Bk.Blk.newAt; focus (first | (simp [Bk.size_set]; done) | (simp [Bk.size_set]; omega))) | with_reducible apply Bk.Blk.drewN | with_reducible apply Bk.Blk.drew | with_reducible apply Bk.Blk.set_ | (with_reducible apply Bk.Blk.far; focus (dsimp only; first | omega | (simp; omega) | (simp; done))) | with_reducible apply Bk.Blk.alloc)))
  replace B : Below w.heap.size w w3 := Below.trans (by go_grown) (hb0.mono (by first | omega | (simp [Bk.size_set]; done) | (simp [Bk.size_set]; omega)))
  have z3 := hb0.size
  (try simp only [World.size_alloc, Bk.size_set, World.size_drew, World.drewN] at z3)
  clear hb0
  clear hown
  have L_ba := Lay.f4 ba
  go_wp2_with fail
  clear L_ba
  refine (toByteS_any Bd m db bs _ (HBD.out.below B) (by omega)).mono ?_
  rintro x w4 ⟨B1, d1, rfl, hown, hb0⟩
  replace H1 := Lib.hid (H1.out.below hb0)
  have H2 := Lib.hid (Rd.of_own hown)
  replace ba : Bk.Blk w4 (w.heap.size) 24 #[.int .i64 ke, .int .i64 se, .int .i64 re, .slice A n c] := Bk.Blk.under hb0 (by (repeat (first | with_reducible assumption | (with_reducible apply Bk.Blk.newAt; focus (first | (simp [Bk.size_set]; done) | (simp [Bk.size_set]; omega))) | with_reducible apply Bk.Blk.drewN | with_reducible apply Bk.Blk.drew | with_reducible apply Bk.Blk.set_ | (with_reducible apply Bk.Blk.far; focus (dsimp only; first | omega | (simp; omega) | (simp; done))) | with_reducible apply Bk.Blk.alloc)))
  replace B : Below w.heap.size w w4 := Below.trans (by go_grown) (hb0.mono (by first | omega | (simp [Bk.size_set]; done) | (simp [Bk.size_set]; omega)))
  have z4 := hb0.size
  (try simp only [World.size_alloc, Bk.size_set, World.size_drew, World.drewN] at z4)
  clear hb0
  clear hown
  have L_ba := Lay.f4 ba
  go_wp2_with fail
  clear L_ba
  refine (HS.out A1 c1 B1 d1 _ (HT.out.below B) H1.out H2.out).mono ?_
  rintro x w5 ⟨A2, c2, D2, e2, rfl, hown, hdat, hb0⟩
  have H0 := Lib.hid (Rd.of_own hown)
  have H0D := Lib.hid (Rd.of_own hdat)
  replace ba : Bk.Blk w5 (w.heap.size) 24 #[.int .i64 ke, .int .i64 se, .int .i64 re, .slice A n c] := Bk.Blk.under hb0 (by (repeat (first | with_reducible assumption | (with_reducible apply Bk.Blk.newAt; focus (first | (simp [Bk.size_set]; done) | (simp [Bk.size_set]; omega))) | with_reducible apply Bk.Blk.drewN | with_reducible apply Bk.Blk.drew | with_reducible apply Bk.Blk.set_ | (with_reducible apply Bk.Blk.far; focus (dsimp only; first | omega | (simp; omega) | (simp; done))) | with_reducible apply Bk.Blk.alloc)))
  replace B : Below w.heap.size w w5 := Below.trans (by go_grown) (hb0.mono (by first | omega | (simp [Bk.size_set]; done) | (simp [Bk.size_set]; omega)))
  have z5 := hb0.size
  (try simp only [World.size_alloc, Bk.size_set, World.size_drew, World.drewN] at z5)
  clear hb0
  clear hown hdat H1 H2 HS
  have D : Below w5.heap.size w5 w5 := Below.refl _ _
  have L_ba := Lay.f4 ba
  go_wp2_with fail
  clear L_ba
  refine (toKs_any ke se re A n c zs _ (((HR.out.below B).alloc _).alloc _) (by omega)).mono ?_
  rintro x w6 ⟨A3, c3, rfl, hown, hb0⟩
  have hst : Below w5.heap.size w5 w6 := Below.trans (by go_grown) (hb0.mono (by first | omega | (simp; done) | (simp; omega)))
  have b0 : Bk.Blk w6 (w5.heap.size) 27 #[.int .i64 ke, .int .i64 gse, .int .i64 re, .slice A2 n c2] := (by apply Bk.Blk.to; (focus (apply Bk.Blk.under hb0; (repeat (first | with_reducible assumption | (with_reducible apply Bk.Blk.newAt; focus (first | (simp [Bk.size_set]; done) | (simp [Bk.size_set]; omega))) | with_reducible apply Bk.Blk.drewN | with_reducible apply Bk.Blk.drew | with_reducible apply Bk.Blk.set_ | (with_reducible apply Bk.Blk.far; focus (dsimp only; first | omega | (simp; omega) | (simp; done))) | with_reducible apply Bk.Blk.alloc)))); rfl)
  have b0d : Bk.Blk w6 (w5.heap.size + 1) 29 #[.int .i64 pc, .slice D2 pm e2, .int .i64 mac] := (by apply Bk.Blk.to; (focus (apply Bk.Blk.under hb0; (repeat (first | with_reducible assumption | (with_reducible apply Bk.Blk.newAt; focus (first | (simp [Bk.size_set]; done) | (simp [Bk.size_set]; omega))) | with_reducible apply Bk.Blk.drewN | with_reducible apply Bk.Blk.drew | with_reducible apply Bk.Blk.set_ | (with_reducible apply Bk.Blk.far; focus (dsimp only; first | omega | (simp; omega) | (simp; done))) | with_reducible apply Bk.Blk.alloc)))); rfl)
  replace ba : Bk.Blk w6 (w.heap.size) 24 #[.int .i64 ke, .int .i64 se, .int .i64 re, .slice A n c] := Bk.Blk.under hb0 (by (repeat (first | with_reducible assumption | (with_reducible apply Bk.Blk.newAt; focus (first | (simp [Bk.size_set]; done) | (simp [Bk.size_set]; omega))) | with_reducible apply Bk.Blk.drewN | with_reducible apply Bk.Blk.drew | with_reducible apply Bk.Blk.set_ | (with_reducible apply Bk.Blk.far; focus (dsimp only; first | omega | (simp; omega) | (simp; done))) | with_reducible apply Bk.Blk.alloc)))
  replace D := stepW D hst
  have OX := Lib.hid (show Own w6 (w5.heap.size + 1 + 1) w6.heap.size 3 1 A3 n c3 (zs.map (Value.int .i64)) from Own.of (by simpa using hown))
  clear hown
  replace B : Below w.heap.size w w6 := Below.trans (by go_grown) (hb0.mono (by first | omega | (simp [Bk.size_set]; done) | (simp [Bk.size_set]; omega)))
  have z6 := hb0.size
  (try simp only [World.size_alloc, Bk.size_set, World.size_drew, World.drewN] at z6)
  clear hb0
  clear hst
  have L_ba := Lay.f4 ba
  have L_b0 := Lay.f4 b0
  have L_b0d := Lay.f3 b0d
  go_wp2_with fail
  clear L_ba L_b0 L_b0d
  refine (toByteS_any Bd m db bs _ ((HBD.out.below B).alloc _) (by omega)).mono ?_
  rintro x w7 ⟨A4, c4, rfl, hown, hb0⟩
  have hst : Below w6.heap.size w6 w7 := Below.trans (by go_grown) (hb0.mono (by first | omega | (simp; done) | (simp; omega)))
  have bx : Bk.Blk w7 (w6.heap.size) 27 #[.int .i64 ke, .int .i64 se, .int .i64 re, .slice A3 n c3] := (by apply Bk.Blk.to; (focus (apply Bk.Blk.under hb0; (repeat (first | with_reducible assumption | (with_reducible apply Bk.Blk.newAt; focus (first | (simp [Bk.size_set]; done) | (simp [Bk.size_set]; omega))) | with_reducible apply Bk.Blk.drewN | with_reducible apply Bk.Blk.drew | with_reducible apply Bk.Blk.set_ | (with_reducible apply Bk.Blk.far; focus (dsimp only; first | omega | (simp; omega) | (simp; done))) | with_reducible apply Bk.Blk.alloc)))); rfl)
  replace ba : Bk.Blk w7 (w.heap.size) 24 #[.int .i64 ke, .int .i64 se, .int .i64 re, .slice A n c] := Bk.Blk.under hb0 (by (repeat (first | with_reducible assumption | (with_reducible apply Bk.Blk.newAt; focus (first | (simp [Bk.size_set]; done) | (simp [Bk.size_set]; omega))) | with_reducible apply Bk.Blk.drewN | with_reducible apply Bk.Blk.drew | with_reducible apply Bk.Blk.set_ | (with_reducible apply Bk.Blk.far; focus (dsimp only; first | omega | (simp; omega) | (simp; done))) | with_reducible apply Bk.Blk.alloc)))
  replace b0 : Bk.Blk w7 (w5.heap.size) 27 #[.int .i64 ke, .int .i64 gse, .int .i64 re, .slice A2 n c2] := Bk.Blk.under hb0 (by (repeat (first | with_reducible assumption | (with_reducible apply Bk.Blk.newAt; focus (first | (simp [Bk.size_set]; done) | (simp [Bk.size_set]; omega))) | with_reducible apply Bk.Blk.drewN | with_reducible apply Bk.Blk.drew | with_reducible apply Bk.Blk.set_ | (with_reducible apply Bk.Blk.far; focus (dsimp only; first | omega | (simp; omega) | (simp; done))) | with_reducible apply Bk.Blk.alloc)))
  replace b0d : Bk.Blk w7 (w5.heap.size + 1) 29 #[.int .i64 pc, .slice D2 pm e2, .int .i64 mac] := Bk.Blk.under hb0 (by (repeat (first | with_reducible assumption | (with_reducible apply Bk.Blk.newAt; focus (first | (simp [Bk.size_set]; done) | (simp [Bk.size_set]; omega))) | with_reducible apply Bk.Blk.drewN | with_reducible apply Bk.Blk.drew | with_reducible apply Bk.Blk.set_ | (with_reducible apply Bk.Blk.far; focus (dsimp only; first | omega | (simp; omega) | (simp; done))) | with_reducible apply Bk.Blk.alloc)))
  replace OX := Lib.hid (OX.out.below hst (by omega))
  replace D := stepW D hst
  have X1 := Lib.hid (show Own w7 (w6.heap.size + 1) w7.heap.size 5 1 A4 m c4 (bs.map (Value.int .u8)) from Own.of (by simpa using hown))
  clear hown
  replace B : Below w.heap.size w w7 := Below.trans (by go_grown) (hb0.mono (by first | omega | (simp [Bk.size_set]; done) | (simp [Bk.size_set]; omega)))
  have z7 := hb0.size
  (try simp only [World.size_alloc, Bk.size_set, World.size_drew, World.drewN] at z7)
  clear hb0
  clear hst
  have L_ba := Lay.f4 ba
  have L_b0 := Lay.f4 b0
  have L_b0d := Lay.f3 b0d
  have L_bx := Lay.f4 bx
  go_wp2_with fail
  clear L_ba L_b0 L_b0d L_bx
  refine (HI.out A3 c3 A4 c4 _ (HT.out.below B) OX.out.rd X1.out.rd).mono ?_
  rintro x w8 ⟨A5, c5, D5, e5, rfl, hown, hdat, hb0⟩
  have hst : Below w7.heap.size w7 w8 := Below.trans (by go_grown) (hb0.mono (by first | omega | (simp; done) | (simp; omega)))
  replace ba : Bk.Blk w8 (w.heap.size) 24 #[.int .i64 ke, .int .i64 se, .int .i64 re, .slice A n c] := Bk.Blk.under hb0 (by (repeat (first | with_reducible assumption | (with_reducible apply Bk.Blk.newAt; focus (first | (simp [Bk.size_set]; done) | (simp [Bk.size_set]; omega))) | with_reducible apply Bk.Blk.drewN | with_reducible apply Bk.Blk.drew | with_reducible apply Bk.Blk.set_ | (with_reducible apply Bk.Blk.far; focus (dsimp only; first | omega | (simp; omega) | (simp; done))) | with_reducible apply Bk.Blk.alloc)))
  replace b0 : Bk.Blk w8 (w5.heap.size) 27 #[.int .i64 ke, .int .i64 gse, .int .i64 re, .slice A2 n c2] := Bk.Blk.under hb0 (by (repeat (first | with_reducible assumption | (with_reducible apply Bk.Blk.newAt; focus (first | (simp [Bk.size_set]; done) | (simp [Bk.size_set]; omega))) | with_reducible apply Bk.Blk.drewN | with_reducible apply Bk.Blk.drew | with_reducible apply Bk.Blk.set_ | (with_reducible apply Bk.Blk.far; focus (dsimp only; first | omega | (simp; omega) | (simp; done))) | with_reducible apply Bk.Blk.alloc)))
  replace b0d : Bk.Blk w8 (w5.heap.size + 1) 29 #[.int .i64 pc, .slice D2 pm e2, .int .i64 mac] := Bk.Blk.under hb0 (by (repeat (first | with_reducible assumption | (with_reducible apply Bk.Blk.newAt; focus (first | (simp [Bk.size_set]; done) | (simp [Bk.size_set]; omega))) | with_reducible apply Bk.Blk.drewN | with_reducible apply Bk.Blk.drew | with_reducible apply Bk.Blk.set_ | (with_reducible apply Bk.Blk.far; focus (dsimp only; first | omega | (simp; omega) | (simp; done))) | with_reducible apply Bk.Blk.alloc)))
  replace bx : Bk.Blk w8 (w6.heap.size) 27 #[.int .i64 ke, .int .i64 se, .int .i64 re, .slice A3 n c3] := Bk.Blk.under hb0 (by (repeat (first | with_reducible assumption | (with_reducible apply Bk.Blk.newAt; focus (first | (simp [Bk.size_set]; done) | (simp [Bk.size_set]; omega))) | with_reducible apply Bk.Blk.drewN | with_reducible apply Bk.Blk.drew | with_reducible apply Bk.Blk.set_ | (with_reducible apply Bk.Blk.far; focus (dsimp only; first | omega | (simp; omega) | (simp; done))) | with_reducible apply Bk.Blk.alloc)))
  replace OX := Lib.hid (OX.out.below hst (by omega))
  replace X1 := Lib.hid (X1.out.below hst (by omega))
  replace D := stepW D hst
  obtain ⟨lk, hk, ld, hd, hok, hod, q1, q2, q3⟩ := two_tight hown hdat (by decide) hb0.size
  have OK := Lib.hid hok
  have OD := Lib.hid hod
  clear hown hdat hok hod
  replace B : Below w.heap.size w w8 := Below.trans (by go_grown) (hb0.mono (by first | omega | (simp [Bk.size_set]; done) | (simp [Bk.size_set]; omega)))
  have z8 := hb0.size
  (try simp only [World.size_alloc, Bk.size_set, World.size_drew, World.drewN] at z8)
  clear hb0
  clear hst
  have L_ba := Lay.f4 ba
  have L_b0 := Lay.f4 b0
  have L_b0d := Lay.f3 b0d
  have L_bx := Lay.f4 bx
  go_wp2_with fail
  clear L_ba L_b0 L_b0d L_bx
  refine (eqKs_same ke gse re A5 n c5 A2 c2 zs _ ((OK.out.rd.alloc _).alloc _) (((H0.out.below D).alloc _).alloc _)).mono ?_
  rintro x w9 ⟨rfl, hb0⟩
  have hst : Below w8.heap.size w8 w9 := Below.trans (by go_grown) (hb0.mono (by first | omega | (simp; done) | (simp; omega)))
  have bg : Bk.Blk w9 (w8.heap.size) 27 #[.int .i64 ke, .int .i64 gse, .int .i64 re, .slice A5 n c5] := (by apply Bk.Blk.to; (focus (apply Bk.Blk.under hb0; (repeat (first | with_reducible assumption | (with_reducible apply Bk.Blk.newAt; focus (first | (simp [Bk.size_set]; done) | (simp [Bk.size_set]; omega))) | with_reducible apply Bk.Blk.drewN | with_reducible apply Bk.Blk.drew | with_reducible apply Bk.Blk.set_ | (with_reducible apply Bk.Blk.far; focus (dsimp only; first | omega | (simp; omega) | (simp; done))) | with_reducible apply Bk.Blk.alloc)))); rfl)
  have bgd : Bk.Blk w9 (w8.heap.size + 1) 29 #[.int .i64 pc, .slice D5 pm e5, .int .i64 mac] := (by apply Bk.Blk.to; (focus (apply Bk.Blk.under hb0; (repeat (first | with_reducible assumption | (with_reducible apply Bk.Blk.newAt; focus (first | (simp [Bk.size_set]; done) | (simp [Bk.size_set]; omega))) | with_reducible apply Bk.Blk.drewN | with_reducible apply Bk.Blk.drew | with_reducible apply Bk.Blk.set_ | (with_reducible apply Bk.Blk.far; focus (dsimp only; first | omega | (simp; omega) | (simp; done))) | with_reducible apply Bk.Blk.alloc)))); rfl)
  replace ba : Bk.Blk w9 (w.heap.size) 24 #[.int .i64 ke, .int .i64 se, .int .i64 re, .slice A n c] := Bk.Blk.under hb0 (by (repeat (first | with_reducible assumption | (with_reducible apply Bk.Blk.newAt; focus (first | (simp [Bk.size_set]; done) | (simp [Bk.size_set]; omega))) | with_reducible apply Bk.Blk.drewN | with_reducible apply Bk.Blk.drew | with_reducible apply Bk.Blk.set_ | (with_reducible apply Bk.Blk.far; focus (dsimp only; first | omega | (simp; omega) | (simp; done))) | with_reducible apply Bk.Blk.alloc)))
  replace b0 : Bk.Blk w9 (w5.heap.size) 27 #[.int .i64 ke, .int .i64 gse, .int .i64 re, .slice A2 n c2] := Bk.Blk.under hb0 (by (repeat (first | with_reducible assumption | (with_reducible apply Bk.Blk.newAt; focus (first | (simp [Bk.size_set]; done) | (simp [Bk.size_set]; omega))) | with_reducible apply Bk.Blk.drewN | with_reducible apply Bk.Blk.drew | with_reducible apply Bk.Blk.set_ | (with_reducible apply Bk.Blk.far; focus (dsimp only; first | omega | (simp; omega) | (simp; done))) | with_reducible apply Bk.Blk.alloc)))
  replace b0d : Bk.Blk w9 (w5.heap.size + 1) 29 #[.int .i64 pc, .slice D2 pm e2, .int .i64 mac] := Bk.Blk.under hb0 (by (repeat (first | with_reducible assumption | (with_reducible apply Bk.Blk.newAt; focus (first | (simp [Bk.size_set]; done) | (simp [Bk.size_set]; omega))) | with_reducible apply Bk.Blk.drewN | with_reducible apply Bk.Blk.drew | with_reducible apply Bk.Blk.set_ | (with_reducible apply Bk.Blk.far; focus (dsimp only; first | omega | (simp; omega) | (simp; done))) | with_reducible apply Bk.Blk.alloc)))
  replace bx : Bk.Blk w9 (w6.heap.size) 27 #[.int .i64 ke, .int .i64 se, .int .i64 re, .slice A3 n c3] := Bk.Blk.under hb0 (by (repeat (first | with_reducible assumption | (with_reducible apply Bk.Blk.newAt; focus (first | (simp [Bk.size_set]; done) | (simp [Bk.size_set]; omega))) | with_reducible apply Bk.Blk.drewN | with_reducible apply Bk.Blk.drew | with_reducible apply Bk.Blk.set_ | (with_reducible apply Bk.Blk.far; focus (dsimp only; first | omega | (simp; omega) | (simp; done))) | with_reducible apply Bk.Blk.alloc)))
  replace OX := Lib.hid (OX.out.below hst (by omega))
  replace X1 := Lib.hid (X1.out.below hst (by omega))
  replace OK := Lib.hid (OK.out.below hst (by omega))
  replace OD := Lib.hid (OD.out.below hst (by omega))
  replace D := stepW D hst
  replace B : Below w.heap.size w w9 := Below.trans (by go_grown) (hb0.mono (by first | omega | (simp [Bk.size_set]; done) | (simp [Bk.size_set]; omega)))
  have z9 := hb0.size
  (try simp only [World.size_alloc, Bk.size_set, World.size_drew, World.drewN] at z9)
  clear hb0
  clear hst
  have L_ba := Lay.f4 ba
  have L_b0 := Lay.f4 b0
  have L_b0d := Lay.f3 b0d
  have L_bx := Lay.f4 bx
  have L_bg := Lay.f4 bg
  have L_bgd := Lay.f3 bgd
  go_wp2_with fail
  clear L_ba L_b0 L_b0d L_bx L_bg L_bgd
  refine (eqPf_same pc mac D5 pm e5 D2 e2 ps _ OD.out.rd (H0D.out.below D)).mono ?_
  rintro x w10 ⟨rfl, hb0⟩
  have hst : Below w9.heap.size w9 w10 := Below.trans (by go_grown) (hb0.mono (by first | omega | (simp; done) | (simp; omega)))
  replace ba : Bk.Blk w10 (w.heap.size) 24 #[.int .i64 ke, .int .i64 se, .int .i64 re, .slice A n c] := Bk.Blk.under hb0 (by (repeat (first | with_reducible assumption | (with_reducible apply Bk.Blk.newAt; focus (first | (simp [Bk.size_set]; done) | (simp [Bk.size_set]; omega))) | with_reducible apply Bk.Blk.drewN | with_reducible apply Bk.Blk.drew | with_reducible apply Bk.Blk.set_ | (with_reducible apply Bk.Blk.far; focus (dsimp only; first | omega | (simp; omega) | (simp; done))) | with_reducible apply Bk.Blk.alloc)))
  replace b0 : Bk.Blk w10 (w5.heap.size) 27 #[.int .i64 ke, .int .i64 gse, .int .i64 re, .slice A2 n c2] := Bk.Blk.under hb0 (by (repeat (first | with_reducible assumption | (with_reducible apply Bk.Blk.newAt; focus (first | (simp [Bk.size_set]; done) | (simp [Bk.size_set]; omega))) | with_reducible apply Bk.Blk.drewN | with_reducible apply Bk.Blk.drew | with_reducible apply Bk.Blk.set_ | (with_reducible apply Bk.Blk.far; focus (dsimp only; first | omega | (simp; omega) | (simp; done))) | with_reducible apply Bk.Blk.alloc)))
  replace b0d : Bk.Blk w10 (w5.heap.size + 1) 29 #[.int .i64 pc, .slice D2 pm e2, .int .i64 mac] := Bk.Blk.under hb0 (by (repeat (first | with_reducible assumption | (with_reducible apply Bk.Blk.newAt; focus (first | (simp [Bk.size_set]; done) | (simp [Bk.size_set]; omega))) | with_reducible apply Bk.Blk.drewN | with_reducible apply Bk.Blk.drew | with_reducible apply Bk.Blk.set_ | (with_reducible apply Bk.Blk.far; focus (dsimp only; first | omega | (simp; omega) | (simp; done))) | with_reducible apply Bk.Blk.alloc)))
  replace bx : Bk.Blk w10 (w6.heap.size) 27 #[.int .i64 ke, .int .i64 se, .int .i64 re, .slice A3 n c3] := Bk.Blk.under hb0 (by (repeat (first | with_reducible assumption | (with_reducible apply Bk.Blk.newAt; focus (first | (simp [Bk.size_set]; done) | (simp [Bk.size_set]; omega))) | with_reducible apply Bk.Blk.drewN | with_reducible apply Bk.Blk.drew | with_reducible apply Bk.Blk.set_ | (with_reducible apply Bk.Blk.far; focus (dsimp only; first | omega | (simp; omega) | (simp; done))) | with_reducible apply Bk.Blk.alloc)))
  replace bg : Bk.Blk w10 (w8.heap.size) 27 #[.int .i64 ke, .int .i64 gse, .int .i64 re, .slice A5 n c5] := Bk.Blk.under hb0 (by (repeat (first | with_reducible assumption | (with_reducible apply Bk.Blk.newAt; focus (first | (simp [Bk.size_set]; done) | (simp [Bk.size_set]; omega))) | with_reducible apply Bk.Blk.drewN | with_reducible apply Bk.Blk.drew | with_reducible apply Bk.Blk.set_ | (with_reducible apply Bk.Blk.far; focus (dsimp only; first | omega | (simp; omega) | (simp; done))) | with_reducible apply Bk.Blk.alloc)))
  replace bgd : Bk.Blk w10 (w8.heap.size + 1) 29 #[.int .i64 pc, .slice D5 pm e5, .int .i64 mac] := Bk.Blk.under hb0 (by (repeat (first | with_reducible assumption | (with_reducible apply Bk.Blk.newAt; focus (first | (simp [Bk.size_set]; done) | (simp [Bk.size_set]; omega))) | with_reducible apply Bk.Blk.drewN | with_reducible apply Bk.Blk.drew | with_reducible apply Bk.Blk.set_ | (with_reducible apply Bk.Blk.far; focus (dsimp only; first | omega | (simp; omega) | (simp; done))) | with_reducible apply Bk.Blk.alloc)))
  replace OX := Lib.hid (OX.out.below hst (by omega))
  replace X1 := Lib.hid (X1.out.below hst (by omega))
  replace OK := Lib.hid (OK.out.below hst (by omega))
  replace OD := Lib.hid (OD.out.below hst (by omega))
  replace D := stepW D hst
  replace B : Below w.heap.size w w10 := Below.trans (by go_grown) (hb0.mono (by first | omega | (simp [Bk.size_set]; done) | (simp [Bk.size_set]; omega)))
  have z10 := hb0.size
  (try simp only [World.size_alloc, Bk.size_set, World.size_drew, World.drewN] at z10)
  clear hb0
  clear hst
  have L_ba := Lay.f4 ba
  have L_b0 := Lay.f4 b0
  have L_b0d := Lay.f3 b0d
  have L_bx := Lay.f4 bx
  have L_bg := Lay.f4 bg
  have L_bgd := Lay.f3 bgd
  go_wp2_with fail
  refine wp_region_held_drew (S := (fun w' => Bk.Blk w' (w6.heap.size) 27 #[.int .i64 ke, .int .i64 se, .int .i64 re, .slice A3 n c3] ∧ Bk.Blk w' (w.heap.size) 24 #[.int .i64 ke, .int .i64 se, .int .i64 re, .slice A n c])) (by kernel_rfl) ?_ (fun hHeld => ?_)
  · (try dsimp only); (refine ⟨?_, ?_⟩ <;> (repeat (first | with_reducible assumption | (with_reducible apply Bk.Blk.newAt; focus (first | (simp [Bk.size_set]; done) | (simp [Bk.size_set]; omega))) | with_reducible apply Bk.Blk.drewN | with_reducible apply Bk.Blk.drew | with_reducible apply Bk.Blk.set_ | (with_reducible apply Bk.Blk.far; focus (dsimp only; first | omega | (simp; omega) | (simp; done))) | with_reducible apply Bk.Blk.alloc)))
  first | (refine wpAnyH_take (i := 0) (v := ?_) (Reg.get rfl) (by kernel_rfl) (by kernel_rfl) (by kernel_rfl) (fun _ _ _ h => h) (Or.inl ⟨by rfl, ?_⟩) hHeld ?_; rotate_left 1; (focus (intro wq hSw; (try dsimp only at hSw); obtain ⟨s_bx, s_ba⟩ := hSw; have L_bx := Lay.c4 s_bx; have L_ba := Lay.c4 s_ba;  go_simp <;> with_reducible rfl))) | (refine wpAnyH_take (i := 0) (v := undef) (Reg.get rfl) (by kernel_rfl) (by kernel_rfl) (by kernel_rfl) (fun _ _ _ h => h) (Or.inr ⟨by rfl, rfl⟩) hHeld ?_)
  try simp only [Act.put, List.setIfInBounds_toArray, List.set_cons_zero, List.set_cons_succ]
  first | (refine wpAnyH_take (i := 1) (v := ?_) (Reg.get rfl) (by kernel_rfl) (by kernel_rfl) (by kernel_rfl) (fun _ _ _ h => h) (Or.inl ⟨by rfl, ?_⟩) hHeld ?_; rotate_left 1; (focus (intro wq hSw; (try dsimp only at hSw); obtain ⟨s_bx, s_ba⟩ := hSw; have L_bx := Lay.c4 s_bx; have L_ba := Lay.c4 s_ba;  go_simp <;> with_reducible rfl))) | (refine wpAnyH_take (i := 1) (v := undef) (Reg.get rfl) (by kernel_rfl) (by kernel_rfl) (by kernel_rfl) (fun _ _ _ h => h) (Or.inr ⟨by rfl, rfl⟩) hHeld ?_)
  try simp only [Act.put, List.setIfInBounds_toArray, List.set_cons_zero, List.set_cons_succ]
  first | ((refine wpAnyH_take (i := 2) (v := undef) (Reg.get rfl) (by kernel_rfl) (by kernel_rfl) (by kernel_rfl) (fun _ _ _ h => h) (Or.inr ⟨by rfl, rfl⟩) hHeld ?_)) | (refine wpAnyH_ready (rs := [2]) (by kernel_rfl) (by simp) ?_; refine AllReadyH.cons (Reg.get rfl) (fun K hK => ?_) AllReadyH.nil; clear hHeld; go_simp; ((go_at_call 8; refine (toKs_any ke se re A n c zs _ (by exact (HR.out.below B).drewN 1) (by omega)).mono ?_; rintro x w11 ⟨A8, c8, rfl, hown, hb0⟩; replace hb0 : Below w10.heap.size w10 w11 := ⟨hb0.os, hb0.tape, hb0.output, hb0.size, hb0.block⟩; have H8 := Lib.hid (Rd.of_own hown); clear hown; replace OX := Lib.hid (OX.out.below hb0 (by omega)); replace X1 := Lib.hid (X1.out.below hb0 (by omega)); replace OK := Lib.hid (OK.out.below hb0 (by omega)); replace OD := Lib.hid (OD.out.below hb0 (by omega)); replace D := stepW D hb0; clear L_ba L_b0 L_b0d L_bx L_bg L_bgd; replace ba : Bk.Blk w11 (w.heap.size) 24 #[.int .i64 ke, .int .i64 se, .int .i64 re, .slice A n c] := Bk.Blk.under hb0 (by (repeat (first | with_reducible assumption | (with_reducible apply Bk.Blk.newAt; focus (first | (simp [Bk.size_set]; done) | (simp [Bk.size_set]; omega))) | with_reducible apply Bk.Blk.drewN | with_reducible apply Bk.Blk.drew | with_reducible apply Bk.Blk.set_ | (with_reducible apply Bk.Blk.far; focus (dsimp only; first | omega | (simp; omega) | (simp; done))) | with_reducible apply Bk.Blk.alloc))); replace b0 : Bk.Blk w11 (w5.heap.size) 27 #[.int .i64 ke, .int .i64 gse, .int .i64 re, .slice A2 n c2] := Bk.Blk.under hb0 (by (repeat (first | with_reducible assumption | (with_reducible apply Bk.Blk.newAt; focus (first | (simp [Bk.size_set]; done) | (simp [Bk.size_set]; omega))) | with_reducible apply Bk.Blk.drewN | with_reducible apply Bk.Blk.drew | with_reducible apply Bk.Blk.set_ | (with_reducible apply Bk.Blk.far; focus (dsimp only; first | omega | (simp; omega) | (simp; done))) | with_reducible apply Bk.Blk.alloc))); replace b0d : Bk.Blk w11 (w5.heap.size + 1) 29 #[.int .i64 pc, .slice D2 pm e2, .int .i64 mac] := Bk.Blk.under hb0 (by (repeat (first | with_reducible assumption | (with_reducible apply Bk.Blk.newAt; focus (first | (simp [Bk.size_set]; done) | (simp [Bk.size_set]; omega))) | with_reducible apply Bk.Blk.drewN | with_reducible apply Bk.Blk.drew | with_reducible apply Bk.Blk.set_ | (with_reducible apply Bk.Blk.far; focus (dsimp only; first | omega | (simp; omega) | (simp; done))) | with_reducible apply Bk.Blk.alloc))); replace bx : Bk.Blk w11 (w6.heap.size) 27 #[.int .i64 ke, .int .i64 se, .int .i64 re, .slice A3 n c3] := Bk.Blk.under hb0 (by (repeat (first | with_reducible assumption | (with_reducible apply Bk.Blk.newAt; focus (first | (simp [Bk.size_set]; done) | (simp [Bk.size_set]; omega))) | with_reducible apply Bk.Blk.drewN | with_reducible apply Bk.Blk.drew | with_reducible apply Bk.Blk.set_ | (with_reducible apply Bk.Blk.far; focus (dsimp only; first | omega | (simp; omega) | (simp; done))) | with_reducible apply Bk.Blk.alloc))); replace bg : Bk.Blk w11 (w8.heap.size) 27 #[.int .i64 ke, .int .i64 gse, .int .i64 re, .slice A5 n c5] := Bk.Blk.under hb0 (by (repeat (first | with_reducible assumption | (with_reducible apply Bk.Blk.newAt; focus (first | (simp [Bk.size_set]; done) | (simp [Bk.size_set]; omega))) | with_reducible apply Bk.Blk.drewN | with_reducible apply Bk.Blk.drew | with_reducible apply Bk.Blk.set_ | (with_reducible apply Bk.Blk.far; focus (dsimp only; first | omega | (simp; omega) | (simp; done))) | with_reducible apply Bk.Blk.alloc))); replace bgd : Bk.Blk w11 (w8.heap.size + 1) 29 #[.int .i64 pc, .slice D5 pm e5, .int .i64 mac] := Bk.Blk.under hb0 (by (repeat (first | with_reducible assumption | (with_reducible apply Bk.Blk.newAt; focus (first | (simp [Bk.size_set]; done) | (simp [Bk.size_set]; omega))) | with_reducible apply Bk.Blk.drewN | with_reducible apply Bk.Blk.drew | with_reducible apply Bk.Blk.set_ | (with_reducible apply Bk.Blk.far; focus (dsimp only; first | omega | (simp; omega) | (simp; done))) | with_reducible apply Bk.Blk.alloc))); replace B : Below w.heap.size w w11 := Below.trans (by go_grown) (hb0.mono (by first | omega | (simp [Bk.size_set]; done) | (simp [Bk.size_set]; omega))); have z11 := hb0.size; (try simp only [World.size_alloc, Bk.size_set, World.size_drew, World.drewN] at z11); clear hb0; have L_bx := Lay.f4 bx; have L_ba := Lay.f4 ba)); refine hK.out _ _ ?_ (fun hHeld => ?_); ((try dsimp only); (refine ⟨?_, ?_⟩ <;> (repeat (first | with_reducible assumption | (with_reducible apply Bk.Blk.newAt; focus (first | (simp [Bk.size_set]; done) | (simp [Bk.size_set]; omega))) | with_reducible apply Bk.Blk.drewN | with_reducible apply Bk.Blk.drew | with_reducible apply Bk.Blk.set_ | (with_reducible apply Bk.Blk.far; focus (dsimp only; first | omega | (simp; omega) | (simp; done))) | with_reducible apply Bk.Blk.alloc)))); clear hK K)
  try simp only [Act.put, List.setIfInBounds_toArray, List.set_cons_zero, List.set_cons_succ]
  first | ((refine wpAnyH_take (i := 3) (v := undef) (Reg.get rfl) (by kernel_rfl) (by kernel_rfl) (by kernel_rfl) (fun _ _ _ h => h) (Or.inr ⟨by rfl, rfl⟩) hHeld ?_)) | (refine wpAnyH_ready (rs := [3]) (by kernel_rfl) (by simp) ?_; refine AllReadyH.cons (Reg.get rfl) (fun K hK => ?_) AllReadyH.nil; clear hHeld; go_simp; ((go_at_call 11; refine (eqKs_same ke se re A3 n c3 A8 c8 zs _ (by exact OX.out.rd.drewN 1) (by exact H8.out.drewN 1)).mono ?_; rintro x w12 ⟨rfl, hb0⟩; replace hb0 : Below w11.heap.size w11 w12 := ⟨hb0.os, hb0.tape, hb0.output, hb0.size, hb0.block⟩; clear H8; replace OX := Lib.hid (OX.out.below hb0 (by omega)); replace X1 := Lib.hid (X1.out.below hb0 (by omega)); replace OK := Lib.hid (OK.out.below hb0 (by omega)); replace OD := Lib.hid (OD.out.below hb0 (by omega)); replace D := stepW D hb0; clear L_bx L_ba; replace ba : Bk.Blk w12 (w.heap.size) 24 #[.int .i64 ke, .int .i64 se, .int .i64 re, .slice A n c] := Bk.Blk.under hb0 (by (repeat (first | with_reducible assumption | (with_reducible apply Bk.Blk.newAt; focus (first | (simp [Bk.size_set]; done) | (simp [Bk.size_set]; omega))) | with_reducible apply Bk.Blk.drewN | with_reducible apply Bk.Blk.drew | with_reducible apply Bk.Blk.set_ | (with_reducible apply Bk.Blk.far; focus (dsimp only; first | omega | (simp; omega) | (simp; done))) | with_reducible apply Bk.Blk.alloc))); replace b0 : Bk.Blk w12 (w5.heap.size) 27 #[.int .i64 ke, .int .i64 gse, .int .i64 re, .slice A2 n c2] := Bk.Blk.under hb0 (by (repeat (first | with_reducible assumption | (with_reducible apply Bk.Blk.newAt; focus (first | (simp [Bk.size_set]; done) | (simp [Bk.size_set]; omega))) | with_reducible apply Bk.Blk.drewN | with_reducible apply Bk.Blk.drew | with_reducible apply Bk.Blk.set_ | (with_reducible apply Bk.Blk.far; focus (dsimp only; first | omega | (simp; omega) | (simp; done))) | with_reducible apply Bk.Blk.alloc))); replace b0d : Bk.Blk w12 (w5.heap.size + 1) 29 #[.int .i64 pc, .slice D2 pm e2, .int .i64 mac] := Bk.Blk.under hb0 (by (repeat (first | with_reducible assumption | (with_reducible apply Bk.Blk.newAt; focus (first | (simp [Bk.size_set]; done) | (simp [Bk.size_set]; omega))) | with_reducible apply Bk.Blk.drewN | with_reducible apply Bk.Blk.drew | with_reducible apply Bk.Blk.set_ | (with_reducible apply Bk.Blk.far; focus (dsimp only; first | omega | (simp; omega) | (simp; done))) | with_reducible apply Bk.Blk.alloc))); replace bx : Bk.Blk w12 (w6.heap.size) 27 #[.int .i64 ke, .int .i64 se, .int .i64 re, .slice A3 n c3] := Bk.Blk.under hb0 (by (repeat (first | with_reducible assumption | (with_reducible apply Bk.Blk.newAt; focus (first | (simp [Bk.size_set]; done) | (simp [Bk.size_set]; omega))) | with_reducible apply Bk.Blk.drewN | with_reducible apply Bk.Blk.drew | with_reducible apply Bk.Blk.set_ | (with_reducible apply Bk.Blk.far; focus (dsimp only; first | omega | (simp; omega) | (simp; done))) | with_reducible apply Bk.Blk.alloc))); replace bg : Bk.Blk w12 (w8.heap.size) 27 #[.int .i64 ke, .int .i64 gse, .int .i64 re, .slice A5 n c5] := Bk.Blk.under hb0 (by (repeat (first | with_reducible assumption | (with_reducible apply Bk.Blk.newAt; focus (first | (simp [Bk.size_set]; done) | (simp [Bk.size_set]; omega))) | with_reducible apply Bk.Blk.drewN | with_reducible apply Bk.Blk.drew | with_reducible apply Bk.Blk.set_ | (with_reducible apply Bk.Blk.far; focus (dsimp only; first | omega | (simp; omega) | (simp; done))) | with_reducible apply Bk.Blk.alloc))); replace bgd : Bk.Blk w12 (w8.heap.size + 1) 29 #[.int .i64 pc, .slice D5 pm e5, .int .i64 mac] := Bk.Blk.under hb0 (by (repeat (first | with_reducible assumption | (with_reducible apply Bk.Blk.newAt; focus (first | (simp [Bk.size_set]; done) | (simp [Bk.size_set]; omega))) | with_reducible apply Bk.Blk.drewN | with_reducible apply Bk.Blk.drew | with_reducible apply Bk.Blk.set_ | (with_reducible apply Bk.Blk.far; focus (dsimp only; first | omega | (simp; omega) | (simp; done))) | with_reducible apply Bk.Blk.alloc))); replace B : Below w.heap.size w w12 := Below.trans (by go_grown) (hb0.mono (by first | omega | (simp [Bk.size_set]; done) | (simp [Bk.size_set]; omega))); have z12 := hb0.size; (try simp only [World.size_alloc, Bk.size_set, World.size_drew, World.drewN] at z12); clear hb0; have L_bx := Lay.f4 bx; have L_ba := Lay.f4 ba)); refine hK.out _ _ ?_ (fun hHeld => ?_); ((try dsimp only); (refine ⟨?_, ?_⟩ <;> (repeat (first | with_reducible assumption | (with_reducible apply Bk.Blk.newAt; focus (first | (simp [Bk.size_set]; done) | (simp [Bk.size_set]; omega))) | with_reducible apply Bk.Blk.drewN | with_reducible apply Bk.Blk.drew | with_reducible apply Bk.Blk.set_ | (with_reducible apply Bk.Blk.far; focus (dsimp only; first | omega | (simp; omega) | (simp; done))) | with_reducible apply Bk.Blk.alloc)))); clear hK K)
  try simp only [Act.put, List.setIfInBounds_toArray, List.set_cons_zero, List.set_cons_succ]
  first | (refine wpAnyH_take (i := 4) (v := ?_) (Reg.get rfl) (by kernel_rfl) (by kernel_rfl) (by kernel_rfl) (fun _ _ _ h => h) (Or.inl ⟨by rfl, ?_⟩) hHeld ?_; rotate_left 1; (focus (intro wq hSw; (try dsimp only at hSw); obtain ⟨s_bx, s_ba⟩ := hSw; have L_bx := Lay.c4 s_bx; have L_ba := Lay.c4 s_ba;  go_simp <;> with_reducible rfl))) | (refine wpAnyH_take (i := 4) (v := undef) (Reg.get rfl) (by kernel_rfl) (by kernel_rfl) (by kernel_rfl) (fun _ _ _ h => h) (Or.inr ⟨by rfl, rfl⟩) hHeld ?_)
  try simp only [Act.put, List.setIfInBounds_toArray, List.set_cons_zero, List.set_cons_succ]
  refine wpAnyH_done (by kernel_rfl) ?_ _
  clear L_bx L_ba
  have L_ba := Lay.f4 ba
  have L_b0 := Lay.f4 b0
  have L_b0d := Lay.f3 b0d
  have L_bx := Lay.f4 bx
  have L_bg := Lay.f4 bg
  have L_bgd := Lay.f3 bgd
  go_wp2_with fail
  clear L_ba L_b0 L_b0d L_bx L_bg L_bgd
  refine (toByteS_any Bd m db bs _ (by first | exact HBD.out.below B | exact (HBD.out.below B).drew) (by omega)).mono ?_
  rintro x w13 ⟨A9, c9, rfl, hown, hb0⟩
  have hst : Below w12.heap.size w12 w13 := Below.trans (by go_grown) (hb0.mono (by first | omega | (simp; done) | (simp; omega)))
  replace ba : Bk.Blk w13 (w.heap.size) 24 #[.int .i64 ke, .int .i64 se, .int .i64 re, .slice A n c] := Bk.Blk.under hb0 (by (repeat (first | with_reducible assumption | (with_reducible apply Bk.Blk.newAt; focus (first | (simp [Bk.size_set]; done) | (simp [Bk.size_set]; omega))) | with_reducible apply Bk.Blk.drewN | with_reducible apply Bk.Blk.drew | with_reducible apply Bk.Blk.set_ | (with_reducible apply Bk.Blk.far; focus (dsimp only; first | omega | (simp; omega) | (simp; done))) | with_reducible apply Bk.Blk.alloc)))
  replace b0 : Bk.Blk w13 (w5.heap.size) 27 #[.int .i64 ke, .int .i64 gse, .int .i64 re, .slice A2 n c2] := Bk.Blk.under hb0 (by (repeat (first | with_reducible assumption | (with_reducible apply Bk.Blk.newAt; focus (first | (simp [Bk.size_set]; done) | (simp [Bk.size_set]; omega))) | with_reducible apply Bk.Blk.drewN | with_reducible apply Bk.Blk.drew | with_reducible apply Bk.Blk.set_ | (with_reducible apply Bk.Blk.far; focus (dsimp only; first | omega | (simp; omega) | (simp; done))) | with_reducible apply Bk.Blk.alloc)))
  replace b0d : Bk.Blk w13 (w5.heap.size + 1) 29 #[.int .i64 pc, .slice D2 pm e2, .int .i64 mac] := Bk.Blk.under hb0 (by (repeat (first | with_reducible assumption | (with_reducible apply Bk.Blk.newAt; focus (first | (simp [Bk.size_set]; done) | (simp [Bk.size_set]; omega))) | with_reducible apply Bk.Blk.drewN | with_reducible apply Bk.Blk.drew | with_reducible apply Bk.Blk.set_ | (with_reducible apply Bk.Blk.far; focus (dsimp only; first | omega | (simp; omega) | (simp; done))) | with_reducible apply Bk.Blk.alloc)))
  replace bx : Bk.Blk w13 (w6.heap.size) 27 #[.int .i64 ke, .int .i64 se, .int .i64 re, .slice A3 n c3] := Bk.Blk.under hb0 (by (repeat (first | with_reducible assumption | (with_reducible apply Bk.Blk.newAt; focus (first | (simp [Bk.size_set]; done) | (simp [Bk.size_set]; omega))) | with_reducible apply Bk.Blk.drewN | with_reducible apply Bk.Blk.drew | with_reducible apply Bk.Blk.set_ | (with_reducible apply Bk.Blk.far; focus (dsimp only; first | omega | (simp; omega) | (simp; done))) | with_reducible apply Bk.Blk.alloc)))
  replace bg : Bk.Blk w13 (w8.heap.size) 27 #[.int .i64 ke, .int .i64 gse, .int .i64 re, .slice A5 n c5] := Bk.Blk.under hb0 (by (repeat (first | with_reducible assumption | (with_reducible apply Bk.Blk.newAt; focus (first | (simp [Bk.size_set]; done) | (simp [Bk.size_set]; omega))) | with_reducible apply Bk.Blk.drewN | with_reducible apply Bk.Blk.drew | with_reducible apply Bk.Blk.set_ | (with_reducible apply Bk.Blk.far; focus (dsimp only; first | omega | (simp; omega) | (simp; done))) | with_reducible apply Bk.Blk.alloc)))
  replace bgd : Bk.Blk w13 (w8.heap.size + 1) 29 #[.int .i64 pc, .slice D5 pm e5, .int .i64 mac] := Bk.Blk.under hb0 (by (repeat (first | with_reducible assumption | (with_reducible apply Bk.Blk.newAt; focus (first | (simp [Bk.size_set]; done) | (simp [Bk.size_set]; omega))) | with_reducible apply Bk.Blk.drewN | with_reducible apply Bk.Blk.drew | with_reducible apply Bk.Blk.set_ | (with_reducible apply Bk.Blk.far; focus (dsimp only; first | omega | (simp; omega) | (simp; done))) | with_reducible apply Bk.Blk.alloc)))
  replace OX := Lib.hid (OX.out.below hst (by omega))
  replace X1 := Lib.hid (X1.out.below hst (by omega))
  replace OK := Lib.hid (OK.out.below hst (by omega))
  replace OD := Lib.hid (OD.out.below hst (by omega))
  replace D := stepW D hst
  have H9 := Lib.hid (Rd.of_own hown)
  clear hown
  replace B : Below w.heap.size w w13 := Below.trans (by go_grown) (hb0.mono (by first | omega | (simp [Bk.size_set]; done) | (simp [Bk.size_set]; omega)))
  have z13 := hb0.size
  (try simp only [World.size_alloc, Bk.size_set, World.size_drew, World.drewN] at z13)
  clear hb0
  clear hst
  have L_ba := Lay.f4 ba
  have L_b0 := Lay.f4 b0
  have L_b0d := Lay.f3 b0d
  have L_bx := Lay.f4 bx
  have L_bg := Lay.f4 bg
  have L_bgd := Lay.f3 bgd
  go_wp2_with fail
  clear L_ba L_b0 L_b0d L_bx L_bg L_bgd
  refine (eqByteS_laws A4 m c4 bs A9 m c9 bs _ X1.out.rd H9.out).mono ?_
  rintro x w14 ⟨rfl, hb0⟩
  rw [decide_eq_true rfl]
  have hst : Below w13.heap.size w13 w14 := Below.trans (by go_grown) (hb0.mono (by first | omega | (simp; done) | (simp; omega)))
  replace ba : Bk.Blk w14 (w.heap.size) 24 #[.int .i64 ke, .int .i64 se, .int .i64 re, .slice A n c] := Bk.Blk.under hb0 (by (repeat (first | with_reducible assumption | (with_reducible apply Bk.Blk.newAt; focus (first | (simp [Bk.size_set]; done) | (simp [Bk.size_set]; omega))) | with_reducible apply Bk.Blk.drewN | with_reducible apply Bk.Blk.drew | with_reducible apply Bk.Blk.set_ | (with_reducible apply Bk.Blk.far; focus (dsimp only; first | omega | (simp; omega) | (simp; done))) | with_reducible apply Bk.Blk.alloc)))
  replace b0 : Bk.Blk w14 (w5.heap.size) 27 #[.int .i64 ke, .int .i64 gse, .int .i64 re, .slice A2 n c2] := Bk.Blk.under hb0 (by (repeat (first | with_reducible assumption | (with_reducible apply Bk.Blk.newAt; focus (first | (simp [Bk.size_set]; done) | (simp [Bk.size_set]; omega))) | with_reducible apply Bk.Blk.drewN | with_reducible apply Bk.Blk.drew | with_reducible apply Bk.Blk.set_ | (with_reducible apply Bk.Blk.far; focus (dsimp only; first | omega | (simp; omega) | (simp; done))) | with_reducible apply Bk.Blk.alloc)))
  replace b0d : Bk.Blk w14 (w5.heap.size + 1) 29 #[.int .i64 pc, .slice D2 pm e2, .int .i64 mac] := Bk.Blk.under hb0 (by (repeat (first | with_reducible assumption | (with_reducible apply Bk.Blk.newAt; focus (first | (simp [Bk.size_set]; done) | (simp [Bk.size_set]; omega))) | with_reducible apply Bk.Blk.drewN | with_reducible apply Bk.Blk.drew | with_reducible apply Bk.Blk.set_ | (with_reducible apply Bk.Blk.far; focus (dsimp only; first | omega | (simp; omega) | (simp; done))) | with_reducible apply Bk.Blk.alloc)))
  replace bx : Bk.Blk w14 (w6.heap.size) 27 #[.int .i64 ke, .int .i64 se, .int .i64 re, .slice A3 n c3] := Bk.Blk.under hb0 (by (repeat (first | with_reducible assumption | (with_reducible apply Bk.Blk.newAt; focus (first | (simp [Bk.size_set]; done) | (simp [Bk.size_set]; omega))) | with_reducible apply Bk.Blk.drewN | with_reducible apply Bk.Blk.drew | with_reducible apply Bk.Blk.set_ | (with_reducible apply Bk.Blk.far; focus (dsimp only; first | omega | (simp; omega) | (simp; done))) | with_reducible apply Bk.Blk.alloc)))
  replace bg : Bk.Blk w14 (w8.heap.size) 27 #[.int .i64 ke, .int .i64 gse, .int .i64 re, .slice A5 n c5] := Bk.Blk.under hb0 (by (repeat (first | with_reducible assumption | (with_reducible apply Bk.Blk.newAt; focus (first | (simp [Bk.size_set]; done) | (simp [Bk.size_set]; omega))) | with_reducible apply Bk.Blk.drewN | with_reducible apply Bk.Blk.drew | with_reducible apply Bk.Blk.set_ | (with_reducible apply Bk.Blk.far; focus (dsimp only; first | omega | (simp; omega) | (simp; done))) | with_reducible apply Bk.Blk.alloc)))
  replace bgd : Bk.Blk w14 (w8.heap.size + 1) 29 #[.int .i64 pc, .slice D5 pm e5, .int .i64 mac] := Bk.Blk.under hb0 (by (repeat (first | with_reducible assumption | (with_reducible apply Bk.Blk.newAt; focus (first | (simp [Bk.size_set]; done) | (simp [Bk.size_set]; omega))) | with_reducible apply Bk.Blk.drewN | with_reducible apply Bk.Blk.drew | with_reducible apply Bk.Blk.set_ | (with_reducible apply Bk.Blk.far; focus (dsimp only; first | omega | (simp; omega) | (simp; done))) | with_reducible apply Bk.Blk.alloc)))
  replace OX := Lib.hid (OX.out.below hst (by omega))
  replace X1 := Lib.hid (X1.out.below hst (by omega))
  replace OK := Lib.hid (OK.out.below hst (by omega))
  replace OD := Lib.hid (OD.out.below hst (by omega))
  replace D := stepW D hst
  clear H9
  replace B : Below w.heap.size w w14 := Below.trans (by go_grown) (hb0.mono (by first | omega | (simp [Bk.size_set]; done) | (simp [Bk.size_set]; omega)))
  have z14 := hb0.size
  (try simp only [World.size_alloc, Bk.size_set, World.size_drew, World.drewN] at z14)
  clear hb0
  clear hst
  have L_ba := Lay.f4 ba
  have L_b0 := Lay.f4 b0
  have L_b0d := Lay.f3 b0d
  have L_bx := Lay.f4 bx
  have L_bg := Lay.f4 bg
  have L_bgd := Lay.f3 bgd
  go_wp2_with fail
  clear L_ba L_b0 L_b0d L_bx L_bg L_bgd
  refine (markKs_any ke se re A3 n c3 (zs.map (Value.int .i64)) 1 (w5.heap.size + 1 + 1) w6.heap.size _ OX.out (by omega) (by omega) (by omega) (by omega)).mono ?_
  rintro x w15 ⟨rfl, hox, ht⟩
  rw [HKK.out]
  clear hox OX
  replace ba : Bk.Blk w15 (w.heap.size) 24 #[.int .i64 ke, .int .i64 se, .int .i64 re, .slice A n c] := blk_turned ba ht (.inl (by omega))
  replace b0 : Bk.Blk w15 (w5.heap.size) 27 #[.int .i64 ke, .int .i64 gse, .int .i64 re, .slice A2 n c2] := blk_turned b0 ht (.inl (by omega))
  replace b0d : Bk.Blk w15 (w5.heap.size + 1) 29 #[.int .i64 pc, .slice D2 pm e2, .int .i64 mac] := blk_turned b0d ht (.inl (by omega))
  replace bx : Bk.Blk w15 (w6.heap.size) 27 #[.int .i64 ke, .int .i64 se, .int .i64 re, .slice A3 n c3] := blk_turned bx ht (.inr (by omega))
  replace bg : Bk.Blk w15 (w8.heap.size) 27 #[.int .i64 ke, .int .i64 gse, .int .i64 re, .slice A5 n c5] := blk_turned bg ht (.inr (by omega))
  replace bgd : Bk.Blk w15 (w8.heap.size + 1) 29 #[.int .i64 pc, .slice D5 pm e5, .int .i64 mac] := blk_turned bgd ht (.inr (by omega))
  replace X1 := Lib.hid (X1.out.turned ht (.inr (by omega)) (by omega))
  replace OK := Lib.hid (OK.out.turned ht (.inr (by omega)) (by omega))
  replace OD := Lib.hid (OD.out.turned ht (.inr (by omega)) (by omega))
  replace D : Below w5.heap.size w5 w15 := Below.trans D (ht.below (by omega) (by omega))
  replace B : Below w.heap.size w w15 := Below.trans B (ht.below (by omega) (by omega))
  have z15 := ht.size
  clear ht
  have L_ba := Lay.f4 ba
  have L_b0 := Lay.f4 b0
  have L_b0d := Lay.f3 b0d
  have L_bx := Lay.f4 bx
  have L_bg := Lay.f4 bg
  have L_bgd := Lay.f3 bgd
  go_wp2_with fail
  clear L_ba L_b0 L_b0d L_bx L_bg L_bgd
  refine (markB_any A4 m c4 (bs.map (Value.int .u8)) K (w6.heap.size + 1) w7.heap.size _ X1.out HKB.out.1 (by have := HKB.out.2; omega) (by omega)).mono ?_
  rintro x w16 ⟨rfl, hox, hon⟩
  have ht := turned_only X1.out hon
  clear hox hon X1
  replace ba : Bk.Blk w16 (w.heap.size) 24 #[.int .i64 ke, .int .i64 se, .int .i64 re, .slice A n c] := blk_turned ba ht (.inl (by omega))
  replace b0 : Bk.Blk w16 (w5.heap.size) 27 #[.int .i64 ke, .int .i64 gse, .int .i64 re, .slice A2 n c2] := blk_turned b0 ht (.inl (by omega))
  replace b0d : Bk.Blk w16 (w5.heap.size + 1) 29 #[.int .i64 pc, .slice D2 pm e2, .int .i64 mac] := blk_turned b0d ht (.inl (by omega))
  replace bx : Bk.Blk w16 (w6.heap.size) 27 #[.int .i64 ke, .int .i64 se, .int .i64 re, .slice A3 n c3] := blk_turned bx ht (.inl (by omega))
  replace bg : Bk.Blk w16 (w8.heap.size) 27 #[.int .i64 ke, .int .i64 gse, .int .i64 re, .slice A5 n c5] := blk_turned bg ht (.inr (by omega))
  replace bgd : Bk.Blk w16 (w8.heap.size + 1) 29 #[.int .i64 pc, .slice D5 pm e5, .int .i64 mac] := blk_turned bgd ht (.inr (by omega))
  replace OK := Lib.hid (OK.out.turned ht (.inr (by omega)) (by omega))
  replace OD := Lib.hid (OD.out.turned ht (.inr (by omega)) (by omega))
  replace D : Below w5.heap.size w5 w16 := Below.trans D (ht.below (by omega) (by omega))
  replace B : Below w.heap.size w w16 := Below.trans B (ht.below (by omega) (by omega))
  have z16 := ht.size
  clear ht
  have L_ba := Lay.f4 ba
  have L_b0 := Lay.f4 b0
  have L_b0d := Lay.f3 b0d
  have L_bx := Lay.f4 bx
  have L_bg := Lay.f4 bg
  have L_bgd := Lay.f3 bgd
  go_wp2_with fail
  clear L_ba L_b0 L_b0d L_bx L_bg L_bgd
  refine (eqKs_same ke gse re A5 n c5 A2 c2 zs _ OK.out.rd (H0.out.below D)).mono ?_
  rintro x w17 ⟨rfl, hb0⟩
  have hst : Below w16.heap.size w16 w17 := Below.trans (by go_grown) (hb0.mono (by first | omega | (simp; done) | (simp; omega)))
  replace ba : Bk.Blk w17 (w.heap.size) 24 #[.int .i64 ke, .int .i64 se, .int .i64 re, .slice A n c] := Bk.Blk.under hb0 (by (repeat (first | with_reducible assumption | (with_reducible apply Bk.Blk.newAt; focus (first | (simp [Bk.size_set]; done) | (simp [Bk.size_set]; omega))) | with_reducible apply Bk.Blk.drewN | with_reducible apply Bk.Blk.drew | with_reducible apply Bk.Blk.set_ | (with_reducible apply Bk.Blk.far; focus (dsimp only; first | omega | (simp; omega) | (simp; done))) | with_reducible apply Bk.Blk.alloc)))
  replace b0 : Bk.Blk w17 (w5.heap.size) 27 #[.int .i64 ke, .int .i64 gse, .int .i64 re, .slice A2 n c2] := Bk.Blk.under hb0 (by (repeat (first | with_reducible assumption | (with_reducible apply Bk.Blk.newAt; focus (first | (simp [Bk.size_set]; done) | (simp [Bk.size_set]; omega))) | with_reducible apply Bk.Blk.drewN | with_reducible apply Bk.Blk.drew | with_reducible apply Bk.Blk.set_ | (with_reducible apply Bk.Blk.far; focus (dsimp only; first | omega | (simp; omega) | (simp; done))) | with_reducible apply Bk.Blk.alloc)))
  replace b0d : Bk.Blk w17 (w5.heap.size + 1) 29 #[.int .i64 pc, .slice D2 pm e2, .int .i64 mac] := Bk.Blk.under hb0 (by (repeat (first | with_reducible assumption | (with_reducible apply Bk.Blk.newAt; focus (first | (simp [Bk.size_set]; done) | (simp [Bk.size_set]; omega))) | with_reducible apply Bk.Blk.drewN | with_reducible apply Bk.Blk.drew | with_reducible apply Bk.Blk.set_ | (with_reducible apply Bk.Blk.far; focus (dsimp only; first | omega | (simp; omega) | (simp; done))) | with_reducible apply Bk.Blk.alloc)))
  replace bx : Bk.Blk w17 (w6.heap.size) 27 #[.int .i64 ke, .int .i64 se, .int .i64 re, .slice A3 n c3] := Bk.Blk.under hb0 (by (repeat (first | with_reducible assumption | (with_reducible apply Bk.Blk.newAt; focus (first | (simp [Bk.size_set]; done) | (simp [Bk.size_set]; omega))) | with_reducible apply Bk.Blk.drewN | with_reducible apply Bk.Blk.drew | with_reducible apply Bk.Blk.set_ | (with_reducible apply Bk.Blk.far; focus (dsimp only; first | omega | (simp; omega) | (simp; done))) | with_reducible apply Bk.Blk.alloc)))
  replace bg : Bk.Blk w17 (w8.heap.size) 27 #[.int .i64 ke, .int .i64 gse, .int .i64 re, .slice A5 n c5] := Bk.Blk.under hb0 (by (repeat (first | with_reducible assumption | (with_reducible apply Bk.Blk.newAt; focus (first | (simp [Bk.size_set]; done) | (simp [Bk.size_set]; omega))) | with_reducible apply Bk.Blk.drewN | with_reducible apply Bk.Blk.drew | with_reducible apply Bk.Blk.set_ | (with_reducible apply Bk.Blk.far; focus (dsimp only; first | omega | (simp; omega) | (simp; done))) | with_reducible apply Bk.Blk.alloc)))
  replace bgd : Bk.Blk w17 (w8.heap.size + 1) 29 #[.int .i64 pc, .slice D5 pm e5, .int .i64 mac] := Bk.Blk.under hb0 (by (repeat (first | with_reducible assumption | (with_reducible apply Bk.Blk.newAt; focus (first | (simp [Bk.size_set]; done) | (simp [Bk.size_set]; omega))) | with_reducible apply Bk.Blk.drewN | with_reducible apply Bk.Blk.drew | with_reducible apply Bk.Blk.set_ | (with_reducible apply Bk.Blk.far; focus (dsimp only; first | omega | (simp; omega) | (simp; done))) | with_reducible apply Bk.Blk.alloc)))
  replace OK := Lib.hid (OK.out.below hst (by omega))
  replace OD := Lib.hid (OD.out.below hst (by omega))
  replace D := stepW D hst
  replace B : Below w.heap.size w w17 := Below.trans (by go_grown) (hb0.mono (by first | omega | (simp [Bk.size_set]; done) | (simp [Bk.size_set]; omega)))
  have z17 := hb0.size
  (try simp only [World.size_alloc, Bk.size_set, World.size_drew, World.drewN] at z17)
  clear hb0
  clear hst
  have L_ba := Lay.f4 ba
  have L_b0 := Lay.f4 b0
  have L_b0d := Lay.f3 b0d
  have L_bx := Lay.f4 bx
  have L_bg := Lay.f4 bg
  have L_bgd := Lay.f3 bgd
  go_wp2_with fail
  clear L_ba L_b0 L_b0d L_bx L_bg L_bgd
  refine (eqPf_same pc mac D5 pm e5 D2 e2 ps _ OD.out.rd (H0D.out.below D)).mono ?_
  rintro x w18 ⟨rfl, hb0⟩
  have hst : Below w17.heap.size w17 w18 := Below.trans (by go_grown) (hb0.mono (by first | omega | (simp; done) | (simp; omega)))
  replace ba : Bk.Blk w18 (w.heap.size) 24 #[.int .i64 ke, .int .i64 se, .int .i64 re, .slice A n c] := Bk.Blk.under hb0 (by (repeat (first | with_reducible assumption | (with_reducible apply Bk.Blk.newAt; focus (first | (simp [Bk.size_set]; done) | (simp [Bk.size_set]; omega))) | with_reducible apply Bk.Blk.drewN | with_reducible apply Bk.Blk.drew | with_reducible apply Bk.Blk.set_ | (with_reducible apply Bk.Blk.far; focus (dsimp only; first | omega | (simp; omega) | (simp; done))) | with_reducible apply Bk.Blk.alloc)))
  replace b0 : Bk.Blk w18 (w5.heap.size) 27 #[.int .i64 ke, .int .i64 gse, .int .i64 re, .slice A2 n c2] := Bk.Blk.under hb0 (by (repeat (first | with_reducible assumption | (with_reducible apply Bk.Blk.newAt; focus (first | (simp [Bk.size_set]; done) | (simp [Bk.size_set]; omega))) | with_reducible apply Bk.Blk.drewN | with_reducible apply Bk.Blk.drew | with_reducible apply Bk.Blk.set_ | (with_reducible apply Bk.Blk.far; focus (dsimp only; first | omega | (simp; omega) | (simp; done))) | with_reducible apply Bk.Blk.alloc)))
  replace b0d : Bk.Blk w18 (w5.heap.size + 1) 29 #[.int .i64 pc, .slice D2 pm e2, .int .i64 mac] := Bk.Blk.under hb0 (by (repeat (first | with_reducible assumption | (with_reducible apply Bk.Blk.newAt; focus (first | (simp [Bk.size_set]; done) | (simp [Bk.size_set]; omega))) | with_reducible apply Bk.Blk.drewN | with_reducible apply Bk.Blk.drew | with_reducible apply Bk.Blk.set_ | (with_reducible apply Bk.Blk.far; focus (dsimp only; first | omega | (simp; omega) | (simp; done))) | with_reducible apply Bk.Blk.alloc)))
  replace bx : Bk.Blk w18 (w6.heap.size) 27 #[.int .i64 ke, .int .i64 se, .int .i64 re, .slice A3 n c3] := Bk.Blk.under hb0 (by (repeat (first | with_reducible assumption | (with_reducible apply Bk.Blk.newAt; focus (first | (simp [Bk.size_set]; done) | (simp [Bk.size_set]; omega))) | with_reducible apply Bk.Blk.drewN | with_reducible apply Bk.Blk.drew | with_reducible apply Bk.Blk.set_ | (with_reducible apply Bk.Blk.far; focus (dsimp only; first | omega | (simp; omega) | (simp; done))) | with_reducible apply Bk.Blk.alloc)))
  replace bg : Bk.Blk w18 (w8.heap.size) 27 #[.int .i64 ke, .int .i64 gse, .int .i64 re, .slice A5 n c5] := Bk.Blk.under hb0 (by (repeat (first | with_reducible assumption | (with_reducible apply Bk.Blk.newAt; focus (first | (simp [Bk.size_set]; done) | (simp [Bk.size_set]; omega))) | with_reducible apply Bk.Blk.drewN | with_reducible apply Bk.Blk.drew | with_reducible apply Bk.Blk.set_ | (with_reducible apply Bk.Blk.far; focus (dsimp only; first | omega | (simp; omega) | (simp; done))) | with_reducible apply Bk.Blk.alloc)))
  replace bgd : Bk.Blk w18 (w8.heap.size + 1) 29 #[.int .i64 pc, .slice D5 pm e5, .int .i64 mac] := Bk.Blk.under hb0 (by (repeat (first | with_reducible assumption | (with_reducible apply Bk.Blk.newAt; focus (first | (simp [Bk.size_set]; done) | (simp [Bk.size_set]; omega))) | with_reducible apply Bk.Blk.drewN | with_reducible apply Bk.Blk.drew | with_reducible apply Bk.Blk.set_ | (with_reducible apply Bk.Blk.far; focus (dsimp only; first | omega | (simp; omega) | (simp; done))) | with_reducible apply Bk.Blk.alloc)))
  replace OK := Lib.hid (OK.out.below hst (by omega))
  replace OD := Lib.hid (OD.out.below hst (by omega))
  replace D := stepW D hst
  replace B : Below w.heap.size w w18 := Below.trans (by go_grown) (hb0.mono (by first | omega | (simp [Bk.size_set]; done) | (simp [Bk.size_set]; omega)))
  have z18 := hb0.size
  (try simp only [World.size_alloc, Bk.size_set, World.size_drew, World.drewN] at z18)
  clear hb0
  clear hst
  have L_ba := Lay.f4 ba
  have L_b0 := Lay.f4 b0
  have L_b0d := Lay.f3 b0d
  have L_bx := Lay.f4 bx
  have L_bg := Lay.f4 bg
  have L_bgd := Lay.f3 bgd
  go_wp2_with fail
  clear L_ba L_b0 L_b0d L_bx L_bg L_bgd
  refine (markKs_any ke gse re A5 n c5 (zs.map (Value.int .i64)) 1 lk hk _ OK.out (by omega) (by omega) (by omega) (by omega)).mono ?_
  rintro x w19 ⟨rfl, hox, ht⟩
  rw [HKK.out]
  replace OK := Lib.hid hox
  clear hox
  replace ba : Bk.Blk w19 (w.heap.size) 24 #[.int .i64 ke, .int .i64 se, .int .i64 re, .slice A n c] := blk_turned ba ht (.inl (by omega))
  replace b0 : Bk.Blk w19 (w5.heap.size) 27 #[.int .i64 ke, .int .i64 gse, .int .i64 re, .slice A2 n c2] := blk_turned b0 ht (.inl (by omega))
  replace b0d : Bk.Blk w19 (w5.heap.size + 1) 29 #[.int .i64 pc, .slice D2 pm e2, .int .i64 mac] := blk_turned b0d ht (.inl (by omega))
  replace bx : Bk.Blk w19 (w6.heap.size) 27 #[.int .i64 ke, .int .i64 se, .int .i64 re, .slice A3 n c3] := blk_turned bx ht (.inl (by omega))
  replace bg : Bk.Blk w19 (w8.heap.size) 27 #[.int .i64 ke, .int .i64 gse, .int .i64 re, .slice A5 n c5] := blk_turned bg ht (.inr (by omega))
  replace bgd : Bk.Blk w19 (w8.heap.size + 1) 29 #[.int .i64 pc, .slice D5 pm e5, .int .i64 mac] := blk_turned bgd ht (.inr (by omega))
  replace OD := Lib.hid (OD.out.turned ht (by omega) (by omega))
  replace D : Below w5.heap.size w5 w19 := Below.trans D (ht.below (by omega) (by omega))
  replace B : Below w.heap.size w w19 := Below.trans B (ht.below (by omega) (by omega))
  have z19 := ht.size
  clear ht
  have L_ba := Lay.f4 ba
  have L_b0 := Lay.f4 b0
  have L_b0d := Lay.f3 b0d
  have L_bx := Lay.f4 bx
  have L_bg := Lay.f4 bg
  have L_bgd := Lay.f3 bgd
  go_wp2_with fail
  clear L_ba L_b0 L_b0d L_bx L_bg L_bgd
  refine (markPf_any pc mac D5 pm e5 (ps.map (Value.int .u8)) K ld hd _ OD.out HKB.out.1 (by have := HKB.out.2; omega) (by omega) (by omega)).mono ?_
  rintro x w20 ⟨rfl, hox, ht⟩
  rw [HMM.out]
  replace OD := Lib.hid hox
  clear hox
  replace ba : Bk.Blk w20 (w.heap.size) 24 #[.int .i64 ke, .int .i64 se, .int .i64 re, .slice A n c] := blk_turned ba ht (.inl (by omega))
  replace b0 : Bk.Blk w20 (w5.heap.size) 27 #[.int .i64 ke, .int .i64 gse, .int .i64 re, .slice A2 n c2] := blk_turned b0 ht (.inl (by omega))
  replace b0d : Bk.Blk w20 (w5.heap.size + 1) 29 #[.int .i64 pc, .slice D2 pm e2, .int .i64 mac] := blk_turned b0d ht (.inl (by omega))
  replace bx : Bk.Blk w20 (w6.heap.size) 27 #[.int .i64 ke, .int .i64 se, .int .i64 re, .slice A3 n c3] := blk_turned bx ht (.inl (by omega))
  replace bg : Bk.Blk w20 (w8.heap.size) 27 #[.int .i64 ke, .int .i64 gse, .int .i64 re, .slice A5 n c5] := blk_turned bg ht (.inr (by omega))
  replace bgd : Bk.Blk w20 (w8.heap.size + 1) 29 #[.int .i64 pc, .slice D5 pm e5, .int .i64 mac] := blk_turned bgd ht (.inr (by omega))
  replace OK := Lib.hid (OK.out.turned ht (by omega) (by omega))
  replace D : Below w5.heap.size w5 w20 := Below.trans D (ht.below (by omega) (by omega))
  replace B : Below w.heap.size w w20 := Below.trans B (ht.below (by omega) (by omega))
  have z20 := ht.size
  clear ht
  have L_ba := Lay.f4 ba
  have L_b0 := Lay.f4 b0
  have L_b0d := Lay.f3 b0d
  have L_bx := Lay.f4 bx
  have L_bg := Lay.f4 bg
  have L_bgd := Lay.f3 bgd
  go_wp2_with fail
  clear L_ba L_b0 L_b0d L_bx L_bg L_bgd
  refine (heldKs_any ke gse re A5 n c5 1 _ OK.out.rd (by omega) (by omega) (by omega)).mono ?_
  rintro x w21 ⟨rfl, hb0⟩
  rw [HKK.out]
  have hst : Below w20.heap.size w20 w21 := Below.trans (by go_grown) (hb0.mono (by first | omega | (simp; done) | (simp; omega)))
  replace ba : Bk.Blk w21 (w.heap.size) 24 #[.int .i64 ke, .int .i64 se, .int .i64 re, .slice A n c] := Bk.Blk.under hb0 (by (repeat (first | with_reducible assumption | (with_reducible apply Bk.Blk.newAt; focus (first | (simp [Bk.size_set]; done) | (simp [Bk.size_set]; omega))) | with_reducible apply Bk.Blk.drewN | with_reducible apply Bk.Blk.drew | with_reducible apply Bk.Blk.set_ | (with_reducible apply Bk.Blk.far; focus (dsimp only; first | omega | (simp; omega) | (simp; done))) | with_reducible apply Bk.Blk.alloc)))
  replace b0 : Bk.Blk w21 (w5.heap.size) 27 #[.int .i64 ke, .int .i64 gse, .int .i64 re, .slice A2 n c2] := Bk.Blk.under hb0 (by (repeat (first | with_reducible assumption | (with_reducible apply Bk.Blk.newAt; focus (first | (simp [Bk.size_set]; done) | (simp [Bk.size_set]; omega))) | with_reducible apply Bk.Blk.drewN | with_reducible apply Bk.Blk.drew | with_reducible apply Bk.Blk.set_ | (with_reducible apply Bk.Blk.far; focus (dsimp only; first | omega | (simp; omega) | (simp; done))) | with_reducible apply Bk.Blk.alloc)))
  replace b0d : Bk.Blk w21 (w5.heap.size + 1) 29 #[.int .i64 pc, .slice D2 pm e2, .int .i64 mac] := Bk.Blk.under hb0 (by (repeat (first | with_reducible assumption | (with_reducible apply Bk.Blk.newAt; focus (first | (simp [Bk.size_set]; done) | (simp [Bk.size_set]; omega))) | with_reducible apply Bk.Blk.drewN | with_reducible apply Bk.Blk.drew | with_reducible apply Bk.Blk.set_ | (with_reducible apply Bk.Blk.far; focus (dsimp only; first | omega | (simp; omega) | (simp; done))) | with_reducible apply Bk.Blk.alloc)))
  replace bx : Bk.Blk w21 (w6.heap.size) 27 #[.int .i64 ke, .int .i64 se, .int .i64 re, .slice A3 n c3] := Bk.Blk.under hb0 (by (repeat (first | with_reducible assumption | (with_reducible apply Bk.Blk.newAt; focus (first | (simp [Bk.size_set]; done) | (simp [Bk.size_set]; omega))) | with_reducible apply Bk.Blk.drewN | with_reducible apply Bk.Blk.drew | with_reducible apply Bk.Blk.set_ | (with_reducible apply Bk.Blk.far; focus (dsimp only; first | omega | (simp; omega) | (simp; done))) | with_reducible apply Bk.Blk.alloc)))
  replace bg : Bk.Blk w21 (w8.heap.size) 27 #[.int .i64 ke, .int .i64 gse, .int .i64 re, .slice A5 n c5] := Bk.Blk.under hb0 (by (repeat (first | with_reducible assumption | (with_reducible apply Bk.Blk.newAt; focus (first | (simp [Bk.size_set]; done) | (simp [Bk.size_set]; omega))) | with_reducible apply Bk.Blk.drewN | with_reducible apply Bk.Blk.drew | with_reducible apply Bk.Blk.set_ | (with_reducible apply Bk.Blk.far; focus (dsimp only; first | omega | (simp; omega) | (simp; done))) | with_reducible apply Bk.Blk.alloc)))
  replace bgd : Bk.Blk w21 (w8.heap.size + 1) 29 #[.int .i64 pc, .slice D5 pm e5, .int .i64 mac] := Bk.Blk.under hb0 (by (repeat (first | with_reducible assumption | (with_reducible apply Bk.Blk.newAt; focus (first | (simp [Bk.size_set]; done) | (simp [Bk.size_set]; omega))) | with_reducible apply Bk.Blk.drewN | with_reducible apply Bk.Blk.drew | with_reducible apply Bk.Blk.set_ | (with_reducible apply Bk.Blk.far; focus (dsimp only; first | omega | (simp; omega) | (simp; done))) | with_reducible apply Bk.Blk.alloc)))
  replace OK := Lib.hid (OK.out.below hst (by omega))
  replace OD := Lib.hid (OD.out.below hst (by omega))
  replace D := stepW D hst
  replace B : Below w.heap.size w w21 := Below.trans (by go_grown) (hb0.mono (by first | omega | (simp [Bk.size_set]; done) | (simp [Bk.size_set]; omega)))
  have z21 := hb0.size
  (try simp only [World.size_alloc, Bk.size_set, World.size_drew, World.drewN] at z21)
  clear hb0
  clear hst
  have L_ba := Lay.f4 ba
  have L_b0 := Lay.f4 b0
  have L_b0d := Lay.f3 b0d
  have L_bx := Lay.f4 bx
  have L_bg := Lay.f4 bg
  have L_bgd := Lay.f3 bgd
  go_wp2_with fail
  clear L_ba L_b0 L_b0d L_bx L_bg L_bgd
  refine (heldPf_any pc mac D5 pm e5 K _ OD.out.rd HKB.out.1 (by have := HKB.out.2; omega) (by omega)).mono ?_
  rintro x w22 ⟨rfl, hb0⟩
  rw [HMM.out]
  have hst : Below w21.heap.size w21 w22 := Below.trans (by go_grown) (hb0.mono (by first | omega | (simp; done) | (simp; omega)))
  replace ba : Bk.Blk w22 (w.heap.size) 24 #[.int .i64 ke, .int .i64 se, .int .i64 re, .slice A n c] := Bk.Blk.under hb0 (by (repeat (first | with_reducible assumption | (with_reducible apply Bk.Blk.newAt; focus (first | (simp [Bk.size_set]; done) | (simp [Bk.size_set]; omega))) | with_reducible apply Bk.Blk.drewN | with_reducible apply Bk.Blk.drew | with_reducible apply Bk.Blk.set_ | (with_reducible apply Bk.Blk.far; focus (dsimp only; first | omega | (simp; omega) | (simp; done))) | with_reducible apply Bk.Blk.alloc)))
  replace b0 : Bk.Blk w22 (w5.heap.size) 27 #[.int .i64 ke, .int .i64 gse, .int .i64 re, .slice A2 n c2] := Bk.Blk.under hb0 (by (repeat (first | with_reducible assumption | (with_reducible apply Bk.Blk.newAt; focus (first | (simp [Bk.size_set]; done) | (simp [Bk.size_set]; omega))) | with_reducible apply Bk.Blk.drewN | with_reducible apply Bk.Blk.drew | with_reducible apply Bk.Blk.set_ | (with_reducible apply Bk.Blk.far; focus (dsimp only; first | omega | (simp; omega) | (simp; done))) | with_reducible apply Bk.Blk.alloc)))
  replace b0d : Bk.Blk w22 (w5.heap.size + 1) 29 #[.int .i64 pc, .slice D2 pm e2, .int .i64 mac] := Bk.Blk.under hb0 (by (repeat (first | with_reducible assumption | (with_reducible apply Bk.Blk.newAt; focus (first | (simp [Bk.size_set]; done) | (simp [Bk.size_set]; omega))) | with_reducible apply Bk.Blk.drewN | with_reducible apply Bk.Blk.drew | with_reducible apply Bk.Blk.set_ | (with_reducible apply Bk.Blk.far; focus (dsimp only; first | omega | (simp; omega) | (simp; done))) | with_reducible apply Bk.Blk.alloc)))
  replace bx : Bk.Blk w22 (w6.heap.size) 27 #[.int .i64 ke, .int .i64 se, .int .i64 re, .slice A3 n c3] := Bk.Blk.under hb0 (by (repeat (first | with_reducible assumption | (with_reducible apply Bk.Blk.newAt; focus (first | (simp [Bk.size_set]; done) | (simp [Bk.size_set]; omega))) | with_reducible apply Bk.Blk.drewN | with_reducible apply Bk.Blk.drew | with_reducible apply Bk.Blk.set_ | (with_reducible apply Bk.Blk.far; focus (dsimp only; first | omega | (simp; omega) | (simp; done))) | with_reducible apply Bk.Blk.alloc)))
  replace bg : Bk.Blk w22 (w8.heap.size) 27 #[.int .i64 ke, .int .i64 gse, .int .i64 re, .slice A5 n c5] := Bk.Blk.under hb0 (by (repeat (first | with_reducible assumption | (with_reducible apply Bk.Blk.newAt; focus (first | (simp [Bk.size_set]; done) | (simp [Bk.size_set]; omega))) | with_reducible apply Bk.Blk.drewN | with_reducible apply Bk.Blk.drew | with_reducible apply Bk.Blk.set_ | (with_reducible apply Bk.Blk.far; focus (dsimp only; first | omega | (simp; omega) | (simp; done))) | with_reducible apply Bk.Blk.alloc)))
  replace bgd : Bk.Blk w22 (w8.heap.size + 1) 29 #[.int .i64 pc, .slice D5 pm e5, .int .i64 mac] := Bk.Blk.under hb0 (by (repeat (first | with_reducible assumption | (with_reducible apply Bk.Blk.newAt; focus (first | (simp [Bk.size_set]; done) | (simp [Bk.size_set]; omega))) | with_reducible apply Bk.Blk.drewN | with_reducible apply Bk.Blk.drew | with_reducible apply Bk.Blk.set_ | (with_reducible apply Bk.Blk.far; focus (dsimp only; first | omega | (simp; omega) | (simp; done))) | with_reducible apply Bk.Blk.alloc)))
  replace OK := Lib.hid (OK.out.below hst (by omega))
  replace OD := Lib.hid (OD.out.below hst (by omega))
  replace D := stepW D hst
  replace B : Below w.heap.size w w22 := Below.trans (by go_grown) (hb0.mono (by first | omega | (simp [Bk.size_set]; done) | (simp [Bk.size_set]; omega)))
  have z22 := hb0.size
  (try simp only [World.size_alloc, Bk.size_set, World.size_drew, World.drewN] at z22)
  clear hb0
  clear hst
  have L_ba := Lay.f4 ba
  have L_b0 := Lay.f4 b0
  have L_b0d := Lay.f3 b0d
  have L_bx := Lay.f4 bx
  have L_bg := Lay.f4 bg
  have L_bgd := Lay.f3 bgd
  go_wp2_with fail
  clear L_ba L_b0 L_b0d L_bx L_bg L_bgd
  refine (toKs_any ke se re A n c zs _ (HR.out.below B) (by omega)).mono ?_
  rintro x w23 ⟨A10, c10, rfl, hown, hb0⟩
  have hst : Below w22.heap.size w22 w23 := Below.trans (by go_grown) (hb0.mono (by first | omega | (simp; done) | (simp; omega)))
  replace ba : Bk.Blk w23 (w.heap.size) 24 #[.int .i64 ke, .int .i64 se, .int .i64 re, .slice A n c] := Bk.Blk.under hb0 (by (repeat (first | with_reducible assumption | (with_reducible apply Bk.Blk.newAt; focus (first | (simp [Bk.size_set]; done) | (simp [Bk.size_set]; omega))) | with_reducible apply Bk.Blk.drewN | with_reducible apply Bk.Blk.drew | with_reducible apply Bk.Blk.set_ | (with_reducible apply Bk.Blk.far; focus (dsimp only; first | omega | (simp; omega) | (simp; done))) | with_reducible apply Bk.Blk.alloc)))
  replace b0 : Bk.Blk w23 (w5.heap.size) 27 #[.int .i64 ke, .int .i64 gse, .int .i64 re, .slice A2 n c2] := Bk.Blk.under hb0 (by (repeat (first | with_reducible assumption | (with_reducible apply Bk.Blk.newAt; focus (first | (simp [Bk.size_set]; done) | (simp [Bk.size_set]; omega))) | with_reducible apply Bk.Blk.drewN | with_reducible apply Bk.Blk.drew | with_reducible apply Bk.Blk.set_ | (with_reducible apply Bk.Blk.far; focus (dsimp only; first | omega | (simp; omega) | (simp; done))) | with_reducible apply Bk.Blk.alloc)))
  replace b0d : Bk.Blk w23 (w5.heap.size + 1) 29 #[.int .i64 pc, .slice D2 pm e2, .int .i64 mac] := Bk.Blk.under hb0 (by (repeat (first | with_reducible assumption | (with_reducible apply Bk.Blk.newAt; focus (first | (simp [Bk.size_set]; done) | (simp [Bk.size_set]; omega))) | with_reducible apply Bk.Blk.drewN | with_reducible apply Bk.Blk.drew | with_reducible apply Bk.Blk.set_ | (with_reducible apply Bk.Blk.far; focus (dsimp only; first | omega | (simp; omega) | (simp; done))) | with_reducible apply Bk.Blk.alloc)))
  replace bx : Bk.Blk w23 (w6.heap.size) 27 #[.int .i64 ke, .int .i64 se, .int .i64 re, .slice A3 n c3] := Bk.Blk.under hb0 (by (repeat (first | with_reducible assumption | (with_reducible apply Bk.Blk.newAt; focus (first | (simp [Bk.size_set]; done) | (simp [Bk.size_set]; omega))) | with_reducible apply Bk.Blk.drewN | with_reducible apply Bk.Blk.drew | with_reducible apply Bk.Blk.set_ | (with_reducible apply Bk.Blk.far; focus (dsimp only; first | omega | (simp; omega) | (simp; done))) | with_reducible apply Bk.Blk.alloc)))
  replace bg : Bk.Blk w23 (w8.heap.size) 27 #[.int .i64 ke, .int .i64 gse, .int .i64 re, .slice A5 n c5] := Bk.Blk.under hb0 (by (repeat (first | with_reducible assumption | (with_reducible apply Bk.Blk.newAt; focus (first | (simp [Bk.size_set]; done) | (simp [Bk.size_set]; omega))) | with_reducible apply Bk.Blk.drewN | with_reducible apply Bk.Blk.drew | with_reducible apply Bk.Blk.set_ | (with_reducible apply Bk.Blk.far; focus (dsimp only; first | omega | (simp; omega) | (simp; done))) | with_reducible apply Bk.Blk.alloc)))
  replace bgd : Bk.Blk w23 (w8.heap.size + 1) 29 #[.int .i64 pc, .slice D5 pm e5, .int .i64 mac] := Bk.Blk.under hb0 (by (repeat (first | with_reducible assumption | (with_reducible apply Bk.Blk.newAt; focus (first | (simp [Bk.size_set]; done) | (simp [Bk.size_set]; omega))) | with_reducible apply Bk.Blk.drewN | with_reducible apply Bk.Blk.drew | with_reducible apply Bk.Blk.set_ | (with_reducible apply Bk.Blk.far; focus (dsimp only; first | omega | (simp; omega) | (simp; done))) | with_reducible apply Bk.Blk.alloc)))
  replace OK := Lib.hid (OK.out.below hst (by omega))
  replace OD := Lib.hid (OD.out.below hst (by omega))
  replace D := stepW D hst
  have H10 := Lib.hid (Rd.of_own hown)
  clear hown
  replace B : Below w.heap.size w w23 := Below.trans (by go_grown) (hb0.mono (by first | omega | (simp [Bk.size_set]; done) | (simp [Bk.size_set]; omega)))
  have z23 := hb0.size
  (try simp only [World.size_alloc, Bk.size_set, World.size_drew, World.drewN] at z23)
  clear hb0
  clear hst
  have L_ba := Lay.f4 ba
  have L_b0 := Lay.f4 b0
  have L_b0d := Lay.f3 b0d
  have L_bx := Lay.f4 bx
  have L_bg := Lay.f4 bg
  have L_bgd := Lay.f3 bgd
  go_wp2_with fail
  clear L_ba L_b0 L_b0d L_bx L_bg L_bgd
  refine (toByteS_any Bd m db bs _ (HBD.out.below B) (by omega)).mono ?_
  rintro x w24 ⟨A11, c11, rfl, hown, hb0⟩
  have hst : Below w23.heap.size w23 w24 := Below.trans (by go_grown) (hb0.mono (by first | omega | (simp; done) | (simp; omega)))
  replace ba : Bk.Blk w24 (w.heap.size) 24 #[.int .i64 ke, .int .i64 se, .int .i64 re, .slice A n c] := Bk.Blk.under hb0 (by (repeat (first | with_reducible assumption | (with_reducible apply Bk.Blk.newAt; focus (first | (simp [Bk.size_set]; done) | (simp [Bk.size_set]; omega))) | with_reducible apply Bk.Blk.drewN | with_reducible apply Bk.Blk.drew | with_reducible apply Bk.Blk.set_ | (with_reducible apply Bk.Blk.far; focus (dsimp only; first | omega | (simp; omega) | (simp; done))) | with_reducible apply Bk.Blk.alloc)))
  replace b0 : Bk.Blk w24 (w5.heap.size) 27 #[.int .i64 ke, .int .i64 gse, .int .i64 re, .slice A2 n c2] := Bk.Blk.under hb0 (by (repeat (first | with_reducible assumption | (with_reducible apply Bk.Blk.newAt; focus (first | (simp [Bk.size_set]; done) | (simp [Bk.size_set]; omega))) | with_reducible apply Bk.Blk.drewN | with_reducible apply Bk.Blk.drew | with_reducible apply Bk.Blk.set_ | (with_reducible apply Bk.Blk.far; focus (dsimp only; first | omega | (simp; omega) | (simp; done))) | with_reducible apply Bk.Blk.alloc)))
  replace b0d : Bk.Blk w24 (w5.heap.size + 1) 29 #[.int .i64 pc, .slice D2 pm e2, .int .i64 mac] := Bk.Blk.under hb0 (by (repeat (first | with_reducible assumption | (with_reducible apply Bk.Blk.newAt; focus (first | (simp [Bk.size_set]; done) | (simp [Bk.size_set]; omega))) | with_reducible apply Bk.Blk.drewN | with_reducible apply Bk.Blk.drew | with_reducible apply Bk.Blk.set_ | (with_reducible apply Bk.Blk.far; focus (dsimp only; first | omega | (simp; omega) | (simp; done))) | with_reducible apply Bk.Blk.alloc)))
  replace bx : Bk.Blk w24 (w6.heap.size) 27 #[.int .i64 ke, .int .i64 se, .int .i64 re, .slice A3 n c3] := Bk.Blk.under hb0 (by (repeat (first | with_reducible assumption | (with_reducible apply Bk.Blk.newAt; focus (first | (simp [Bk.size_set]; done) | (simp [Bk.size_set]; omega))) | with_reducible apply Bk.Blk.drewN | with_reducible apply Bk.Blk.drew | with_reducible apply Bk.Blk.set_ | (with_reducible apply Bk.Blk.far; focus (dsimp only; first | omega | (simp; omega) | (simp; done))) | with_reducible apply Bk.Blk.alloc)))
  replace bg : Bk.Blk w24 (w8.heap.size) 27 #[.int .i64 ke, .int .i64 gse, .int .i64 re, .slice A5 n c5] := Bk.Blk.under hb0 (by (repeat (first | with_reducible assumption | (with_reducible apply Bk.Blk.newAt; focus (first | (simp [Bk.size_set]; done) | (simp [Bk.size_set]; omega))) | with_reducible apply Bk.Blk.drewN | with_reducible apply Bk.Blk.drew | with_reducible apply Bk.Blk.set_ | (with_reducible apply Bk.Blk.far; focus (dsimp only; first | omega | (simp; omega) | (simp; done))) | with_reducible apply Bk.Blk.alloc)))
  replace bgd : Bk.Blk w24 (w8.heap.size + 1) 29 #[.int .i64 pc, .slice D5 pm e5, .int .i64 mac] := Bk.Blk.under hb0 (by (repeat (first | with_reducible assumption | (with_reducible apply Bk.Blk.newAt; focus (first | (simp [Bk.size_set]; done) | (simp [Bk.size_set]; omega))) | with_reducible apply Bk.Blk.drewN | with_reducible apply Bk.Blk.drew | with_reducible apply Bk.Blk.set_ | (with_reducible apply Bk.Blk.far; focus (dsimp only; first | omega | (simp; omega) | (simp; done))) | with_reducible apply Bk.Blk.alloc)))
  replace OK := Lib.hid (OK.out.below hst (by omega))
  replace OD := Lib.hid (OD.out.below hst (by omega))
  replace D := stepW D hst
  replace H10 := Lib.hid (H10.out.below hst)
  have H11 := Lib.hid (Rd.of_own hown)
  clear hown
  replace B : Below w.heap.size w w24 := Below.trans (by go_grown) (hb0.mono (by first | omega | (simp [Bk.size_set]; done) | (simp [Bk.size_set]; omega)))
  have z24 := hb0.size
  (try simp only [World.size_alloc, Bk.size_set, World.size_drew, World.drewN] at z24)
  clear hb0
  clear hst
  have L_ba := Lay.f4 ba
  have L_b0 := Lay.f4 b0
  have L_b0d := Lay.f3 b0d
  have L_bx := Lay.f4 bx
  have L_bg := Lay.f4 bg
  have L_bgd := Lay.f3 bgd
  go_wp2_with fail
  clear L_ba L_b0 L_b0d L_bx L_bg L_bgd
  refine (HI.out A10 c10 A11 c11 _ (HT.out.below B) H10.out H11.out).mono ?_
  rintro x w25 ⟨A12, c12, D12, e12, rfl, hown, hdat, hb0⟩
  have hst : Below w24.heap.size w24 w25 := Below.trans (by go_grown) (hb0.mono (by first | omega | (simp; done) | (simp; omega)))
  replace ba : Bk.Blk w25 (w.heap.size) 24 #[.int .i64 ke, .int .i64 se, .int .i64 re, .slice A n c] := Bk.Blk.under hb0 (by (repeat (first | with_reducible assumption | (with_reducible apply Bk.Blk.newAt; focus (first | (simp [Bk.size_set]; done) | (simp [Bk.size_set]; omega))) | with_reducible apply Bk.Blk.drewN | with_reducible apply Bk.Blk.drew | with_reducible apply Bk.Blk.set_ | (with_reducible apply Bk.Blk.far; focus (dsimp only; first | omega | (simp; omega) | (simp; done))) | with_reducible apply Bk.Blk.alloc)))
  replace b0 : Bk.Blk w25 (w5.heap.size) 27 #[.int .i64 ke, .int .i64 gse, .int .i64 re, .slice A2 n c2] := Bk.Blk.under hb0 (by (repeat (first | with_reducible assumption | (with_reducible apply Bk.Blk.newAt; focus (first | (simp [Bk.size_set]; done) | (simp [Bk.size_set]; omega))) | with_reducible apply Bk.Blk.drewN | with_reducible apply Bk.Blk.drew | with_reducible apply Bk.Blk.set_ | (with_reducible apply Bk.Blk.far; focus (dsimp only; first | omega | (simp; omega) | (simp; done))) | with_reducible apply Bk.Blk.alloc)))
  replace b0d : Bk.Blk w25 (w5.heap.size + 1) 29 #[.int .i64 pc, .slice D2 pm e2, .int .i64 mac] := Bk.Blk.under hb0 (by (repeat (first | with_reducible assumption | (with_reducible apply Bk.Blk.newAt; focus (first | (simp [Bk.size_set]; done) | (simp [Bk.size_set]; omega))) | with_reducible apply Bk.Blk.drewN | with_reducible apply Bk.Blk.drew | with_reducible apply Bk.Blk.set_ | (with_reducible apply Bk.Blk.far; focus (dsimp only; first | omega | (simp; omega) | (simp; done))) | with_reducible apply Bk.Blk.alloc)))
  replace bx : Bk.Blk w25 (w6.heap.size) 27 #[.int .i64 ke, .int .i64 se, .int .i64 re, .slice A3 n c3] := Bk.Blk.under hb0 (by (repeat (first | with_reducible assumption | (with_reducible apply Bk.Blk.newAt; focus (first | (simp [Bk.size_set]; done) | (simp [Bk.size_set]; omega))) | with_reducible apply Bk.Blk.drewN | with_reducible apply Bk.Blk.drew | with_reducible apply Bk.Blk.set_ | (with_reducible apply Bk.Blk.far; focus (dsimp only; first | omega | (simp; omega) | (simp; done))) | with_reducible apply Bk.Blk.alloc)))
  replace bg : Bk.Blk w25 (w8.heap.size) 27 #[.int .i64 ke, .int .i64 gse, .int .i64 re, .slice A5 n c5] := Bk.Blk.under hb0 (by (repeat (first | with_reducible assumption | (with_reducible apply Bk.Blk.newAt; focus (first | (simp [Bk.size_set]; done) | (simp [Bk.size_set]; omega))) | with_reducible apply Bk.Blk.drewN | with_reducible apply Bk.Blk.drew | with_reducible apply Bk.Blk.set_ | (with_reducible apply Bk.Blk.far; focus (dsimp only; first | omega | (simp; omega) | (simp; done))) | with_reducible apply Bk.Blk.alloc)))
  replace bgd : Bk.Blk w25 (w8.heap.size + 1) 29 #[.int .i64 pc, .slice D5 pm e5, .int .i64 mac] := Bk.Blk.under hb0 (by (repeat (first | with_reducible assumption | (with_reducible apply Bk.Blk.newAt; focus (first | (simp [Bk.size_set]; done) | (simp [Bk.size_set]; omega))) | with_reducible apply Bk.Blk.drewN | with_reducible apply Bk.Blk.drew | with_reducible apply Bk.Blk.set_ | (with_reducible apply Bk.Blk.far; focus (dsimp only; first | omega | (simp; omega) | (simp; done))) | with_reducible apply Bk.Blk.alloc)))
  replace OK := Lib.hid (OK.out.below hst (by omega))
  replace OD := Lib.hid (OD.out.below hst (by omega))
  replace D := stepW D hst
  have H12 := Lib.hid (Rd.of_own hown)
  have H12D := Lib.hid (Rd.of_own hdat)
  clear hown hdat H10 H11
  replace B : Below w.heap.size w w25 := Below.trans (by go_grown) (hb0.mono (by first | omega | (simp [Bk.size_set]; done) | (simp [Bk.size_set]; omega)))
  have z25 := hb0.size
  (try simp only [World.size_alloc, Bk.size_set, World.size_drew, World.drewN] at z25)
  clear hb0
  clear hst
  have L_ba := Lay.f4 ba
  have L_b0 := Lay.f4 b0
  have L_b0d := Lay.f3 b0d
  have L_bx := Lay.f4 bx
  have L_bg := Lay.f4 bg
  have L_bgd := Lay.f3 bgd
  go_wp2_with fail
  clear L_ba L_b0 L_b0d L_bx L_bg L_bgd
  refine (eqKs_same ke gse re A12 n c12 A2 c2 zs _ ((H12.out.alloc _).alloc _) (((H0.out.below D).alloc _).alloc _)).mono ?_
  rintro x w26 ⟨rfl, hb0⟩
  have hst : Below w25.heap.size w25 w26 := Below.trans (by go_grown) (hb0.mono (by first | omega | (simp; done) | (simp; omega)))
  have bh : Bk.Blk w26 (w25.heap.size) 27 #[.int .i64 ke, .int .i64 gse, .int .i64 re, .slice A12 n c12] := (by apply Bk.Blk.to; (focus (apply Bk.Blk.under hb0; (repeat (first | with_reducible assumption | (with_reducible apply Bk.Blk.newAt; focus (first | (simp [Bk.size_set]; done) | (simp [Bk.size_set]; omega))) | with_reducible apply Bk.Blk.drewN | with_reducible apply Bk.Blk.drew | with_reducible apply Bk.Blk.set_ | (with_reducible apply Bk.Blk.far; focus (dsimp only; first | omega | (simp; omega) | (simp; done))) | with_reducible apply Bk.Blk.alloc)))); rfl)
  have bhd : Bk.Blk w26 (w25.heap.size + 1) 29 #[.int .i64 pc, .slice D12 pm e12, .int .i64 mac] := (by apply Bk.Blk.to; (focus (apply Bk.Blk.under hb0; (repeat (first | with_reducible assumption | (with_reducible apply Bk.Blk.newAt; focus (first | (simp [Bk.size_set]; done) | (simp [Bk.size_set]; omega))) | with_reducible apply Bk.Blk.drewN | with_reducible apply Bk.Blk.drew | with_reducible apply Bk.Blk.set_ | (with_reducible apply Bk.Blk.far; focus (dsimp only; first | omega | (simp; omega) | (simp; done))) | with_reducible apply Bk.Blk.alloc)))); rfl)
  replace ba : Bk.Blk w26 (w.heap.size) 24 #[.int .i64 ke, .int .i64 se, .int .i64 re, .slice A n c] := Bk.Blk.under hb0 (by (repeat (first | with_reducible assumption | (with_reducible apply Bk.Blk.newAt; focus (first | (simp [Bk.size_set]; done) | (simp [Bk.size_set]; omega))) | with_reducible apply Bk.Blk.drewN | with_reducible apply Bk.Blk.drew | with_reducible apply Bk.Blk.set_ | (with_reducible apply Bk.Blk.far; focus (dsimp only; first | omega | (simp; omega) | (simp; done))) | with_reducible apply Bk.Blk.alloc)))
  replace b0 : Bk.Blk w26 (w5.heap.size) 27 #[.int .i64 ke, .int .i64 gse, .int .i64 re, .slice A2 n c2] := Bk.Blk.under hb0 (by (repeat (first | with_reducible assumption | (with_reducible apply Bk.Blk.newAt; focus (first | (simp [Bk.size_set]; done) | (simp [Bk.size_set]; omega))) | with_reducible apply Bk.Blk.drewN | with_reducible apply Bk.Blk.drew | with_reducible apply Bk.Blk.set_ | (with_reducible apply Bk.Blk.far; focus (dsimp only; first | omega | (simp; omega) | (simp; done))) | with_reducible apply Bk.Blk.alloc)))
  replace b0d : Bk.Blk w26 (w5.heap.size + 1) 29 #[.int .i64 pc, .slice D2 pm e2, .int .i64 mac] := Bk.Blk.under hb0 (by (repeat (first | with_reducible assumption | (with_reducible apply Bk.Blk.newAt; focus (first | (simp [Bk.size_set]; done) | (simp [Bk.size_set]; omega))) | with_reducible apply Bk.Blk.drewN | with_reducible apply Bk.Blk.drew | with_reducible apply Bk.Blk.set_ | (with_reducible apply Bk.Blk.far; focus (dsimp only; first | omega | (simp; omega) | (simp; done))) | with_reducible apply Bk.Blk.alloc)))
  replace bx : Bk.Blk w26 (w6.heap.size) 27 #[.int .i64 ke, .int .i64 se, .int .i64 re, .slice A3 n c3] := Bk.Blk.under hb0 (by (repeat (first | with_reducible assumption | (with_reducible apply Bk.Blk.newAt; focus (first | (simp [Bk.size_set]; done) | (simp [Bk.size_set]; omega))) | with_reducible apply Bk.Blk.drewN | with_reducible apply Bk.Blk.drew | with_reducible apply Bk.Blk.set_ | (with_reducible apply Bk.Blk.far; focus (dsimp only; first | omega | (simp; omega) | (simp; done))) | with_reducible apply Bk.Blk.alloc)))
  replace bg : Bk.Blk w26 (w8.heap.size) 27 #[.int .i64 ke, .int .i64 gse, .int .i64 re, .slice A5 n c5] := Bk.Blk.under hb0 (by (repeat (first | with_reducible assumption | (with_reducible apply Bk.Blk.newAt; focus (first | (simp [Bk.size_set]; done) | (simp [Bk.size_set]; omega))) | with_reducible apply Bk.Blk.drewN | with_reducible apply Bk.Blk.drew | with_reducible apply Bk.Blk.set_ | (with_reducible apply Bk.Blk.far; focus (dsimp only; first | omega | (simp; omega) | (simp; done))) | with_reducible apply Bk.Blk.alloc)))
  replace bgd : Bk.Blk w26 (w8.heap.size + 1) 29 #[.int .i64 pc, .slice D5 pm e5, .int .i64 mac] := Bk.Blk.under hb0 (by (repeat (first | with_reducible assumption | (with_reducible apply Bk.Blk.newAt; focus (first | (simp [Bk.size_set]; done) | (simp [Bk.size_set]; omega))) | with_reducible apply Bk.Blk.drewN | with_reducible apply Bk.Blk.drew | with_reducible apply Bk.Blk.set_ | (with_reducible apply Bk.Blk.far; focus (dsimp only; first | omega | (simp; omega) | (simp; done))) | with_reducible apply Bk.Blk.alloc)))
  replace OK := Lib.hid (OK.out.below hst (by omega))
  replace OD := Lib.hid (OD.out.below hst (by omega))
  replace D := stepW D hst
  replace H12D := Lib.hid (H12D.out.below hst)
  clear H12
  replace B : Below w.heap.size w w26 := Below.trans (by go_grown) (hb0.mono (by first | omega | (simp [Bk.size_set]; done) | (simp [Bk.size_set]; omega)))
  have z26 := hb0.size
  (try simp only [World.size_alloc, Bk.size_set, World.size_drew, World.drewN] at z26)
  clear hb0
  clear hst
  have L_ba := Lay.f4 ba
  have L_b0 := Lay.f4 b0
  have L_b0d := Lay.f3 b0d
  have L_bx := Lay.f4 bx
  have L_bg := Lay.f4 bg
  have L_bgd := Lay.f3 bgd
  have L_bh := Lay.f4 bh
  have L_bhd := Lay.f3 bhd
  go_wp2_with fail
  clear L_ba L_b0 L_b0d L_bx L_bg L_bgd L_bh L_bhd
  refine (eqPf_same pc mac D12 pm e12 D2 e2 ps _ H12D.out (H0D.out.below D)).mono ?_
  rintro x w27 ⟨rfl, hb0⟩
  have hst : Below w26.heap.size w26 w27 := Below.trans (by go_grown) (hb0.mono (by first | omega | (simp; done) | (simp; omega)))
  replace ba : Bk.Blk w27 (w.heap.size) 24 #[.int .i64 ke, .int .i64 se, .int .i64 re, .slice A n c] := Bk.Blk.under hb0 (by (repeat (first | with_reducible assumption | (with_reducible apply Bk.Blk.newAt; focus (first | (simp [Bk.size_set]; done) | (simp [Bk.size_set]; omega))) | with_reducible apply Bk.Blk.drewN | with_reducible apply Bk.Blk.drew | with_reducible apply Bk.Blk.set_ | (with_reducible apply Bk.Blk.far; focus (dsimp only; first | omega | (simp; omega) | (simp; done))) | with_reducible apply Bk.Blk.alloc)))
  replace b0 : Bk.Blk w27 (w5.heap.size) 27 #[.int .i64 ke, .int .i64 gse, .int .i64 re, .slice A2 n c2] := Bk.Blk.under hb0 (by (repeat (first | with_reducible assumption | (with_reducible apply Bk.Blk.newAt; focus (first | (simp [Bk.size_set]; done) | (simp [Bk.size_set]; omega))) | with_reducible apply Bk.Blk.drewN | with_reducible apply Bk.Blk.drew | with_reducible apply Bk.Blk.set_ | (with_reducible apply Bk.Blk.far; focus (dsimp only; first | omega | (simp; omega) | (simp; done))) | with_reducible apply Bk.Blk.alloc)))
  replace b0d : Bk.Blk w27 (w5.heap.size + 1) 29 #[.int .i64 pc, .slice D2 pm e2, .int .i64 mac] := Bk.Blk.under hb0 (by (repeat (first | with_reducible assumption | (with_reducible apply Bk.Blk.newAt; focus (first | (simp [Bk.size_set]; done) | (simp [Bk.size_set]; omega))) | with_reducible apply Bk.Blk.drewN | with_reducible apply Bk.Blk.drew | with_reducible apply Bk.Blk.set_ | (with_reducible apply Bk.Blk.far; focus (dsimp only; first | omega | (simp; omega) | (simp; done))) | with_reducible apply Bk.Blk.alloc)))
  replace bx : Bk.Blk w27 (w6.heap.size) 27 #[.int .i64 ke, .int .i64 se, .int .i64 re, .slice A3 n c3] := Bk.Blk.under hb0 (by (repeat (first | with_reducible assumption | (with_reducible apply Bk.Blk.newAt; focus (first | (simp [Bk.size_set]; done) | (simp [Bk.size_set]; omega))) | with_reducible apply Bk.Blk.drewN | with_reducible apply Bk.Blk.drew | with_reducible apply Bk.Blk.set_ | (with_reducible apply Bk.Blk.far; focus (dsimp only; first | omega | (simp; omega) | (simp; done))) | with_reducible apply Bk.Blk.alloc)))
  replace bg : Bk.Blk w27 (w8.heap.size) 27 #[.int .i64 ke, .int .i64 gse, .int .i64 re, .slice A5 n c5] := Bk.Blk.under hb0 (by (repeat (first | with_reducible assumption | (with_reducible apply Bk.Blk.newAt; focus (first | (simp [Bk.size_set]; done) | (simp [Bk.size_set]; omega))) | with_reducible apply Bk.Blk.drewN | with_reducible apply Bk.Blk.drew | with_reducible apply Bk.Blk.set_ | (with_reducible apply Bk.Blk.far; focus (dsimp only; first | omega | (simp; omega) | (simp; done))) | with_reducible apply Bk.Blk.alloc)))
  replace bgd : Bk.Blk w27 (w8.heap.size + 1) 29 #[.int .i64 pc, .slice D5 pm e5, .int .i64 mac] := Bk.Blk.under hb0 (by (repeat (first | with_reducible assumption | (with_reducible apply Bk.Blk.newAt; focus (first | (simp [Bk.size_set]; done) | (simp [Bk.size_set]; omega))) | with_reducible apply Bk.Blk.drewN | with_reducible apply Bk.Blk.drew | with_reducible apply Bk.Blk.set_ | (with_reducible apply Bk.Blk.far; focus (dsimp only; first | omega | (simp; omega) | (simp; done))) | with_reducible apply Bk.Blk.alloc)))
  replace bh : Bk.Blk w27 (w25.heap.size) 27 #[.int .i64 ke, .int .i64 gse, .int .i64 re, .slice A12 n c12] := Bk.Blk.under hb0 (by (repeat (first | with_reducible assumption | (with_reducible apply Bk.Blk.newAt; focus (first | (simp [Bk.size_set]; done) | (simp [Bk.size_set]; omega))) | with_reducible apply Bk.Blk.drewN | with_reducible apply Bk.Blk.drew | with_reducible apply Bk.Blk.set_ | (with_reducible apply Bk.Blk.far; focus (dsimp only; first | omega | (simp; omega) | (simp; done))) | with_reducible apply Bk.Blk.alloc)))
  replace bhd : Bk.Blk w27 (w25.heap.size + 1) 29 #[.int .i64 pc, .slice D12 pm e12, .int .i64 mac] := Bk.Blk.under hb0 (by (repeat (first | with_reducible assumption | (with_reducible apply Bk.Blk.newAt; focus (first | (simp [Bk.size_set]; done) | (simp [Bk.size_set]; omega))) | with_reducible apply Bk.Blk.drewN | with_reducible apply Bk.Blk.drew | with_reducible apply Bk.Blk.set_ | (with_reducible apply Bk.Blk.far; focus (dsimp only; first | omega | (simp; omega) | (simp; done))) | with_reducible apply Bk.Blk.alloc)))
  replace OK := Lib.hid (OK.out.below hst (by omega))
  replace OD := Lib.hid (OD.out.below hst (by omega))
  replace D := stepW D hst
  clear H12D
  replace B : Below w.heap.size w w27 := Below.trans (by go_grown) (hb0.mono (by first | omega | (simp [Bk.size_set]; done) | (simp [Bk.size_set]; omega)))
  have z27 := hb0.size
  (try simp only [World.size_alloc, Bk.size_set, World.size_drew, World.drewN] at z27)
  clear hb0
  clear hst
  have L_ba := Lay.f4 ba
  have L_b0 := Lay.f4 b0
  have L_b0d := Lay.f3 b0d
  have L_bx := Lay.f4 bx
  have L_bg := Lay.f4 bg
  have L_bgd := Lay.f3 bgd
  have L_bh := Lay.f4 bh
  have L_bhd := Lay.f3 bhd
  go_wp2_with fail
  clear L_ba L_b0 L_b0d L_bx L_bg L_bgd L_bh L_bhd
  refine (heldKs_any ke gse re A5 n c5 1 _ OK.out.rd (by omega) (by omega) (by omega)).mono ?_
  rintro x w28 ⟨rfl, hb0⟩
  rw [HKK.out]
  have hst : Below w27.heap.size w27 w28 := Below.trans (by go_grown) (hb0.mono (by first | omega | (simp; done) | (simp; omega)))
  replace ba : Bk.Blk w28 (w.heap.size) 24 #[.int .i64 ke, .int .i64 se, .int .i64 re, .slice A n c] := Bk.Blk.under hb0 (by (repeat (first | with_reducible assumption | (with_reducible apply Bk.Blk.newAt; focus (first | (simp [Bk.size_set]; done) | (simp [Bk.size_set]; omega))) | with_reducible apply Bk.Blk.drewN | with_reducible apply Bk.Blk.drew | with_reducible apply Bk.Blk.set_ | (with_reducible apply Bk.Blk.far; focus (dsimp only; first | omega | (simp; omega) | (simp; done))) | with_reducible apply Bk.Blk.alloc)))
  replace b0 : Bk.Blk w28 (w5.heap.size) 27 #[.int .i64 ke, .int .i64 gse, .int .i64 re, .slice A2 n c2] := Bk.Blk.under hb0 (by (repeat (first | with_reducible assumption | (with_reducible apply Bk.Blk.newAt; focus (first | (simp [Bk.size_set]; done) | (simp [Bk.size_set]; omega))) | with_reducible apply Bk.Blk.drewN | with_reducible apply Bk.Blk.drew | with_reducible apply Bk.Blk.set_ | (with_reducible apply Bk.Blk.far; focus (dsimp only; first | omega | (simp; omega) | (simp; done))) | with_reducible apply Bk.Blk.alloc)))
  replace b0d : Bk.Blk w28 (w5.heap.size + 1) 29 #[.int .i64 pc, .slice D2 pm e2, .int .i64 mac] := Bk.Blk.under hb0 (by (repeat (first | with_reducible assumption | (with_reducible apply Bk.Blk.newAt; focus (first | (simp [Bk.size_set]; done) | (simp [Bk.size_set]; omega))) | with_reducible apply Bk.Blk.drewN | with_reducible apply Bk.Blk.drew | with_reducible apply Bk.Blk.set_ | (with_reducible apply Bk.Blk.far; focus (dsimp only; first | omega | (simp; omega) | (simp; done))) | with_reducible apply Bk.Blk.alloc)))
  replace bx : Bk.Blk w28 (w6.heap.size) 27 #[.int .i64 ke, .int .i64 se, .int .i64 re, .slice A3 n c3] := Bk.Blk.under hb0 (by (repeat (first | with_reducible assumption | (with_reducible apply Bk.Blk.newAt; focus (first | (simp [Bk.size_set]; done) | (simp [Bk.size_set]; omega))) | with_reducible apply Bk.Blk.drewN | with_reducible apply Bk.Blk.drew | with_reducible apply Bk.Blk.set_ | (with_reducible apply Bk.Blk.far; focus (dsimp only; first | omega | (simp; omega) | (simp; done))) | with_reducible apply Bk.Blk.alloc)))
  replace bg : Bk.Blk w28 (w8.heap.size) 27 #[.int .i64 ke, .int .i64 gse, .int .i64 re, .slice A5 n c5] := Bk.Blk.under hb0 (by (repeat (first | with_reducible assumption | (with_reducible apply Bk.Blk.newAt; focus (first | (simp [Bk.size_set]; done) | (simp [Bk.size_set]; omega))) | with_reducible apply Bk.Blk.drewN | with_reducible apply Bk.Blk.drew | with_reducible apply Bk.Blk.set_ | (with_reducible apply Bk.Blk.far; focus (dsimp only; first | omega | (simp; omega) | (simp; done))) | with_reducible apply Bk.Blk.alloc)))
  replace bgd : Bk.Blk w28 (w8.heap.size + 1) 29 #[.int .i64 pc, .slice D5 pm e5, .int .i64 mac] := Bk.Blk.under hb0 (by (repeat (first | with_reducible assumption | (with_reducible apply Bk.Blk.newAt; focus (first | (simp [Bk.size_set]; done) | (simp [Bk.size_set]; omega))) | with_reducible apply Bk.Blk.drewN | with_reducible apply Bk.Blk.drew | with_reducible apply Bk.Blk.set_ | (with_reducible apply Bk.Blk.far; focus (dsimp only; first | omega | (simp; omega) | (simp; done))) | with_reducible apply Bk.Blk.alloc)))
  replace bh : Bk.Blk w28 (w25.heap.size) 27 #[.int .i64 ke, .int .i64 gse, .int .i64 re, .slice A12 n c12] := Bk.Blk.under hb0 (by (repeat (first | with_reducible assumption | (with_reducible apply Bk.Blk.newAt; focus (first | (simp [Bk.size_set]; done) | (simp [Bk.size_set]; omega))) | with_reducible apply Bk.Blk.drewN | with_reducible apply Bk.Blk.drew | with_reducible apply Bk.Blk.set_ | (with_reducible apply Bk.Blk.far; focus (dsimp only; first | omega | (simp; omega) | (simp; done))) | with_reducible apply Bk.Blk.alloc)))
  replace bhd : Bk.Blk w28 (w25.heap.size + 1) 29 #[.int .i64 pc, .slice D12 pm e12, .int .i64 mac] := Bk.Blk.under hb0 (by (repeat (first | with_reducible assumption | (with_reducible apply Bk.Blk.newAt; focus (first | (simp [Bk.size_set]; done) | (simp [Bk.size_set]; omega))) | with_reducible apply Bk.Blk.drewN | with_reducible apply Bk.Blk.drew | with_reducible apply Bk.Blk.set_ | (with_reducible apply Bk.Blk.far; focus (dsimp only; first | omega | (simp; omega) | (simp; done))) | with_reducible apply Bk.Blk.alloc)))
  replace OK := Lib.hid (OK.out.below hst (by omega))
  replace OD := Lib.hid (OD.out.below hst (by omega))
  replace D := stepW D hst
  replace B : Below w.heap.size w w28 := Below.trans (by go_grown) (hb0.mono (by first | omega | (simp [Bk.size_set]; done) | (simp [Bk.size_set]; omega)))
  have z28 := hb0.size
  (try simp only [World.size_alloc, Bk.size_set, World.size_drew, World.drewN] at z28)
  clear hb0
  clear hst
  have L_ba := Lay.f4 ba
  have L_b0 := Lay.f4 b0
  have L_b0d := Lay.f3 b0d
  have L_bx := Lay.f4 bx
  have L_bg := Lay.f4 bg
  have L_bgd := Lay.f3 bgd
  have L_bh := Lay.f4 bh
  have L_bhd := Lay.f3 bhd
  go_wp2_with fail
  clear L_ba L_b0 L_b0d L_bx L_bg L_bgd L_bh L_bhd
  refine (heldPf_any pc mac D5 pm e5 K _ OD.out.rd HKB.out.1 (by have := HKB.out.2; omega) (by omega)).mono ?_
  rintro x w29 ⟨rfl, hb0⟩
  rw [HMM.out]
  have hst : Below w28.heap.size w28 w29 := Below.trans (by go_grown) (hb0.mono (by first | omega | (simp; done) | (simp; omega)))
  replace ba : Bk.Blk w29 (w.heap.size) 24 #[.int .i64 ke, .int .i64 se, .int .i64 re, .slice A n c] := Bk.Blk.under hb0 (by (repeat (first | with_reducible assumption | (with_reducible apply Bk.Blk.newAt; focus (first | (simp [Bk.size_set]; done) | (simp [Bk.size_set]; omega))) | with_reducible apply Bk.Blk.drewN | with_reducible apply Bk.Blk.drew | with_reducible apply Bk.Blk.set_ | (with_reducible apply Bk.Blk.far; focus (dsimp only; first | omega | (simp; omega) | (simp; done))) | with_reducible apply Bk.Blk.alloc)))
  replace b0 : Bk.Blk w29 (w5.heap.size) 27 #[.int .i64 ke, .int .i64 gse, .int .i64 re, .slice A2 n c2] := Bk.Blk.under hb0 (by (repeat (first | with_reducible assumption | (with_reducible apply Bk.Blk.newAt; focus (first | (simp [Bk.size_set]; done) | (simp [Bk.size_set]; omega))) | with_reducible apply Bk.Blk.drewN | with_reducible apply Bk.Blk.drew | with_reducible apply Bk.Blk.set_ | (with_reducible apply Bk.Blk.far; focus (dsimp only; first | omega | (simp; omega) | (simp; done))) | with_reducible apply Bk.Blk.alloc)))
  replace b0d : Bk.Blk w29 (w5.heap.size + 1) 29 #[.int .i64 pc, .slice D2 pm e2, .int .i64 mac] := Bk.Blk.under hb0 (by (repeat (first | with_reducible assumption | (with_reducible apply Bk.Blk.newAt; focus (first | (simp [Bk.size_set]; done) | (simp [Bk.size_set]; omega))) | with_reducible apply Bk.Blk.drewN | with_reducible apply Bk.Blk.drew | with_reducible apply Bk.Blk.set_ | (with_reducible apply Bk.Blk.far; focus (dsimp only; first | omega | (simp; omega) | (simp; done))) | with_reducible apply Bk.Blk.alloc)))
  replace bx : Bk.Blk w29 (w6.heap.size) 27 #[.int .i64 ke, .int .i64 se, .int .i64 re, .slice A3 n c3] := Bk.Blk.under hb0 (by (repeat (first | with_reducible assumption | (with_reducible apply Bk.Blk.newAt; focus (first | (simp [Bk.size_set]; done) | (simp [Bk.size_set]; omega))) | with_reducible apply Bk.Blk.drewN | with_reducible apply Bk.Blk.drew | with_reducible apply Bk.Blk.set_ | (with_reducible apply Bk.Blk.far; focus (dsimp only; first | omega | (simp; omega) | (simp; done))) | with_reducible apply Bk.Blk.alloc)))
  replace bg : Bk.Blk w29 (w8.heap.size) 27 #[.int .i64 ke, .int .i64 gse, .int .i64 re, .slice A5 n c5] := Bk.Blk.under hb0 (by (repeat (first | with_reducible assumption | (with_reducible apply Bk.Blk.newAt; focus (first | (simp [Bk.size_set]; done) | (simp [Bk.size_set]; omega))) | with_reducible apply Bk.Blk.drewN | with_reducible apply Bk.Blk.drew | with_reducible apply Bk.Blk.set_ | (with_reducible apply Bk.Blk.far; focus (dsimp only; first | omega | (simp; omega) | (simp; done))) | with_reducible apply Bk.Blk.alloc)))
  replace bgd : Bk.Blk w29 (w8.heap.size + 1) 29 #[.int .i64 pc, .slice D5 pm e5, .int .i64 mac] := Bk.Blk.under hb0 (by (repeat (first | with_reducible assumption | (with_reducible apply Bk.Blk.newAt; focus (first | (simp [Bk.size_set]; done) | (simp [Bk.size_set]; omega))) | with_reducible apply Bk.Blk.drewN | with_reducible apply Bk.Blk.drew | with_reducible apply Bk.Blk.set_ | (with_reducible apply Bk.Blk.far; focus (dsimp only; first | omega | (simp; omega) | (simp; done))) | with_reducible apply Bk.Blk.alloc)))
  replace bh : Bk.Blk w29 (w25.heap.size) 27 #[.int .i64 ke, .int .i64 gse, .int .i64 re, .slice A12 n c12] := Bk.Blk.under hb0 (by (repeat (first | with_reducible assumption | (with_reducible apply Bk.Blk.newAt; focus (first | (simp [Bk.size_set]; done) | (simp [Bk.size_set]; omega))) | with_reducible apply Bk.Blk.drewN | with_reducible apply Bk.Blk.drew | with_reducible apply Bk.Blk.set_ | (with_reducible apply Bk.Blk.far; focus (dsimp only; first | omega | (simp; omega) | (simp; done))) | with_reducible apply Bk.Blk.alloc)))
  replace bhd : Bk.Blk w29 (w25.heap.size + 1) 29 #[.int .i64 pc, .slice D12 pm e12, .int .i64 mac] := Bk.Blk.under hb0 (by (repeat (first | with_reducible assumption | (with_reducible apply Bk.Blk.newAt; focus (first | (simp [Bk.size_set]; done) | (simp [Bk.size_set]; omega))) | with_reducible apply Bk.Blk.drewN | with_reducible apply Bk.Blk.drew | with_reducible apply Bk.Blk.set_ | (with_reducible apply Bk.Blk.far; focus (dsimp only; first | omega | (simp; omega) | (simp; done))) | with_reducible apply Bk.Blk.alloc)))
  replace OK := Lib.hid (OK.out.below hst (by omega))
  replace OD := Lib.hid (OD.out.below hst (by omega))
  replace D := stepW D hst
  replace B : Below w.heap.size w w29 := Below.trans (by go_grown) (hb0.mono (by first | omega | (simp [Bk.size_set]; done) | (simp [Bk.size_set]; omega)))
  have z29 := hb0.size
  (try simp only [World.size_alloc, Bk.size_set, World.size_drew, World.drewN] at z29)
  clear hb0
  clear hst
  have L_ba := Lay.f4 ba
  have L_b0 := Lay.f4 b0
  have L_b0d := Lay.f3 b0d
  have L_bx := Lay.f4 bx
  have L_bg := Lay.f4 bg
  have L_bgd := Lay.f3 bgd
  have L_bh := Lay.f4 bh
  have L_bhd := Lay.f3 bhd
  go_wp2
  go_ret
  exact ⟨rfl, B⟩
theorem prot_big (ke se re : Int) (A : Option Addr) (n c : Nat) (Bd : Option Addr) (m db : Nat) (w : World) (hn : n ≤ 9223372036854775807) (hm : m ≤ 9223372036854775807) (h : 1048576 < n ∨ 1048576 < m) :
    Calls Tryd.prog 3 #[.agg #[.int .i64 ke, .int .i64 se, .int .i64 re, .slice A n c], .slice Bd m db] w fun x w' => x = .returned (.bool true) ∧ Below w.heap.size w w' := by
  by_cases h2 : 1048576 < (m : Int)
  · clear h
    go_enter Tryd.func3, Tryd.ntmps3
    go_wp2
    go_ret
    exact ⟨rfl, by go_grown⟩
  · have h3 : 1048576 < n := by omega
    clear h
    go_enter Tryd.func3, Tryd.ntmps3
    go_wp2_with fail
    refine (szKs_any ke se re A n c 1048576 _ (by omega) (by omega) hn).mono ?_
    rintro x w1 ⟨rfl, hb⟩
    rw [if_pos (by omega)]
    have HB := Lib.hid (show Below w.heap.size w w1 from Below.trans (by go_grown) (hb.mono (by simp)))
    clear hb
    go_wp2
    go_ret
    exact ⟨rfl, HB.out⟩
theorem prot_law (ke se re : Int) (A : Option Addr) (n c : Nat) (zs : List Int) (Bd : Option Addr) (m db : Nat) (bs : List Int) (w : World) (ht : Tab w) (_h0 : (Lit.int .i64 ke).wf = true) (_h1 : (Lit.int .i64 se).wf = true) (_h2 : (Lit.int .i64 re).wf = true) (hr : RowIn .i64 w A n c zs) (h2 : RowIn .u8 w Bd m db bs) :
    Calls Tryd.prog 3 #[.agg #[.int .i64 ke, .int .i64 se, .int .i64 re, .slice A n c], .slice Bd m db] w fun x w' => x = .returned (.bool true) ∧ Below w.heap.size w w' := by
  have hm : m ≤ 9223372036854775807 := by have h1 := h2.1.2.1; have h3 := h2.1.2.2.1; unfold maxLen at h3; omega
  have hn : n ≤ 9223372036854775807 := by have h1 := hr.1.2.1; have h3 := hr.1.2.2.1; unfold maxLen at h3; omega
  by_cases h : 1048576 < n ∨ 1048576 < m
  · exact prot_big ke se re A n c Bd m db w hn hm h
  · obtain ⟨gse, pc, pm, ps, mac, ok, hk⟩ := protR_is ke se re zs n m bs
    exact prot_core ke se re A n c zs Bd m db bs gse pc pm ps mac ok w hk ht hr.1 h2.1 (bytes_of_row h2) (by omega) (by omega)
end Go.Proofs.YtgbmbnofnhhblaaDoor.Seal
