/- The walk of the law on KeepGroupFrame. -/
import Derived.Test.YthdieeaegplnmaaKeepA
import Derived.Test.YthdieeaegplnmaaKeep
namespace Go.Proofs.Ythdieeaegplnmaa.Gb
open Go.RowKit
open Go.Proofs.Ythdieeaegplnmaa.Num Go.Proofs.Ythdieeaegplnmaa.Mem Go.Proofs.Ythdieeaegplnmaa.Hsh Go.Proofs.Ythdieeaegplnmaa.Sls Go.Proofs.Ythdieeaegplnmaa.Own Go.Proofs.Ythdieeaegplnmaa.SS Go.Proofs.Ythdieeaegplnmaa.Bcn
set_option linter.unusedSimpArgs false
set_option linter.unusedVariables false
theorem blk_turned {w w' : World} {lo hi g : Nat} {t : TypeId} {cs : Array Value} (h : Bk.Blk w g t cs) (ht : Turned lo hi w w') (hd : g < lo ∨ hi ≤ g) : Bk.Blk w' g t cs := (ht.block g h.lt hd).trans h
theorem turned_only {w w' : World} {lo hi n c : Nat} {e : TypeId} {sz : Nat} {A : Option Addr} {xs : List Value} (h : Own w lo hi e sz A n c xs) (hg : w.grownBy w' (blk A)) : Turned lo hi w w' :=
  (Turned.refl lo hi w).grown hg (fun g hA => ⟨(blk_of_own h.1 g hA).1, h.2 g hA⟩)
theorem rdss_turned {w w' : World} {lo hi n c : Nat} {A : Option Addr} {xss : List (List Int)} {w5 : World} (h : RdSS w5 A n c xss) (D : Below w5.heap.size w5 w) (ht : Turned lo hi w w') (h1 : w5.heap.size ≤ lo) (h2 : w5.heap.size ≤ w.heap.size) : RdSS w' A n c xss := h.below (Below.trans D (ht.below h1 h2))
theorem markGb1 (pe l : Int) (A : Option Addr) (n c : Nat) (xs : List (List Int)) (k : Int) (lo hi : Nat) (w : World) (h : OwnSS w lo hi A n c xs) (k0 : 0 ≤ k) (k1 : k ≤ 4194304) (hm : n ≤ 2097152) (ht : totL xs ≤ 2097152) (hh : hi ≤ w.heap.size) :
    Calls Try.prog 16 #[.agg #[.int .i64 pe, .slice A n c, .int .i64 l], .int .i64 k] w fun x w' => x = .returned (.int .i64 (k + (totL xs : Int))) ∧ OwnSS w' lo hi A n c (mSS k xs) ∧ Turned lo hi w w' := by
  have HO := Lib.hid h
  have HT := Lib.hid ht
  have HK := Lib.hid (show 0 ≤ k + (totL xs : Int) by omega)
  have HK1 := Lib.hid (show k + (totL xs : Int) ≤ 8388608 by omega)
  clear h ht
  go_enter Try.func16, Try.ntmps16
  go_wp2_with fail
  refine (markSS_any A n c xs k lo hi _ (HO.out.below ((Below.refl _ _).alloc hh _) (Nat.le_refl _)) k0 k1 hm HT.out).mono ?_
  rintro x w1 ⟨rfl, ho, ht⟩
  have H1 := Lib.hid ho
  have H2 := Lib.hid (Turned.trans (Turned.of_below ((Below.refl w.heap.size w).alloc (Nat.le_refl _) _) lo hi) ht)
  clear ho ht
  go_wp2
  go_ret
  exact ⟨rfl, H1.out, H2.out⟩
/-- what keeping a frame makes of the buffer -/
def KeepR (pe lo : Int) (xss : List (List Int)) (n : Nat) (bs : List Int) (m : Nat) (lo' : Int) (n' : Nat) (xss' : List (List Int)) : Prop :=
  (¬ validG pe lo xss n ∧ lo = lo' ∧ n = n' ∧ xss = xss') ∨ (validG pe lo xss n ∧ (n = 6 ∨ (n < 6 ∧ 100 < m)) ∧ wrap64 (lo + 1) = lo' ∧ n = n' ∧ xss = xss') ∨ (validG pe lo xss n ∧ (n < 6 ∧ m ≤ 100) ∧ lo = lo' ∧ n + 1 = n' ∧ xss ++ [bs] = xss')
theorem keepR_is (pe lo : Int) (xss : List (List Int)) (n : Nat) (bs : List Int) (m : Nat) : ∃ lo' n' xss', KeepR pe lo xss n bs m lo' n' xss' := by
  by_cases h : validG pe lo xss n
  · have h6 : n ≤ 6 := h.1.2.1
    by_cases h2 : n < 6 ∧ m ≤ 100
    · exact ⟨_, _, _, .inr (.inr ⟨h, h2, rfl, rfl, rfl⟩)⟩
    · exact ⟨_, _, _, .inr (.inl ⟨h, by omega, rfl, rfl, rfl⟩)⟩
  · exact ⟨_, _, _, .inl ⟨h, rfl, rfl, rfl⟩⟩
theorem keep_impl (pe lo : Int) (A : Option Addr) (n c : Nat) (xss : List (List Int)) (B' : Option Addr) (m d : Nat) (bs : List Int) (lo' : Int) (n' : Nat) (xss' : List (List Int)) (w : World) (hk : KeepR pe lo xss n bs m lo' n' xss') (hr : RdSS w A n c xss) (hn : n ≤ 2097152) (hm : m ≤ 2097152) (hs : AllShort xss) (hbd : Rd w 1 B' m d (bs.map (Value.int .u8))) :
    Calls Try.prog 13 #[.agg #[.int .i64 pe, .slice A n c, .int .i64 lo], .slice B' m d] w (RetGb w pe lo' n' xss') := by
  rcases hk with ⟨h, rfl, rfl, rfl⟩ | ⟨h, h2, rfl, rfl, rfl⟩ | ⟨h, h2, rfl, rfl, rfl⟩
  · exact keep_no_impl pe lo A n c xss B' m d w h hr hn hs
  · exact keep_full_impl pe lo A n c xss B' m d w h h2 (by omega) hr hn hs
  · exact keep_app_impl pe lo A n c xss B' m d bs w h h2.1 h2.2 hr hs hbd
theorem keep_spec (pe lo : Int) (A : Option Addr) (n c : Nat) (xss : List (List Int)) (B' : Option Addr) (m d : Nat) (bs : List Int) (lo' : Int) (n' : Nat) (xss' : List (List Int)) (w : World) (hk : KeepR pe lo xss n bs m lo' n' xss') (hr : RdSS w A n c xss) (hn : n ≤ 2097152) (hm : m ≤ 2097152) (hs : AllShort xss) (hbd : Rd w 1 B' m d (bs.map (Value.int .u8))) :
    Calls Try.prog 10 #[.agg #[.int .i64 pe, .slice A n c, .int .i64 lo], .slice B' m d] w (RetGb w pe lo' n' xss') := by
  rcases hk with ⟨h, rfl, rfl, rfl⟩ | ⟨h, h2, rfl, rfl, rfl⟩ | ⟨h, h2, rfl, rfl, rfl⟩
  · exact keep_no_spec pe lo A n c xss B' m d w h hr hn hs
  · exact keep_full_spec pe lo A n c xss B' m d w h h2 (by omega) hr hn hs
  · exact keep_app_spec pe lo A n c xss B' m d bs w h h2.1 h2.2 hr hs hbd
set_option maxRecDepth 100000 in
set_option maxHeartbeats 16000000 in
theorem keep_core (pe lo : Int) (A : Option Addr) (n c : Nat) (zs : List (List Int)) (Bd : Option Addr) (m db : Nat) (bs : List Int) (glo : Int) (gn : Nat) (gs : List (List Int)) (w : World)
    (hk : KeepR pe lo zs n bs m glo gn gs) (hr : RdSS w A n c zs) (hbd : Rd w 1 Bd m db (bs.map (Value.int .u8))) (hn : n + totL zs ≤ 1048576) (hm : m ≤ 1048576) :
    Calls Try.prog 3 #[.agg #[.int .i64 pe, .slice A n c, .int .i64 lo], .slice Bd m db] w fun x w' => x = .returned (.bool true) ∧ Below w.heap.size w w' := by
  have hlen : bs.length = m := by have := hbd.1; simpa using this
  have hg : gn ≤ 1048577 ∧ totL gs ≤ 2097152 := by
    rcases hk with ⟨_, _, rfl, rfl⟩ | ⟨_, _, _, rfl, rfl⟩ | ⟨_, _, _, rfl, rfl⟩
    · omega
    · omega
    · rw [totL_app]; simp only [totL_cons, hlen]; have : totL [] = 0 := rfl; omega
  obtain ⟨g1, g2⟩ := hg
  have HR := Lib.hid hr
  have HBD := Lib.hid hbd
  have HSH := Lib.hid (short_of_tot (xss := zs) (by omega))
  have HS := Lib.hid (fun A c B d w h h2 => keep_spec pe lo A n c zs B m d bs glo gn gs w hk h (by omega) (by omega) HSH.out h2)
  have HI := Lib.hid (fun A c B d w h h2 => keep_impl pe lo A n c zs B m d bs glo gn gs w hk h (by omega) (by omega) HSH.out h2)
  have B : Below w.heap.size w w := Below.refl _ _
  have h00 : (0 : Int) ≤ 1048576 - ((n + totL zs : Nat) : Int) := by omega
  obtain ⟨K, hK⟩ : ∃ K : Int, 1 + (totL zs : Int) = K := ⟨_, rfl⟩
  obtain ⟨K1, hK1⟩ : ∃ K1 : Int, 1 + (totL gs : Int) = K1 := ⟨_, rfl⟩
  have HKK := Lib.hid hK
  have HK1 := Lib.hid hK1
  have k1a : ¬ K1 < 0 := by omega
  have k0a : ¬ K + (m : Int) < 0 := by omega
  have HKM := Lib.hid (show 0 ≤ K ∧ K ≤ 4194304 by omega)
  clear hr hbd hk hK hK1
  go_enter Try.func3, Try.ntmps3
  go_wp2_with fail
  generalize hW : World.alloc _ _ = w1
  have ba : Bk.Blk w1 (w.heap.size) 24 #[.int .i64 pe, .slice A n c, .int .i64 lo] := (by rw [← hW]; apply Bk.Blk.to; (focus ((repeat (first | with_reducible assumption | (with_reducible apply Bk.Blk.newAt; focus (first | (simp [Bk.size_set]; done) | (simp [Bk.size_set]; omega))) | with_reducible apply Bk.Blk.drewN | with_reducible apply Bk.Blk.drew | with_reducible apply Bk.Blk.set_ | (with_reducible apply Bk.Blk.far; focus (dsimp only; first | omega | (simp; omega) | (simp; done))) | with_reducible apply Bk.Blk.alloc)))); rfl)
  replace B : Below w.heap.size w w1 := (by rw [← hW]; go_grown)
  have z1 : w1.heap.size = _ := congrArg (fun W : World => W.heap.size) hW.symm
  (try simp only [World.size_alloc, Bk.size_set, World.size_drew, World.drewN] at z1)
  clear hW
  refine (szGb_any pe lo A n c zs 1048576 _ (HR.out.below B) (by omega) (by omega)).mono ?_
  rintro x w2 ⟨rfl, hb0⟩
  rw [szOf_ge (by omega)]
  replace ba : Bk.Blk w2 (w.heap.size) 24 #[.int .i64 pe, .slice A n c, .int .i64 lo] := Bk.Blk.under hb0 (by (repeat (first | with_reducible assumption | (with_reducible apply Bk.Blk.newAt; focus (first | (simp [Bk.size_set]; done) | (simp [Bk.size_set]; omega))) | with_reducible apply Bk.Blk.drewN | with_reducible apply Bk.Blk.drew | with_reducible apply Bk.Blk.set_ | (with_reducible apply Bk.Blk.far; focus (dsimp only; first | omega | (simp; omega) | (simp; done))) | with_reducible apply Bk.Blk.alloc)))
  replace B : Below w.heap.size w w2 := Below.trans (by go_grown) (hb0.mono (by first | omega | (simp [Bk.size_set]; done) | (simp [Bk.size_set]; omega)))
  have z2 := hb0.size
  (try simp only [World.size_alloc, Bk.size_set, World.size_drew, World.drewN] at z2)
  clear hb0
  have L_ba := Lay.f3 ba
  go_wp2_with fail
  clear L_ba
  refine (toGb_any pe lo A n c zs _ (HR.out.below B) (by omega) HSH.out).mono ?_
  rintro x w3 ⟨A1, c1, rfl, hown, hb0⟩
  have H1 := Lib.hid hown.rd
  replace ba : Bk.Blk w3 (w.heap.size) 24 #[.int .i64 pe, .slice A n c, .int .i64 lo] := Bk.Blk.under hb0 (by (repeat (first | with_reducible assumption | (with_reducible apply Bk.Blk.newAt; focus (first | (simp [Bk.size_set]; done) | (simp [Bk.size_set]; omega))) | with_reducible apply Bk.Blk.drewN | with_reducible apply Bk.Blk.drew | with_reducible apply Bk.Blk.set_ | (with_reducible apply Bk.Blk.far; focus (dsimp only; first | omega | (simp; omega) | (simp; done))) | with_reducible apply Bk.Blk.alloc)))
  replace B : Below w.heap.size w w3 := Below.trans (by go_grown) (hb0.mono (by first | omega | (simp [Bk.size_set]; done) | (simp [Bk.size_set]; omega)))
  have z3 := hb0.size
  (try simp only [World.size_alloc, Bk.size_set, World.size_drew, World.drewN] at z3)
  clear hb0
  clear hown
  have L_ba := Lay.f3 ba
  go_wp2_with fail
  clear L_ba
  refine (toByteS_any Bd m db bs _ (HBD.out.below B) (by omega)).mono ?_
  rintro x w4 ⟨B1, d1, rfl, hown, hb0⟩
  replace H1 := Lib.hid (H1.out.below hb0)
  have H2 := Lib.hid (Rd.of_own hown)
  replace ba : Bk.Blk w4 (w.heap.size) 24 #[.int .i64 pe, .slice A n c, .int .i64 lo] := Bk.Blk.under hb0 (by (repeat (first | with_reducible assumption | (with_reducible apply Bk.Blk.newAt; focus (first | (simp [Bk.size_set]; done) | (simp [Bk.size_set]; omega))) | with_reducible apply Bk.Blk.drewN | with_reducible apply Bk.Blk.drew | with_reducible apply Bk.Blk.set_ | (with_reducible apply Bk.Blk.far; focus (dsimp only; first | omega | (simp; omega) | (simp; done))) | with_reducible apply Bk.Blk.alloc)))
  replace B : Below w.heap.size w w4 := Below.trans (by go_grown) (hb0.mono (by first | omega | (simp [Bk.size_set]; done) | (simp [Bk.size_set]; omega)))
  have z4 := hb0.size
  (try simp only [World.size_alloc, Bk.size_set, World.size_drew, World.drewN] at z4)
  clear hb0
  clear hown
  have L_ba := Lay.f3 ba
  go_wp2_with fail
  clear L_ba
  refine (HS.out A1 c1 B1 d1 _ H1.out H2.out).mono ?_
  rintro x w5 ⟨A2, c2, rfl, hown, hb0⟩
  have H0 := Lib.hid hown.rd
  replace ba : Bk.Blk w5 (w.heap.size) 24 #[.int .i64 pe, .slice A n c, .int .i64 lo] := Bk.Blk.under hb0 (by (repeat (first | with_reducible assumption | (with_reducible apply Bk.Blk.newAt; focus (first | (simp [Bk.size_set]; done) | (simp [Bk.size_set]; omega))) | with_reducible apply Bk.Blk.drewN | with_reducible apply Bk.Blk.drew | with_reducible apply Bk.Blk.set_ | (with_reducible apply Bk.Blk.far; focus (dsimp only; first | omega | (simp; omega) | (simp; done))) | with_reducible apply Bk.Blk.alloc)))
  replace B : Below w.heap.size w w5 := Below.trans (by go_grown) (hb0.mono (by first | omega | (simp [Bk.size_set]; done) | (simp [Bk.size_set]; omega)))
  have z5 := hb0.size
  (try simp only [World.size_alloc, Bk.size_set, World.size_drew, World.drewN] at z5)
  clear hb0
  clear hown H1 H2 HS
  have D : Below w5.heap.size w5 w5 := Below.refl _ _
  have L_ba := Lay.f3 ba
  go_wp2_with fail
  clear L_ba
  refine (toGb_any pe lo A n c zs _ ((HR.out.below B).alloc _) (by omega) HSH.out).mono ?_
  rintro x w6 ⟨A3, c3, rfl, hown, hb0⟩
  have hst : Below w5.heap.size w5 w6 := Below.trans (by go_grown) (hb0.mono (by first | omega | (simp; done) | (simp; omega)))
  have b0 : Bk.Blk w6 (w5.heap.size) 27 #[.int .i64 pe, .slice A2 gn c2, .int .i64 glo] := (by apply Bk.Blk.to; (focus (apply Bk.Blk.under hb0; (repeat (first | with_reducible assumption | (with_reducible apply Bk.Blk.newAt; focus (first | (simp [Bk.size_set]; done) | (simp [Bk.size_set]; omega))) | with_reducible apply Bk.Blk.drewN | with_reducible apply Bk.Blk.drew | with_reducible apply Bk.Blk.set_ | (with_reducible apply Bk.Blk.far; focus (dsimp only; first | omega | (simp; omega) | (simp; done))) | with_reducible apply Bk.Blk.alloc)))); rfl)
  replace ba : Bk.Blk w6 (w.heap.size) 24 #[.int .i64 pe, .slice A n c, .int .i64 lo] := Bk.Blk.under hb0 (by (repeat (first | with_reducible assumption | (with_reducible apply Bk.Blk.newAt; focus (first | (simp [Bk.size_set]; done) | (simp [Bk.size_set]; omega))) | with_reducible apply Bk.Blk.drewN | with_reducible apply Bk.Blk.drew | with_reducible apply Bk.Blk.set_ | (with_reducible apply Bk.Blk.far; focus (dsimp only; first | omega | (simp; omega) | (simp; done))) | with_reducible apply Bk.Blk.alloc)))
  replace D := stepW D hst
  have OX := Lib.hid (show OwnSS w6 (w5.heap.size + 1) w6.heap.size A3 n c3 zs from by simpa using hown)
  clear hown
  replace B : Below w.heap.size w w6 := Below.trans (by go_grown) (hb0.mono (by first | omega | (simp [Bk.size_set]; done) | (simp [Bk.size_set]; omega)))
  have z6 := hb0.size
  (try simp only [World.size_alloc, Bk.size_set, World.size_drew, World.drewN] at z6)
  clear hb0
  clear hst
  have L_ba := Lay.f3 ba
  have L_b0 := Lay.f3 b0
  go_wp2_with fail
  clear L_ba L_b0
  refine (toByteS_any Bd m db bs _ ((HBD.out.below B).alloc _) (by omega)).mono ?_
  rintro x w7 ⟨A4, c4, rfl, hown, hb0⟩
  have hst : Below w6.heap.size w6 w7 := Below.trans (by go_grown) (hb0.mono (by first | omega | (simp; done) | (simp; omega)))
  have bx : Bk.Blk w7 (w6.heap.size) 27 #[.int .i64 pe, .slice A3 n c3, .int .i64 lo] := (by apply Bk.Blk.to; (focus (apply Bk.Blk.under hb0; (repeat (first | with_reducible assumption | (with_reducible apply Bk.Blk.newAt; focus (first | (simp [Bk.size_set]; done) | (simp [Bk.size_set]; omega))) | with_reducible apply Bk.Blk.drewN | with_reducible apply Bk.Blk.drew | with_reducible apply Bk.Blk.set_ | (with_reducible apply Bk.Blk.far; focus (dsimp only; first | omega | (simp; omega) | (simp; done))) | with_reducible apply Bk.Blk.alloc)))); rfl)
  replace ba : Bk.Blk w7 (w.heap.size) 24 #[.int .i64 pe, .slice A n c, .int .i64 lo] := Bk.Blk.under hb0 (by (repeat (first | with_reducible assumption | (with_reducible apply Bk.Blk.newAt; focus (first | (simp [Bk.size_set]; done) | (simp [Bk.size_set]; omega))) | with_reducible apply Bk.Blk.drewN | with_reducible apply Bk.Blk.drew | with_reducible apply Bk.Blk.set_ | (with_reducible apply Bk.Blk.far; focus (dsimp only; first | omega | (simp; omega) | (simp; done))) | with_reducible apply Bk.Blk.alloc)))
  replace b0 : Bk.Blk w7 (w5.heap.size) 27 #[.int .i64 pe, .slice A2 gn c2, .int .i64 glo] := Bk.Blk.under hb0 (by (repeat (first | with_reducible assumption | (with_reducible apply Bk.Blk.newAt; focus (first | (simp [Bk.size_set]; done) | (simp [Bk.size_set]; omega))) | with_reducible apply Bk.Blk.drewN | with_reducible apply Bk.Blk.drew | with_reducible apply Bk.Blk.set_ | (with_reducible apply Bk.Blk.far; focus (dsimp only; first | omega | (simp; omega) | (simp; done))) | with_reducible apply Bk.Blk.alloc)))
  replace OX := Lib.hid (OX.out.below hst (by omega))
  replace D := stepW D hst
  have X1 := Lib.hid (show Own w7 (w6.heap.size + 1) w7.heap.size 5 1 A4 m c4 (bs.map (Value.int .u8)) from Own.of (by simpa using hown))
  clear hown
  replace B : Below w.heap.size w w7 := Below.trans (by go_grown) (hb0.mono (by first | omega | (simp [Bk.size_set]; done) | (simp [Bk.size_set]; omega)))
  have z7 := hb0.size
  (try simp only [World.size_alloc, Bk.size_set, World.size_drew, World.drewN] at z7)
  clear hb0
  clear hst
  have L_ba := Lay.f3 ba
  have L_b0 := Lay.f3 b0
  have L_bx := Lay.f3 bx
  go_wp2_with fail
  clear L_ba L_b0 L_bx
  refine (HI.out A3 c3 A4 c4 _ OX.out.rd X1.out.rd).mono ?_
  rintro x w8 ⟨A5, c5, rfl, hown, hb0⟩
  have hst : Below w7.heap.size w7 w8 := Below.trans (by go_grown) (hb0.mono (by first | omega | (simp; done) | (simp; omega)))
  replace ba : Bk.Blk w8 (w.heap.size) 24 #[.int .i64 pe, .slice A n c, .int .i64 lo] := Bk.Blk.under hb0 (by (repeat (first | with_reducible assumption | (with_reducible apply Bk.Blk.newAt; focus (first | (simp [Bk.size_set]; done) | (simp [Bk.size_set]; omega))) | with_reducible apply Bk.Blk.drewN | with_reducible apply Bk.Blk.drew | with_reducible apply Bk.Blk.set_ | (with_reducible apply Bk.Blk.far; focus (dsimp only; first | omega | (simp; omega) | (simp; done))) | with_reducible apply Bk.Blk.alloc)))
  replace b0 : Bk.Blk w8 (w5.heap.size) 27 #[.int .i64 pe, .slice A2 gn c2, .int .i64 glo] := Bk.Blk.under hb0 (by (repeat (first | with_reducible assumption | (with_reducible apply Bk.Blk.newAt; focus (first | (simp [Bk.size_set]; done) | (simp [Bk.size_set]; omega))) | with_reducible apply Bk.Blk.drewN | with_reducible apply Bk.Blk.drew | with_reducible apply Bk.Blk.set_ | (with_reducible apply Bk.Blk.far; focus (dsimp only; first | omega | (simp; omega) | (simp; done))) | with_reducible apply Bk.Blk.alloc)))
  replace bx : Bk.Blk w8 (w6.heap.size) 27 #[.int .i64 pe, .slice A3 n c3, .int .i64 lo] := Bk.Blk.under hb0 (by (repeat (first | with_reducible assumption | (with_reducible apply Bk.Blk.newAt; focus (first | (simp [Bk.size_set]; done) | (simp [Bk.size_set]; omega))) | with_reducible apply Bk.Blk.drewN | with_reducible apply Bk.Blk.drew | with_reducible apply Bk.Blk.set_ | (with_reducible apply Bk.Blk.far; focus (dsimp only; first | omega | (simp; omega) | (simp; done))) | with_reducible apply Bk.Blk.alloc)))
  replace OX := Lib.hid (OX.out.below hst (by omega))
  replace X1 := Lib.hid (X1.out.below hst (by omega))
  replace D := stepW D hst
  have OG := Lib.hid hown
  clear hown
  replace B : Below w.heap.size w w8 := Below.trans (by go_grown) (hb0.mono (by first | omega | (simp [Bk.size_set]; done) | (simp [Bk.size_set]; omega)))
  have z8 := hb0.size
  (try simp only [World.size_alloc, Bk.size_set, World.size_drew, World.drewN] at z8)
  clear hb0
  clear hst
  have L_ba := Lay.f3 ba
  have L_b0 := Lay.f3 b0
  have L_bx := Lay.f3 bx
  go_wp2_with fail
  clear L_ba L_b0 L_bx
  refine (eqGb_same pe glo A5 gn c5 A2 c2 gs _ (OG.out.rd.alloc _) ((H0.out.below D).alloc _)).mono ?_
  rintro x w9 ⟨rfl, hb0⟩
  have hst : Below w8.heap.size w8 w9 := Below.trans (by go_grown) (hb0.mono (by first | omega | (simp; done) | (simp; omega)))
  have bg : Bk.Blk w9 (w8.heap.size) 27 #[.int .i64 pe, .slice A5 gn c5, .int .i64 glo] := (by apply Bk.Blk.to; (focus (apply Bk.Blk.under hb0; (repeat (first | with_reducible assumption | (with_reducible apply Bk.Blk.newAt; focus (first | (simp [Bk.size_set]; done) | (simp [Bk.size_set]; omega))) | with_reducible apply Bk.Blk.drewN | with_reducible apply Bk.Blk.drew | with_reducible apply Bk.Blk.set_ | (with_reducible apply Bk.Blk.far; focus (dsimp only; first | omega | (simp; omega) | (simp; done))) | with_reducible apply Bk.Blk.alloc)))); rfl)
  replace ba : Bk.Blk w9 (w.heap.size) 24 #[.int .i64 pe, .slice A n c, .int .i64 lo] := Bk.Blk.under hb0 (by (repeat (first | with_reducible assumption | (with_reducible apply Bk.Blk.newAt; focus (first | (simp [Bk.size_set]; done) | (simp [Bk.size_set]; omega))) | with_reducible apply Bk.Blk.drewN | with_reducible apply Bk.Blk.drew | with_reducible apply Bk.Blk.set_ | (with_reducible apply Bk.Blk.far; focus (dsimp only; first | omega | (simp; omega) | (simp; done))) | with_reducible apply Bk.Blk.alloc)))
  replace b0 : Bk.Blk w9 (w5.heap.size) 27 #[.int .i64 pe, .slice A2 gn c2, .int .i64 glo] := Bk.Blk.under hb0 (by (repeat (first | with_reducible assumption | (with_reducible apply Bk.Blk.newAt; focus (first | (simp [Bk.size_set]; done) | (simp [Bk.size_set]; omega))) | with_reducible apply Bk.Blk.drewN | with_reducible apply Bk.Blk.drew | with_reducible apply Bk.Blk.set_ | (with_reducible apply Bk.Blk.far; focus (dsimp only; first | omega | (simp; omega) | (simp; done))) | with_reducible apply Bk.Blk.alloc)))
  replace bx : Bk.Blk w9 (w6.heap.size) 27 #[.int .i64 pe, .slice A3 n c3, .int .i64 lo] := Bk.Blk.under hb0 (by (repeat (first | with_reducible assumption | (with_reducible apply Bk.Blk.newAt; focus (first | (simp [Bk.size_set]; done) | (simp [Bk.size_set]; omega))) | with_reducible apply Bk.Blk.drewN | with_reducible apply Bk.Blk.drew | with_reducible apply Bk.Blk.set_ | (with_reducible apply Bk.Blk.far; focus (dsimp only; first | omega | (simp; omega) | (simp; done))) | with_reducible apply Bk.Blk.alloc)))
  replace OX := Lib.hid (OX.out.below hst (by omega))
  replace X1 := Lib.hid (X1.out.below hst (by omega))
  replace OG := Lib.hid (OG.out.below hst (by omega))
  replace D := stepW D hst
  replace B : Below w.heap.size w w9 := Below.trans (by go_grown) (hb0.mono (by first | omega | (simp [Bk.size_set]; done) | (simp [Bk.size_set]; omega)))
  have z9 := hb0.size
  (try simp only [World.size_alloc, Bk.size_set, World.size_drew, World.drewN] at z9)
  clear hb0
  clear hst
  have L_ba := Lay.f3 ba
  have L_b0 := Lay.f3 b0
  have L_bx := Lay.f3 bx
  have L_bg := Lay.f3 bg
  go_wp2_with fail
  refine wp_region_held_drew (S := (fun w' => Bk.Blk w' (w6.heap.size) 27 #[.int .i64 pe, .slice A3 n c3, .int .i64 lo] ∧ Bk.Blk w' (w.heap.size) 24 #[.int .i64 pe, .slice A n c, .int .i64 lo])) (by kernel_rfl) ?_ (fun hHeld => ?_)
  · (try dsimp only); (refine ⟨?_, ?_⟩ <;> (repeat (first | with_reducible assumption | (with_reducible apply Bk.Blk.newAt; focus (first | (simp [Bk.size_set]; done) | (simp [Bk.size_set]; omega))) | with_reducible apply Bk.Blk.drewN | with_reducible apply Bk.Blk.drew | with_reducible apply Bk.Blk.set_ | (with_reducible apply Bk.Blk.far; focus (dsimp only; first | omega | (simp; omega) | (simp; done))) | with_reducible apply Bk.Blk.alloc)))
  first | (refine wpAnyH_take (i := 0) (v := ?_) (Reg.get rfl) (by kernel_rfl) (by kernel_rfl) (by kernel_rfl) (fun _ _ _ h => h) (Or.inl ⟨by rfl, ?_⟩) hHeld ?_; rotate_left 1; (focus (intro wq hSw; (try dsimp only at hSw); obtain ⟨s_bx, s_ba⟩ := hSw; have L_bx := Lay.c3 s_bx; have L_ba := Lay.c3 s_ba;  go_simp <;> with_reducible rfl))) | (refine wpAnyH_take (i := 0) (v := undef) (Reg.get rfl) (by kernel_rfl) (by kernel_rfl) (by kernel_rfl) (fun _ _ _ h => h) (Or.inr ⟨by rfl, rfl⟩) hHeld ?_)
  try simp only [Act.put, List.setIfInBounds_toArray, List.set_cons_zero, List.set_cons_succ]
  first | (refine wpAnyH_take (i := 1) (v := ?_) (Reg.get rfl) (by kernel_rfl) (by kernel_rfl) (by kernel_rfl) (fun _ _ _ h => h) (Or.inl ⟨by rfl, ?_⟩) hHeld ?_; rotate_left 1; (focus (intro wq hSw; (try dsimp only at hSw); obtain ⟨s_bx, s_ba⟩ := hSw; have L_bx := Lay.c3 s_bx; have L_ba := Lay.c3 s_ba;  go_simp <;> with_reducible rfl))) | (refine wpAnyH_take (i := 1) (v := undef) (Reg.get rfl) (by kernel_rfl) (by kernel_rfl) (by kernel_rfl) (fun _ _ _ h => h) (Or.inr ⟨by rfl, rfl⟩) hHeld ?_)
  try simp only [Act.put, List.setIfInBounds_toArray, List.set_cons_zero, List.set_cons_succ]
  first | ((refine wpAnyH_take (i := 2) (v := undef) (Reg.get rfl) (by kernel_rfl) (by kernel_rfl) (by kernel_rfl) (fun _ _ _ h => h) (Or.inr ⟨by rfl, rfl⟩) hHeld ?_)) | (refine wpAnyH_ready (rs := [2]) (by kernel_rfl) (by simp) ?_; refine AllReadyH.cons (Reg.get rfl) (fun K hK => ?_) AllReadyH.nil; clear hHeld; go_simp; ((go_at_call 11; refine (toGb_any pe lo A n c zs _ (by exact (HR.out.below B).drewN 1) (by omega) HSH.out).mono ?_; rintro x w10 ⟨A8, c8, rfl, hown, hb0⟩; replace hb0 : Below w9.heap.size w9 w10 := ⟨hb0.os, hb0.tape, hb0.output, hb0.size, hb0.block⟩; have H8 := Lib.hid hown.rd; clear hown; replace OX := Lib.hid (OX.out.below hb0 (by omega)); replace X1 := Lib.hid (X1.out.below hb0 (by omega)); replace OG := Lib.hid (OG.out.below hb0 (by omega)); replace D := stepW D hb0; clear L_ba L_b0 L_bx L_bg; replace ba : Bk.Blk w10 (w.heap.size) 24 #[.int .i64 pe, .slice A n c, .int .i64 lo] := Bk.Blk.under hb0 (by (repeat (first | with_reducible assumption | (with_reducible apply Bk.Blk.newAt; focus (first | (simp [Bk.size_set]; done) | (simp [Bk.size_set]; omega))) | with_reducible apply Bk.Blk.drewN | with_reducible apply Bk.Blk.drew | with_reducible apply Bk.Blk.set_ | (with_reducible apply Bk.Blk.far; focus (dsimp only; first | omega | (simp; omega) | (simp; done))) | with_reducible apply Bk.Blk.alloc))); replace b0 : Bk.Blk w10 (w5.heap.size) 27 #[.int .i64 pe, .slice A2 gn c2, .int .i64 glo] := Bk.Blk.under hb0 (by (repeat (first | with_reducible assumption | (with_reducible apply Bk.Blk.newAt; focus (first | (simp [Bk.size_set]; done) | (simp [Bk.size_set]; omega))) | with_reducible apply Bk.Blk.drewN | with_reducible apply Bk.Blk.drew | with_reducible apply Bk.Blk.set_ | (with_reducible apply Bk.Blk.far; focus (dsimp only; first | omega | (simp; omega) | (simp; done))) | with_reducible apply Bk.Blk.alloc))); replace bx : Bk.Blk w10 (w6.heap.size) 27 #[.int .i64 pe, .slice A3 n c3, .int .i64 lo] := Bk.Blk.under hb0 (by (repeat (first | with_reducible assumption | (with_reducible apply Bk.Blk.newAt; focus (first | (simp [Bk.size_set]; done) | (simp [Bk.size_set]; omega))) | with_reducible apply Bk.Blk.drewN | with_reducible apply Bk.Blk.drew | with_reducible apply Bk.Blk.set_ | (with_reducible apply Bk.Blk.far; focus (dsimp only; first | omega | (simp; omega) | (simp; done))) | with_reducible apply Bk.Blk.alloc))); replace bg : Bk.Blk w10 (w8.heap.size) 27 #[.int .i64 pe, .slice A5 gn c5, .int .i64 glo] := Bk.Blk.under hb0 (by (repeat (first | with_reducible assumption | (with_reducible apply Bk.Blk.newAt; focus (first | (simp [Bk.size_set]; done) | (simp [Bk.size_set]; omega))) | with_reducible apply Bk.Blk.drewN | with_reducible apply Bk.Blk.drew | with_reducible apply Bk.Blk.set_ | (with_reducible apply Bk.Blk.far; focus (dsimp only; first | omega | (simp; omega) | (simp; done))) | with_reducible apply Bk.Blk.alloc))); replace B : Below w.heap.size w w10 := Below.trans (by go_grown) (hb0.mono (by first | omega | (simp [Bk.size_set]; done) | (simp [Bk.size_set]; omega))); have z10 := hb0.size; (try simp only [World.size_alloc, Bk.size_set, World.size_drew, World.drewN] at z10); clear hb0; have L_bx := Lay.f3 bx; have L_ba := Lay.f3 ba)); refine hK.out _ _ ?_ (fun hHeld => ?_); ((try dsimp only); (refine ⟨?_, ?_⟩ <;> (repeat (first | with_reducible assumption | (with_reducible apply Bk.Blk.newAt; focus (first | (simp [Bk.size_set]; done) | (simp [Bk.size_set]; omega))) | with_reducible apply Bk.Blk.drewN | with_reducible apply Bk.Blk.drew | with_reducible apply Bk.Blk.set_ | (with_reducible apply Bk.Blk.far; focus (dsimp only; first | omega | (simp; omega) | (simp; done))) | with_reducible apply Bk.Blk.alloc)))); clear hK K)
  try simp only [Act.put, List.setIfInBounds_toArray, List.set_cons_zero, List.set_cons_succ]
  first | ((refine wpAnyH_take (i := 3) (v := undef) (Reg.get rfl) (by kernel_rfl) (by kernel_rfl) (by kernel_rfl) (fun _ _ _ h => h) (Or.inr ⟨by rfl, rfl⟩) hHeld ?_)) | (refine wpAnyH_ready (rs := [3]) (by kernel_rfl) (by simp) ?_; refine AllReadyH.cons (Reg.get rfl) (fun K hK => ?_) AllReadyH.nil; clear hHeld; go_simp; ((go_at_call 14; refine (eqGb_same pe lo A3 n c3 A8 c8 zs _ (by exact OX.out.rd.drewN 1) (by exact H8.out.drewN 1)).mono ?_; rintro x w11 ⟨rfl, hb0⟩; replace hb0 : Below w10.heap.size w10 w11 := ⟨hb0.os, hb0.tape, hb0.output, hb0.size, hb0.block⟩; clear H8; replace OX := Lib.hid (OX.out.below hb0 (by omega)); replace X1 := Lib.hid (X1.out.below hb0 (by omega)); replace OG := Lib.hid (OG.out.below hb0 (by omega)); replace D := stepW D hb0; clear L_bx L_ba; replace ba : Bk.Blk w11 (w.heap.size) 24 #[.int .i64 pe, .slice A n c, .int .i64 lo] := Bk.Blk.under hb0 (by (repeat (first | with_reducible assumption | (with_reducible apply Bk.Blk.newAt; focus (first | (simp [Bk.size_set]; done) | (simp [Bk.size_set]; omega))) | with_reducible apply Bk.Blk.drewN | with_reducible apply Bk.Blk.drew | with_reducible apply Bk.Blk.set_ | (with_reducible apply Bk.Blk.far; focus (dsimp only; first | omega | (simp; omega) | (simp; done))) | with_reducible apply Bk.Blk.alloc))); replace b0 : Bk.Blk w11 (w5.heap.size) 27 #[.int .i64 pe, .slice A2 gn c2, .int .i64 glo] := Bk.Blk.under hb0 (by (repeat (first | with_reducible assumption | (with_reducible apply Bk.Blk.newAt; focus (first | (simp [Bk.size_set]; done) | (simp [Bk.size_set]; omega))) | with_reducible apply Bk.Blk.drewN | with_reducible apply Bk.Blk.drew | with_reducible apply Bk.Blk.set_ | (with_reducible apply Bk.Blk.far; focus (dsimp only; first | omega | (simp; omega) | (simp; done))) | with_reducible apply Bk.Blk.alloc))); replace bx : Bk.Blk w11 (w6.heap.size) 27 #[.int .i64 pe, .slice A3 n c3, .int .i64 lo] := Bk.Blk.under hb0 (by (repeat (first | with_reducible assumption | (with_reducible apply Bk.Blk.newAt; focus (first | (simp [Bk.size_set]; done) | (simp [Bk.size_set]; omega))) | with_reducible apply Bk.Blk.drewN | with_reducible apply Bk.Blk.drew | with_reducible apply Bk.Blk.set_ | (with_reducible apply Bk.Blk.far; focus (dsimp only; first | omega | (simp; omega) | (simp; done))) | with_reducible apply Bk.Blk.alloc))); replace bg : Bk.Blk w11 (w8.heap.size) 27 #[.int .i64 pe, .slice A5 gn c5, .int .i64 glo] := Bk.Blk.under hb0 (by (repeat (first | with_reducible assumption | (with_reducible apply Bk.Blk.newAt; focus (first | (simp [Bk.size_set]; done) | (simp [Bk.size_set]; omega))) | with_reducible apply Bk.Blk.drewN | with_reducible apply Bk.Blk.drew | with_reducible apply Bk.Blk.set_ | (with_reducible apply Bk.Blk.far; focus (dsimp only; first | omega | (simp; omega) | (simp; done))) | with_reducible apply Bk.Blk.alloc))); replace B : Below w.heap.size w w11 := Below.trans (by go_grown) (hb0.mono (by first | omega | (simp [Bk.size_set]; done) | (simp [Bk.size_set]; omega))); have z11 := hb0.size; (try simp only [World.size_alloc, Bk.size_set, World.size_drew, World.drewN] at z11); clear hb0; have L_bx := Lay.f3 bx; have L_ba := Lay.f3 ba)); refine hK.out _ _ ?_ (fun hHeld => ?_); ((try dsimp only); (refine ⟨?_, ?_⟩ <;> (repeat (first | with_reducible assumption | (with_reducible apply Bk.Blk.newAt; focus (first | (simp [Bk.size_set]; done) | (simp [Bk.size_set]; omega))) | with_reducible apply Bk.Blk.drewN | with_reducible apply Bk.Blk.drew | with_reducible apply Bk.Blk.set_ | (with_reducible apply Bk.Blk.far; focus (dsimp only; first | omega | (simp; omega) | (simp; done))) | with_reducible apply Bk.Blk.alloc)))); clear hK K)
  try simp only [Act.put, List.setIfInBounds_toArray, List.set_cons_zero, List.set_cons_succ]
  first | (refine wpAnyH_take (i := 4) (v := ?_) (Reg.get rfl) (by kernel_rfl) (by kernel_rfl) (by kernel_rfl) (fun _ _ _ h => h) (Or.inl ⟨by rfl, ?_⟩) hHeld ?_; rotate_left 1; (focus (intro wq hSw; (try dsimp only at hSw); obtain ⟨s_bx, s_ba⟩ := hSw; have L_bx := Lay.c3 s_bx; have L_ba := Lay.c3 s_ba;  go_simp <;> with_reducible rfl))) | (refine wpAnyH_take (i := 4) (v := undef) (Reg.get rfl) (by kernel_rfl) (by kernel_rfl) (by kernel_rfl) (fun _ _ _ h => h) (Or.inr ⟨by rfl, rfl⟩) hHeld ?_)
  try simp only [Act.put, List.setIfInBounds_toArray, List.set_cons_zero, List.set_cons_succ]
  refine wpAnyH_done (by kernel_rfl) ?_ _
  clear L_bx L_ba
  have L_ba := Lay.f3 ba
  have L_b0 := Lay.f3 b0
  have L_bx := Lay.f3 bx
  have L_bg := Lay.f3 bg
  go_wp2_with fail
  clear L_ba L_b0 L_bx L_bg
  refine (toByteS_any Bd m db bs _ (by first | exact HBD.out.below B | exact (HBD.out.below B).drew) (by omega)).mono ?_
  rintro x w12 ⟨A9, c9, rfl, hown, hb0⟩
  have hst : Below w11.heap.size w11 w12 := Below.trans (by go_grown) (hb0.mono (by first | omega | (simp; done) | (simp; omega)))
  replace ba : Bk.Blk w12 (w.heap.size) 24 #[.int .i64 pe, .slice A n c, .int .i64 lo] := Bk.Blk.under hb0 (by (repeat (first | with_reducible assumption | (with_reducible apply Bk.Blk.newAt; focus (first | (simp [Bk.size_set]; done) | (simp [Bk.size_set]; omega))) | with_reducible apply Bk.Blk.drewN | with_reducible apply Bk.Blk.drew | with_reducible apply Bk.Blk.set_ | (with_reducible apply Bk.Blk.far; focus (dsimp only; first | omega | (simp; omega) | (simp; done))) | with_reducible apply Bk.Blk.alloc)))
  replace b0 : Bk.Blk w12 (w5.heap.size) 27 #[.int .i64 pe, .slice A2 gn c2, .int .i64 glo] := Bk.Blk.under hb0 (by (repeat (first | with_reducible assumption | (with_reducible apply Bk.Blk.newAt; focus (first | (simp [Bk.size_set]; done) | (simp [Bk.size_set]; omega))) | with_reducible apply Bk.Blk.drewN | with_reducible apply Bk.Blk.drew | with_reducible apply Bk.Blk.set_ | (with_reducible apply Bk.Blk.far; focus (dsimp only; first | omega | (simp; omega) | (simp; done))) | with_reducible apply Bk.Blk.alloc)))
  replace bx : Bk.Blk w12 (w6.heap.size) 27 #[.int .i64 pe, .slice A3 n c3, .int .i64 lo] := Bk.Blk.under hb0 (by (repeat (first | with_reducible assumption | (with_reducible apply Bk.Blk.newAt; focus (first | (simp [Bk.size_set]; done) | (simp [Bk.size_set]; omega))) | with_reducible apply Bk.Blk.drewN | with_reducible apply Bk.Blk.drew | with_reducible apply Bk.Blk.set_ | (with_reducible apply Bk.Blk.far; focus (dsimp only; first | omega | (simp; omega) | (simp; done))) | with_reducible apply Bk.Blk.alloc)))
  replace bg : Bk.Blk w12 (w8.heap.size) 27 #[.int .i64 pe, .slice A5 gn c5, .int .i64 glo] := Bk.Blk.under hb0 (by (repeat (first | with_reducible assumption | (with_reducible apply Bk.Blk.newAt; focus (first | (simp [Bk.size_set]; done) | (simp [Bk.size_set]; omega))) | with_reducible apply Bk.Blk.drewN | with_reducible apply Bk.Blk.drew | with_reducible apply Bk.Blk.set_ | (with_reducible apply Bk.Blk.far; focus (dsimp only; first | omega | (simp; omega) | (simp; done))) | with_reducible apply Bk.Blk.alloc)))
  replace OX := Lib.hid (OX.out.below hst (by omega))
  replace X1 := Lib.hid (X1.out.below hst (by omega))
  replace OG := Lib.hid (OG.out.below hst (by omega))
  replace D := stepW D hst
  have H9 := Lib.hid (Rd.of_own hown)
  clear hown
  replace B : Below w.heap.size w w12 := Below.trans (by go_grown) (hb0.mono (by first | omega | (simp [Bk.size_set]; done) | (simp [Bk.size_set]; omega)))
  have z12 := hb0.size
  (try simp only [World.size_alloc, Bk.size_set, World.size_drew, World.drewN] at z12)
  clear hb0
  clear hst
  have L_ba := Lay.f3 ba
  have L_b0 := Lay.f3 b0
  have L_bx := Lay.f3 bx
  have L_bg := Lay.f3 bg
  go_wp2_with fail
  clear L_ba L_b0 L_bx L_bg
  refine (eqByteS_laws A4 m c4 bs A9 m c9 bs _ X1.out.rd H9.out).mono ?_
  rintro x w13 ⟨rfl, hb0⟩
  rw [decide_eq_true rfl]
  have hst : Below w12.heap.size w12 w13 := Below.trans (by go_grown) (hb0.mono (by first | omega | (simp; done) | (simp; omega)))
  replace ba : Bk.Blk w13 (w.heap.size) 24 #[.int .i64 pe, .slice A n c, .int .i64 lo] := Bk.Blk.under hb0 (by (repeat (first | with_reducible assumption | (with_reducible apply Bk.Blk.newAt; focus (first | (simp [Bk.size_set]; done) | (simp [Bk.size_set]; omega))) | with_reducible apply Bk.Blk.drewN | with_reducible apply Bk.Blk.drew | with_reducible apply Bk.Blk.set_ | (with_reducible apply Bk.Blk.far; focus (dsimp only; first | omega | (simp; omega) | (simp; done))) | with_reducible apply Bk.Blk.alloc)))
  replace b0 : Bk.Blk w13 (w5.heap.size) 27 #[.int .i64 pe, .slice A2 gn c2, .int .i64 glo] := Bk.Blk.under hb0 (by (repeat (first | with_reducible assumption | (with_reducible apply Bk.Blk.newAt; focus (first | (simp [Bk.size_set]; done) | (simp [Bk.size_set]; omega))) | with_reducible apply Bk.Blk.drewN | with_reducible apply Bk.Blk.drew | with_reducible apply Bk.Blk.set_ | (with_reducible apply Bk.Blk.far; focus (dsimp only; first | omega | (simp; omega) | (simp; done))) | with_reducible apply Bk.Blk.alloc)))
  replace bx : Bk.Blk w13 (w6.heap.size) 27 #[.int .i64 pe, .slice A3 n c3, .int .i64 lo] := Bk.Blk.under hb0 (by (repeat (first | with_reducible assumption | (with_reducible apply Bk.Blk.newAt; focus (first | (simp [Bk.size_set]; done) | (simp [Bk.size_set]; omega))) | with_reducible apply Bk.Blk.drewN | with_reducible apply Bk.Blk.drew | with_reducible apply Bk.Blk.set_ | (with_reducible apply Bk.Blk.far; focus (dsimp only; first | omega | (simp; omega) | (simp; done))) | with_reducible apply Bk.Blk.alloc)))
  replace bg : Bk.Blk w13 (w8.heap.size) 27 #[.int .i64 pe, .slice A5 gn c5, .int .i64 glo] := Bk.Blk.under hb0 (by (repeat (first | with_reducible assumption | (with_reducible apply Bk.Blk.newAt; focus (first | (simp [Bk.size_set]; done) | (simp [Bk.size_set]; omega))) | with_reducible apply Bk.Blk.drewN | with_reducible apply Bk.Blk.drew | with_reducible apply Bk.Blk.set_ | (with_reducible apply Bk.Blk.far; focus (dsimp only; first | omega | (simp; omega) | (simp; done))) | with_reducible apply Bk.Blk.alloc)))
  replace OX := Lib.hid (OX.out.below hst (by omega))
  replace X1 := Lib.hid (X1.out.below hst (by omega))
  replace OG := Lib.hid (OG.out.below hst (by omega))
  replace D := stepW D hst
  clear H9
  replace B : Below w.heap.size w w13 := Below.trans (by go_grown) (hb0.mono (by first | omega | (simp [Bk.size_set]; done) | (simp [Bk.size_set]; omega)))
  have z13 := hb0.size
  (try simp only [World.size_alloc, Bk.size_set, World.size_drew, World.drewN] at z13)
  clear hb0
  clear hst
  have L_ba := Lay.f3 ba
  have L_b0 := Lay.f3 b0
  have L_bx := Lay.f3 bx
  have L_bg := Lay.f3 bg
  go_wp2_with fail
  clear L_ba L_b0 L_bx L_bg
  refine (markGb1 pe lo A3 n c3 zs 1 (w5.heap.size + 1) w6.heap.size _ OX.out (by omega) (by omega) (by omega) (by omega) (by omega)).mono ?_
  rintro x w14 ⟨rfl, hox, ht⟩
  rw [HKK.out]
  clear hox OX
  replace ba : Bk.Blk w14 (w.heap.size) 24 #[.int .i64 pe, .slice A n c, .int .i64 lo] := blk_turned ba ht (.inl (by omega))
  replace b0 : Bk.Blk w14 (w5.heap.size) 27 #[.int .i64 pe, .slice A2 gn c2, .int .i64 glo] := blk_turned b0 ht (.inl (by omega))
  replace bx : Bk.Blk w14 (w6.heap.size) 27 #[.int .i64 pe, .slice A3 n c3, .int .i64 lo] := blk_turned bx ht (.inr (by omega))
  replace bg : Bk.Blk w14 (w8.heap.size) 27 #[.int .i64 pe, .slice A5 gn c5, .int .i64 glo] := blk_turned bg ht (.inr (by omega))
  replace X1 := Lib.hid (X1.out.turned ht (.inr (by omega)) (by omega))
  replace OG := Lib.hid (OG.out.turned ht (.inr (by omega)) (by omega))
  replace D : Below w5.heap.size w5 w14 := Below.trans D (ht.below (by omega) (by omega))
  replace B : Below w.heap.size w w14 := Below.trans B (ht.below (by omega) (by omega))
  have z14 := ht.size
  clear ht
  have L_ba := Lay.f3 ba
  have L_b0 := Lay.f3 b0
  have L_bx := Lay.f3 bx
  have L_bg := Lay.f3 bg
  go_wp2_with fail
  clear L_ba L_b0 L_bx L_bg
  refine (markB_any A4 m c4 (bs.map (Value.int .u8)) K (w6.heap.size + 1) w7.heap.size _ X1.out HKM.out.1 (by have := HKM.out.2; omega) (by omega)).mono ?_
  rintro x w15 ⟨rfl, hox, hon⟩
  have ht := turned_only X1.out hon
  clear hox hon X1
  replace ba : Bk.Blk w15 (w.heap.size) 24 #[.int .i64 pe, .slice A n c, .int .i64 lo] := blk_turned ba ht (.inl (by omega))
  replace b0 : Bk.Blk w15 (w5.heap.size) 27 #[.int .i64 pe, .slice A2 gn c2, .int .i64 glo] := blk_turned b0 ht (.inl (by omega))
  replace bx : Bk.Blk w15 (w6.heap.size) 27 #[.int .i64 pe, .slice A3 n c3, .int .i64 lo] := blk_turned bx ht (.inl (by omega))
  replace bg : Bk.Blk w15 (w8.heap.size) 27 #[.int .i64 pe, .slice A5 gn c5, .int .i64 glo] := blk_turned bg ht (.inr (by omega))
  replace OG := Lib.hid (OG.out.turned ht (.inr (by omega)) (by omega))
  replace D : Below w5.heap.size w5 w15 := Below.trans D (ht.below (by omega) (by omega))
  replace B : Below w.heap.size w w15 := Below.trans B (ht.below (by omega) (by omega))
  have z15 := ht.size
  clear ht
  have L_ba := Lay.f3 ba
  have L_b0 := Lay.f3 b0
  have L_bx := Lay.f3 bx
  have L_bg := Lay.f3 bg
  go_wp2_with fail
  clear L_ba L_b0 L_bx L_bg
  refine (eqGb_same pe glo A5 gn c5 A2 c2 gs _ OG.out.rd (H0.out.below D)).mono ?_
  rintro x w16 ⟨rfl, hb0⟩
  have hst : Below w15.heap.size w15 w16 := Below.trans (by go_grown) (hb0.mono (by first | omega | (simp; done) | (simp; omega)))
  replace ba : Bk.Blk w16 (w.heap.size) 24 #[.int .i64 pe, .slice A n c, .int .i64 lo] := Bk.Blk.under hb0 (by (repeat (first | with_reducible assumption | (with_reducible apply Bk.Blk.newAt; focus (first | (simp [Bk.size_set]; done) | (simp [Bk.size_set]; omega))) | with_reducible apply Bk.Blk.drewN | with_reducible apply Bk.Blk.drew | with_reducible apply Bk.Blk.set_ | (with_reducible apply Bk.Blk.far; focus (dsimp only; first | omega | (simp; omega) | (simp; done))) | with_reducible apply Bk.Blk.alloc)))
  replace b0 : Bk.Blk w16 (w5.heap.size) 27 #[.int .i64 pe, .slice A2 gn c2, .int .i64 glo] := Bk.Blk.under hb0 (by (repeat (first | with_reducible assumption | (with_reducible apply Bk.Blk.newAt; focus (first | (simp [Bk.size_set]; done) | (simp [Bk.size_set]; omega))) | with_reducible apply Bk.Blk.drewN | with_reducible apply Bk.Blk.drew | with_reducible apply Bk.Blk.set_ | (with_reducible apply Bk.Blk.far; focus (dsimp only; first | omega | (simp; omega) | (simp; done))) | with_reducible apply Bk.Blk.alloc)))
  replace bx : Bk.Blk w16 (w6.heap.size) 27 #[.int .i64 pe, .slice A3 n c3, .int .i64 lo] := Bk.Blk.under hb0 (by (repeat (first | with_reducible assumption | (with_reducible apply Bk.Blk.newAt; focus (first | (simp [Bk.size_set]; done) | (simp [Bk.size_set]; omega))) | with_reducible apply Bk.Blk.drewN | with_reducible apply Bk.Blk.drew | with_reducible apply Bk.Blk.set_ | (with_reducible apply Bk.Blk.far; focus (dsimp only; first | omega | (simp; omega) | (simp; done))) | with_reducible apply Bk.Blk.alloc)))
  replace bg : Bk.Blk w16 (w8.heap.size) 27 #[.int .i64 pe, .slice A5 gn c5, .int .i64 glo] := Bk.Blk.under hb0 (by (repeat (first | with_reducible assumption | (with_reducible apply Bk.Blk.newAt; focus (first | (simp [Bk.size_set]; done) | (simp [Bk.size_set]; omega))) | with_reducible apply Bk.Blk.drewN | with_reducible apply Bk.Blk.drew | with_reducible apply Bk.Blk.set_ | (with_reducible apply Bk.Blk.far; focus (dsimp only; first | omega | (simp; omega) | (simp; done))) | with_reducible apply Bk.Blk.alloc)))
  replace OG := Lib.hid (OG.out.below hst (by omega))
  replace D := stepW D hst
  replace B : Below w.heap.size w w16 := Below.trans (by go_grown) (hb0.mono (by first | omega | (simp [Bk.size_set]; done) | (simp [Bk.size_set]; omega)))
  have z16 := hb0.size
  (try simp only [World.size_alloc, Bk.size_set, World.size_drew, World.drewN] at z16)
  clear hb0
  clear hst
  have L_ba := Lay.f3 ba
  have L_b0 := Lay.f3 b0
  have L_bx := Lay.f3 bx
  have L_bg := Lay.f3 bg
  go_wp2_with fail
  clear L_ba L_b0 L_bx L_bg
  refine (markGb1 pe glo A5 gn c5 gs 1 w7.heap.size w8.heap.size _ OG.out (by omega) (by omega) (by omega) (by omega) (by omega)).mono ?_
  rintro x w17 ⟨rfl, hog, ht⟩
  rw [HK1.out]
  replace OG := Lib.hid hog
  clear hog
  replace ba : Bk.Blk w17 (w.heap.size) 24 #[.int .i64 pe, .slice A n c, .int .i64 lo] := blk_turned ba ht (.inl (by omega))
  replace b0 : Bk.Blk w17 (w5.heap.size) 27 #[.int .i64 pe, .slice A2 gn c2, .int .i64 glo] := blk_turned b0 ht (.inl (by omega))
  replace bx : Bk.Blk w17 (w6.heap.size) 27 #[.int .i64 pe, .slice A3 n c3, .int .i64 lo] := blk_turned bx ht (.inl (by omega))
  replace bg : Bk.Blk w17 (w8.heap.size) 27 #[.int .i64 pe, .slice A5 gn c5, .int .i64 glo] := blk_turned bg ht (.inr (by omega))
  replace D : Below w5.heap.size w5 w17 := Below.trans D (ht.below (by omega) (by omega))
  replace B : Below w.heap.size w w17 := Below.trans B (ht.below (by omega) (by omega))
  have z17 := ht.size
  clear ht
  have L_ba := Lay.f3 ba
  have L_b0 := Lay.f3 b0
  have L_bx := Lay.f3 bx
  have L_bg := Lay.f3 bg
  go_wp2_with fail
  clear L_ba L_b0 L_bx L_bg
  refine (heldGb_any pe glo A5 gn c5 gs 1 _ OG.out.rd (by omega) (by omega) (by omega) (by omega)).mono ?_
  rintro x w18 ⟨rfl, hb0⟩
  rw [HK1.out]
  have hst : Below w17.heap.size w17 w18 := Below.trans (by go_grown) (hb0.mono (by first | omega | (simp; done) | (simp; omega)))
  replace ba : Bk.Blk w18 (w.heap.size) 24 #[.int .i64 pe, .slice A n c, .int .i64 lo] := Bk.Blk.under hb0 (by (repeat (first | with_reducible assumption | (with_reducible apply Bk.Blk.newAt; focus (first | (simp [Bk.size_set]; done) | (simp [Bk.size_set]; omega))) | with_reducible apply Bk.Blk.drewN | with_reducible apply Bk.Blk.drew | with_reducible apply Bk.Blk.set_ | (with_reducible apply Bk.Blk.far; focus (dsimp only; first | omega | (simp; omega) | (simp; done))) | with_reducible apply Bk.Blk.alloc)))
  replace b0 : Bk.Blk w18 (w5.heap.size) 27 #[.int .i64 pe, .slice A2 gn c2, .int .i64 glo] := Bk.Blk.under hb0 (by (repeat (first | with_reducible assumption | (with_reducible apply Bk.Blk.newAt; focus (first | (simp [Bk.size_set]; done) | (simp [Bk.size_set]; omega))) | with_reducible apply Bk.Blk.drewN | with_reducible apply Bk.Blk.drew | with_reducible apply Bk.Blk.set_ | (with_reducible apply Bk.Blk.far; focus (dsimp only; first | omega | (simp; omega) | (simp; done))) | with_reducible apply Bk.Blk.alloc)))
  replace bx : Bk.Blk w18 (w6.heap.size) 27 #[.int .i64 pe, .slice A3 n c3, .int .i64 lo] := Bk.Blk.under hb0 (by (repeat (first | with_reducible assumption | (with_reducible apply Bk.Blk.newAt; focus (first | (simp [Bk.size_set]; done) | (simp [Bk.size_set]; omega))) | with_reducible apply Bk.Blk.drewN | with_reducible apply Bk.Blk.drew | with_reducible apply Bk.Blk.set_ | (with_reducible apply Bk.Blk.far; focus (dsimp only; first | omega | (simp; omega) | (simp; done))) | with_reducible apply Bk.Blk.alloc)))
  replace bg : Bk.Blk w18 (w8.heap.size) 27 #[.int .i64 pe, .slice A5 gn c5, .int .i64 glo] := Bk.Blk.under hb0 (by (repeat (first | with_reducible assumption | (with_reducible apply Bk.Blk.newAt; focus (first | (simp [Bk.size_set]; done) | (simp [Bk.size_set]; omega))) | with_reducible apply Bk.Blk.drewN | with_reducible apply Bk.Blk.drew | with_reducible apply Bk.Blk.set_ | (with_reducible apply Bk.Blk.far; focus (dsimp only; first | omega | (simp; omega) | (simp; done))) | with_reducible apply Bk.Blk.alloc)))
  replace OG := Lib.hid (OG.out.below hst (by omega))
  replace D := stepW D hst
  replace B : Below w.heap.size w w18 := Below.trans (by go_grown) (hb0.mono (by first | omega | (simp [Bk.size_set]; done) | (simp [Bk.size_set]; omega)))
  have z18 := hb0.size
  (try simp only [World.size_alloc, Bk.size_set, World.size_drew, World.drewN] at z18)
  clear hb0
  clear hst
  have L_ba := Lay.f3 ba
  have L_b0 := Lay.f3 b0
  have L_bx := Lay.f3 bx
  have L_bg := Lay.f3 bg
  go_wp2_with fail
  clear L_ba L_b0 L_bx L_bg
  refine (toGb_any pe lo A n c zs _ (HR.out.below B) (by omega) HSH.out).mono ?_
  rintro x w19 ⟨A10, c10, rfl, hown, hb0⟩
  have hst : Below w18.heap.size w18 w19 := Below.trans (by go_grown) (hb0.mono (by first | omega | (simp; done) | (simp; omega)))
  replace ba : Bk.Blk w19 (w.heap.size) 24 #[.int .i64 pe, .slice A n c, .int .i64 lo] := Bk.Blk.under hb0 (by (repeat (first | with_reducible assumption | (with_reducible apply Bk.Blk.newAt; focus (first | (simp [Bk.size_set]; done) | (simp [Bk.size_set]; omega))) | with_reducible apply Bk.Blk.drewN | with_reducible apply Bk.Blk.drew | with_reducible apply Bk.Blk.set_ | (with_reducible apply Bk.Blk.far; focus (dsimp only; first | omega | (simp; omega) | (simp; done))) | with_reducible apply Bk.Blk.alloc)))
  replace b0 : Bk.Blk w19 (w5.heap.size) 27 #[.int .i64 pe, .slice A2 gn c2, .int .i64 glo] := Bk.Blk.under hb0 (by (repeat (first | with_reducible assumption | (with_reducible apply Bk.Blk.newAt; focus (first | (simp [Bk.size_set]; done) | (simp [Bk.size_set]; omega))) | with_reducible apply Bk.Blk.drewN | with_reducible apply Bk.Blk.drew | with_reducible apply Bk.Blk.set_ | (with_reducible apply Bk.Blk.far; focus (dsimp only; first | omega | (simp; omega) | (simp; done))) | with_reducible apply Bk.Blk.alloc)))
  replace bx : Bk.Blk w19 (w6.heap.size) 27 #[.int .i64 pe, .slice A3 n c3, .int .i64 lo] := Bk.Blk.under hb0 (by (repeat (first | with_reducible assumption | (with_reducible apply Bk.Blk.newAt; focus (first | (simp [Bk.size_set]; done) | (simp [Bk.size_set]; omega))) | with_reducible apply Bk.Blk.drewN | with_reducible apply Bk.Blk.drew | with_reducible apply Bk.Blk.set_ | (with_reducible apply Bk.Blk.far; focus (dsimp only; first | omega | (simp; omega) | (simp; done))) | with_reducible apply Bk.Blk.alloc)))
  replace bg : Bk.Blk w19 (w8.heap.size) 27 #[.int .i64 pe, .slice A5 gn c5, .int .i64 glo] := Bk.Blk.under hb0 (by (repeat (first | with_reducible assumption | (with_reducible apply Bk.Blk.newAt; focus (first | (simp [Bk.size_set]; done) | (simp [Bk.size_set]; omega))) | with_reducible apply Bk.Blk.drewN | with_reducible apply Bk.Blk.drew | with_reducible apply Bk.Blk.set_ | (with_reducible apply Bk.Blk.far; focus (dsimp only; first | omega | (simp; omega) | (simp; done))) | with_reducible apply Bk.Blk.alloc)))
  replace OG := Lib.hid (OG.out.below hst (by omega))
  replace D := stepW D hst
  have H10 := Lib.hid hown.rd
  clear hown
  replace B : Below w.heap.size w w19 := Below.trans (by go_grown) (hb0.mono (by first | omega | (simp [Bk.size_set]; done) | (simp [Bk.size_set]; omega)))
  have z19 := hb0.size
  (try simp only [World.size_alloc, Bk.size_set, World.size_drew, World.drewN] at z19)
  clear hb0
  clear hst
  have L_ba := Lay.f3 ba
  have L_b0 := Lay.f3 b0
  have L_bx := Lay.f3 bx
  have L_bg := Lay.f3 bg
  go_wp2_with fail
  clear L_ba L_b0 L_bx L_bg
  refine (toByteS_any Bd m db bs _ (HBD.out.below B) (by omega)).mono ?_
  rintro x w20 ⟨A11, c11, rfl, hown, hb0⟩
  have hst : Below w19.heap.size w19 w20 := Below.trans (by go_grown) (hb0.mono (by first | omega | (simp; done) | (simp; omega)))
  replace ba : Bk.Blk w20 (w.heap.size) 24 #[.int .i64 pe, .slice A n c, .int .i64 lo] := Bk.Blk.under hb0 (by (repeat (first | with_reducible assumption | (with_reducible apply Bk.Blk.newAt; focus (first | (simp [Bk.size_set]; done) | (simp [Bk.size_set]; omega))) | with_reducible apply Bk.Blk.drewN | with_reducible apply Bk.Blk.drew | with_reducible apply Bk.Blk.set_ | (with_reducible apply Bk.Blk.far; focus (dsimp only; first | omega | (simp; omega) | (simp; done))) | with_reducible apply Bk.Blk.alloc)))
  replace b0 : Bk.Blk w20 (w5.heap.size) 27 #[.int .i64 pe, .slice A2 gn c2, .int .i64 glo] := Bk.Blk.under hb0 (by (repeat (first | with_reducible assumption | (with_reducible apply Bk.Blk.newAt; focus (first | (simp [Bk.size_set]; done) | (simp [Bk.size_set]; omega))) | with_reducible apply Bk.Blk.drewN | with_reducible apply Bk.Blk.drew | with_reducible apply Bk.Blk.set_ | (with_reducible apply Bk.Blk.far; focus (dsimp only; first | omega | (simp; omega) | (simp; done))) | with_reducible apply Bk.Blk.alloc)))
  replace bx : Bk.Blk w20 (w6.heap.size) 27 #[.int .i64 pe, .slice A3 n c3, .int .i64 lo] := Bk.Blk.under hb0 (by (repeat (first | with_reducible assumption | (with_reducible apply Bk.Blk.newAt; focus (first | (simp [Bk.size_set]; done) | (simp [Bk.size_set]; omega))) | with_reducible apply Bk.Blk.drewN | with_reducible apply Bk.Blk.drew | with_reducible apply Bk.Blk.set_ | (with_reducible apply Bk.Blk.far; focus (dsimp only; first | omega | (simp; omega) | (simp; done))) | with_reducible apply Bk.Blk.alloc)))
  replace bg : Bk.Blk w20 (w8.heap.size) 27 #[.int .i64 pe, .slice A5 gn c5, .int .i64 glo] := Bk.Blk.under hb0 (by (repeat (first | with_reducible assumption | (with_reducible apply Bk.Blk.newAt; focus (first | (simp [Bk.size_set]; done) | (simp [Bk.size_set]; omega))) | with_reducible apply Bk.Blk.drewN | with_reducible apply Bk.Blk.drew | with_reducible apply Bk.Blk.set_ | (with_reducible apply Bk.Blk.far; focus (dsimp only; first | omega | (simp; omega) | (simp; done))) | with_reducible apply Bk.Blk.alloc)))
  replace OG := Lib.hid (OG.out.below hst (by omega))
  replace D := stepW D hst
  replace H10 := Lib.hid (H10.out.below hst)
  have H11 := Lib.hid (Rd.of_own hown)
  clear hown
  replace B : Below w.heap.size w w20 := Below.trans (by go_grown) (hb0.mono (by first | omega | (simp [Bk.size_set]; done) | (simp [Bk.size_set]; omega)))
  have z20 := hb0.size
  (try simp only [World.size_alloc, Bk.size_set, World.size_drew, World.drewN] at z20)
  clear hb0
  clear hst
  have L_ba := Lay.f3 ba
  have L_b0 := Lay.f3 b0
  have L_bx := Lay.f3 bx
  have L_bg := Lay.f3 bg
  go_wp2_with fail
  clear L_ba L_b0 L_bx L_bg
  refine (HI.out A10 c10 A11 c11 _ H10.out H11.out).mono ?_
  rintro x w21 ⟨A12, c12, rfl, hown, hb0⟩
  have hst : Below w20.heap.size w20 w21 := Below.trans (by go_grown) (hb0.mono (by first | omega | (simp; done) | (simp; omega)))
  replace ba : Bk.Blk w21 (w.heap.size) 24 #[.int .i64 pe, .slice A n c, .int .i64 lo] := Bk.Blk.under hb0 (by (repeat (first | with_reducible assumption | (with_reducible apply Bk.Blk.newAt; focus (first | (simp [Bk.size_set]; done) | (simp [Bk.size_set]; omega))) | with_reducible apply Bk.Blk.drewN | with_reducible apply Bk.Blk.drew | with_reducible apply Bk.Blk.set_ | (with_reducible apply Bk.Blk.far; focus (dsimp only; first | omega | (simp; omega) | (simp; done))) | with_reducible apply Bk.Blk.alloc)))
  replace b0 : Bk.Blk w21 (w5.heap.size) 27 #[.int .i64 pe, .slice A2 gn c2, .int .i64 glo] := Bk.Blk.under hb0 (by (repeat (first | with_reducible assumption | (with_reducible apply Bk.Blk.newAt; focus (first | (simp [Bk.size_set]; done) | (simp [Bk.size_set]; omega))) | with_reducible apply Bk.Blk.drewN | with_reducible apply Bk.Blk.drew | with_reducible apply Bk.Blk.set_ | (with_reducible apply Bk.Blk.far; focus (dsimp only; first | omega | (simp; omega) | (simp; done))) | with_reducible apply Bk.Blk.alloc)))
  replace bx : Bk.Blk w21 (w6.heap.size) 27 #[.int .i64 pe, .slice A3 n c3, .int .i64 lo] := Bk.Blk.under hb0 (by (repeat (first | with_reducible assumption | (with_reducible apply Bk.Blk.newAt; focus (first | (simp [Bk.size_set]; done) | (simp [Bk.size_set]; omega))) | with_reducible apply Bk.Blk.drewN | with_reducible apply Bk.Blk.drew | with_reducible apply Bk.Blk.set_ | (with_reducible apply Bk.Blk.far; focus (dsimp only; first | omega | (simp; omega) | (simp; done))) | with_reducible apply Bk.Blk.alloc)))
  replace bg : Bk.Blk w21 (w8.heap.size) 27 #[.int .i64 pe, .slice A5 gn c5, .int .i64 glo] := Bk.Blk.under hb0 (by (repeat (first | with_reducible assumption | (with_reducible apply Bk.Blk.newAt; focus (first | (simp [Bk.size_set]; done) | (simp [Bk.size_set]; omega))) | with_reducible apply Bk.Blk.drewN | with_reducible apply Bk.Blk.drew | with_reducible apply Bk.Blk.set_ | (with_reducible apply Bk.Blk.far; focus (dsimp only; first | omega | (simp; omega) | (simp; done))) | with_reducible apply Bk.Blk.alloc)))
  replace OG := Lib.hid (OG.out.below hst (by omega))
  replace D := stepW D hst
  have H12 := Lib.hid hown.rd
  clear hown H10 H11
  replace B : Below w.heap.size w w21 := Below.trans (by go_grown) (hb0.mono (by first | omega | (simp [Bk.size_set]; done) | (simp [Bk.size_set]; omega)))
  have z21 := hb0.size
  (try simp only [World.size_alloc, Bk.size_set, World.size_drew, World.drewN] at z21)
  clear hb0
  clear hst
  have L_ba := Lay.f3 ba
  have L_b0 := Lay.f3 b0
  have L_bx := Lay.f3 bx
  have L_bg := Lay.f3 bg
  go_wp2_with fail
  clear L_ba L_b0 L_bx L_bg
  refine (eqGb_same pe glo A12 gn c12 A2 c2 gs _ (H12.out.alloc _) ((H0.out.below D).alloc _)).mono ?_
  rintro x w22 ⟨rfl, hb0⟩
  have hst : Below w21.heap.size w21 w22 := Below.trans (by go_grown) (hb0.mono (by first | omega | (simp; done) | (simp; omega)))
  replace ba : Bk.Blk w22 (w.heap.size) 24 #[.int .i64 pe, .slice A n c, .int .i64 lo] := Bk.Blk.under hb0 (by (repeat (first | with_reducible assumption | (with_reducible apply Bk.Blk.newAt; focus (first | (simp [Bk.size_set]; done) | (simp [Bk.size_set]; omega))) | with_reducible apply Bk.Blk.drewN | with_reducible apply Bk.Blk.drew | with_reducible apply Bk.Blk.set_ | (with_reducible apply Bk.Blk.far; focus (dsimp only; first | omega | (simp; omega) | (simp; done))) | with_reducible apply Bk.Blk.alloc)))
  replace b0 : Bk.Blk w22 (w5.heap.size) 27 #[.int .i64 pe, .slice A2 gn c2, .int .i64 glo] := Bk.Blk.under hb0 (by (repeat (first | with_reducible assumption | (with_reducible apply Bk.Blk.newAt; focus (first | (simp [Bk.size_set]; done) | (simp [Bk.size_set]; omega))) | with_reducible apply Bk.Blk.drewN | with_reducible apply Bk.Blk.drew | with_reducible apply Bk.Blk.set_ | (with_reducible apply Bk.Blk.far; focus (dsimp only; first | omega | (simp; omega) | (simp; done))) | with_reducible apply Bk.Blk.alloc)))
  replace bx : Bk.Blk w22 (w6.heap.size) 27 #[.int .i64 pe, .slice A3 n c3, .int .i64 lo] := Bk.Blk.under hb0 (by (repeat (first | with_reducible assumption | (with_reducible apply Bk.Blk.newAt; focus (first | (simp [Bk.size_set]; done) | (simp [Bk.size_set]; omega))) | with_reducible apply Bk.Blk.drewN | with_reducible apply Bk.Blk.drew | with_reducible apply Bk.Blk.set_ | (with_reducible apply Bk.Blk.far; focus (dsimp only; first | omega | (simp; omega) | (simp; done))) | with_reducible apply Bk.Blk.alloc)))
  replace bg : Bk.Blk w22 (w8.heap.size) 27 #[.int .i64 pe, .slice A5 gn c5, .int .i64 glo] := Bk.Blk.under hb0 (by (repeat (first | with_reducible assumption | (with_reducible apply Bk.Blk.newAt; focus (first | (simp [Bk.size_set]; done) | (simp [Bk.size_set]; omega))) | with_reducible apply Bk.Blk.drewN | with_reducible apply Bk.Blk.drew | with_reducible apply Bk.Blk.set_ | (with_reducible apply Bk.Blk.far; focus (dsimp only; first | omega | (simp; omega) | (simp; done))) | with_reducible apply Bk.Blk.alloc)))
  replace OG := Lib.hid (OG.out.below hst (by omega))
  replace D := stepW D hst
  clear H12
  replace B : Below w.heap.size w w22 := Below.trans (by go_grown) (hb0.mono (by first | omega | (simp [Bk.size_set]; done) | (simp [Bk.size_set]; omega)))
  have z22 := hb0.size
  (try simp only [World.size_alloc, Bk.size_set, World.size_drew, World.drewN] at z22)
  clear hb0
  clear hst
  have L_ba := Lay.f3 ba
  have L_b0 := Lay.f3 b0
  have L_bx := Lay.f3 bx
  have L_bg := Lay.f3 bg
  go_wp2_with fail
  clear L_ba L_b0 L_bx L_bg
  refine (heldGb_any pe glo A5 gn c5 gs 1 _ OG.out.rd (by omega) (by omega) (by omega) (by omega)).mono ?_
  rintro x w23 ⟨rfl, hb0⟩
  rw [HK1.out]
  have hst : Below w22.heap.size w22 w23 := Below.trans (by go_grown) (hb0.mono (by first | omega | (simp; done) | (simp; omega)))
  replace ba : Bk.Blk w23 (w.heap.size) 24 #[.int .i64 pe, .slice A n c, .int .i64 lo] := Bk.Blk.under hb0 (by (repeat (first | with_reducible assumption | (with_reducible apply Bk.Blk.newAt; focus (first | (simp [Bk.size_set]; done) | (simp [Bk.size_set]; omega))) | with_reducible apply Bk.Blk.drewN | with_reducible apply Bk.Blk.drew | with_reducible apply Bk.Blk.set_ | (with_reducible apply Bk.Blk.far; focus (dsimp only; first | omega | (simp; omega) | (simp; done))) | with_reducible apply Bk.Blk.alloc)))
  replace b0 : Bk.Blk w23 (w5.heap.size) 27 #[.int .i64 pe, .slice A2 gn c2, .int .i64 glo] := Bk.Blk.under hb0 (by (repeat (first | with_reducible assumption | (with_reducible apply Bk.Blk.newAt; focus (first | (simp [Bk.size_set]; done) | (simp [Bk.size_set]; omega))) | with_reducible apply Bk.Blk.drewN | with_reducible apply Bk.Blk.drew | with_reducible apply Bk.Blk.set_ | (with_reducible apply Bk.Blk.far; focus (dsimp only; first | omega | (simp; omega) | (simp; done))) | with_reducible apply Bk.Blk.alloc)))
  replace bx : Bk.Blk w23 (w6.heap.size) 27 #[.int .i64 pe, .slice A3 n c3, .int .i64 lo] := Bk.Blk.under hb0 (by (repeat (first | with_reducible assumption | (with_reducible apply Bk.Blk.newAt; focus (first | (simp [Bk.size_set]; done) | (simp [Bk.size_set]; omega))) | with_reducible apply Bk.Blk.drewN | with_reducible apply Bk.Blk.drew | with_reducible apply Bk.Blk.set_ | (with_reducible apply Bk.Blk.far; focus (dsimp only; first | omega | (simp; omega) | (simp; done))) | with_reducible apply Bk.Blk.alloc)))
  replace bg : Bk.Blk w23 (w8.heap.size) 27 #[.int .i64 pe, .slice A5 gn c5, .int .i64 glo] := Bk.Blk.under hb0 (by (repeat (first | with_reducible assumption | (with_reducible apply Bk.Blk.newAt; focus (first | (simp [Bk.size_set]; done) | (simp [Bk.size_set]; omega))) | with_reducible apply Bk.Blk.drewN | with_reducible apply Bk.Blk.drew | with_reducible apply Bk.Blk.set_ | (with_reducible apply Bk.Blk.far; focus (dsimp only; first | omega | (simp; omega) | (simp; done))) | with_reducible apply Bk.Blk.alloc)))
  replace OG := Lib.hid (OG.out.below hst (by omega))
  replace D := stepW D hst
  replace B : Below w.heap.size w w23 := Below.trans (by go_grown) (hb0.mono (by first | omega | (simp [Bk.size_set]; done) | (simp [Bk.size_set]; omega)))
  have z23 := hb0.size
  (try simp only [World.size_alloc, Bk.size_set, World.size_drew, World.drewN] at z23)
  clear hb0
  clear hst
  have L_ba := Lay.f3 ba
  have L_b0 := Lay.f3 b0
  have L_bx := Lay.f3 bx
  have L_bg := Lay.f3 bg
  go_wp2
  go_ret
  exact ⟨rfl, B⟩
theorem keep_big (pe lo : Int) (A : Option Addr) (n c : Nat) (zs : List (List Int)) (Bd : Option Addr) (m db : Nat) (bs : List Int) (w : World) (hr : RdSS w A n c zs) (hm : m ≤ 9223372036854775807) (hn : 1048576 < n + totL zs ∨ 1048576 < m) :
    Calls Try.prog 3 #[.agg #[.int .i64 pe, .slice A n c, .int .i64 lo], .slice Bd m db] w fun x w' => x = .returned (.bool true) ∧ Below w.heap.size w w' := by
  have HR := Lib.hid hr
  clear hr
  by_cases h : 1048576 < (m : Int)
  · clear hn
    go_enter Try.func3, Try.ntmps3
    go_wp2
    go_ret
    exact ⟨rfl, by go_grown⟩
  · have hn2 : 1048576 < n + totL zs := by omega
    clear hn
    go_enter Try.func3, Try.ntmps3
    go_wp2_with fail
    refine (szGb_any pe lo A n c zs 1048576 _ (HR.out.alloc _) (by omega) (by omega)).mono ?_
    rintro x w1 ⟨rfl, hb⟩
    rw [szOf_lt (by omega)]
    have HB := Lib.hid (show Below w.heap.size w w1 from Below.trans (by go_grown) (hb.mono (by simp)))
    clear hb
    go_wp2
    go_ret
    exact ⟨rfl, HB.out⟩
theorem keep_law (pe : Int) (A : Option Addr) (n c : Nat) (zs : List (List Int)) (lo : Int) (Bd : Option Addr) (m db : Nat) (bs : List Int) (w : World) (_h0 : (Lit.int .i64 pe).wf = true) (hr : RdSS w A n c zs) (_h1 : (Lit.int .i64 lo).wf = true) (h2 : RowIn .u8 w Bd m db bs) :
    Calls Try.prog 3 #[.agg #[.int .i64 pe, .slice A n c, .int .i64 lo], .slice Bd m db] w fun x w' => x = .returned (.bool true) ∧ Below w.heap.size w w' := by
  have hm : m ≤ 9223372036854775807 := by have h1 := h2.1.2.1; have h3 := h2.1.2.2.1; unfold maxLen at h3; omega
  by_cases hn : 1048576 < n + totL zs ∨ 1048576 < m
  · exact keep_big pe lo A n c zs Bd m db bs w hr hm hn
  · obtain ⟨lo', n', xss', hk⟩ := keepR_is pe lo zs n bs m
    exact keep_core pe lo A n c zs Bd m db bs lo' n' xss' w hk hr h2.1 (by omega) (by omega)
end Go.Proofs.Ythdieeaegplnmaa.Gb
