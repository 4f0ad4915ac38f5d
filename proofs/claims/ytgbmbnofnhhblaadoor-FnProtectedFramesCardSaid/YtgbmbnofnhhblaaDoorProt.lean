/- ProtectFrame of the program. -/
import Derived.Test.YtgbmbnofnhhblaaDoorMac
import Derived.Test.YtgbmbnofnhhblaaDoorInst
import Derived.Test.YtgbmbnofnhhblaaDoorKept
import Derived.Outline
namespace Go.Proofs.YtgbmbnofnhhblaaDoor.Seal
open Go.RowKit
open Go.Proofs.YtgbmbnofnhhblaaDoor.Num Go.Proofs.YtgbmbnofnhhblaaDoor.Mem Go.Proofs.YtgbmbnofnhhblaaDoor.Hsh Go.Proofs.YtgbmbnofnhhblaaDoor.Itoa Go.Proofs.YtgbmbnofnhhblaaDoor.Pass Go.Proofs.YtgbmbnofnhhblaaDoor.Sls Go.Proofs.YtgbmbnofnhhblaaDoor.Own Go.Proofs.YtgbmbnofnhhblaaDoor.Ks
set_option linter.unusedSimpArgs false
set_option linter.unusedVariables false
/-- a frame is protected -/
def protP (ke se re : Int) (zs : List Int) (n m : Nat) : Prop := validK ke se re zs n ∧ ke ≠ 0 ∧ se ≠ 1000000 ∧ m ≤ 100
/-- what ProtectFrame hands back: a state, a frame, both in new memory -/
def RetPf (w : World) (ke se re : Int) (n : Nat) (zs : List Int) (pc : Int) (pm : Nat) (ps : List Int) (mac : Int) (ok : Bool) (x : Ending) (w' : World) : Prop :=
  ∃ A c D e, x = .returned (.tuple #[.agg #[.int .i64 ke, .int .i64 se, .int .i64 re, .slice A n c], .agg #[.int .i64 pc, .slice D pm e, .int .i64 mac], .bool ok]) ∧ w'.ownsRow w.heap.size 3 1 (.slice A n c) n (zs.map (Value.int .i64)) ∧ w'.ownsRow w.heap.size 5 1 (.slice D pm e) pm (ps.map (Value.int .u8)) ∧ Below w.heap.size w w'
theorem cip_bd (key n : Int) : -9223372036854775808 ≤ cipM key n ∧ cipM key n ≤ 9223372036854775807 := by
  have := hashL_bd (keyed key (bytesNums (sBytes (numS n))))
  unfold cipM derM orOne
  split <;> omega
theorem own_farK {w : World} {base n b o : Nat} {e t : TypeId} {sz : Nat} {v : Value} {xs : List Value} {cs : Array Value} (h : w.ownsRow base e sz v n xs) (hb : Bk.Blk w b t cs) (ht : t ≠ e) (u : Value) : (w.setCell ⟨b, o, none⟩ u).ownsRow base e sz v n xs := by
  obtain ⟨h1, h2⟩ := h
  rcases h2 with h2 | ⟨g, cap, cur, hv, h3, h4, h5⟩
  · exact ⟨h1, .inl h2⟩
  · have hne : g ≠ b := by
      rintro rfl
      unfold Bk.Blk at hb
      rw [hb] at h4
      simp only [Option.some.injEq, Obj.cells.injEq] at h4
      exact ht h4.2.1
    exact ⟨h1, .inr ⟨g, cap, cur, hv, h3, (Below.heap_setCell w ⟨b, o, none⟩ u g hne).trans h4, h5⟩⟩
theorem own_nilK (w : World) (base : Nat) (e : TypeId) (sz : Nat) : w.ownsRow base e sz (.slice none 0 0) 0 [] := ⟨by simp, .inl ⟨rfl, rfl⟩⟩
theorem own_monoK {w : World} {base b2 n : Nat} {e : TypeId} {sz : Nat} {v : Value} {xs : List Value} (h : w.ownsRow base e sz v n xs) (hb : b2 ≤ base) : w.ownsRow b2 e sz v n xs := ownsRow_mono h hb
theorem own_low {w w' : World} {base b2 n : Nat} {e : TypeId} {sz : Nat} {v : Value} {xs : List Value} (_h : w.ownsRow base e sz v n xs) (hb : b2 ≤ base) (h' : w'.ownsRow base e sz v n xs) : w'.ownsRow b2 e sz v n xs := ownsRow_mono h' hb
set_option maxRecDepth 100000 in
set_option maxHeartbeats 8000000 in
theorem prot_impl_yes (ke se re : Int) (A : Option Addr) (n c : Nat) (zs : List Int) (B' : Option Addr) (m d : Nat) (bs : List Int) (w : World) (hp : protP ke se re zs n m) (ht : Tab w) (hr : Rd w 1 A n c (zs.map (Value.int .i64))) (hn : n ≤ 2097152) (hbd : Rd w 1 B' m d (bs.map (Value.int .u8))) (hb : AllBytes bs) :
    Calls Tryd.prog 10 #[.agg #[.int .i64 ke, .int .i64 se, .int .i64 re, .slice A n c], .slice B' m d] w
      (RetPf w ke (se + 1) re n zs (se + 1) m (encL (cipM ke (se + 1)) bs) (macF ke (se + 1) (encL (cipM ke (se + 1)) bs)) true) := by
  obtain ⟨hv, hk0, hs0, hm⟩ := hp
  have hvk := hv.1
  have hk1 : -9223372036854775808 ≤ ke ∧ ke ≤ 9223372036854775807 := by have := hvk.1; omega
  have hse := hvk.2.1
  have HK := Lib.hid hk1
  have HV := Lib.hid hv
  have HR := Lib.hid hr
  have HBD := Lib.hid hbd
  have HB := Lib.hid hb
  have HT := Lib.hid ht
  have hbl : bs.length = m := by have := hbd.1; simpa using this
  have HBL := Lib.hid hbl
  have e1 : (ke == 0) = false := by simpa using hk0
  have e2 : (se == 1000000) = false := by simpa using hs0
  have B : Below w.heap.size w w := Below.refl _ _
  obtain ⟨s0, s1⟩ := hse
  have s2 : se ≤ 999999 := by omega
  clear hr hbd hb ht hv hvk hk0 hs0 hk1 hbl
  go_enter Tryd.func10, Tryd.ntmps10
  go_wp2_with fail
  generalize hW : World.alloc _ _ = w1
  have bk : Bk.Blk w1 (w.heap.size) 27 #[.int .i64 ke, .int .i64 se, .int .i64 re, .slice A n c] := (by rw [← hW]; apply Bk.Blk.to; (focus ((repeat (first | with_reducible assumption | (with_reducible apply Bk.Blk.newAt; focus (first | (simp [Bk.size_set]; done) | (simp [Bk.size_set]; omega))) | with_reducible apply Bk.Blk.drewN | with_reducible apply Bk.Blk.drew | with_reducible apply Bk.Blk.set_ | (with_reducible apply Bk.Blk.far; focus (dsimp only; first | omega | (simp; omega) | (simp; done))) | with_reducible apply Bk.Blk.alloc)))); rfl)
  have r1 : Bk.Blk w1 (w.heap.size + 1) 27 #[.int .i64 0, .int .i64 0, .int .i64 0, .slice none 0 0] := (by rw [← hW]; apply Bk.Blk.to; (focus ((repeat (first | with_reducible assumption | (with_reducible apply Bk.Blk.newAt; focus (first | (simp [Bk.size_set]; done) | (simp [Bk.size_set]; omega))) | with_reducible apply Bk.Blk.drewN | with_reducible apply Bk.Blk.drew | with_reducible apply Bk.Blk.set_ | (with_reducible apply Bk.Blk.far; focus (dsimp only; first | omega | (simp; omega) | (simp; done))) | with_reducible apply Bk.Blk.alloc)))); rfl)
  have r2 : Bk.Blk w1 (w.heap.size + 1 + 1) 29 #[.int .i64 0, .slice none 0 0, .int .i64 0] := (by rw [← hW]; apply Bk.Blk.to; (focus ((repeat (first | with_reducible assumption | (with_reducible apply Bk.Blk.newAt; focus (first | (simp [Bk.size_set]; done) | (simp [Bk.size_set]; omega))) | with_reducible apply Bk.Blk.drewN | with_reducible apply Bk.Blk.drew | with_reducible apply Bk.Blk.set_ | (with_reducible apply Bk.Blk.far; focus (dsimp only; first | omega | (simp; omega) | (simp; done))) | with_reducible apply Bk.Blk.alloc)))); rfl)
  replace B : Below w.heap.size w w1 := (by rw [← hW]; go_grown)
  have z1 : w1.heap.size = _ := congrArg (fun W : World => W.heap.size) hW.symm
  (try simp only [World.size_alloc, Bk.size_set, World.size_drew, World.drewN] at z1)
  clear hW
  refine (copyKs_any ke se re A n c zs _ (HR.out.below B) (by omega)).mono ?_
  rintro x w2 ⟨A1, c1, rfl, hown, hb0⟩
  have HO := hown
  replace bk : Bk.Blk w2 (w.heap.size) 27 #[.int .i64 ke, .int .i64 se, .int .i64 re, .slice A n c] := Bk.Blk.under hb0 (by (repeat (first | with_reducible assumption | (with_reducible apply Bk.Blk.newAt; focus (first | (simp [Bk.size_set]; done) | (simp [Bk.size_set]; omega))) | with_reducible apply Bk.Blk.drewN | with_reducible apply Bk.Blk.drew | with_reducible apply Bk.Blk.set_ | (with_reducible apply Bk.Blk.far; focus (dsimp only; first | omega | (simp; omega) | (simp; done))) | with_reducible apply Bk.Blk.alloc)))
  replace r1 : Bk.Blk w2 (w.heap.size + 1) 27 #[.int .i64 0, .int .i64 0, .int .i64 0, .slice none 0 0] := Bk.Blk.under hb0 (by (repeat (first | with_reducible assumption | (with_reducible apply Bk.Blk.newAt; focus (first | (simp [Bk.size_set]; done) | (simp [Bk.size_set]; omega))) | with_reducible apply Bk.Blk.drewN | with_reducible apply Bk.Blk.drew | with_reducible apply Bk.Blk.set_ | (with_reducible apply Bk.Blk.far; focus (dsimp only; first | omega | (simp; omega) | (simp; done))) | with_reducible apply Bk.Blk.alloc)))
  replace r2 : Bk.Blk w2 (w.heap.size + 1 + 1) 29 #[.int .i64 0, .slice none 0 0, .int .i64 0] := Bk.Blk.under hb0 (by (repeat (first | with_reducible assumption | (with_reducible apply Bk.Blk.newAt; focus (first | (simp [Bk.size_set]; done) | (simp [Bk.size_set]; omega))) | with_reducible apply Bk.Blk.drewN | with_reducible apply Bk.Blk.drew | with_reducible apply Bk.Blk.set_ | (with_reducible apply Bk.Blk.far; focus (dsimp only; first | omega | (simp; omega) | (simp; done))) | with_reducible apply Bk.Blk.alloc)))
  replace B : Below w.heap.size w w2 := Below.trans (by go_grown) (hb0.mono (by first | omega | (simp [Bk.size_set]; done) | (simp [Bk.size_set]; omega)))
  have z2 := hb0.size
  (try simp only [World.size_alloc, Bk.size_set, World.size_drew, World.drewN] at z2)
  clear hb0
  clear hown
  have L_bk := Lay.f4 bk
  have L_r1 := Lay.f4 r1
  have L_r2 := Lay.f3 r2
  go_wp2_with fail
  clear L_bk L_r1 L_r2
  refine (vY_impl ke se re A n c zs _ ((HR.out.below B).alloc _) HV.out).mono ?_
  rintro x w3 ⟨rfl, hb0⟩
  have bo : Bk.Blk w3 (w2.heap.size) 27 #[.int .i64 ke, .int .i64 se, .int .i64 re, .slice A1 n c1] := (by apply Bk.Blk.to; (focus (apply Bk.Blk.under hb0; (repeat (first | with_reducible assumption | (with_reducible apply Bk.Blk.newAt; focus (first | (simp [Bk.size_set]; done) | (simp [Bk.size_set]; omega))) | with_reducible apply Bk.Blk.drewN | with_reducible apply Bk.Blk.drew | with_reducible apply Bk.Blk.set_ | (with_reducible apply Bk.Blk.far; focus (dsimp only; first | omega | (simp; omega) | (simp; done))) | with_reducible apply Bk.Blk.alloc)))); rfl)
  replace HO := own_belowE (own_toE HO rfl) hb0
  replace bk : Bk.Blk w3 (w.heap.size) 27 #[.int .i64 ke, .int .i64 se, .int .i64 re, .slice A n c] := Bk.Blk.under hb0 (by (repeat (first | with_reducible assumption | (with_reducible apply Bk.Blk.newAt; focus (first | (simp [Bk.size_set]; done) | (simp [Bk.size_set]; omega))) | with_reducible apply Bk.Blk.drewN | with_reducible apply Bk.Blk.drew | with_reducible apply Bk.Blk.set_ | (with_reducible apply Bk.Blk.far; focus (dsimp only; first | omega | (simp; omega) | (simp; done))) | with_reducible apply Bk.Blk.alloc)))
  replace r1 : Bk.Blk w3 (w.heap.size + 1) 27 #[.int .i64 0, .int .i64 0, .int .i64 0, .slice none 0 0] := Bk.Blk.under hb0 (by (repeat (first | with_reducible assumption | (with_reducible apply Bk.Blk.newAt; focus (first | (simp [Bk.size_set]; done) | (simp [Bk.size_set]; omega))) | with_reducible apply Bk.Blk.drewN | with_reducible apply Bk.Blk.drew | with_reducible apply Bk.Blk.set_ | (with_reducible apply Bk.Blk.far; focus (dsimp only; first | omega | (simp; omega) | (simp; done))) | with_reducible apply Bk.Blk.alloc)))
  replace r2 : Bk.Blk w3 (w.heap.size + 1 + 1) 29 #[.int .i64 0, .slice none 0 0, .int .i64 0] := Bk.Blk.under hb0 (by (repeat (first | with_reducible assumption | (with_reducible apply Bk.Blk.newAt; focus (first | (simp [Bk.size_set]; done) | (simp [Bk.size_set]; omega))) | with_reducible apply Bk.Blk.drewN | with_reducible apply Bk.Blk.drew | with_reducible apply Bk.Blk.set_ | (with_reducible apply Bk.Blk.far; focus (dsimp only; first | omega | (simp; omega) | (simp; done))) | with_reducible apply Bk.Blk.alloc)))
  replace B : Below w.heap.size w w3 := Below.trans (by go_grown) (hb0.mono (by first | omega | (simp [Bk.size_set]; done) | (simp [Bk.size_set]; omega)))
  have z3 := hb0.size
  (try simp only [World.size_alloc, Bk.size_set, World.size_drew, World.drewN] at z3)
  clear hb0
  have L_bk := Lay.f4 bk
  have L_r1 := Lay.f4 r1
  have L_r2 := Lay.f3 r2
  have L_bo := Lay.f4 bo
  go_wp2_with fail
  clear L_bk L_r1 L_r2 L_bo
  generalize hW : World.alloc _ _ = w4
  have hset := own_farK (o := 1) HO bo (by decide) (.int .i64 (se + 1))
  replace HO := own_toE hset hW
  have bp : Bk.Blk w4 (w3.heap.size) 29 #[.int .i64 (se + 1), .slice none 0 0, .int .i64 0] := (by rw [← hW]; apply Bk.Blk.to; (focus ((repeat (first | with_reducible assumption | (with_reducible apply Bk.Blk.newAt; focus (first | (simp [Bk.size_set]; done) | (simp [Bk.size_set]; omega))) | with_reducible apply Bk.Blk.drewN | with_reducible apply Bk.Blk.drew | with_reducible apply Bk.Blk.set_ | (with_reducible apply Bk.Blk.far; focus (dsimp only; first | omega | (simp; omega) | (simp; done))) | with_reducible apply Bk.Blk.alloc)))); rfl)
  replace bo : Bk.Blk w4 (w2.heap.size) 27 #[.int .i64 ke, .int .i64 (se + 1), .int .i64 re, .slice A1 n c1] := (by rw [← hW]; apply Bk.Blk.to; (focus ((repeat (first | with_reducible assumption | (with_reducible apply Bk.Blk.newAt; focus (first | (simp [Bk.size_set]; done) | (simp [Bk.size_set]; omega))) | with_reducible apply Bk.Blk.drewN | with_reducible apply Bk.Blk.drew | with_reducible apply Bk.Blk.set_ | (with_reducible apply Bk.Blk.far; focus (dsimp only; first | omega | (simp; omega) | (simp; done))) | with_reducible apply Bk.Blk.alloc)))); rfl)
  replace bk : Bk.Blk w4 (w.heap.size) 27 #[.int .i64 ke, .int .i64 se, .int .i64 re, .slice A n c] := (by rw [← hW]; (repeat (first | with_reducible assumption | (with_reducible apply Bk.Blk.newAt; focus (first | (simp [Bk.size_set]; done) | (simp [Bk.size_set]; omega))) | with_reducible apply Bk.Blk.drewN | with_reducible apply Bk.Blk.drew | with_reducible apply Bk.Blk.set_ | (with_reducible apply Bk.Blk.far; focus (dsimp only; first | omega | (simp; omega) | (simp; done))) | with_reducible apply Bk.Blk.alloc)))
  replace r1 : Bk.Blk w4 (w.heap.size + 1) 27 #[.int .i64 0, .int .i64 0, .int .i64 0, .slice none 0 0] := (by rw [← hW]; (repeat (first | with_reducible assumption | (with_reducible apply Bk.Blk.newAt; focus (first | (simp [Bk.size_set]; done) | (simp [Bk.size_set]; omega))) | with_reducible apply Bk.Blk.drewN | with_reducible apply Bk.Blk.drew | with_reducible apply Bk.Blk.set_ | (with_reducible apply Bk.Blk.far; focus (dsimp only; first | omega | (simp; omega) | (simp; done))) | with_reducible apply Bk.Blk.alloc)))
  replace r2 : Bk.Blk w4 (w.heap.size + 1 + 1) 29 #[.int .i64 0, .slice none 0 0, .int .i64 0] := (by rw [← hW]; (repeat (first | with_reducible assumption | (with_reducible apply Bk.Blk.newAt; focus (first | (simp [Bk.size_set]; done) | (simp [Bk.size_set]; omega))) | with_reducible apply Bk.Blk.drewN | with_reducible apply Bk.Blk.drew | with_reducible apply Bk.Blk.set_ | (with_reducible apply Bk.Blk.far; focus (dsimp only; first | omega | (simp; omega) | (simp; done))) | with_reducible apply Bk.Blk.alloc)))
  replace B : Below w.heap.size w w4 := (by rw [← hW]; go_grown)
  have z4 : w4.heap.size = _ := congrArg (fun W : World => W.heap.size) hW.symm
  (try simp only [World.size_alloc, Bk.size_set, World.size_drew, World.drewN] at z4)
  clear hW
  clear hset
  refine (cipher_impl ke (se + 1) (by omega) (by omega) _ HK.out (HT.out.below B)).mono ?_
  rintro x w5 ⟨rfl, hb0⟩
  replace HO := own_belowE HO hb0
  replace bk : Bk.Blk w5 (w.heap.size) 27 #[.int .i64 ke, .int .i64 se, .int .i64 re, .slice A n c] := Bk.Blk.under hb0 (by (repeat (first | with_reducible assumption | (with_reducible apply Bk.Blk.newAt; focus (first | (simp [Bk.size_set]; done) | (simp [Bk.size_set]; omega))) | with_reducible apply Bk.Blk.drewN | with_reducible apply Bk.Blk.drew | with_reducible apply Bk.Blk.set_ | (with_reducible apply Bk.Blk.far; focus (dsimp only; first | omega | (simp; omega) | (simp; done))) | with_reducible apply Bk.Blk.alloc)))
  replace r1 : Bk.Blk w5 (w.heap.size + 1) 27 #[.int .i64 0, .int .i64 0, .int .i64 0, .slice none 0 0] := Bk.Blk.under hb0 (by (repeat (first | with_reducible assumption | (with_reducible apply Bk.Blk.newAt; focus (first | (simp [Bk.size_set]; done) | (simp [Bk.size_set]; omega))) | with_reducible apply Bk.Blk.drewN | with_reducible apply Bk.Blk.drew | with_reducible apply Bk.Blk.set_ | (with_reducible apply Bk.Blk.far; focus (dsimp only; first | omega | (simp; omega) | (simp; done))) | with_reducible apply Bk.Blk.alloc)))
  replace r2 : Bk.Blk w5 (w.heap.size + 1 + 1) 29 #[.int .i64 0, .slice none 0 0, .int .i64 0] := Bk.Blk.under hb0 (by (repeat (first | with_reducible assumption | (with_reducible apply Bk.Blk.newAt; focus (first | (simp [Bk.size_set]; done) | (simp [Bk.size_set]; omega))) | with_reducible apply Bk.Blk.drewN | with_reducible apply Bk.Blk.drew | with_reducible apply Bk.Blk.set_ | (with_reducible apply Bk.Blk.far; focus (dsimp only; first | omega | (simp; omega) | (simp; done))) | with_reducible apply Bk.Blk.alloc)))
  replace bo : Bk.Blk w5 (w2.heap.size) 27 #[.int .i64 ke, .int .i64 (se + 1), .int .i64 re, .slice A1 n c1] := Bk.Blk.under hb0 (by (repeat (first | with_reducible assumption | (with_reducible apply Bk.Blk.newAt; focus (first | (simp [Bk.size_set]; done) | (simp [Bk.size_set]; omega))) | with_reducible apply Bk.Blk.drewN | with_reducible apply Bk.Blk.drew | with_reducible apply Bk.Blk.set_ | (with_reducible apply Bk.Blk.far; focus (dsimp only; first | omega | (simp; omega) | (simp; done))) | with_reducible apply Bk.Blk.alloc)))
  replace bp : Bk.Blk w5 (w3.heap.size) 29 #[.int .i64 (se + 1), .slice none 0 0, .int .i64 0] := Bk.Blk.under hb0 (by (repeat (first | with_reducible assumption | (with_reducible apply Bk.Blk.newAt; focus (first | (simp [Bk.size_set]; done) | (simp [Bk.size_set]; omega))) | with_reducible apply Bk.Blk.drewN | with_reducible apply Bk.Blk.drew | with_reducible apply Bk.Blk.set_ | (with_reducible apply Bk.Blk.far; focus (dsimp only; first | omega | (simp; omega) | (simp; done))) | with_reducible apply Bk.Blk.alloc)))
  replace B : Below w.heap.size w w5 := Below.trans (by go_grown) (hb0.mono (by first | omega | (simp [Bk.size_set]; done) | (simp [Bk.size_set]; omega)))
  have z5 := hb0.size
  (try simp only [World.size_alloc, Bk.size_set, World.size_drew, World.drewN] at z5)
  clear hb0
  have HCB := Lib.hid (cip_bd ke (se + 1))
  generalize cipM ke (se + 1) = ck at *
  have L_bk := Lay.f4 bk
  have L_r1 := Lay.f4 r1
  have L_r2 := Lay.f3 r2
  have L_bo := Lay.f4 bo
  have L_bp := Lay.f3 bp
  go_wp2_with fail
  clear L_bk L_r1 L_r2 L_bo L_bp
  refine (encrypt_impl ck B' m d bs _ HCB.out (HBD.out.below B) HB.out (by omega)).mono ?_
  rintro x w6 ⟨D, e, rfl, hown, hb0⟩
  have HD := hown
  replace HO := own_belowE HO hb0
  replace bk : Bk.Blk w6 (w.heap.size) 27 #[.int .i64 ke, .int .i64 se, .int .i64 re, .slice A n c] := Bk.Blk.under hb0 (by (repeat (first | with_reducible assumption | (with_reducible apply Bk.Blk.newAt; focus (first | (simp [Bk.size_set]; done) | (simp [Bk.size_set]; omega))) | with_reducible apply Bk.Blk.drewN | with_reducible apply Bk.Blk.drew | with_reducible apply Bk.Blk.set_ | (with_reducible apply Bk.Blk.far; focus (dsimp only; first | omega | (simp; omega) | (simp; done))) | with_reducible apply Bk.Blk.alloc)))
  replace r1 : Bk.Blk w6 (w.heap.size + 1) 27 #[.int .i64 0, .int .i64 0, .int .i64 0, .slice none 0 0] := Bk.Blk.under hb0 (by (repeat (first | with_reducible assumption | (with_reducible apply Bk.Blk.newAt; focus (first | (simp [Bk.size_set]; done) | (simp [Bk.size_set]; omega))) | with_reducible apply Bk.Blk.drewN | with_reducible apply Bk.Blk.drew | with_reducible apply Bk.Blk.set_ | (with_reducible apply Bk.Blk.far; focus (dsimp only; first | omega | (simp; omega) | (simp; done))) | with_reducible apply Bk.Blk.alloc)))
  replace r2 : Bk.Blk w6 (w.heap.size + 1 + 1) 29 #[.int .i64 0, .slice none 0 0, .int .i64 0] := Bk.Blk.under hb0 (by (repeat (first | with_reducible assumption | (with_reducible apply Bk.Blk.newAt; focus (first | (simp [Bk.size_set]; done) | (simp [Bk.size_set]; omega))) | with_reducible apply Bk.Blk.drewN | with_reducible apply Bk.Blk.drew | with_reducible apply Bk.Blk.set_ | (with_reducible apply Bk.Blk.far; focus (dsimp only; first | omega | (simp; omega) | (simp; done))) | with_reducible apply Bk.Blk.alloc)))
  replace bo : Bk.Blk w6 (w2.heap.size) 27 #[.int .i64 ke, .int .i64 (se + 1), .int .i64 re, .slice A1 n c1] := Bk.Blk.under hb0 (by (repeat (first | with_reducible assumption | (with_reducible apply Bk.Blk.newAt; focus (first | (simp [Bk.size_set]; done) | (simp [Bk.size_set]; omega))) | with_reducible apply Bk.Blk.drewN | with_reducible apply Bk.Blk.drew | with_reducible apply Bk.Blk.set_ | (with_reducible apply Bk.Blk.far; focus (dsimp only; first | omega | (simp; omega) | (simp; done))) | with_reducible apply Bk.Blk.alloc)))
  replace bp : Bk.Blk w6 (w3.heap.size) 29 #[.int .i64 (se + 1), .slice none 0 0, .int .i64 0] := Bk.Blk.under hb0 (by (repeat (first | with_reducible assumption | (with_reducible apply Bk.Blk.newAt; focus (first | (simp [Bk.size_set]; done) | (simp [Bk.size_set]; omega))) | with_reducible apply Bk.Blk.drewN | with_reducible apply Bk.Blk.drew | with_reducible apply Bk.Blk.set_ | (with_reducible apply Bk.Blk.far; focus (dsimp only; first | omega | (simp; omega) | (simp; done))) | with_reducible apply Bk.Blk.alloc)))
  replace B : Below w.heap.size w w6 := Below.trans (by go_grown) (hb0.mono (by first | omega | (simp [Bk.size_set]; done) | (simp [Bk.size_set]; omega)))
  have z6 := hb0.size
  (try simp only [World.size_alloc, Bk.size_set, World.size_drew, World.drewN] at z6)
  clear hb0
  clear hown
  have L_bk := Lay.f4 bk
  have L_r1 := Lay.f4 r1
  have L_r2 := Lay.f3 r2
  have L_bo := Lay.f4 bo
  have L_bp := Lay.f3 bp
  go_wp2_with fail
  clear L_bk L_r1 L_r2 L_bo L_bp
  generalize hW : World.setCell _ _ _ = w7
  replace HO := hW ▸ own_farK (o := 1) HO bp (by decide) (.slice D m e)
  replace HD := hW ▸ own_farK (o := 1) HD bp (by decide) (.slice D m e)
  replace bp : Bk.Blk w7 (w3.heap.size) 29 #[.int .i64 (se + 1), .slice D m e, .int .i64 0] := (by rw [← hW]; apply Bk.Blk.to; (focus ((repeat (first | with_reducible assumption | (with_reducible apply Bk.Blk.newAt; focus (first | (simp [Bk.size_set]; done) | (simp [Bk.size_set]; omega))) | with_reducible apply Bk.Blk.drewN | with_reducible apply Bk.Blk.drew | with_reducible apply Bk.Blk.set_ | (with_reducible apply Bk.Blk.far; focus (dsimp only; first | omega | (simp; omega) | (simp; done))) | with_reducible apply Bk.Blk.alloc)))); rfl)
  replace bk : Bk.Blk w7 (w.heap.size) 27 #[.int .i64 ke, .int .i64 se, .int .i64 re, .slice A n c] := (by rw [← hW]; (repeat (first | with_reducible assumption | (with_reducible apply Bk.Blk.newAt; focus (first | (simp [Bk.size_set]; done) | (simp [Bk.size_set]; omega))) | with_reducible apply Bk.Blk.drewN | with_reducible apply Bk.Blk.drew | with_reducible apply Bk.Blk.set_ | (with_reducible apply Bk.Blk.far; focus (dsimp only; first | omega | (simp; omega) | (simp; done))) | with_reducible apply Bk.Blk.alloc)))
  replace r1 : Bk.Blk w7 (w.heap.size + 1) 27 #[.int .i64 0, .int .i64 0, .int .i64 0, .slice none 0 0] := (by rw [← hW]; (repeat (first | with_reducible assumption | (with_reducible apply Bk.Blk.newAt; focus (first | (simp [Bk.size_set]; done) | (simp [Bk.size_set]; omega))) | with_reducible apply Bk.Blk.drewN | with_reducible apply Bk.Blk.drew | with_reducible apply Bk.Blk.set_ | (with_reducible apply Bk.Blk.far; focus (dsimp only; first | omega | (simp; omega) | (simp; done))) | with_reducible apply Bk.Blk.alloc)))
  replace r2 : Bk.Blk w7 (w.heap.size + 1 + 1) 29 #[.int .i64 0, .slice none 0 0, .int .i64 0] := (by rw [← hW]; (repeat (first | with_reducible assumption | (with_reducible apply Bk.Blk.newAt; focus (first | (simp [Bk.size_set]; done) | (simp [Bk.size_set]; omega))) | with_reducible apply Bk.Blk.drewN | with_reducible apply Bk.Blk.drew | with_reducible apply Bk.Blk.set_ | (with_reducible apply Bk.Blk.far; focus (dsimp only; first | omega | (simp; omega) | (simp; done))) | with_reducible apply Bk.Blk.alloc)))
  replace bo : Bk.Blk w7 (w2.heap.size) 27 #[.int .i64 ke, .int .i64 (se + 1), .int .i64 re, .slice A1 n c1] := (by rw [← hW]; (repeat (first | with_reducible assumption | (with_reducible apply Bk.Blk.newAt; focus (first | (simp [Bk.size_set]; done) | (simp [Bk.size_set]; omega))) | with_reducible apply Bk.Blk.drewN | with_reducible apply Bk.Blk.drew | with_reducible apply Bk.Blk.set_ | (with_reducible apply Bk.Blk.far; focus (dsimp only; first | omega | (simp; omega) | (simp; done))) | with_reducible apply Bk.Blk.alloc)))
  replace B : Below w.heap.size w w7 := (by rw [← hW]; go_grown)
  have z7 : w7.heap.size = _ := congrArg (fun W : World => W.heap.size) hW.symm
  (try simp only [World.size_alloc, Bk.size_set, World.size_drew, World.drewN] at z7)
  clear hW
  have HEL := Lib.hid (encL_bytes ck bs)
  have hel := encL_len ck bs
  have hel2 := HBL.out
  generalize encL ck bs = es at *
  refine (mac_impl ke (se + 1) 0 D m e es _ HK.out (by omega) (Rd.of_own HD) HEL.out (by omega)).mono ?_
  rintro x w8 ⟨rfl, hb0⟩
  replace HO := own_belowE HO hb0
  replace HD := own_belowE HD hb0
  replace bk : Bk.Blk w8 (w.heap.size) 27 #[.int .i64 ke, .int .i64 se, .int .i64 re, .slice A n c] := Bk.Blk.under hb0 (by (repeat (first | with_reducible assumption | (with_reducible apply Bk.Blk.newAt; focus (first | (simp [Bk.size_set]; done) | (simp [Bk.size_set]; omega))) | with_reducible apply Bk.Blk.drewN | with_reducible apply Bk.Blk.drew | with_reducible apply Bk.Blk.set_ | (with_reducible apply Bk.Blk.far; focus (dsimp only; first | omega | (simp; omega) | (simp; done))) | with_reducible apply Bk.Blk.alloc)))
  replace r1 : Bk.Blk w8 (w.heap.size + 1) 27 #[.int .i64 0, .int .i64 0, .int .i64 0, .slice none 0 0] := Bk.Blk.under hb0 (by (repeat (first | with_reducible assumption | (with_reducible apply Bk.Blk.newAt; focus (first | (simp [Bk.size_set]; done) | (simp [Bk.size_set]; omega))) | with_reducible apply Bk.Blk.drewN | with_reducible apply Bk.Blk.drew | with_reducible apply Bk.Blk.set_ | (with_reducible apply Bk.Blk.far; focus (dsimp only; first | omega | (simp; omega) | (simp; done))) | with_reducible apply Bk.Blk.alloc)))
  replace r2 : Bk.Blk w8 (w.heap.size + 1 + 1) 29 #[.int .i64 0, .slice none 0 0, .int .i64 0] := Bk.Blk.under hb0 (by (repeat (first | with_reducible assumption | (with_reducible apply Bk.Blk.newAt; focus (first | (simp [Bk.size_set]; done) | (simp [Bk.size_set]; omega))) | with_reducible apply Bk.Blk.drewN | with_reducible apply Bk.Blk.drew | with_reducible apply Bk.Blk.set_ | (with_reducible apply Bk.Blk.far; focus (dsimp only; first | omega | (simp; omega) | (simp; done))) | with_reducible apply Bk.Blk.alloc)))
  replace bo : Bk.Blk w8 (w2.heap.size) 27 #[.int .i64 ke, .int .i64 (se + 1), .int .i64 re, .slice A1 n c1] := Bk.Blk.under hb0 (by (repeat (first | with_reducible assumption | (with_reducible apply Bk.Blk.newAt; focus (first | (simp [Bk.size_set]; done) | (simp [Bk.size_set]; omega))) | with_reducible apply Bk.Blk.drewN | with_reducible apply Bk.Blk.drew | with_reducible apply Bk.Blk.set_ | (with_reducible apply Bk.Blk.far; focus (dsimp only; first | omega | (simp; omega) | (simp; done))) | with_reducible apply Bk.Blk.alloc)))
  replace bp : Bk.Blk w8 (w3.heap.size) 29 #[.int .i64 (se + 1), .slice D m e, .int .i64 0] := Bk.Blk.under hb0 (by (repeat (first | with_reducible assumption | (with_reducible apply Bk.Blk.newAt; focus (first | (simp [Bk.size_set]; done) | (simp [Bk.size_set]; omega))) | with_reducible apply Bk.Blk.drewN | with_reducible apply Bk.Blk.drew | with_reducible apply Bk.Blk.set_ | (with_reducible apply Bk.Blk.far; focus (dsimp only; first | omega | (simp; omega) | (simp; done))) | with_reducible apply Bk.Blk.alloc)))
  replace B : Below w.heap.size w w8 := Below.trans (by go_grown) (hb0.mono (by first | omega | (simp [Bk.size_set]; done) | (simp [Bk.size_set]; omega)))
  have z8 := hb0.size
  (try simp only [World.size_alloc, Bk.size_set, World.size_drew, World.drewN] at z8)
  clear hb0
  generalize macF ke (se + 1) es = mc at *
  have L_bk := Lay.f4 bk
  have L_r1 := Lay.f4 r1
  have L_r2 := Lay.f3 r2
  have L_bo := Lay.f4 bo
  have L_bp := Lay.f3 bp
  go_wp2_with fail
  clear L_bk L_r1 L_r2 L_bo L_bp
  generalize hW : World.setCell _ _ _ = w9
  replace HO := hW ▸ own_farK (o := 2) HO bp (by decide) (.int .i64 mc)
  replace HD := hW ▸ own_farK (o := 2) HD bp (by decide) (.int .i64 mc)
  replace bp : Bk.Blk w9 (w3.heap.size) 29 #[.int .i64 (se + 1), .slice D m e, .int .i64 mc] := (by rw [← hW]; apply Bk.Blk.to; (focus ((repeat (first | with_reducible assumption | (with_reducible apply Bk.Blk.newAt; focus (first | (simp [Bk.size_set]; done) | (simp [Bk.size_set]; omega))) | with_reducible apply Bk.Blk.drewN | with_reducible apply Bk.Blk.drew | with_reducible apply Bk.Blk.set_ | (with_reducible apply Bk.Blk.far; focus (dsimp only; first | omega | (simp; omega) | (simp; done))) | with_reducible apply Bk.Blk.alloc)))); rfl)
  replace bk : Bk.Blk w9 (w.heap.size) 27 #[.int .i64 ke, .int .i64 se, .int .i64 re, .slice A n c] := (by rw [← hW]; (repeat (first | with_reducible assumption | (with_reducible apply Bk.Blk.newAt; focus (first | (simp [Bk.size_set]; done) | (simp [Bk.size_set]; omega))) | with_reducible apply Bk.Blk.drewN | with_reducible apply Bk.Blk.drew | with_reducible apply Bk.Blk.set_ | (with_reducible apply Bk.Blk.far; focus (dsimp only; first | omega | (simp; omega) | (simp; done))) | with_reducible apply Bk.Blk.alloc)))
  replace r1 : Bk.Blk w9 (w.heap.size + 1) 27 #[.int .i64 0, .int .i64 0, .int .i64 0, .slice none 0 0] := (by rw [← hW]; (repeat (first | with_reducible assumption | (with_reducible apply Bk.Blk.newAt; focus (first | (simp [Bk.size_set]; done) | (simp [Bk.size_set]; omega))) | with_reducible apply Bk.Blk.drewN | with_reducible apply Bk.Blk.drew | with_reducible apply Bk.Blk.set_ | (with_reducible apply Bk.Blk.far; focus (dsimp only; first | omega | (simp; omega) | (simp; done))) | with_reducible apply Bk.Blk.alloc)))
  replace r2 : Bk.Blk w9 (w.heap.size + 1 + 1) 29 #[.int .i64 0, .slice none 0 0, .int .i64 0] := (by rw [← hW]; (repeat (first | with_reducible assumption | (with_reducible apply Bk.Blk.newAt; focus (first | (simp [Bk.size_set]; done) | (simp [Bk.size_set]; omega))) | with_reducible apply Bk.Blk.drewN | with_reducible apply Bk.Blk.drew | with_reducible apply Bk.Blk.set_ | (with_reducible apply Bk.Blk.far; focus (dsimp only; first | omega | (simp; omega) | (simp; done))) | with_reducible apply Bk.Blk.alloc)))
  replace bo : Bk.Blk w9 (w2.heap.size) 27 #[.int .i64 ke, .int .i64 (se + 1), .int .i64 re, .slice A1 n c1] := (by rw [← hW]; (repeat (first | with_reducible assumption | (with_reducible apply Bk.Blk.newAt; focus (first | (simp [Bk.size_set]; done) | (simp [Bk.size_set]; omega))) | with_reducible apply Bk.Blk.drewN | with_reducible apply Bk.Blk.drew | with_reducible apply Bk.Blk.set_ | (with_reducible apply Bk.Blk.far; focus (dsimp only; first | omega | (simp; omega) | (simp; done))) | with_reducible apply Bk.Blk.alloc)))
  replace B : Below w.heap.size w w9 := (by rw [← hW]; go_grown)
  have z9 : w9.heap.size = _ := congrArg (fun W : World => W.heap.size) hW.symm
  (try simp only [World.size_alloc, Bk.size_set, World.size_drew, World.drewN] at z9)
  clear hW
  have L_r1 := Lay.f4 r1
  have L_r2 := Lay.f3 r2
  have L_bo := Lay.f4 bo
  have L_bp := Lay.f3 bp
  refine wp_region_held_drew (S := (fun w' => Bk.Blk w' (w2.heap.size) 27 #[.int .i64 ke, .int .i64 (se + 1), .int .i64 re, .slice A1 n c1] ∧ Bk.Blk w' (w3.heap.size) 29 #[.int .i64 (se + 1), .slice D m e, .int .i64 mc])) (by kernel_rfl) ?_ (fun hHeld => ?_)
  · (try dsimp only); (refine ⟨?_, ?_⟩ <;> (repeat (first | with_reducible assumption | (with_reducible apply Bk.Blk.newAt; focus (first | (simp [Bk.size_set]; done) | (simp [Bk.size_set]; omega))) | with_reducible apply Bk.Blk.drewN | with_reducible apply Bk.Blk.drew | with_reducible apply Bk.Blk.set_ | (with_reducible apply Bk.Blk.far; focus (dsimp only; first | omega | (simp; omega) | (simp; done))) | with_reducible apply Bk.Blk.alloc)))
  first | (refine wpAnyH_take (i := 0) (v := ?_) (Reg.get rfl) (by kernel_rfl) (by kernel_rfl) (by kernel_rfl) (fun _ _ _ h => h) (Or.inl ⟨by rfl, ?_⟩) hHeld ?_; rotate_left 1; (focus (intro wq hSw; (try dsimp only at hSw); obtain ⟨s_bo, s_bp⟩ := hSw; have L_bo := Lay.c4 s_bo; have L_bp := Lay.c3 s_bp;  go_simp <;> with_reducible rfl))) | (refine wpAnyH_take (i := 0) (v := undef) (Reg.get rfl) (by kernel_rfl) (by kernel_rfl) (by kernel_rfl) (fun _ _ _ h => h) (Or.inr ⟨by rfl, rfl⟩) hHeld ?_)
  try simp only [Act.put, List.setIfInBounds_toArray, List.set_cons_zero, List.set_cons_succ]
  first | (refine wpAnyH_take (i := 1) (v := ?_) (Reg.get rfl) (by kernel_rfl) (by kernel_rfl) (by kernel_rfl) (fun _ _ _ h => h) (Or.inl ⟨by rfl, ?_⟩) hHeld ?_; rotate_left 1; (focus (intro wq hSw; (try dsimp only at hSw); obtain ⟨s_bo, s_bp⟩ := hSw; have L_bo := Lay.c4 s_bo; have L_bp := Lay.c3 s_bp;  go_simp <;> with_reducible rfl))) | (refine wpAnyH_take (i := 1) (v := undef) (Reg.get rfl) (by kernel_rfl) (by kernel_rfl) (by kernel_rfl) (fun _ _ _ h => h) (Or.inr ⟨by rfl, rfl⟩) hHeld ?_)
  try simp only [Act.put, List.setIfInBounds_toArray, List.set_cons_zero, List.set_cons_succ]
  first | ((refine wpAnyH_take (i := 2) (v := undef) (Reg.get rfl) (by kernel_rfl) (by kernel_rfl) (by kernel_rfl) (fun _ _ _ h => h) (Or.inr ⟨by rfl, rfl⟩) hHeld ?_)) | (refine wpAnyH_ready (rs := [2]) (by kernel_rfl) (by simp) ?_; refine AllReadyH.cons (Reg.get rfl) (fun K hK => ?_) AllReadyH.nil; clear hHeld; go_simp; (skip); refine hK.out _ _ ?_ (fun hHeld => ?_); ((try dsimp only); (refine ⟨?_, ?_⟩ <;> (repeat (first | with_reducible assumption | (with_reducible apply Bk.Blk.newAt; focus (first | (simp [Bk.size_set]; done) | (simp [Bk.size_set]; omega))) | with_reducible apply Bk.Blk.drewN | with_reducible apply Bk.Blk.drew | with_reducible apply Bk.Blk.set_ | (with_reducible apply Bk.Blk.far; focus (dsimp only; first | omega | (simp; omega) | (simp; done))) | with_reducible apply Bk.Blk.alloc)))); clear hK K)
  try simp only [Act.put, List.setIfInBounds_toArray, List.set_cons_zero, List.set_cons_succ]
  first | ((refine wpAnyH_take (i := 3) (v := undef) (Reg.get rfl) (by kernel_rfl) (by kernel_rfl) (by kernel_rfl) (fun _ _ _ h => h) (Or.inr ⟨by rfl, rfl⟩) hHeld ?_)) | (refine wpAnyH_ready (rs := [3]) (by kernel_rfl) (by simp) ?_; refine AllReadyH.cons (Reg.get rfl) (fun K hK => ?_) AllReadyH.nil; clear hHeld; go_simp; (skip); refine hK.out _ _ ?_ (fun hHeld => ?_); ((try dsimp only); (refine ⟨?_, ?_⟩ <;> (repeat (first | with_reducible assumption | (with_reducible apply Bk.Blk.newAt; focus (first | (simp [Bk.size_set]; done) | (simp [Bk.size_set]; omega))) | with_reducible apply Bk.Blk.drewN | with_reducible apply Bk.Blk.drew | with_reducible apply Bk.Blk.set_ | (with_reducible apply Bk.Blk.far; focus (dsimp only; first | omega | (simp; omega) | (simp; done))) | with_reducible apply Bk.Blk.alloc)))); clear hK K)
  try simp only [Act.put, List.setIfInBounds_toArray, List.set_cons_zero, List.set_cons_succ]
  first | (refine wpAnyH_take (i := 4) (v := ?_) (Reg.get rfl) (by kernel_rfl) (by kernel_rfl) (by kernel_rfl) (fun _ _ _ h => h) (Or.inl ⟨by rfl, ?_⟩) hHeld ?_; rotate_left 1; (focus (intro wq hSw; (try dsimp only at hSw); obtain ⟨s_bo, s_bp⟩ := hSw; have L_bo := Lay.c4 s_bo; have L_bp := Lay.c3 s_bp;  go_simp <;> with_reducible rfl))) | (refine wpAnyH_take (i := 4) (v := undef) (Reg.get rfl) (by kernel_rfl) (by kernel_rfl) (by kernel_rfl) (fun _ _ _ h => h) (Or.inr ⟨by rfl, rfl⟩) hHeld ?_)
  try simp only [Act.put, List.setIfInBounds_toArray, List.set_cons_zero, List.set_cons_succ]
  refine wpAnyH_done (by kernel_rfl) ?_ _
  clear L_r1 L_r2 L_bo L_bp
  generalize hW : World.setCell _ _ _ = w10
  have HO2 := Lib.hid (show w10.ownsRow w.heap.size 3 1 (.slice A1 n c1) n (zs.map (Value.int .i64)) from by rw [← hW]; exact (own_low HO (by omega) (by repeat (first | with_reducible exact HO | (with_reducible refine own_set ?_ (by dsimp only; omega) _) | with_reducible refine own_drewE ?_))))
  have HD2 := Lib.hid (show w10.ownsRow w.heap.size 5 1 (.slice D m e) m (es.map (Value.int .u8)) from by rw [← hW]; exact (own_low HD (by omega) (by repeat (first | with_reducible exact HD | (with_reducible refine own_set ?_ (by dsimp only; omega) _) | with_reducible refine own_drewE ?_))))
  replace r1 : Bk.Blk w10 (w.heap.size + 1) 27 #[.int .i64 ke, .int .i64 (se + 1), .int .i64 re, .slice A1 n c1] := (by rw [← hW]; apply Bk.Blk.to; (focus ((repeat (first | with_reducible assumption | (with_reducible apply Bk.Blk.newAt; focus (first | (simp [Bk.size_set]; done) | (simp [Bk.size_set]; omega))) | with_reducible apply Bk.Blk.drewN | with_reducible apply Bk.Blk.drew | with_reducible apply Bk.Blk.set_ | (with_reducible apply Bk.Blk.far; focus (dsimp only; first | omega | (simp; omega) | (simp; done))) | with_reducible apply Bk.Blk.alloc)))); rfl)
  replace r2 : Bk.Blk w10 (w.heap.size + 1 + 1) 29 #[.int .i64 (se + 1), .slice D m e, .int .i64 mc] := (by rw [← hW]; apply Bk.Blk.to; (focus ((repeat (first | with_reducible assumption | (with_reducible apply Bk.Blk.newAt; focus (first | (simp [Bk.size_set]; done) | (simp [Bk.size_set]; omega))) | with_reducible apply Bk.Blk.drewN | with_reducible apply Bk.Blk.drew | with_reducible apply Bk.Blk.set_ | (with_reducible apply Bk.Blk.far; focus (dsimp only; first | omega | (simp; omega) | (simp; done))) | with_reducible apply Bk.Blk.alloc)))); rfl)
  replace B : Below w.heap.size w w10 := (by rw [← hW]; go_grown)
  have z10 : w10.heap.size = _ := congrArg (fun W : World => W.heap.size) hW.symm
  (try simp only [World.size_alloc, Bk.size_set, World.size_drew, World.drewN] at z10)
  clear hW
  have L_r1 := Lay.c4 r1
  have L_r2 := Lay.c3 r2
  go_wp2
  refine bodyPost_ret (v := .tuple #[.agg #[.int .i64 ke, .int .i64 (se + 1), .int .i64 re, .slice A1 n c1], .agg #[.int .i64 (se + 1), .slice D m e, .int .i64 mc], .bool true]) (by simp [results, Tryd.results10, go_sem, L_r1, L_r2]) rfl (⟨A1, c1, D, e, rfl, HO2.out, HD2.out, (by first | exact B | exact B.drew)⟩)
set_option maxRecDepth 100000 in
set_option maxHeartbeats 8000000 in
theorem prot_impl_no (ke se re : Int) (A : Option Addr) (n c : Nat) (zs : List Int) (B' : Option Addr) (m d : Nat) (w : World) (hp : ¬ protP ke se re zs n m) (hr : Rd w 1 A n c (zs.map (Value.int .i64))) (hn : n ≤ 2097152) (hm : m ≤ 9223372036854775807) :
    Calls Tryd.prog 10 #[.agg #[.int .i64 ke, .int .i64 se, .int .i64 re, .slice A n c], .slice B' m d] w
      (RetPf w ke se re n zs 0 0 [] 0 false) := by
  have hcase : (¬ validK ke se re zs n) ∨ (validK ke se re zs n ∧ (ke == 0) = true) ∨ (validK ke se re zs n ∧ (ke == 0) = false ∧ (se == 1000000) = true) ∨ (validK ke se re zs n ∧ (ke == 0) = false ∧ (se == 1000000) = false ∧ 100 < (m : Int)) := by
    by_cases h1 : validK ke se re zs n
    · right
      by_cases h2 : ke = 0
      · exact .inl ⟨h1, by simpa using h2⟩
      · right
        by_cases h3 : se = 1000000
        · exact .inl ⟨h1, by simpa using h2, by simpa using h3⟩
        · right
          by_cases h4 : m ≤ 100
          · exact absurd ⟨h1, h2, h3, h4⟩ hp
          · exact ⟨h1, by simpa using h2, by simpa using h3, by omega⟩
    · exact .inl h1
  have HR := Lib.hid hr
  have B : Below w.heap.size w w := Below.refl _ _
  clear hr hp
  go_enter Tryd.func10, Tryd.ntmps10
  go_wp2_with fail
  generalize hW : World.alloc _ _ = w1
  have bk : Bk.Blk w1 (w.heap.size) 27 #[.int .i64 ke, .int .i64 se, .int .i64 re, .slice A n c] := (by rw [← hW]; apply Bk.Blk.to; (focus ((repeat (first | with_reducible assumption | (with_reducible apply Bk.Blk.newAt; focus (first | (simp [Bk.size_set]; done) | (simp [Bk.size_set]; omega))) | with_reducible apply Bk.Blk.drewN | with_reducible apply Bk.Blk.drew | with_reducible apply Bk.Blk.set_ | (with_reducible apply Bk.Blk.far; focus (dsimp only; first | omega | (simp; omega) | (simp; done))) | with_reducible apply Bk.Blk.alloc)))); rfl)
  have r1 : Bk.Blk w1 (w.heap.size + 1) 27 #[.int .i64 0, .int .i64 0, .int .i64 0, .slice none 0 0] := (by rw [← hW]; apply Bk.Blk.to; (focus ((repeat (first | with_reducible assumption | (with_reducible apply Bk.Blk.newAt; focus (first | (simp [Bk.size_set]; done) | (simp [Bk.size_set]; omega))) | with_reducible apply Bk.Blk.drewN | with_reducible apply Bk.Blk.drew | with_reducible apply Bk.Blk.set_ | (with_reducible apply Bk.Blk.far; focus (dsimp only; first | omega | (simp; omega) | (simp; done))) | with_reducible apply Bk.Blk.alloc)))); rfl)
  have r2 : Bk.Blk w1 (w.heap.size + 1 + 1) 29 #[.int .i64 0, .slice none 0 0, .int .i64 0] := (by rw [← hW]; apply Bk.Blk.to; (focus ((repeat (first | with_reducible assumption | (with_reducible apply Bk.Blk.newAt; focus (first | (simp [Bk.size_set]; done) | (simp [Bk.size_set]; omega))) | with_reducible apply Bk.Blk.drewN | with_reducible apply Bk.Blk.drew | with_reducible apply Bk.Blk.set_ | (with_reducible apply Bk.Blk.far; focus (dsimp only; first | omega | (simp; omega) | (simp; done))) | with_reducible apply Bk.Blk.alloc)))); rfl)
  replace B : Below w.heap.size w w1 := (by rw [← hW]; go_grown)
  have z1 : w1.heap.size = _ := congrArg (fun W : World => W.heap.size) hW.symm
  (try simp only [World.size_alloc, Bk.size_set, World.size_drew, World.drewN] at z1)
  clear hW
  refine (copyKs_any ke se re A n c zs _ (HR.out.below B) (by omega)).mono ?_
  rintro x w2 ⟨A1, c1, rfl, hown, hb0⟩
  have HO := hown
  replace bk : Bk.Blk w2 (w.heap.size) 27 #[.int .i64 ke, .int .i64 se, .int .i64 re, .slice A n c] := Bk.Blk.under hb0 (by (repeat (first | with_reducible assumption | (with_reducible apply Bk.Blk.newAt; focus (first | (simp [Bk.size_set]; done) | (simp [Bk.size_set]; omega))) | with_reducible apply Bk.Blk.drewN | with_reducible apply Bk.Blk.drew | with_reducible apply Bk.Blk.set_ | (with_reducible apply Bk.Blk.far; focus (dsimp only; first | omega | (simp; omega) | (simp; done))) | with_reducible apply Bk.Blk.alloc)))
  replace r1 : Bk.Blk w2 (w.heap.size + 1) 27 #[.int .i64 0, .int .i64 0, .int .i64 0, .slice none 0 0] := Bk.Blk.under hb0 (by (repeat (first | with_reducible assumption | (with_reducible apply Bk.Blk.newAt; focus (first | (simp [Bk.size_set]; done) | (simp [Bk.size_set]; omega))) | with_reducible apply Bk.Blk.drewN | with_reducible apply Bk.Blk.drew | with_reducible apply Bk.Blk.set_ | (with_reducible apply Bk.Blk.far; focus (dsimp only; first | omega | (simp; omega) | (simp; done))) | with_reducible apply Bk.Blk.alloc)))
  replace r2 : Bk.Blk w2 (w.heap.size + 1 + 1) 29 #[.int .i64 0, .slice none 0 0, .int .i64 0] := Bk.Blk.under hb0 (by (repeat (first | with_reducible assumption | (with_reducible apply Bk.Blk.newAt; focus (first | (simp [Bk.size_set]; done) | (simp [Bk.size_set]; omega))) | with_reducible apply Bk.Blk.drewN | with_reducible apply Bk.Blk.drew | with_reducible apply Bk.Blk.set_ | (with_reducible apply Bk.Blk.far; focus (dsimp only; first | omega | (simp; omega) | (simp; done))) | with_reducible apply Bk.Blk.alloc)))
  replace B : Below w.heap.size w w2 := Below.trans (by go_grown) (hb0.mono (by first | omega | (simp [Bk.size_set]; done) | (simp [Bk.size_set]; omega)))
  have z2 := hb0.size
  (try simp only [World.size_alloc, Bk.size_set, World.size_drew, World.drewN] at z2)
  clear hb0
  clear hown
  have L_bk := Lay.f4 bk
  have L_r1 := Lay.f4 r1
  have L_r2 := Lay.f3 r2
  go_wp2_with fail
  clear L_bk L_r1 L_r2
  rcases hcase with hv | ⟨hv, e1⟩ | ⟨hv, e1, e2⟩ | ⟨hv, e1, e2, e3⟩
  all_goals
    first
      | refine (vN_impl ke se re A n c zs _ ((HR.out.below B).alloc _) hv).mono ?_
      | refine (vY_impl ke se re A n c zs _ ((HR.out.below B).alloc _) hv).mono ?_
    rintro x w3 ⟨rfl, hb0⟩
    clear hv
    have bo : Bk.Blk w3 (w2.heap.size) 27 #[.int .i64 ke, .int .i64 se, .int .i64 re, .slice A1 n c1] := (by apply Bk.Blk.to; (focus (apply Bk.Blk.under hb0; (repeat (first | with_reducible assumption | (with_reducible apply Bk.Blk.newAt; focus (first | (simp [Bk.size_set]; done) | (simp [Bk.size_set]; omega))) | with_reducible apply Bk.Blk.drewN | with_reducible apply Bk.Blk.drew | with_reducible apply Bk.Blk.set_ | (with_reducible apply Bk.Blk.far; focus (dsimp only; first | omega | (simp; omega) | (simp; done))) | with_reducible apply Bk.Blk.alloc)))); rfl)
    have HO3 := own_belowE (own_toE HO rfl) hb0
    clear HO
    have HO := HO3
    clear HO3
    replace bk : Bk.Blk w3 (w.heap.size) 27 #[.int .i64 ke, .int .i64 se, .int .i64 re, .slice A n c] := Bk.Blk.under hb0 (by (repeat (first | with_reducible assumption | (with_reducible apply Bk.Blk.newAt; focus (first | (simp [Bk.size_set]; done) | (simp [Bk.size_set]; omega))) | with_reducible apply Bk.Blk.drewN | with_reducible apply Bk.Blk.drew | with_reducible apply Bk.Blk.set_ | (with_reducible apply Bk.Blk.far; focus (dsimp only; first | omega | (simp; omega) | (simp; done))) | with_reducible apply Bk.Blk.alloc)))
    replace r1 : Bk.Blk w3 (w.heap.size + 1) 27 #[.int .i64 0, .int .i64 0, .int .i64 0, .slice none 0 0] := Bk.Blk.under hb0 (by (repeat (first | with_reducible assumption | (with_reducible apply Bk.Blk.newAt; focus (first | (simp [Bk.size_set]; done) | (simp [Bk.size_set]; omega))) | with_reducible apply Bk.Blk.drewN | with_reducible apply Bk.Blk.drew | with_reducible apply Bk.Blk.set_ | (with_reducible apply Bk.Blk.far; focus (dsimp only; first | omega | (simp; omega) | (simp; done))) | with_reducible apply Bk.Blk.alloc)))
    replace r2 : Bk.Blk w3 (w.heap.size + 1 + 1) 29 #[.int .i64 0, .slice none 0 0, .int .i64 0] := Bk.Blk.under hb0 (by (repeat (first | with_reducible assumption | (with_reducible apply Bk.Blk.newAt; focus (first | (simp [Bk.size_set]; done) | (simp [Bk.size_set]; omega))) | with_reducible apply Bk.Blk.drewN | with_reducible apply Bk.Blk.drew | with_reducible apply Bk.Blk.set_ | (with_reducible apply Bk.Blk.far; focus (dsimp only; first | omega | (simp; omega) | (simp; done))) | with_reducible apply Bk.Blk.alloc)))
    replace B : Below w.heap.size w w3 := Below.trans (by go_grown) (hb0.mono (by first | omega | (simp [Bk.size_set]; done) | (simp [Bk.size_set]; omega)))
    have z3 := hb0.size
    (try simp only [World.size_alloc, Bk.size_set, World.size_drew, World.drewN] at z3)
    clear hb0
    have L_bk := Lay.f4 bk
    have L_r1 := Lay.f4 r1
    have L_r2 := Lay.f3 r2
    have L_bo := Lay.f4 bo
    go_wp2
    clear L_bk L_r1 L_r2 L_bo
    generalize hW : World.setCell _ _ _ = w10
    have HO2 := Lib.hid (show w10.ownsRow w.heap.size 3 1 (.slice A1 n c1) n (zs.map (Value.int .i64)) from by rw [← hW]; exact (own_low HO (by omega) (by repeat (first | with_reducible exact HO | (with_reducible refine own_set ?_ (by dsimp only; omega) _) | with_reducible refine own_drewE ?_))))
    replace r1 : Bk.Blk w10 (w.heap.size + 1) 27 #[.int .i64 ke, .int .i64 se, .int .i64 re, .slice A1 n c1] := (by rw [← hW]; apply Bk.Blk.to; (focus ((repeat (first | with_reducible assumption | (with_reducible apply Bk.Blk.newAt; focus (first | (simp [Bk.size_set]; done) | (simp [Bk.size_set]; omega))) | with_reducible apply Bk.Blk.drewN | with_reducible apply Bk.Blk.drew | with_reducible apply Bk.Blk.set_ | (with_reducible apply Bk.Blk.far; focus (dsimp only; first | omega | (simp; omega) | (simp; done))) | with_reducible apply Bk.Blk.alloc)))); rfl)
    replace r2 : Bk.Blk w10 (w.heap.size + 1 + 1) 29 #[.int .i64 0, .slice none 0 0, .int .i64 0] := (by rw [← hW]; apply Bk.Blk.to; (focus ((repeat (first | with_reducible assumption | (with_reducible apply Bk.Blk.newAt; focus (first | (simp [Bk.size_set]; done) | (simp [Bk.size_set]; omega))) | with_reducible apply Bk.Blk.drewN | with_reducible apply Bk.Blk.drew | with_reducible apply Bk.Blk.set_ | (with_reducible apply Bk.Blk.far; focus (dsimp only; first | omega | (simp; omega) | (simp; done))) | with_reducible apply Bk.Blk.alloc)))); rfl)
    replace B : Below w.heap.size w w10 := (by rw [← hW]; go_grown)
    have z10 : w10.heap.size = _ := congrArg (fun W : World => W.heap.size) hW.symm
    (try simp only [World.size_alloc, Bk.size_set, World.size_drew, World.drewN] at z10)
    clear hW
    have L_r1 := Lay.c4 r1
    have L_r2 := Lay.c3 r2
    refine bodyPost_ret (v := .tuple #[.agg #[.int .i64 ke, .int .i64 se, .int .i64 re, .slice A1 n c1], .agg #[.int .i64 0, .slice none 0 0, .int .i64 0], .bool false]) (by simp [results, Tryd.results10, go_sem, L_r1, L_r2]) rfl (⟨A1, c1, none, 0, rfl, HO2.out, own_nilK _ _ _ _, (by first | exact B | exact B.drew)⟩)
set_option maxRecDepth 100000 in
set_option maxHeartbeats 8000000 in
theorem prot_spec_no (ke se re : Int) (A : Option Addr) (n c : Nat) (zs : List Int) (B' : Option Addr) (m d : Nat) (w : World) (hp : ¬ protP ke se re zs n m) (hr : Rd w 1 A n c (zs.map (Value.int .i64))) (hn : n ≤ 2097152) (hm : m ≤ 9223372036854775807) :
    Calls Tryd.prog 7 #[.agg #[.int .i64 ke, .int .i64 se, .int .i64 re, .slice A n c], .slice B' m d] w
      (RetPf w ke se re n zs 0 0 [] 0 false) := by
  have hcase : (¬ validK ke se re zs n) ∨ (validK ke se re zs n ∧ (ke == 0) = true) ∨ (validK ke se re zs n ∧ (ke == 0) = false ∧ (se == 1000000) = true) ∨ (validK ke se re zs n ∧ (ke == 0) = false ∧ (se == 1000000) = false ∧ 100 < (m : Int)) := by
    by_cases h1 : validK ke se re zs n
    · right
      by_cases h2 : ke = 0
      · exact .inl ⟨h1, by simpa using h2⟩
      · right
        by_cases h3 : se = 1000000
        · exact .inl ⟨h1, by simpa using h2, by simpa using h3⟩
        · right
          by_cases h4 : m ≤ 100
          · exact absurd ⟨h1, h2, h3, h4⟩ hp
          · exact ⟨h1, by simpa using h2, by simpa using h3, by omega⟩
    · exact .inl h1
  have HR := Lib.hid hr
  have B : Below w.heap.size w w := Below.refl _ _
  clear hr hp
  go_enter Tryd.func7, Tryd.ntmps7
  go_wp2_with fail
  generalize hW : World.alloc _ _ = w1
  have bk : Bk.Blk w1 (w.heap.size) 27 #[.int .i64 ke, .int .i64 se, .int .i64 re, .slice A n c] := (by rw [← hW]; apply Bk.Blk.to; (focus ((repeat (first | with_reducible assumption | (with_reducible apply Bk.Blk.newAt; focus (first | (simp [Bk.size_set]; done) | (simp [Bk.size_set]; omega))) | with_reducible apply Bk.Blk.drewN | with_reducible apply Bk.Blk.drew | with_reducible apply Bk.Blk.set_ | (with_reducible apply Bk.Blk.far; focus (dsimp only; first | omega | (simp; omega) | (simp; done))) | with_reducible apply Bk.Blk.alloc)))); rfl)
  have r1 : Bk.Blk w1 (w.heap.size + 1) 27 #[.int .i64 0, .int .i64 0, .int .i64 0, .slice none 0 0] := (by rw [← hW]; apply Bk.Blk.to; (focus ((repeat (first | with_reducible assumption | (with_reducible apply Bk.Blk.newAt; focus (first | (simp [Bk.size_set]; done) | (simp [Bk.size_set]; omega))) | with_reducible apply Bk.Blk.drewN | with_reducible apply Bk.Blk.drew | with_reducible apply Bk.Blk.set_ | (with_reducible apply Bk.Blk.far; focus (dsimp only; first | omega | (simp; omega) | (simp; done))) | with_reducible apply Bk.Blk.alloc)))); rfl)
  have r2 : Bk.Blk w1 (w.heap.size + 1 + 1) 29 #[.int .i64 0, .slice none 0 0, .int .i64 0] := (by rw [← hW]; apply Bk.Blk.to; (focus ((repeat (first | with_reducible assumption | (with_reducible apply Bk.Blk.newAt; focus (first | (simp [Bk.size_set]; done) | (simp [Bk.size_set]; omega))) | with_reducible apply Bk.Blk.drewN | with_reducible apply Bk.Blk.drew | with_reducible apply Bk.Blk.set_ | (with_reducible apply Bk.Blk.far; focus (dsimp only; first | omega | (simp; omega) | (simp; done))) | with_reducible apply Bk.Blk.alloc)))); rfl)
  replace B : Below w.heap.size w w1 := (by rw [← hW]; go_grown)
  have z1 : w1.heap.size = _ := congrArg (fun W : World => W.heap.size) hW.symm
  (try simp only [World.size_alloc, Bk.size_set, World.size_drew, World.drewN] at z1)
  clear hW
  refine (copy_spec ke se re A n c zs _ (HR.out.below B) (by omega)).mono ?_
  rintro x w2 ⟨A1, c1, rfl, hown, hb0⟩
  have HO := hown
  replace bk : Bk.Blk w2 (w.heap.size) 27 #[.int .i64 ke, .int .i64 se, .int .i64 re, .slice A n c] := Bk.Blk.under hb0 (by (repeat (first | with_reducible assumption | (with_reducible apply Bk.Blk.newAt; focus (first | (simp [Bk.size_set]; done) | (simp [Bk.size_set]; omega))) | with_reducible apply Bk.Blk.drewN | with_reducible apply Bk.Blk.drew | with_reducible apply Bk.Blk.set_ | (with_reducible apply Bk.Blk.far; focus (dsimp only; first | omega | (simp; omega) | (simp; done))) | with_reducible apply Bk.Blk.alloc)))
  replace r1 : Bk.Blk w2 (w.heap.size + 1) 27 #[.int .i64 0, .int .i64 0, .int .i64 0, .slice none 0 0] := Bk.Blk.under hb0 (by (repeat (first | with_reducible assumption | (with_reducible apply Bk.Blk.newAt; focus (first | (simp [Bk.size_set]; done) | (simp [Bk.size_set]; omega))) | with_reducible apply Bk.Blk.drewN | with_reducible apply Bk.Blk.drew | with_reducible apply Bk.Blk.set_ | (with_reducible apply Bk.Blk.far; focus (dsimp only; first | omega | (simp; omega) | (simp; done))) | with_reducible apply Bk.Blk.alloc)))
  replace r2 : Bk.Blk w2 (w.heap.size + 1 + 1) 29 #[.int .i64 0, .slice none 0 0, .int .i64 0] := Bk.Blk.under hb0 (by (repeat (first | with_reducible assumption | (with_reducible apply Bk.Blk.newAt; focus (first | (simp [Bk.size_set]; done) | (simp [Bk.size_set]; omega))) | with_reducible apply Bk.Blk.drewN | with_reducible apply Bk.Blk.drew | with_reducible apply Bk.Blk.set_ | (with_reducible apply Bk.Blk.far; focus (dsimp only; first | omega | (simp; omega) | (simp; done))) | with_reducible apply Bk.Blk.alloc)))
  replace B : Below w.heap.size w w2 := Below.trans (by go_grown) (hb0.mono (by first | omega | (simp [Bk.size_set]; done) | (simp [Bk.size_set]; omega)))
  have z2 := hb0.size
  (try simp only [World.size_alloc, Bk.size_set, World.size_drew, World.drewN] at z2)
  clear hb0
  clear hown
  have L_bk := Lay.f4 bk
  have L_r1 := Lay.f4 r1
  have L_r2 := Lay.f3 r2
  go_wp2_with fail
  clear L_bk L_r1 L_r2
  rcases hcase with hv | ⟨hv, e1⟩ | ⟨hv, e1, e2⟩ | ⟨hv, e1, e2, e3⟩
  all_goals
    first
      | refine (vN_spec ke se re A n c zs _ ((HR.out.below B).alloc _) hv).mono ?_
      | refine (vY_spec ke se re A n c zs _ ((HR.out.below B).alloc _) hv).mono ?_
    rintro x w3 ⟨rfl, hb0⟩
    clear hv
    have bo : Bk.Blk w3 (w2.heap.size) 27 #[.int .i64 ke, .int .i64 se, .int .i64 re, .slice A1 n c1] := (by apply Bk.Blk.to; (focus (apply Bk.Blk.under hb0; (repeat (first | with_reducible assumption | (with_reducible apply Bk.Blk.newAt; focus (first | (simp [Bk.size_set]; done) | (simp [Bk.size_set]; omega))) | with_reducible apply Bk.Blk.drewN | with_reducible apply Bk.Blk.drew | with_reducible apply Bk.Blk.set_ | (with_reducible apply Bk.Blk.far; focus (dsimp only; first | omega | (simp; omega) | (simp; done))) | with_reducible apply Bk.Blk.alloc)))); rfl)
    have HO3 := own_belowE (own_toE HO rfl) hb0
    clear HO
    have HO := HO3
    clear HO3
    replace bk : Bk.Blk w3 (w.heap.size) 27 #[.int .i64 ke, .int .i64 se, .int .i64 re, .slice A n c] := Bk.Blk.under hb0 (by (repeat (first | with_reducible assumption | (with_reducible apply Bk.Blk.newAt; focus (first | (simp [Bk.size_set]; done) | (simp [Bk.size_set]; omega))) | with_reducible apply Bk.Blk.drewN | with_reducible apply Bk.Blk.drew | with_reducible apply Bk.Blk.set_ | (with_reducible apply Bk.Blk.far; focus (dsimp only; first | omega | (simp; omega) | (simp; done))) | with_reducible apply Bk.Blk.alloc)))
    replace r1 : Bk.Blk w3 (w.heap.size + 1) 27 #[.int .i64 0, .int .i64 0, .int .i64 0, .slice none 0 0] := Bk.Blk.under hb0 (by (repeat (first | with_reducible assumption | (with_reducible apply Bk.Blk.newAt; focus (first | (simp [Bk.size_set]; done) | (simp [Bk.size_set]; omega))) | with_reducible apply Bk.Blk.drewN | with_reducible apply Bk.Blk.drew | with_reducible apply Bk.Blk.set_ | (with_reducible apply Bk.Blk.far; focus (dsimp only; first | omega | (simp; omega) | (simp; done))) | with_reducible apply Bk.Blk.alloc)))
    replace r2 : Bk.Blk w3 (w.heap.size + 1 + 1) 29 #[.int .i64 0, .slice none 0 0, .int .i64 0] := Bk.Blk.under hb0 (by (repeat (first | with_reducible assumption | (with_reducible apply Bk.Blk.newAt; focus (first | (simp [Bk.size_set]; done) | (simp [Bk.size_set]; omega))) | with_reducible apply Bk.Blk.drewN | with_reducible apply Bk.Blk.drew | with_reducible apply Bk.Blk.set_ | (with_reducible apply Bk.Blk.far; focus (dsimp only; first | omega | (simp; omega) | (simp; done))) | with_reducible apply Bk.Blk.alloc)))
    replace B : Below w.heap.size w w3 := Below.trans (by go_grown) (hb0.mono (by first | omega | (simp [Bk.size_set]; done) | (simp [Bk.size_set]; omega)))
    have z3 := hb0.size
    (try simp only [World.size_alloc, Bk.size_set, World.size_drew, World.drewN] at z3)
    clear hb0
    have L_bk := Lay.f4 bk
    have L_r1 := Lay.f4 r1
    have L_r2 := Lay.f3 r2
    have L_bo := Lay.f4 bo
    go_wp2
    clear L_bk L_r1 L_r2 L_bo
    generalize hW : World.setCell _ _ _ = w10
    have HO2 := Lib.hid (show w10.ownsRow w.heap.size 3 1 (.slice A1 n c1) n (zs.map (Value.int .i64)) from by rw [← hW]; exact (own_low HO (by omega) (by repeat (first | with_reducible exact HO | (with_reducible refine own_set ?_ (by dsimp only; omega) _) | with_reducible refine own_drewE ?_))))
    replace r1 : Bk.Blk w10 (w.heap.size + 1) 27 #[.int .i64 ke, .int .i64 se, .int .i64 re, .slice A1 n c1] := (by rw [← hW]; apply Bk.Blk.to; (focus ((repeat (first | with_reducible assumption | (with_reducible apply Bk.Blk.newAt; focus (first | (simp [Bk.size_set]; done) | (simp [Bk.size_set]; omega))) | with_reducible apply Bk.Blk.drewN | with_reducible apply Bk.Blk.drew | with_reducible apply Bk.Blk.set_ | (with_reducible apply Bk.Blk.far; focus (dsimp only; first | omega | (simp; omega) | (simp; done))) | with_reducible apply Bk.Blk.alloc)))); rfl)
    replace r2 : Bk.Blk w10 (w.heap.size + 1 + 1) 29 #[.int .i64 0, .slice none 0 0, .int .i64 0] := (by rw [← hW]; apply Bk.Blk.to; (focus ((repeat (first | with_reducible assumption | (with_reducible apply Bk.Blk.newAt; focus (first | (simp [Bk.size_set]; done) | (simp [Bk.size_set]; omega))) | with_reducible apply Bk.Blk.drewN | with_reducible apply Bk.Blk.drew | with_reducible apply Bk.Blk.set_ | (with_reducible apply Bk.Blk.far; focus (dsimp only; first | omega | (simp; omega) | (simp; done))) | with_reducible apply Bk.Blk.alloc)))); rfl)
    replace B : Below w.heap.size w w10 := (by rw [← hW]; go_grown)
    have z10 : w10.heap.size = _ := congrArg (fun W : World => W.heap.size) hW.symm
    (try simp only [World.size_alloc, Bk.size_set, World.size_drew, World.drewN] at z10)
    clear hW
    have L_r1 := Lay.c4 r1
    have L_r2 := Lay.c3 r2
    refine bodyPost_ret (v := .tuple #[.agg #[.int .i64 ke, .int .i64 se, .int .i64 re, .slice A1 n c1], .agg #[.int .i64 0, .slice none 0 0, .int .i64 0], .bool false]) (by simp [results, Tryd.results7, go_sem, L_r1, L_r2]) rfl (⟨A1, c1, none, 0, rfl, HO2.out, own_nilK _ _ _ _, (by first | exact B | exact B.drew)⟩)
end Go.Proofs.YtgbmbnofnhhblaaDoor.Seal
