/- The walk of the law on AddStation. -/
import Derived.Test.YthdieeaegplnmaaPbX
import Derived.Test.YthdieeaegplnmaaPbY
import Derived.Test.YthdieeaegplnmaaPbMk
namespace Go.Proofs.Ythdieeaegplnmaa.Pb
open Go.RowKit
open Go.Proofs.Ythdieeaegplnmaa.Num Go.Proofs.Ythdieeaegplnmaa.Mem Go.Proofs.Ythdieeaegplnmaa.Hsh Go.Proofs.Ythdieeaegplnmaa.Sls Go.Proofs.Ythdieeaegplnmaa.Own Go.Proofs.Ythdieeaegplnmaa.SS Go.Proofs.Ythdieeaegplnmaa.Gb
set_option linter.unusedSimpArgs false
set_option linter.unusedVariables false
theorem totK_ins {ks : List Kt} {a n : Nat} {st : Int} (hl : ks.length = n) (ha : a ≤ n) : totK (insK ks a ⟨st, false, [], 0⟩) (n + 1) = totK ks n := by
  have h1 : ∀ j, j ≤ a → totK (insK ks a ⟨st, false, [], 0⟩) j = totK ks j := by
    intro j
    induction j with
    | zero => intro _; rfl
    | succ j ih =>
      intro hj
      simp only [totK]
      rw [ih (by omega), nthK_ins (by omega), if_pos (by omega)]
  have h2 : ∀ j, a ≤ j → j ≤ n → totK (insK ks a ⟨st, false, [], 0⟩) (j + 1) = totK ks j := by
    intro j
    induction j with
    | zero =>
      intro h3 _
      obtain rfl : a = 0 := by omega
      simp only [totK]
      rw [nthK_ins (by omega), if_neg (by omega), if_pos rfl]
      rfl
    | succ j ih =>
      intro h3 h4
      rcases Nat.lt_or_ge j a with h5 | h5
      · obtain rfl : a = j + 1 := by omega
        show totK _ (j + 1) + _ = _
        rw [h1 (j + 1) (Nat.le_refl _), nthK_ins (by omega), if_neg (by omega), if_pos rfl]
        rfl
      · show totK _ (j + 1) + _ = totK ks j + _
        rw [ih h5 (by omega), nthK_ins (by omega), if_neg (by omega), if_neg (by omega)]
        rfl
  exact h2 n ha (Nat.le_refl _)
theorem at_some (ks : List Kt) (st : Int) (n : Nat) : ∃ a, AtK ks st n a := by
  have h : ∀ m, m ≤ n → (∀ l, l < m → (nthK ks l).st < st) ∨ ∃ a, AtK ks st n a := by
    intro m
    induction m with
    | zero => intro _; exact .inl fun l hl => absurd hl (Nat.not_lt_zero _)
    | succ m ih =>
      intro hm
      rcases ih (by omega) with h1 | h1
      · by_cases h2 : (nthK ks m).st < st
        · exact .inl fun l hl => by
            rcases Nat.lt_or_ge l m with h3 | h3
            · exact h1 l h3
            · obtain rfl : l = m := by omega
              exact h2
        · exact .inr ⟨m, by omega, h1, fun _ => h2⟩
      · exact .inr h1
  rcases h n (Nat.le_refl _) with h1 | h1
  · exact ⟨n, Nat.le_refl _, h1, fun h => absurd h (Nat.lt_irrefl _)⟩
  · exact h1
theorem blk_turnedA {w w' : World} {lo hi b : Nat} {t : TypeId} {cs : Array Value} (h : Bk.Blk w b t cs) (ht : Turned lo hi w w') (hd : b < lo ∨ hi ≤ b) : Bk.Blk w' b t cs := (ht.block b h.lt hd).trans h
/-- what both sides make of it -/
theorem add_both (ks : List Kt) (st : Int) (n : Nat) (hl : ks.length = n) (hn : n + totK ks n ≤ 1048576) : ∃ (m : Nat) (ks2 : List Kt) (ok : Bool), ks2.length = m ∧ m + totK ks2 m ≤ 1048577 ∧
    (∀ A c w, RdPB w A n c ks → Calls Try.prog 37 #[.agg #[.slice A n c], .int .i64 st] w (RetPN w m ks2 ok)) ∧
    (∀ A c w, RdPB w A n c ks → Calls Try.prog 38 #[.agg #[.slice A n c], .int .i64 st] w (RetPO w m ks2 ok)) := by
  have hfew := few_of_tot (ks := ks) hl (by omega)
  rcases add_cases ks st n with h | ⟨hv, ⟨h0, h15⟩, hF⟩
  · exact ⟨n, ks, false, hl, by omega, fun A c w hr => addS_no A n c ks st w h hr (by omega) hfew, fun A c w hr => addI_no A n c ks st w h hr (by omega) hfew⟩
  · obtain ⟨a, ha⟩ := at_some ks st n
    refine ⟨n + 1, insK ks a ⟨st, false, [], 0⟩, true, insK_len hl ha.1, by rw [totK_ins hl ha.1]; omega, fun A c w hr => (addS_ok A n c ks st w hv h0 h15 hF hr (by omega) hfew).mono ?_, fun A c w hr => (addI_ok A n c ks st w hv h0 h15 hF hr (by omega) hfew).mono ?_⟩
    · rintro x w' ⟨a', ha', h⟩
      rw [at_one ha ha']; exact h
    · rintro x w' ⟨a', ha', h⟩
      rw [at_one ha ha']; exact h
set_option maxRecDepth 100000 in
set_option maxHeartbeats 16000000 in
theorem add_core (A : Option Addr) (n c : Nat) (ks : List Kt) (st : Int) (w : World) (hr : RdPB w A n c ks) (hn : n + totK ks n ≤ 1048576) :
    Calls Try.prog 6 #[.agg #[.slice A n c], .int .i64 st] w fun x w' => x = .returned (.bool true) ∧ Below w.heap.size w w' := by
  obtain ⟨m, ks2, ok, hl2, hm2, hS, hI⟩ := add_both ks st n hr.1 hn
  have HP := Lib.hid hr
  have HFE := Lib.hid (few_of_tot (ks := ks) hr.1 (by omega))
  have HS := Lib.hid hS
  have HI := Lib.hid hI
  have hl := hr.1
  have okk : (ok != ok) = false := by cases ok <;> rfl
  have n1 : n ≤ 1048576 := by omega
  have HE1 := Lib.hid (szOf_ge (left := 1048576) (t := n + totK ks n) (by omega))
  obtain ⟨L1, hL1⟩ : ∃ x : Int, 1048576 - ((n + totK ks n : Nat) : Int) = x := ⟨_, rfl⟩
  rw [hL1] at HE1
  have k1 : 0 ≤ L1 := by omega
  obtain ⟨K, hK⟩ : ∃ x : Int, 1 + (offK ks n : Int) = x := ⟨_, rfl⟩
  obtain ⟨M, hM⟩ : ∃ x : Int, 1 + (offK ks2 m : Int) = x := ⟨_, rfl⟩
  have HMX := Lib.hid (fun A c lo' hi w (h : OwnPB w lo' hi A n c ks) (hh : hi ≤ w.heap.size) => show Calls Try.prog 39 #[.agg #[.slice A n c], .int .i64 1] w (fun x w' => x = .returned (.int .i64 K) ∧ Turned lo' hi w w') from (markPb_any A n c ks 1 lo' hi w h (by omega) (by omega) (by omega) hh).mono fun x w' h => ⟨by rw [h.1, hK], h.2.2⟩)
  have HMG := Lib.hid (fun A c lo' hi w (h : OwnPB w lo' hi A m c ks2) (hh : hi ≤ w.heap.size) => show Calls Try.prog 39 #[.agg #[.slice A m c], .int .i64 1] w (fun x w' => x = .returned (.int .i64 M) ∧ OwnPB w' lo' hi A m c (mKs 1 ks2) ∧ Turned lo' hi w w') from (markPb_any A m c ks2 1 lo' hi w h (by omega) (by omega) hm2 hh).mono fun x w' h => ⟨by rw [h.1, hM], h.2⟩)
  have HHG := Lib.hid (fun A c w (h : RdPB w A m c (mKs 1 ks2)) => show Calls Try.prog 40 #[.agg #[.slice A m c], .int .i64 1] w (fun x w' => x = .returned (.int .i64 M) ∧ Below w.heap.size w w') from (heldPb_any A m c ks2 1 w hl2 h (by omega) (by omega) hm2).mono fun x w' h => ⟨by rw [h.1, hM], h.2⟩)
  have kK : 0 ≤ K := by omega
  have kM : 0 ≤ M := by omega
  have B : Below w.heap.size w w := Below.refl _ _
  clear hr hn hL1 hK hM hS hI hl hl2 hm2
  go_enter Try.func6, Try.ntmps6
  go_wp2_with fail
  generalize hW : World.alloc _ _ = w1
  have ba : Bk.Blk w1 (w.heap.size) 56 #[.slice A n c] := (by rw [← hW]; apply Bk.Blk.to; (focus ((repeat (first | with_reducible assumption | (with_reducible apply Bk.Blk.newAt; focus (first | (simp [Bk.size_set]; done) | (simp [Bk.size_set]; omega))) | with_reducible apply Bk.Blk.drewN | with_reducible apply Bk.Blk.drew | with_reducible apply Bk.Blk.set_ | (with_reducible apply Bk.Blk.far; focus (dsimp only; first | omega | (simp; omega) | (simp; done))) | with_reducible apply Bk.Blk.alloc)))); rfl)
  replace B : Below w.heap.size w w1 := (by rw [← hW]; go_grown)
  have z1 : w1.heap.size = _ := congrArg (fun W : World => W.heap.size) hW.symm
  (try simp only [World.size_alloc, Bk.size_set, World.size_drew, World.drewN] at z1)
  clear hW
  refine (szPb_any A n c ks 1048576 _ (HP.out.below B) (by omega) (by omega)).mono ?_
  rintro x w2 ⟨rfl, hb0⟩
  rw [HE1.out]
  replace ba : Bk.Blk w2 (w.heap.size) 56 #[.slice A n c] := Bk.Blk.under hb0 (by (repeat (first | with_reducible assumption | (with_reducible apply Bk.Blk.newAt; focus (first | (simp [Bk.size_set]; done) | (simp [Bk.size_set]; omega))) | with_reducible apply Bk.Blk.drewN | with_reducible apply Bk.Blk.drew | with_reducible apply Bk.Blk.set_ | (with_reducible apply Bk.Blk.far; focus (dsimp only; first | omega | (simp; omega) | (simp; done))) | with_reducible apply Bk.Blk.alloc)))
  replace B : Below w.heap.size w w2 := Below.trans (by go_grown) (hb0.mono (by first | omega | (simp [Bk.size_set]; done) | (simp [Bk.size_set]; omega)))
  have z2 := hb0.size
  (try simp only [World.size_alloc, Bk.size_set, World.size_drew, World.drewN] at z2)
  clear hb0
  have l_ba : w.heap.size < w2.heap.size := Bk.Blk.lt ba
  have c_ba0 : w2.cell? ⟨w.heap.size, 0, none⟩ = some (.slice A n c) := Bk.Blk.cell ba 0
  have f_ba0 : w2.frozen? ⟨w.heap.size, 0, none⟩ = false := Bk.Blk.fro ba 0
  go_wp2_with fail
  clear l_ba c_ba0 f_ba0
  refine (toPb_any A n c ks _ (HP.out.below B) n1 HFE.out).mono ?_
  rintro x w3 ⟨A1, c1, rfl, hown, hb0⟩
  have R1 := Lib.hid hown.rd
  clear hown
  replace ba : Bk.Blk w3 (w.heap.size) 56 #[.slice A n c] := Bk.Blk.under hb0 (by (repeat (first | with_reducible assumption | (with_reducible apply Bk.Blk.newAt; focus (first | (simp [Bk.size_set]; done) | (simp [Bk.size_set]; omega))) | with_reducible apply Bk.Blk.drewN | with_reducible apply Bk.Blk.drew | with_reducible apply Bk.Blk.set_ | (with_reducible apply Bk.Blk.far; focus (dsimp only; first | omega | (simp; omega) | (simp; done))) | with_reducible apply Bk.Blk.alloc)))
  replace B : Below w.heap.size w w3 := Below.trans (by go_grown) (hb0.mono (by first | omega | (simp [Bk.size_set]; done) | (simp [Bk.size_set]; omega)))
  have z3 := hb0.size
  (try simp only [World.size_alloc, Bk.size_set, World.size_drew, World.drewN] at z3)
  clear hb0
  go_wp2_with fail
  refine (HS.out A1 c1 _ R1.out).mono ?_
  rintro x w4 ⟨A2, c2, rfl, hpi, hb0⟩
  have HW0 := Lib.hid hpi
  clear hpi R1
  replace ba : Bk.Blk w4 (w.heap.size) 56 #[.slice A n c] := Bk.Blk.under hb0 (by (repeat (first | with_reducible assumption | (with_reducible apply Bk.Blk.newAt; focus (first | (simp [Bk.size_set]; done) | (simp [Bk.size_set]; omega))) | with_reducible apply Bk.Blk.drewN | with_reducible apply Bk.Blk.drew | with_reducible apply Bk.Blk.set_ | (with_reducible apply Bk.Blk.far; focus (dsimp only; first | omega | (simp; omega) | (simp; done))) | with_reducible apply Bk.Blk.alloc)))
  replace B : Below w.heap.size w w4 := Below.trans (by go_grown) (hb0.mono (by first | omega | (simp [Bk.size_set]; done) | (simp [Bk.size_set]; omega)))
  have z4 := hb0.size
  (try simp only [World.size_alloc, Bk.size_set, World.size_drew, World.drewN] at z4)
  clear hb0
  have l_ba : w.heap.size < w4.heap.size := Bk.Blk.lt ba
  have c_ba0 : w4.cell? ⟨w.heap.size, 0, none⟩ = some (.slice A n c) := Bk.Blk.cell ba 0
  have f_ba0 : w4.frozen? ⟨w.heap.size, 0, none⟩ = false := Bk.Blk.fro ba 0
  go_wp2_with fail
  clear l_ba c_ba0 f_ba0
  generalize hW : World.alloc _ _ = w5
  replace HW0 := Lib.hid (HW0.out.keep (w' := w5) fun q _ h2 => by rw [← hW]; exact Below.heap_alloc _ _ q h2)
  have b6 : Bk.Blk w5 (w4.heap.size) 39 #[.slice A2 m c2] := (by rw [← hW]; apply Bk.Blk.to; (focus ((repeat (first | with_reducible assumption | (with_reducible apply Bk.Blk.newAt; focus (first | (simp [Bk.size_set]; done) | (simp [Bk.size_set]; omega))) | with_reducible apply Bk.Blk.drewN | with_reducible apply Bk.Blk.drew | with_reducible apply Bk.Blk.set_ | (with_reducible apply Bk.Blk.far; focus (dsimp only; first | omega | (simp; omega) | (simp; done))) | with_reducible apply Bk.Blk.alloc)))); rfl)
  replace ba : Bk.Blk w5 (w.heap.size) 56 #[.slice A n c] := (by rw [← hW]; (repeat (first | with_reducible assumption | (with_reducible apply Bk.Blk.newAt; focus (first | (simp [Bk.size_set]; done) | (simp [Bk.size_set]; omega))) | with_reducible apply Bk.Blk.drewN | with_reducible apply Bk.Blk.drew | with_reducible apply Bk.Blk.set_ | (with_reducible apply Bk.Blk.far; focus (dsimp only; first | omega | (simp; omega) | (simp; done))) | with_reducible apply Bk.Blk.alloc)))
  replace B : Below w.heap.size w w5 := (by rw [← hW]; go_grown)
  have z5 : w5.heap.size = _ := congrArg (fun W : World => W.heap.size) hW.symm
  (try simp only [World.size_alloc, Bk.size_set, World.size_drew, World.drewN] at z5)
  clear hW
  refine (toPb_any A n c ks _ (HP.out.below B) n1 HFE.out).mono ?_
  rintro x w6 ⟨A3, c3, rfl, hown, hb0⟩
  have HX := Lib.hid hown
  replace HW0 := Lib.hid (HW0.out.keep (w' := w6) fun q _ h2 => hb0.block q (by omega))
  clear hown
  replace ba : Bk.Blk w6 (w.heap.size) 56 #[.slice A n c] := Bk.Blk.under hb0 (by (repeat (first | with_reducible assumption | (with_reducible apply Bk.Blk.newAt; focus (first | (simp [Bk.size_set]; done) | (simp [Bk.size_set]; omega))) | with_reducible apply Bk.Blk.drewN | with_reducible apply Bk.Blk.drew | with_reducible apply Bk.Blk.set_ | (with_reducible apply Bk.Blk.far; focus (dsimp only; first | omega | (simp; omega) | (simp; done))) | with_reducible apply Bk.Blk.alloc)))
  replace b6 : Bk.Blk w6 (w4.heap.size) 39 #[.slice A2 m c2] := Bk.Blk.under hb0 (by (repeat (first | with_reducible assumption | (with_reducible apply Bk.Blk.newAt; focus (first | (simp [Bk.size_set]; done) | (simp [Bk.size_set]; omega))) | with_reducible apply Bk.Blk.drewN | with_reducible apply Bk.Blk.drew | with_reducible apply Bk.Blk.set_ | (with_reducible apply Bk.Blk.far; focus (dsimp only; first | omega | (simp; omega) | (simp; done))) | with_reducible apply Bk.Blk.alloc)))
  replace B : Below w.heap.size w w6 := Below.trans (by go_grown) (hb0.mono (by first | omega | (simp [Bk.size_set]; done) | (simp [Bk.size_set]; omega)))
  have z6 := hb0.size
  (try simp only [World.size_alloc, Bk.size_set, World.size_drew, World.drewN] at z6)
  clear hb0
  go_wp2_with fail
  generalize hW : World.alloc _ _ = w7
  replace HW0 := Lib.hid (HW0.out.keep (w' := w7) fun q _ h2 => by rw [← hW]; exact Below.heap_alloc _ _ q (by omega))
  replace HX := Lib.hid (HX.out.keep (w' := w7) fun q _ h2 => by rw [← hW]; exact Below.heap_alloc _ _ q h2)
  have b8 : Bk.Blk w7 (w6.heap.size) 39 #[.slice A3 n c3] := (by rw [← hW]; apply Bk.Blk.to; (focus ((repeat (first | with_reducible assumption | (with_reducible apply Bk.Blk.newAt; focus (first | (simp [Bk.size_set]; done) | (simp [Bk.size_set]; omega))) | with_reducible apply Bk.Blk.drewN | with_reducible apply Bk.Blk.drew | with_reducible apply Bk.Blk.set_ | (with_reducible apply Bk.Blk.far; focus (dsimp only; first | omega | (simp; omega) | (simp; done))) | with_reducible apply Bk.Blk.alloc)))); rfl)
  replace ba : Bk.Blk w7 (w.heap.size) 56 #[.slice A n c] := (by rw [← hW]; (repeat (first | with_reducible assumption | (with_reducible apply Bk.Blk.newAt; focus (first | (simp [Bk.size_set]; done) | (simp [Bk.size_set]; omega))) | with_reducible apply Bk.Blk.drewN | with_reducible apply Bk.Blk.drew | with_reducible apply Bk.Blk.set_ | (with_reducible apply Bk.Blk.far; focus (dsimp only; first | omega | (simp; omega) | (simp; done))) | with_reducible apply Bk.Blk.alloc)))
  replace b6 : Bk.Blk w7 (w4.heap.size) 39 #[.slice A2 m c2] := (by rw [← hW]; (repeat (first | with_reducible assumption | (with_reducible apply Bk.Blk.newAt; focus (first | (simp [Bk.size_set]; done) | (simp [Bk.size_set]; omega))) | with_reducible apply Bk.Blk.drewN | with_reducible apply Bk.Blk.drew | with_reducible apply Bk.Blk.set_ | (with_reducible apply Bk.Blk.far; focus (dsimp only; first | omega | (simp; omega) | (simp; done))) | with_reducible apply Bk.Blk.alloc)))
  replace B : Below w.heap.size w w7 := (by rw [← hW]; go_grown)
  have z7 : w7.heap.size = _ := congrArg (fun W : World => W.heap.size) hW.symm
  (try simp only [World.size_alloc, Bk.size_set, World.size_drew, World.drewN] at z7)
  clear hW
  refine (HI.out A3 c3 _ HX.out.rd).mono ?_
  rintro x w8 ⟨A4, c4, rfl, hown, hb0⟩
  have HG := Lib.hid hown
  replace HW0 := Lib.hid (HW0.out.keep (w' := w8) fun q _ h2 => hb0.block q (by omega))
  replace HX := Lib.hid (HX.out.keep (w' := w8) fun q _ h2 => hb0.block q (by omega))
  clear hown
  replace ba : Bk.Blk w8 (w.heap.size) 56 #[.slice A n c] := Bk.Blk.under hb0 (by (repeat (first | with_reducible assumption | (with_reducible apply Bk.Blk.newAt; focus (first | (simp [Bk.size_set]; done) | (simp [Bk.size_set]; omega))) | with_reducible apply Bk.Blk.drewN | with_reducible apply Bk.Blk.drew | with_reducible apply Bk.Blk.set_ | (with_reducible apply Bk.Blk.far; focus (dsimp only; first | omega | (simp; omega) | (simp; done))) | with_reducible apply Bk.Blk.alloc)))
  replace b6 : Bk.Blk w8 (w4.heap.size) 39 #[.slice A2 m c2] := Bk.Blk.under hb0 (by (repeat (first | with_reducible assumption | (with_reducible apply Bk.Blk.newAt; focus (first | (simp [Bk.size_set]; done) | (simp [Bk.size_set]; omega))) | with_reducible apply Bk.Blk.drewN | with_reducible apply Bk.Blk.drew | with_reducible apply Bk.Blk.set_ | (with_reducible apply Bk.Blk.far; focus (dsimp only; first | omega | (simp; omega) | (simp; done))) | with_reducible apply Bk.Blk.alloc)))
  replace b8 : Bk.Blk w8 (w6.heap.size) 39 #[.slice A3 n c3] := Bk.Blk.under hb0 (by (repeat (first | with_reducible assumption | (with_reducible apply Bk.Blk.newAt; focus (first | (simp [Bk.size_set]; done) | (simp [Bk.size_set]; omega))) | with_reducible apply Bk.Blk.drewN | with_reducible apply Bk.Blk.drew | with_reducible apply Bk.Blk.set_ | (with_reducible apply Bk.Blk.far; focus (dsimp only; first | omega | (simp; omega) | (simp; done))) | with_reducible apply Bk.Blk.alloc)))
  replace B : Below w.heap.size w w8 := Below.trans (by go_grown) (hb0.mono (by first | omega | (simp [Bk.size_set]; done) | (simp [Bk.size_set]; omega)))
  have z8 := hb0.size
  (try simp only [World.size_alloc, Bk.size_set, World.size_drew, World.drewN] at z8)
  clear hb0
  have l_b6 : w4.heap.size < w8.heap.size := Bk.Blk.lt b6
  have c_b60 : w8.cell? ⟨w4.heap.size, 0, none⟩ = some (.slice A2 m c2) := Bk.Blk.cell b6 0
  have f_b60 : w8.frozen? ⟨w4.heap.size, 0, none⟩ = false := Bk.Blk.fro b6 0
  go_wp2_with fail
  clear l_b6 c_b60 f_b60
  generalize hW : World.alloc _ _ = w9
  replace HW0 := Lib.hid (HW0.out.keep (w' := w9) fun q _ h2 => by rw [← hW]; exact Below.heap_alloc _ _ q (by omega))
  replace HX := Lib.hid (HX.out.keep (w' := w9) fun q _ h2 => by rw [← hW]; exact Below.heap_alloc _ _ q (by omega))
  replace HG := Lib.hid (HG.out.keep (w' := w9) fun q _ h2 => by rw [← hW]; exact Below.heap_alloc _ _ q h2)
  have b9 : Bk.Blk w9 (w8.heap.size) 39 #[.slice A4 m c4] := (by rw [← hW]; apply Bk.Blk.to; (focus ((repeat (first | with_reducible assumption | (with_reducible apply Bk.Blk.newAt; focus (first | (simp [Bk.size_set]; done) | (simp [Bk.size_set]; omega))) | with_reducible apply Bk.Blk.drewN | with_reducible apply Bk.Blk.drew | with_reducible apply Bk.Blk.set_ | (with_reducible apply Bk.Blk.far; focus (dsimp only; first | omega | (simp; omega) | (simp; done))) | with_reducible apply Bk.Blk.alloc)))); rfl)
  replace ba : Bk.Blk w9 (w.heap.size) 56 #[.slice A n c] := (by rw [← hW]; (repeat (first | with_reducible assumption | (with_reducible apply Bk.Blk.newAt; focus (first | (simp [Bk.size_set]; done) | (simp [Bk.size_set]; omega))) | with_reducible apply Bk.Blk.drewN | with_reducible apply Bk.Blk.drew | with_reducible apply Bk.Blk.set_ | (with_reducible apply Bk.Blk.far; focus (dsimp only; first | omega | (simp; omega) | (simp; done))) | with_reducible apply Bk.Blk.alloc)))
  replace b6 : Bk.Blk w9 (w4.heap.size) 39 #[.slice A2 m c2] := (by rw [← hW]; (repeat (first | with_reducible assumption | (with_reducible apply Bk.Blk.newAt; focus (first | (simp [Bk.size_set]; done) | (simp [Bk.size_set]; omega))) | with_reducible apply Bk.Blk.drewN | with_reducible apply Bk.Blk.drew | with_reducible apply Bk.Blk.set_ | (with_reducible apply Bk.Blk.far; focus (dsimp only; first | omega | (simp; omega) | (simp; done))) | with_reducible apply Bk.Blk.alloc)))
  replace b8 : Bk.Blk w9 (w6.heap.size) 39 #[.slice A3 n c3] := (by rw [← hW]; (repeat (first | with_reducible assumption | (with_reducible apply Bk.Blk.newAt; focus (first | (simp [Bk.size_set]; done) | (simp [Bk.size_set]; omega))) | with_reducible apply Bk.Blk.drewN | with_reducible apply Bk.Blk.drew | with_reducible apply Bk.Blk.set_ | (with_reducible apply Bk.Blk.far; focus (dsimp only; first | omega | (simp; omega) | (simp; done))) | with_reducible apply Bk.Blk.alloc)))
  replace B : Below w.heap.size w w9 := (by rw [← hW]; go_grown)
  have z9 : w9.heap.size = _ := congrArg (fun W : World => W.heap.size) hW.symm
  (try simp only [World.size_alloc, Bk.size_set, World.size_drew, World.drewN] at z9)
  clear hW
  refine (eqPb_same A4 m c4 A2 c2 ks2 _ HG.out.rd HW0.out.rd).mono ?_
  rintro x w10 ⟨rfl, hb0⟩
  replace HW0 := Lib.hid (HW0.out.keep (w' := w10) fun q _ h2 => hb0.block q (by omega))
  replace HX := Lib.hid (HX.out.keep (w' := w10) fun q _ h2 => hb0.block q (by omega))
  replace HG := Lib.hid (HG.out.keep (w' := w10) fun q _ h2 => hb0.block q (by omega))
  replace ba : Bk.Blk w10 (w.heap.size) 56 #[.slice A n c] := Bk.Blk.under hb0 (by (repeat (first | with_reducible assumption | (with_reducible apply Bk.Blk.newAt; focus (first | (simp [Bk.size_set]; done) | (simp [Bk.size_set]; omega))) | with_reducible apply Bk.Blk.drewN | with_reducible apply Bk.Blk.drew | with_reducible apply Bk.Blk.set_ | (with_reducible apply Bk.Blk.far; focus (dsimp only; first | omega | (simp; omega) | (simp; done))) | with_reducible apply Bk.Blk.alloc)))
  replace b6 : Bk.Blk w10 (w4.heap.size) 39 #[.slice A2 m c2] := Bk.Blk.under hb0 (by (repeat (first | with_reducible assumption | (with_reducible apply Bk.Blk.newAt; focus (first | (simp [Bk.size_set]; done) | (simp [Bk.size_set]; omega))) | with_reducible apply Bk.Blk.drewN | with_reducible apply Bk.Blk.drew | with_reducible apply Bk.Blk.set_ | (with_reducible apply Bk.Blk.far; focus (dsimp only; first | omega | (simp; omega) | (simp; done))) | with_reducible apply Bk.Blk.alloc)))
  replace b8 : Bk.Blk w10 (w6.heap.size) 39 #[.slice A3 n c3] := Bk.Blk.under hb0 (by (repeat (first | with_reducible assumption | (with_reducible apply Bk.Blk.newAt; focus (first | (simp [Bk.size_set]; done) | (simp [Bk.size_set]; omega))) | with_reducible apply Bk.Blk.drewN | with_reducible apply Bk.Blk.drew | with_reducible apply Bk.Blk.set_ | (with_reducible apply Bk.Blk.far; focus (dsimp only; first | omega | (simp; omega) | (simp; done))) | with_reducible apply Bk.Blk.alloc)))
  replace b9 : Bk.Blk w10 (w8.heap.size) 39 #[.slice A4 m c4] := Bk.Blk.under hb0 (by (repeat (first | with_reducible assumption | (with_reducible apply Bk.Blk.newAt; focus (first | (simp [Bk.size_set]; done) | (simp [Bk.size_set]; omega))) | with_reducible apply Bk.Blk.drewN | with_reducible apply Bk.Blk.drew | with_reducible apply Bk.Blk.set_ | (with_reducible apply Bk.Blk.far; focus (dsimp only; first | omega | (simp; omega) | (simp; done))) | with_reducible apply Bk.Blk.alloc)))
  replace B : Below w.heap.size w w10 := Below.trans (by go_grown) (hb0.mono (by first | omega | (simp [Bk.size_set]; done) | (simp [Bk.size_set]; omega)))
  have z10 := hb0.size
  (try simp only [World.size_alloc, Bk.size_set, World.size_drew, World.drewN] at z10)
  clear hb0
  have l_ba : w.heap.size < w10.heap.size := Bk.Blk.lt ba
  have c_ba0 : w10.cell? ⟨w.heap.size, 0, none⟩ = some (.slice A n c) := Bk.Blk.cell ba 0
  have f_ba0 : w10.frozen? ⟨w.heap.size, 0, none⟩ = false := Bk.Blk.fro ba 0
  have l_b6 : w4.heap.size < w10.heap.size := Bk.Blk.lt b6
  have c_b60 : w10.cell? ⟨w4.heap.size, 0, none⟩ = some (.slice A2 m c2) := Bk.Blk.cell b6 0
  have f_b60 : w10.frozen? ⟨w4.heap.size, 0, none⟩ = false := Bk.Blk.fro b6 0
  have l_b8 : w6.heap.size < w10.heap.size := Bk.Blk.lt b8
  have c_b80 : w10.cell? ⟨w6.heap.size, 0, none⟩ = some (.slice A3 n c3) := Bk.Blk.cell b8 0
  have f_b80 : w10.frozen? ⟨w6.heap.size, 0, none⟩ = false := Bk.Blk.fro b8 0
  have l_b9 : w8.heap.size < w10.heap.size := Bk.Blk.lt b9
  have c_b90 : w10.cell? ⟨w8.heap.size, 0, none⟩ = some (.slice A4 m c4) := Bk.Blk.cell b9 0
  have f_b90 : w10.frozen? ⟨w8.heap.size, 0, none⟩ = false := Bk.Blk.fro b9 0
  go_wp2_with fail
  clear l_ba c_ba0 f_ba0 l_b6 c_b60 f_b60 l_b8 c_b80 f_b80 l_b9 c_b90 f_b90
  have L_ba := Lay.f1 ba
  have L_b6 := Lay.f1 b6
  have L_b8 := Lay.f1 b8
  have L_b9 := Lay.f1 b9
  refine wp_region_held_drew (S := (fun w' => Bk.Blk w' (w.heap.size) 56 #[.slice A n c] ∧ Bk.Blk w' (w4.heap.size) 39 #[.slice A2 m c2] ∧ Bk.Blk w' (w6.heap.size) 39 #[.slice A3 n c3] ∧ Bk.Blk w' (w8.heap.size) 39 #[.slice A4 m c4])) (by kernel_rfl) ?_ (fun hHeld => ?_)
  · (try dsimp only); (refine ⟨?_, ?_, ?_, ?_⟩ <;> (repeat (first | with_reducible assumption | (with_reducible apply Bk.Blk.newAt; focus (first | (simp [Bk.size_set]; done) | (simp [Bk.size_set]; omega))) | with_reducible apply Bk.Blk.drewN | with_reducible apply Bk.Blk.drew | with_reducible apply Bk.Blk.set_ | (with_reducible apply Bk.Blk.far; focus (dsimp only; first | omega | (simp; omega) | (simp; done))) | with_reducible apply Bk.Blk.alloc)))
  first | (refine wpAnyH_take (i := 0) (v := ?_) (Reg.get rfl) (by kernel_rfl) (by kernel_rfl) (by kernel_rfl) (fun _ _ _ h => h) (Or.inl ⟨by rfl, ?_⟩) hHeld ?_; rotate_left 1; (focus (intro wq hSw; (try dsimp only at hSw); obtain ⟨s_ba, s_b6, s_b8, s_b9⟩ := hSw; have L_ba := Lay.c1 s_ba; have L_b6 := Lay.c1 s_b6; have L_b8 := Lay.c1 s_b8; have L_b9 := Lay.c1 s_b9;  go_simp <;> with_reducible rfl))) | (refine wpAnyH_take (i := 0) (v := undef) (Reg.get rfl) (by kernel_rfl) (by kernel_rfl) (by kernel_rfl) (fun _ _ _ h => h) (Or.inr ⟨by rfl, rfl⟩) hHeld ?_)
  try simp only [Act.put, List.setIfInBounds_toArray, List.set_cons_zero, List.set_cons_succ]
  first | (refine wpAnyH_take (i := 1) (v := ?_) (Reg.get rfl) (by kernel_rfl) (by kernel_rfl) (by kernel_rfl) (fun _ _ _ h => h) (Or.inl ⟨by rfl, ?_⟩) hHeld ?_; rotate_left 1; (focus (intro wq hSw; (try dsimp only at hSw); obtain ⟨s_ba, s_b6, s_b8, s_b9⟩ := hSw; have L_ba := Lay.c1 s_ba; have L_b6 := Lay.c1 s_b6; have L_b8 := Lay.c1 s_b8; have L_b9 := Lay.c1 s_b9;  go_simp <;> with_reducible rfl))) | (refine wpAnyH_take (i := 1) (v := undef) (Reg.get rfl) (by kernel_rfl) (by kernel_rfl) (by kernel_rfl) (fun _ _ _ h => h) (Or.inr ⟨by rfl, rfl⟩) hHeld ?_)
  try simp only [Act.put, List.setIfInBounds_toArray, List.set_cons_zero, List.set_cons_succ]
  first | ((refine wpAnyH_take (i := 2) (v := undef) (Reg.get rfl) (by kernel_rfl) (by kernel_rfl) (by kernel_rfl) (fun _ _ _ h => h) (Or.inr ⟨by rfl, rfl⟩) hHeld ?_)) | (refine wpAnyH_ready (rs := [2]) (by kernel_rfl) (by simp) ?_; refine AllReadyH.cons (Reg.get rfl) (fun K hK => ?_) AllReadyH.nil; clear hHeld; go_simp; ((go_at_call 34; refine (toPb_any A n c ks _ (by first | exact HP.out.below B | exact HP.out.below B.drew) n1 HFE.out).mono ?_; rintro x w11 ⟨A5, c5, rfl, hown, hb0⟩; have R5 := Lib.hid hown.rd; clear hown; (first | replace HW0 := Lib.hid (HW0.out.keep (w' := w11) fun q _ h2 => hb0.block q (by first | omega | (simp; omega))) | replace HW0 := Lib.hid (HW0.out.keep (w' := w11) fun q _ h2 => (hb0.block q (by first | omega | (simp; omega))).trans rfl)); (first | replace HX := Lib.hid (HX.out.keep (w' := w11) fun q _ h2 => hb0.block q (by first | omega | (simp; omega))) | replace HX := Lib.hid (HX.out.keep (w' := w11) fun q _ h2 => (hb0.block q (by first | omega | (simp; omega))).trans rfl)); (first | replace HG := Lib.hid (HG.out.keep (w' := w11) fun q _ h2 => hb0.block q (by first | omega | (simp; omega))) | replace HG := Lib.hid (HG.out.keep (w' := w11) fun q _ h2 => (hb0.block q (by first | omega | (simp; omega))).trans rfl)); clear L_ba L_b6 L_b8 L_b9; replace ba : Bk.Blk w11 (w.heap.size) 56 #[.slice A n c] := Bk.Blk.under hb0 (by (repeat (first | with_reducible assumption | (with_reducible apply Bk.Blk.newAt; focus (first | (simp [Bk.size_set]; done) | (simp [Bk.size_set]; omega))) | with_reducible apply Bk.Blk.drewN | with_reducible apply Bk.Blk.drew | with_reducible apply Bk.Blk.set_ | (with_reducible apply Bk.Blk.far; focus (dsimp only; first | omega | (simp; omega) | (simp; done))) | with_reducible apply Bk.Blk.alloc))); replace b6 : Bk.Blk w11 (w4.heap.size) 39 #[.slice A2 m c2] := Bk.Blk.under hb0 (by (repeat (first | with_reducible assumption | (with_reducible apply Bk.Blk.newAt; focus (first | (simp [Bk.size_set]; done) | (simp [Bk.size_set]; omega))) | with_reducible apply Bk.Blk.drewN | with_reducible apply Bk.Blk.drew | with_reducible apply Bk.Blk.set_ | (with_reducible apply Bk.Blk.far; focus (dsimp only; first | omega | (simp; omega) | (simp; done))) | with_reducible apply Bk.Blk.alloc))); replace b8 : Bk.Blk w11 (w6.heap.size) 39 #[.slice A3 n c3] := Bk.Blk.under hb0 (by (repeat (first | with_reducible assumption | (with_reducible apply Bk.Blk.newAt; focus (first | (simp [Bk.size_set]; done) | (simp [Bk.size_set]; omega))) | with_reducible apply Bk.Blk.drewN | with_reducible apply Bk.Blk.drew | with_reducible apply Bk.Blk.set_ | (with_reducible apply Bk.Blk.far; focus (dsimp only; first | omega | (simp; omega) | (simp; done))) | with_reducible apply Bk.Blk.alloc))); replace b9 : Bk.Blk w11 (w8.heap.size) 39 #[.slice A4 m c4] := Bk.Blk.under hb0 (by (repeat (first | with_reducible assumption | (with_reducible apply Bk.Blk.newAt; focus (first | (simp [Bk.size_set]; done) | (simp [Bk.size_set]; omega))) | with_reducible apply Bk.Blk.drewN | with_reducible apply Bk.Blk.drew | with_reducible apply Bk.Blk.set_ | (with_reducible apply Bk.Blk.far; focus (dsimp only; first | omega | (simp; omega) | (simp; done))) | with_reducible apply Bk.Blk.alloc))); replace B : Below w.heap.size w w11 := Below.trans (by go_grown) (hb0.mono (by first | omega | (simp [Bk.size_set]; done) | (simp [Bk.size_set]; omega))); have z11 := hb0.size; (try simp only [World.size_alloc, Bk.size_set, World.size_drew, World.drewN] at z11); clear hb0; have L_ba := Lay.f1 ba; have L_b6 := Lay.f1 b6; have L_b8 := Lay.f1 b8; have L_b9 := Lay.f1 b9)); refine hK.out _ _ ?_ (fun hHeld => ?_); ((try dsimp only); (refine ⟨?_, ?_, ?_, ?_⟩ <;> (repeat (first | with_reducible assumption | (with_reducible apply Bk.Blk.newAt; focus (first | (simp [Bk.size_set]; done) | (simp [Bk.size_set]; omega))) | with_reducible apply Bk.Blk.drewN | with_reducible apply Bk.Blk.drew | with_reducible apply Bk.Blk.set_ | (with_reducible apply Bk.Blk.far; focus (dsimp only; first | omega | (simp; omega) | (simp; done))) | with_reducible apply Bk.Blk.alloc)))); clear hK K)
  try simp only [Act.put, List.setIfInBounds_toArray, List.set_cons_zero, List.set_cons_succ]
  first | ((refine wpAnyH_take (i := 3) (v := undef) (Reg.get rfl) (by kernel_rfl) (by kernel_rfl) (by kernel_rfl) (fun _ _ _ h => h) (Or.inr ⟨by rfl, rfl⟩) hHeld ?_)) | (refine wpAnyH_ready (rs := [3]) (by kernel_rfl) (by simp) ?_; refine AllReadyH.cons (Reg.get rfl) (fun K hK => ?_) AllReadyH.nil; clear hHeld; go_simp; ((go_at_call 36; refine (eqPb_same A3 n c3 A5 c5 ks _ (by first | exact HX.out.rd | exact HX.out.rd.drew) (by first | exact R5.out | exact R5.out.drew)).mono ?_; rintro x w12 ⟨rfl, hb0⟩; (first | replace HW0 := Lib.hid (HW0.out.keep (w' := w12) fun q _ h2 => hb0.block q (by first | omega | (simp; omega))) | replace HW0 := Lib.hid (HW0.out.keep (w' := w12) fun q _ h2 => (hb0.block q (by first | omega | (simp; omega))).trans rfl)); (first | replace HX := Lib.hid (HX.out.keep (w' := w12) fun q _ h2 => hb0.block q (by first | omega | (simp; omega))) | replace HX := Lib.hid (HX.out.keep (w' := w12) fun q _ h2 => (hb0.block q (by first | omega | (simp; omega))).trans rfl)); (first | replace HG := Lib.hid (HG.out.keep (w' := w12) fun q _ h2 => hb0.block q (by first | omega | (simp; omega))) | replace HG := Lib.hid (HG.out.keep (w' := w12) fun q _ h2 => (hb0.block q (by first | omega | (simp; omega))).trans rfl)); clear L_ba L_b6 L_b8 L_b9; replace ba : Bk.Blk w12 (w.heap.size) 56 #[.slice A n c] := Bk.Blk.under hb0 (by (repeat (first | with_reducible assumption | (with_reducible apply Bk.Blk.newAt; focus (first | (simp [Bk.size_set]; done) | (simp [Bk.size_set]; omega))) | with_reducible apply Bk.Blk.drewN | with_reducible apply Bk.Blk.drew | with_reducible apply Bk.Blk.set_ | (with_reducible apply Bk.Blk.far; focus (dsimp only; first | omega | (simp; omega) | (simp; done))) | with_reducible apply Bk.Blk.alloc))); replace b6 : Bk.Blk w12 (w4.heap.size) 39 #[.slice A2 m c2] := Bk.Blk.under hb0 (by (repeat (first | with_reducible assumption | (with_reducible apply Bk.Blk.newAt; focus (first | (simp [Bk.size_set]; done) | (simp [Bk.size_set]; omega))) | with_reducible apply Bk.Blk.drewN | with_reducible apply Bk.Blk.drew | with_reducible apply Bk.Blk.set_ | (with_reducible apply Bk.Blk.far; focus (dsimp only; first | omega | (simp; omega) | (simp; done))) | with_reducible apply Bk.Blk.alloc))); replace b8 : Bk.Blk w12 (w6.heap.size) 39 #[.slice A3 n c3] := Bk.Blk.under hb0 (by (repeat (first | with_reducible assumption | (with_reducible apply Bk.Blk.newAt; focus (first | (simp [Bk.size_set]; done) | (simp [Bk.size_set]; omega))) | with_reducible apply Bk.Blk.drewN | with_reducible apply Bk.Blk.drew | with_reducible apply Bk.Blk.set_ | (with_reducible apply Bk.Blk.far; focus (dsimp only; first | omega | (simp; omega) | (simp; done))) | with_reducible apply Bk.Blk.alloc))); replace b9 : Bk.Blk w12 (w8.heap.size) 39 #[.slice A4 m c4] := Bk.Blk.under hb0 (by (repeat (first | with_reducible assumption | (with_reducible apply Bk.Blk.newAt; focus (first | (simp [Bk.size_set]; done) | (simp [Bk.size_set]; omega))) | with_reducible apply Bk.Blk.drewN | with_reducible apply Bk.Blk.drew | with_reducible apply Bk.Blk.set_ | (with_reducible apply Bk.Blk.far; focus (dsimp only; first | omega | (simp; omega) | (simp; done))) | with_reducible apply Bk.Blk.alloc))); replace B : Below w.heap.size w w12 := Below.trans (by go_grown) (hb0.mono (by first | omega | (simp [Bk.size_set]; done) | (simp [Bk.size_set]; omega))); have z12 := hb0.size; (try simp only [World.size_alloc, Bk.size_set, World.size_drew, World.drewN] at z12); clear hb0; have L_ba := Lay.f1 ba; have L_b6 := Lay.f1 b6; have L_b8 := Lay.f1 b8; have L_b9 := Lay.f1 b9)); refine hK.out _ _ ?_ (fun hHeld => ?_); ((try dsimp only); (refine ⟨?_, ?_, ?_, ?_⟩ <;> (repeat (first | with_reducible assumption | (with_reducible apply Bk.Blk.newAt; focus (first | (simp [Bk.size_set]; done) | (simp [Bk.size_set]; omega))) | with_reducible apply Bk.Blk.drewN | with_reducible apply Bk.Blk.drew | with_reducible apply Bk.Blk.set_ | (with_reducible apply Bk.Blk.far; focus (dsimp only; first | omega | (simp; omega) | (simp; done))) | with_reducible apply Bk.Blk.alloc)))); clear hK K)
  try simp only [Act.put, List.setIfInBounds_toArray, List.set_cons_zero, List.set_cons_succ]
  first | (refine wpAnyH_take (i := 4) (v := ?_) (Reg.get rfl) (by kernel_rfl) (by kernel_rfl) (by kernel_rfl) (fun _ _ _ h => h) (Or.inl ⟨by rfl, ?_⟩) hHeld ?_; rotate_left 1; (focus (intro wq hSw; (try dsimp only at hSw); obtain ⟨s_ba, s_b6, s_b8, s_b9⟩ := hSw; have L_ba := Lay.c1 s_ba; have L_b6 := Lay.c1 s_b6; have L_b8 := Lay.c1 s_b8; have L_b9 := Lay.c1 s_b9;  go_simp <;> with_reducible rfl))) | (refine wpAnyH_take (i := 4) (v := undef) (Reg.get rfl) (by kernel_rfl) (by kernel_rfl) (by kernel_rfl) (fun _ _ _ h => h) (Or.inr ⟨by rfl, rfl⟩) hHeld ?_)
  try simp only [Act.put, List.setIfInBounds_toArray, List.set_cons_zero, List.set_cons_succ]
  refine wpAnyH_done (by kernel_rfl) ?_ _
  clear R5
  go_wp2_with fail
  clear L_ba L_b6 L_b8 L_b9
  have hw12 : True := trivial
  refine (HMX.out A3 c3 _ _ _ HX.out (by omega)).mono ?_
  rintro x w13 ⟨rfl, ht⟩
  have z13 := ht.size
  replace ba : Bk.Blk w13 (w.heap.size) 56 #[.slice A n c] := blk_turnedA ba ht (by omega)
  replace b6 : Bk.Blk w13 (w4.heap.size) 39 #[.slice A2 m c2] := blk_turnedA b6 ht (by omega)
  replace b8 : Bk.Blk w13 (w6.heap.size) 39 #[.slice A3 n c3] := blk_turnedA b8 ht (by omega)
  replace b9 : Bk.Blk w13 (w8.heap.size) 39 #[.slice A4 m c4] := blk_turnedA b9 ht (by omega)
  replace B := B.trans (ht.below (by omega) (by omega))
  replace HW0 := Lib.hid (HW0.out.keep (w' := w13) fun q _ h2 => ht.block q (by omega) (.inl (by omega)))
  replace HG := Lib.hid (HG.out.keep (w' := w13) fun q h1 h2 => ht.block q (by omega) (.inr (by omega)))
  clear ht HX
  have L_b6 := Lay.f1 b6
  have L_b9 := Lay.f1 b9
  go_wp2_with fail
  clear L_b6 L_b9
  refine (eqPb_same A4 m c4 A2 c2 ks2 _ HG.out.rd HW0.out.rd).mono ?_
  rintro x w14 ⟨rfl, hb0⟩
  replace HW0 := Lib.hid (HW0.out.keep (w' := w14) fun q _ h2 => hb0.block q (by omega))
  replace HG := Lib.hid (HG.out.keep (w' := w14) fun q _ h2 => hb0.block q (by omega))
  replace ba : Bk.Blk w14 (w.heap.size) 56 #[.slice A n c] := Bk.Blk.under hb0 (by (repeat (first | with_reducible assumption | (with_reducible apply Bk.Blk.newAt; focus (first | (simp [Bk.size_set]; done) | (simp [Bk.size_set]; omega))) | with_reducible apply Bk.Blk.drewN | with_reducible apply Bk.Blk.drew | with_reducible apply Bk.Blk.set_ | (with_reducible apply Bk.Blk.far; focus (dsimp only; first | omega | (simp; omega) | (simp; done))) | with_reducible apply Bk.Blk.alloc)))
  replace b6 : Bk.Blk w14 (w4.heap.size) 39 #[.slice A2 m c2] := Bk.Blk.under hb0 (by (repeat (first | with_reducible assumption | (with_reducible apply Bk.Blk.newAt; focus (first | (simp [Bk.size_set]; done) | (simp [Bk.size_set]; omega))) | with_reducible apply Bk.Blk.drewN | with_reducible apply Bk.Blk.drew | with_reducible apply Bk.Blk.set_ | (with_reducible apply Bk.Blk.far; focus (dsimp only; first | omega | (simp; omega) | (simp; done))) | with_reducible apply Bk.Blk.alloc)))
  replace b9 : Bk.Blk w14 (w8.heap.size) 39 #[.slice A4 m c4] := Bk.Blk.under hb0 (by (repeat (first | with_reducible assumption | (with_reducible apply Bk.Blk.newAt; focus (first | (simp [Bk.size_set]; done) | (simp [Bk.size_set]; omega))) | with_reducible apply Bk.Blk.drewN | with_reducible apply Bk.Blk.drew | with_reducible apply Bk.Blk.set_ | (with_reducible apply Bk.Blk.far; focus (dsimp only; first | omega | (simp; omega) | (simp; done))) | with_reducible apply Bk.Blk.alloc)))
  replace B : Below w.heap.size w w14 := Below.trans (by go_grown) (hb0.mono (by first | omega | (simp [Bk.size_set]; done) | (simp [Bk.size_set]; omega)))
  have z14 := hb0.size
  (try simp only [World.size_alloc, Bk.size_set, World.size_drew, World.drewN] at z14)
  clear hb0
  have L_b9 := Lay.f1 b9
  go_wp2_with fail
  clear L_b9
  refine (HMG.out A4 c4 _ _ _ HG.out (by omega)).mono ?_
  rintro x w15 ⟨rfl, hG2, ht⟩
  have z15 := ht.size
  replace HG := Lib.hid hG2
  replace ba : Bk.Blk w15 (w.heap.size) 56 #[.slice A n c] := blk_turnedA ba ht (by omega)
  replace b6 : Bk.Blk w15 (w4.heap.size) 39 #[.slice A2 m c2] := blk_turnedA b6 ht (by omega)
  replace b9 : Bk.Blk w15 (w8.heap.size) 39 #[.slice A4 m c4] := blk_turnedA b9 ht (by omega)
  replace B := B.trans (ht.below (by omega) (by omega))
  replace HW0 := Lib.hid (HW0.out.keep (w' := w15) fun q _ h2 => ht.block q (by omega) (.inl (by omega)))
  clear ht hG2
  have L_b9 := Lay.f1 b9
  go_wp2_with fail
  clear L_b9
  refine (HHG.out A4 c4 _ HG.out.rd).mono ?_
  rintro x w16 ⟨rfl, hb0⟩
  replace HW0 := Lib.hid (HW0.out.keep (w' := w16) fun q _ h2 => hb0.block q (by omega))
  replace HG := Lib.hid (HG.out.keep (w' := w16) fun q _ h2 => hb0.block q (by omega))
  replace ba : Bk.Blk w16 (w.heap.size) 56 #[.slice A n c] := Bk.Blk.under hb0 (by (repeat (first | with_reducible assumption | (with_reducible apply Bk.Blk.newAt; focus (first | (simp [Bk.size_set]; done) | (simp [Bk.size_set]; omega))) | with_reducible apply Bk.Blk.drewN | with_reducible apply Bk.Blk.drew | with_reducible apply Bk.Blk.set_ | (with_reducible apply Bk.Blk.far; focus (dsimp only; first | omega | (simp; omega) | (simp; done))) | with_reducible apply Bk.Blk.alloc)))
  replace b6 : Bk.Blk w16 (w4.heap.size) 39 #[.slice A2 m c2] := Bk.Blk.under hb0 (by (repeat (first | with_reducible assumption | (with_reducible apply Bk.Blk.newAt; focus (first | (simp [Bk.size_set]; done) | (simp [Bk.size_set]; omega))) | with_reducible apply Bk.Blk.drewN | with_reducible apply Bk.Blk.drew | with_reducible apply Bk.Blk.set_ | (with_reducible apply Bk.Blk.far; focus (dsimp only; first | omega | (simp; omega) | (simp; done))) | with_reducible apply Bk.Blk.alloc)))
  replace b9 : Bk.Blk w16 (w8.heap.size) 39 #[.slice A4 m c4] := Bk.Blk.under hb0 (by (repeat (first | with_reducible assumption | (with_reducible apply Bk.Blk.newAt; focus (first | (simp [Bk.size_set]; done) | (simp [Bk.size_set]; omega))) | with_reducible apply Bk.Blk.drewN | with_reducible apply Bk.Blk.drew | with_reducible apply Bk.Blk.set_ | (with_reducible apply Bk.Blk.far; focus (dsimp only; first | omega | (simp; omega) | (simp; done))) | with_reducible apply Bk.Blk.alloc)))
  replace B : Below w.heap.size w w16 := Below.trans (by go_grown) (hb0.mono (by first | omega | (simp [Bk.size_set]; done) | (simp [Bk.size_set]; omega)))
  have z16 := hb0.size
  (try simp only [World.size_alloc, Bk.size_set, World.size_drew, World.drewN] at z16)
  clear hb0
  have L_ba := Lay.f1 ba
  go_wp2_with fail
  clear L_ba
  refine (toPb_any A n c ks _ (HP.out.below B) n1 HFE.out).mono ?_
  rintro x w17 ⟨A6, c6, rfl, hown, hb0⟩
  have R6 := Lib.hid hown.rd
  clear hown
  replace HW0 := Lib.hid (HW0.out.keep (w' := w17) fun q _ h2 => hb0.block q (by omega))
  replace HG := Lib.hid (HG.out.keep (w' := w17) fun q _ h2 => hb0.block q (by omega))
  replace ba : Bk.Blk w17 (w.heap.size) 56 #[.slice A n c] := Bk.Blk.under hb0 (by (repeat (first | with_reducible assumption | (with_reducible apply Bk.Blk.newAt; focus (first | (simp [Bk.size_set]; done) | (simp [Bk.size_set]; omega))) | with_reducible apply Bk.Blk.drewN | with_reducible apply Bk.Blk.drew | with_reducible apply Bk.Blk.set_ | (with_reducible apply Bk.Blk.far; focus (dsimp only; first | omega | (simp; omega) | (simp; done))) | with_reducible apply Bk.Blk.alloc)))
  replace b6 : Bk.Blk w17 (w4.heap.size) 39 #[.slice A2 m c2] := Bk.Blk.under hb0 (by (repeat (first | with_reducible assumption | (with_reducible apply Bk.Blk.newAt; focus (first | (simp [Bk.size_set]; done) | (simp [Bk.size_set]; omega))) | with_reducible apply Bk.Blk.drewN | with_reducible apply Bk.Blk.drew | with_reducible apply Bk.Blk.set_ | (with_reducible apply Bk.Blk.far; focus (dsimp only; first | omega | (simp; omega) | (simp; done))) | with_reducible apply Bk.Blk.alloc)))
  replace b9 : Bk.Blk w17 (w8.heap.size) 39 #[.slice A4 m c4] := Bk.Blk.under hb0 (by (repeat (first | with_reducible assumption | (with_reducible apply Bk.Blk.newAt; focus (first | (simp [Bk.size_set]; done) | (simp [Bk.size_set]; omega))) | with_reducible apply Bk.Blk.drewN | with_reducible apply Bk.Blk.drew | with_reducible apply Bk.Blk.set_ | (with_reducible apply Bk.Blk.far; focus (dsimp only; first | omega | (simp; omega) | (simp; done))) | with_reducible apply Bk.Blk.alloc)))
  replace B : Below w.heap.size w w17 := Below.trans (by go_grown) (hb0.mono (by first | omega | (simp [Bk.size_set]; done) | (simp [Bk.size_set]; omega)))
  have z17 := hb0.size
  (try simp only [World.size_alloc, Bk.size_set, World.size_drew, World.drewN] at z17)
  clear hb0
  go_wp2_with fail
  refine (HI.out A6 c6 _ R6.out).mono ?_
  rintro x w18 ⟨A7, c7, rfl, hown, hb0⟩
  have R7 := Lib.hid hown.rd
  clear hown R6
  replace HW0 := Lib.hid (HW0.out.keep (w' := w18) fun q _ h2 => hb0.block q (by omega))
  replace HG := Lib.hid (HG.out.keep (w' := w18) fun q _ h2 => hb0.block q (by omega))
  replace ba : Bk.Blk w18 (w.heap.size) 56 #[.slice A n c] := Bk.Blk.under hb0 (by (repeat (first | with_reducible assumption | (with_reducible apply Bk.Blk.newAt; focus (first | (simp [Bk.size_set]; done) | (simp [Bk.size_set]; omega))) | with_reducible apply Bk.Blk.drewN | with_reducible apply Bk.Blk.drew | with_reducible apply Bk.Blk.set_ | (with_reducible apply Bk.Blk.far; focus (dsimp only; first | omega | (simp; omega) | (simp; done))) | with_reducible apply Bk.Blk.alloc)))
  replace b6 : Bk.Blk w18 (w4.heap.size) 39 #[.slice A2 m c2] := Bk.Blk.under hb0 (by (repeat (first | with_reducible assumption | (with_reducible apply Bk.Blk.newAt; focus (first | (simp [Bk.size_set]; done) | (simp [Bk.size_set]; omega))) | with_reducible apply Bk.Blk.drewN | with_reducible apply Bk.Blk.drew | with_reducible apply Bk.Blk.set_ | (with_reducible apply Bk.Blk.far; focus (dsimp only; first | omega | (simp; omega) | (simp; done))) | with_reducible apply Bk.Blk.alloc)))
  replace b9 : Bk.Blk w18 (w8.heap.size) 39 #[.slice A4 m c4] := Bk.Blk.under hb0 (by (repeat (first | with_reducible assumption | (with_reducible apply Bk.Blk.newAt; focus (first | (simp [Bk.size_set]; done) | (simp [Bk.size_set]; omega))) | with_reducible apply Bk.Blk.drewN | with_reducible apply Bk.Blk.drew | with_reducible apply Bk.Blk.set_ | (with_reducible apply Bk.Blk.far; focus (dsimp only; first | omega | (simp; omega) | (simp; done))) | with_reducible apply Bk.Blk.alloc)))
  replace B : Below w.heap.size w w18 := Below.trans (by go_grown) (hb0.mono (by first | omega | (simp [Bk.size_set]; done) | (simp [Bk.size_set]; omega)))
  have z18 := hb0.size
  (try simp only [World.size_alloc, Bk.size_set, World.size_drew, World.drewN] at z18)
  clear hb0
  have L_b6 := Lay.f1 b6
  go_wp2_with fail
  clear L_b6
  generalize hW : World.alloc _ _ = w19
  replace HW0 := Lib.hid (HW0.out.keep (w' := w19) fun q _ h2 => by rw [← hW]; exact Below.heap_alloc _ _ q (by omega))
  replace HG := Lib.hid (HG.out.keep (w' := w19) fun q _ h2 => by rw [← hW]; exact Below.heap_alloc _ _ q (by omega))
  replace R7 := Lib.hid (hW ▸ R7.out.alloc _)
  replace ba : Bk.Blk w19 (w.heap.size) 56 #[.slice A n c] := (by rw [← hW]; (repeat (first | with_reducible assumption | (with_reducible apply Bk.Blk.newAt; focus (first | (simp [Bk.size_set]; done) | (simp [Bk.size_set]; omega))) | with_reducible apply Bk.Blk.drewN | with_reducible apply Bk.Blk.drew | with_reducible apply Bk.Blk.set_ | (with_reducible apply Bk.Blk.far; focus (dsimp only; first | omega | (simp; omega) | (simp; done))) | with_reducible apply Bk.Blk.alloc)))
  replace b6 : Bk.Blk w19 (w4.heap.size) 39 #[.slice A2 m c2] := (by rw [← hW]; (repeat (first | with_reducible assumption | (with_reducible apply Bk.Blk.newAt; focus (first | (simp [Bk.size_set]; done) | (simp [Bk.size_set]; omega))) | with_reducible apply Bk.Blk.drewN | with_reducible apply Bk.Blk.drew | with_reducible apply Bk.Blk.set_ | (with_reducible apply Bk.Blk.far; focus (dsimp only; first | omega | (simp; omega) | (simp; done))) | with_reducible apply Bk.Blk.alloc)))
  replace b9 : Bk.Blk w19 (w8.heap.size) 39 #[.slice A4 m c4] := (by rw [← hW]; (repeat (first | with_reducible assumption | (with_reducible apply Bk.Blk.newAt; focus (first | (simp [Bk.size_set]; done) | (simp [Bk.size_set]; omega))) | with_reducible apply Bk.Blk.drewN | with_reducible apply Bk.Blk.drew | with_reducible apply Bk.Blk.set_ | (with_reducible apply Bk.Blk.far; focus (dsimp only; first | omega | (simp; omega) | (simp; done))) | with_reducible apply Bk.Blk.alloc)))
  replace B : Below w.heap.size w w19 := (by rw [← hW]; go_grown)
  have z19 : w19.heap.size = _ := congrArg (fun W : World => W.heap.size) hW.symm
  (try simp only [World.size_alloc, Bk.size_set, World.size_drew, World.drewN] at z19)
  clear hW
  refine (eqPb_same A7 m c7 A2 c2 ks2 _ R7.out HW0.out.rd).mono ?_
  rintro x w20 ⟨rfl, hb0⟩
  replace HG := Lib.hid (HG.out.keep (w' := w20) fun q _ h2 => hb0.block q (by omega))
  replace b9 : Bk.Blk w20 (w8.heap.size) 39 #[.slice A4 m c4] := Bk.Blk.under hb0 (by (repeat (first | with_reducible assumption | (with_reducible apply Bk.Blk.newAt; focus (first | (simp [Bk.size_set]; done) | (simp [Bk.size_set]; omega))) | with_reducible apply Bk.Blk.drewN | with_reducible apply Bk.Blk.drew | with_reducible apply Bk.Blk.set_ | (with_reducible apply Bk.Blk.far; focus (dsimp only; first | omega | (simp; omega) | (simp; done))) | with_reducible apply Bk.Blk.alloc)))
  replace B : Below w.heap.size w w20 := Below.trans (by go_grown) (hb0.mono (by first | omega | (simp [Bk.size_set]; done) | (simp [Bk.size_set]; omega)))
  have z20 := hb0.size
  (try simp only [World.size_alloc, Bk.size_set, World.size_drew, World.drewN] at z20)
  clear hb0
  have L_b9 := Lay.f1 b9
  go_wp2_with fail
  clear L_b9
  refine (HHG.out A4 c4 _ HG.out.rd).mono ?_
  rintro x w21 ⟨rfl, hb0⟩
  replace B : Below w.heap.size w w21 := Below.trans (by go_grown) (hb0.mono (by first | omega | (simp [Bk.size_set]; done) | (simp [Bk.size_set]; omega)))
  have z21 := hb0.size
  (try simp only [World.size_alloc, Bk.size_set, World.size_drew, World.drewN] at z21)
  clear hb0
  go_wp2
  go_ret
  exact ⟨rfl, B⟩
set_option maxHeartbeats 4000000 in
theorem add_big (A : Option Addr) (n c : Nat) (ks : List Kt) (st : Int) (w : World) (hr : RdPB w A n c ks) (hn : ¬ n + totK ks n ≤ 1048576) :
    Calls Try.prog 6 #[.agg #[.slice A n c], .int .i64 st] w fun x w' => x = .returned (.bool true) ∧ Below w.heap.size w w' := by
  have HP := Lib.hid hr
  have B : Below w.heap.size w w := Below.refl _ _
  have HE1 := Lib.hid (szOf_lt (left := 1048576) (t := n + totK ks n) (by omega))
  clear hr hn
  go_enter Try.func6, Try.ntmps6
  go_wp2_with fail
  generalize hW : World.alloc _ _ = w1
  have ba : Bk.Blk w1 (w.heap.size) 56 #[.slice A n c] := (by rw [← hW]; apply Bk.Blk.to; (focus ((repeat (first | with_reducible assumption | (with_reducible apply Bk.Blk.newAt; focus (first | (simp [Bk.size_set]; done) | (simp [Bk.size_set]; omega))) | with_reducible apply Bk.Blk.drewN | with_reducible apply Bk.Blk.drew | with_reducible apply Bk.Blk.set_ | (with_reducible apply Bk.Blk.far; focus (dsimp only; first | omega | (simp; omega) | (simp; done))) | with_reducible apply Bk.Blk.alloc)))); rfl)
  replace B : Below w.heap.size w w1 := (by rw [← hW]; go_grown)
  have z1 : w1.heap.size = _ := congrArg (fun W : World => W.heap.size) hW.symm
  (try simp only [World.size_alloc, Bk.size_set, World.size_drew, World.drewN] at z1)
  clear hW
  refine (szPb_any A n c ks 1048576 _ (HP.out.below B) (by omega) (by omega)).mono ?_
  rintro x w2 ⟨rfl, hb0⟩
  rw [HE1.out]
  replace ba : Bk.Blk w2 (w.heap.size) 56 #[.slice A n c] := Bk.Blk.under hb0 (by (repeat (first | with_reducible assumption | (with_reducible apply Bk.Blk.newAt; focus (first | (simp [Bk.size_set]; done) | (simp [Bk.size_set]; omega))) | with_reducible apply Bk.Blk.drewN | with_reducible apply Bk.Blk.drew | with_reducible apply Bk.Blk.set_ | (with_reducible apply Bk.Blk.far; focus (dsimp only; first | omega | (simp; omega) | (simp; done))) | with_reducible apply Bk.Blk.alloc)))
  replace B : Below w.heap.size w w2 := Below.trans (by go_grown) (hb0.mono (by first | omega | (simp [Bk.size_set]; done) | (simp [Bk.size_set]; omega)))
  have z2 := hb0.size
  (try simp only [World.size_alloc, Bk.size_set, World.size_drew, World.drewN] at z2)
  clear hb0
  go_wp2
  go_ret
  exact ⟨rfl, B⟩
theorem add_law (A : Option Addr) (n c : Nat) (ks : List Kt) (st : Int) (w : World) (hr : RdPB w A n c ks) (_h0 : (Lit.int .i64 st).wf = true) :
    Calls Try.prog 6 #[.agg #[.slice A n c], .int .i64 st] w fun x w' => x = .returned (.bool true) ∧ Below w.heap.size w w' := by
  by_cases hn : n + totK ks n ≤ 1048576
  · exact add_core A n c ks st w hr hn
  · exact add_big A n c ks st w hr hn
end Go.Proofs.Ythdieeaegplnmaa.Pb
