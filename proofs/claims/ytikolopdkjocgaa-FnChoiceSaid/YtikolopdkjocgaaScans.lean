/- The draws of scans and of clients: a scan whose entries are in the ranges of the draws, in new memory. -/
import Derived.Test.YtikolopdkjocgaaAdd
import Derived.Test.YtikolopdkjocgaaDraw
namespace Go.Proofs.Ytikolopdkjocgaa.Cl
open Go.RowKit
open Go.Proofs.Ytikolopdkjocgaa.Num Go.Proofs.Ytikolopdkjocgaa.Mem Go.Proofs.Ytikolopdkjocgaa.Hsh Go.Proofs.Ytikolopdkjocgaa.Sls Go.Proofs.Ytikolopdkjocgaa.Scn Go.Proofs.Ytikolopdkjocgaa.Own Go.Proofs.Ytikolopdkjocgaa.Cur
set_option linter.unusedSimpArgs false
set_option linter.unusedVariables false
/-- a scan has been drawn into new memory -/
def DrewS (w : World) (g : Nat) (A : Option Addr) (n c : Nat) (bs : List Int) (e : Ending) (w' : World) : Prop :=
  ∃ (m : Nat) (ys : List Int) (L : Option Addr) (d : Nat), m ≤ 6 ∧ EntsIn ys m ∧ w'.ownsRow w.heap.size 30 4 (.slice L m d) m (ys.map (Value.int .i64)) ∧ e = .returned (.slice L m d) ∧ Cur w' g A n c bs ∧ w.grownBy w' (some g)
theorem own_grown {w w' : World} {base g n c : Nat} {e : TypeId} {sz : Nat} {A : Option Addr} {xs : List Value} (h : w.ownsRow base e sz (.slice A n c) n xs) (hg : w.grownBy w' (some g)) (hb : g < base) : w'.ownsRow base e sz (.slice A n c) n xs := by
  obtain ⟨h1, h2⟩ := h
  rcases h2 with h2 | ⟨q, cap, cur, hv, h3, h4, h5⟩
  · exact ⟨h1, .inl h2⟩
  · have hq : q < w.heap.size := by
      rcases Nat.lt_or_ge q w.heap.size with h | h
      · exact h
      · rw [Array.getElem?_eq_none h] at h4; cases h4
    exact ⟨h1, .inr ⟨q, cap, cur, hv, h3, (hg.block q hq (by intro e; injection e with e; omega)).trans h4, h5⟩⟩
theorem own_grown2 {w w' : World} {base g n : Nat} {e : TypeId} {sz : Nat} {v : Value} {xs : List Value} (h : w.ownsRow base e sz v n xs) (hg : w.grownBy w' (some g)) (hne : ∀ k, v.ownBlock = some k → k ≠ g) : w'.ownsRow base e sz v n xs :=
  h.kept hg (by
    cases hv : v.ownBlock with
    | none => exact .inl rfl
    | some k => exact .inr (fun e => hne k hv (by injection e)))
theorem cur_grownO {w w' : World} {g : Nat} {A : Option Addr} {n c : Nat} {bs : List Int} {row : Option Nat} (hg : w.grownBy w' row) (hne : some g ≠ row) (hA : 0 < n → blk A = row → False) (h : Cur w g A n c bs) : Cur w' g A n c bs := by
  have hlt := h.lt
  obtain ⟨⟨i, q, hgg, h1, h2⟩, hr, hne', hb, hn⟩ := h
  exact ⟨⟨i, q, (hg.block g hlt hne).trans hgg, h1, h2⟩, hr.grown hg (.inr (fun h0 e => hA h0 e)), hne', hb, hn⟩
theorem cur_off {W : World} {c : Nat} {bs : List Int} {A L : Option Addr} {n B base : Nat} (hr : Rd W 1 A n c (bs.map (Value.int .u8))) (h : CurB.Old A n B) (hb : ∀ q, blk L = some q → base ≤ q) (h0 : 0 < n) (e : blk A = blk L) (hB : B ≤ base) : False := by
  cases hL : blk L with
  | none =>
    obtain ⟨g', o, rfl, _, _⟩ := hr.at_ (k := 0) (by rw [hr.1]; omega)
    rw [hL] at e; cases e
  | some q => have h1 := hb q hL; have h2 := h h0 q (e.trans hL); omega
theorem gr_row {a w w' : World} {r row : Option Nat} (h : a.grownBy w r) (hg : w.grownBy w' row) (hb : ∀ q, row = some q → a.heap.size ≤ q) : a.grownBy w' r :=
  ⟨hg.os.trans h.os, hg.tape.trans h.tape, hg.output.trans h.output, Nat.le_trans h.size hg.size, fun k hk hne => (hg.block k (Nat.lt_of_lt_of_le hk h.size) (fun e => by have := hb k e.symm; omega)).trans (h.block k hk hne)⟩
theorem ents_snoc {ys : List Int} {m : Nat} {x0 x1 x2 x3 : Int} (h : EntsIn ys m) (he : EntIn x0 x1 x2 x3) : EntsIn (ys ++ [x0, x1, x2, x3]) (m + 1) := by
  have h2 := ents_ins h (Nat.le_refl m) he
  have hl := h.1
  unfold ins4 at h2
  rw [List.take_of_length_le (by omega), List.drop_eq_nil_of_le (by omega), List.append_nil] at h2
  exact h2
set_option maxHeartbeats 4000000 in
theorem l32Scan_any (A : Option Addr) (n c : Nat) (bs : List Int) (g : Nat) (w : World) (hcur : Cur w g A n c bs) :
    Calls Try.prog 37 #[.pointer (some ⟨g, 0, none⟩)] w (DrewS w g A n c bs) := by
  obtain ⟨i0, hi, hz0, hz1, hz2⟩ := info_parts scanInfo
  have HAL := Lib.hid (CurB.old_cur hcur)
  have hgl := hcur.lt
  have C := hcur
  have G : w.grownBy w (some g) := World.grownBy.refl _ _
  clear hcur
  go_enter Try.func37, Try.ntmps37
  go_wp2_with fail
  generalize hW : World.alloc _ _ = w1
  have HO := Lib.hid (own_fresh (lo := w.heap.size) (sz := 4) hW (Nat.le_refl _))
  replace C : Cur.Cur w1 (g) A n c bs := (by rw [← hW]; (repeat (first | with_reducible assumption | with_reducible apply Cur.Cur.alloc | with_reducible apply CurB.cur_drewN | with_reducible apply CurB.cur_drew | ((with_reducible refine CurB.cur_set HAL.out ?_ ?_ ?_ _); (focus (first | omega | (dsimp only; done) | (dsimp only; omega))); (focus (first | omega | (dsimp only; omega)))))))
  replace G : w.grownBy w1 (some (g)) := (by rw [← hW]; (repeat (first | with_reducible assumption | with_reducible exact World.grownBy.refl _ _ | with_reducible apply CurB.gr_alloc | with_reducible apply CurB.gr_drewN | with_reducible apply CurB.gr_drew | (with_reducible apply CurB.gr_set; focus (first | omega | (dsimp only; done) | (dsimp only; omega))))))
  have z1 : w1.heap.size = _ := congrArg (fun W : World => W.heap.size) hW.symm
  (try simp only [World.size_alloc, Bk.size_set, World.size_drew, World.drewN] at z1)
  clear hW
  go_wp2_with fail
  refine (l1Below_any A n c bs g _ _ (by (repeat (first | with_reducible assumption | with_reducible apply Cur.Cur.alloc | with_reducible apply CurB.cur_drewN | with_reducible apply CurB.cur_drew | ((with_reducible refine CurB.cur_set HAL.out ?_ ?_ ?_ _); (focus (first | omega | (dsimp only; done) | (dsimp only; omega))); (focus (first | omega | (dsimp only; omega))))))) (by omega) (by omega)).mono ?_
  rintro x w2 ⟨k, hk, rfl, C0, hg0⟩
  have HO2 := Lib.hid (own_grown HO.out hg0 hgl)
  replace C := C0
  replace G : w.grownBy w2 (some (g)) := World.grownBy.trans (by (repeat (first | with_reducible assumption | with_reducible exact World.grownBy.refl _ _ | with_reducible apply CurB.gr_alloc | with_reducible apply CurB.gr_drewN | with_reducible apply CurB.gr_drew | (with_reducible apply CurB.gr_set; focus (first | omega | (dsimp only; done) | (dsimp only; omega)))))) hg0
  have z2 := hg0.size
  (try simp only [World.size_alloc, Bk.size_set, World.size_drew, World.drewN] at z2)
  clear hg0
  clear HO
  obtain ⟨k0, k1⟩ := hk
  go_upto_block 0 with fail
  go_cut [3, 4] (fun v3 v4 wr => ∃ (m : Nat) (ys : List Int) (L : Option Addr) (d : Nat), m ≤ 5 ∧ EntsIn ys m ∧ v3 = .slice L m d ∧ wr.ownsRow w.heap.size 30 4 (.slice L m d) m (ys.map (Value.int .i64)) ∧ Cur wr g A n c bs ∧ w.grownBy wr (some g))
  case first =>
    go_wp2_with fail
    go_loopw [3, 4] (fun v3 v4 wr => ∃ (m : Nat) (ys : List Int) (L : Option Addr) (d : Nat) (i : Int), 0 ≤ i ∧ (m : Int) + i ≤ 5 ∧ EntsIn ys m ∧ v3 = .slice L m d ∧ v4 = .int .i64 i ∧ wr.ownsRow w.heap.size 30 4 (.slice L m d) m (ys.map (Value.int .i64)) ∧ Cur wr g A n c bs ∧ w.grownBy wr (some g)) (fun _ v4 _ => (intOf v4).toNat)
    case atStart => exact ⟨0, [], _, _, k, k0, by omega, ents_nil, rfl, rfl, HO2.out, C, G⟩
    case round =>
      clear HO2 C G
      obtain ⟨m, ys, L, d, i, hi0, hi1, hys, rfl, rfl, ho, C, G⟩ := hrel
      have HO := Lib.hid ho
      have HY := Lib.hid hys
      clear ho hys
      by_cases hz : 0 < i
      · obtain ⟨w3, hw3⟩ : ∃ W, W = wr := ⟨_, rfl⟩
        subst hw3
        have z3g := G.size
        go_wp2_with fail
        refine (l32Entry_any A n c bs g _ (by (repeat (first | with_reducible assumption | with_reducible apply Cur.Cur.alloc | with_reducible apply CurB.cur_drewN | with_reducible apply CurB.cur_drew | ((with_reducible refine CurB.cur_set HAL.out ?_ ?_ ?_ _); (focus (first | omega | (dsimp only; done) | (dsimp only; omega))); (focus (first | omega | (dsimp only; omega)))))))).mono ?_
        rintro x w4 ⟨x0, x1, x2, x3, hx, rfl, C0, hg0⟩
        have HX := Lib.hid hx
        have HO4 := Lib.hid (own_grown HO.out hg0 hgl)
        replace C := C0
        replace G : w.grownBy w4 (some (g)) := World.grownBy.trans (by (repeat (first | with_reducible assumption | with_reducible exact World.grownBy.refl _ _ | with_reducible apply CurB.gr_alloc | with_reducible apply CurB.gr_drewN | with_reducible apply CurB.gr_drew | (with_reducible apply CurB.gr_set; focus (first | omega | (dsimp only; done) | (dsimp only; omega)))))) hg0
        have z4 := hg0.size
        (try simp only [World.size_alloc, Bk.size_set, World.size_drew, World.drewN] at z4)
        clear hg0
        clear hx HO
        go_wp2_with fail
        refine (addS_any L m d ys x0 x1 x2 x3 _ (Rd.of_own HO4.out) HY.out (by omega) HX.out).mono ?_
        rintro e w5 ⟨m', ys', L', d', hm', hys', rfl, ho', hb0⟩
        have HO5 := Lib.hid (ownsRow_mono ho' (by omega : w.heap.size ≤ _))
        have HY5 := Lib.hid hys'
        replace C : Cur.Cur w5 (g) A n c bs := Cur.Cur.below (by (repeat (first | with_reducible assumption | with_reducible apply Cur.Cur.alloc | with_reducible apply CurB.cur_drewN | with_reducible apply CurB.cur_drew | ((with_reducible refine CurB.cur_set HAL.out ?_ ?_ ?_ _); (focus (first | omega | (dsimp only; done) | (dsimp only; omega))); (focus (first | omega | (dsimp only; omega))))))) hb0
        replace G : w.grownBy w5 (some (g)) := World.grownBy.trans (by (repeat (first | with_reducible assumption | with_reducible exact World.grownBy.refl _ _ | with_reducible apply CurB.gr_alloc | with_reducible apply CurB.gr_drewN | with_reducible apply CurB.gr_drew | (with_reducible apply CurB.gr_set; focus (first | omega | (dsimp only; done) | (dsimp only; omega)))))) (Cur.grown_of_below hb0 _)
        have z5 := hb0.size
        (try simp only [World.size_alloc, Bk.size_set, World.size_drew, World.drewN] at z5)
        clear hb0
        clear ho' hys' HO4
        go_wp2
        go_roundw
        case rel => exact ⟨m', ys', L', d', i - 1, by omega, by omega, HY5.out, rfl, by go_num, HO5.out, C, G⟩
        case measure => simp [intOf]; omega
      · have hz2 : i ≤ 0 := by omega
        go_wp2_with fail
        go_meet
        exact ⟨m, ys, L, d, by omega, HY.out, rfl, HO.out, C, G⟩
  case rest =>
    clear HO2 C G
    obtain ⟨w6, hw6⟩ : ∃ W, W = wc := ⟨_, rfl⟩
    subst hw6
    obtain ⟨m, ys, L, d, hm, hys, rfl, ho, C, G⟩ := hcut
    have HO := Lib.hid ho
    have HY := Lib.hid hys
    have z6g := G.size
    clear ho hys
    go_wp2_with fail
    refine (l1Once_any A n c bs g _ _ (by (repeat (first | with_reducible assumption | with_reducible apply Cur.Cur.alloc | with_reducible apply CurB.cur_drewN | with_reducible apply CurB.cur_drew | ((with_reducible refine CurB.cur_set HAL.out ?_ ?_ ?_ _); (focus (first | omega | (dsimp only; done) | (dsimp only; omega))); (focus (first | omega | (dsimp only; omega))))))) (by omega) (by omega)).mono ?_
    rintro x w7 ⟨o, rfl, C0, hg0⟩
    have HO7 := Lib.hid (own_grown HO.out hg0 hgl)
    replace C := C0
    replace G : w.grownBy w7 (some (g)) := World.grownBy.trans (by (repeat (first | with_reducible assumption | with_reducible exact World.grownBy.refl _ _ | with_reducible apply CurB.gr_alloc | with_reducible apply CurB.gr_drewN | with_reducible apply CurB.gr_drew | (with_reducible apply CurB.gr_set; focus (first | omega | (dsimp only; done) | (dsimp only; omega)))))) hg0
    have z7 := hg0.size
    (try simp only [World.size_alloc, Bk.size_set, World.size_drew, World.drewN] at z7)
    clear hg0
    clear HO
    cases o
    · go_wp2
      go_ret
      exact ⟨m, ys, L, d, by omega, HY.out, HO7.out, rfl, C, G⟩
    · skip
      go_wp2_with fail
      refine (l32Entry_any A n c bs g _ (by (repeat (first | with_reducible assumption | with_reducible apply Cur.Cur.alloc | with_reducible apply CurB.cur_drewN | with_reducible apply CurB.cur_drew | ((with_reducible refine CurB.cur_set HAL.out ?_ ?_ ?_ _); (focus (first | omega | (dsimp only; done) | (dsimp only; omega))); (focus (first | omega | (dsimp only; omega)))))))).mono ?_
      rintro x w8 ⟨x0, x1, x2, x3, hx, rfl, C0, hg0⟩
      have HX := Lib.hid hx
      have HO8 := Lib.hid (own_grown HO7.out hg0 hgl)
      replace C := C0
      replace G : w.grownBy w8 (some (g)) := World.grownBy.trans (by (repeat (first | with_reducible assumption | with_reducible exact World.grownBy.refl _ _ | with_reducible apply CurB.gr_alloc | with_reducible apply CurB.gr_drewN | with_reducible apply CurB.gr_drew | (with_reducible apply CurB.gr_set; focus (first | omega | (dsimp only; done) | (dsimp only; omega)))))) hg0
      have z8 := hg0.size
      (try simp only [World.size_alloc, Bk.size_set, World.size_drew, World.drewN] at z8)
      clear hg0
      clear hx HO7
      go_wp2_with (at_builtin; refine wpl_app _ rfl _ _ 24 rfl w.heap.size 30 i0 (.agg #[.int .i64 0, .int .i64 0, .int .i64 0, .int .i64 0]) 4 32 Try.underlying24 hi hz0 hz1 hz2 rfl (by decide) _ _ _ _ rfl (own_alloc HO8.out _) _ _ _ _ rfl (rd_fresh rfl) (cells_one _) (by unfold maxLen; omega) (by omega) (by simp; omega) ?_)
      intro A4 c4 w9 hown4 hg4 hat4
      have HB := own_ge HO8.out
      have HO9 := Lib.hid hown4
      have hgA : blk L ≠ some g := by intro e; have := HB _ e; omega
      have C9 : Cur w9 g A n c bs := cur_grownO hg4 (fun e => hgA e.symm) (fun h0 e => cur_off C.2.1 HAL.out HB h0 e (by omega)) (by (repeat (first | with_reducible assumption | with_reducible apply Cur.Cur.alloc | with_reducible apply CurB.cur_drewN | with_reducible apply CurB.cur_drew | ((with_reducible refine CurB.cur_set HAL.out ?_ ?_ ?_ _); (focus (first | omega | (dsimp only; done) | (dsimp only; omega))); (focus (first | omega | (dsimp only; omega)))))))
      have G9 : w.grownBy w9 (some g) := gr_row (by (repeat (first | with_reducible assumption | with_reducible exact World.grownBy.refl _ _ | with_reducible apply CurB.gr_alloc | with_reducible apply CurB.gr_drewN | with_reducible apply CurB.gr_drew | (with_reducible apply CurB.gr_set; focus (first | omega | (dsimp only; done) | (dsimp only; omega)))))) hg4 HB
      clear hown4 hg4 hat4 HO8
      go_wp2
      go_ret
      exact ⟨m + 1, ys ++ [x0, x1, x2, x3], A4, c4, by omega, ents_snoc HY.out HX.out, by simpa using HO9.out, rfl, C9, G9⟩
/-- a scan and two numbers have been drawn -/
def DrewC (w : World) (e : Ending) (w' : World) : Prop :=
  ∃ (m : Nat) (ys : List Int) (L : Option Addr) (d : Nat) (x y : Int), m ≤ 6 ∧ EntsIn ys m ∧ (0 ≤ x ∧ x < 40) ∧ (0 ≤ y ∧ y ≤ 100) ∧ w'.ownsRow w.heap.size 30 4 (.slice L m d) m (ys.map (Value.int .i64)) ∧ e = .returned (.tuple #[.slice L m d, .int .i64 x, .int .i64 y]) ∧ Below w.heap.size w w'
theorem four_in : ∀ x ∈ ([0, 5, 20, 100] : List Int), 0 ≤ x ∧ x ≤ 100 := by decide
set_option maxHeartbeats 4000000 in
theorem drawChoose_any (A : Option Addr) (n c : Nat) (bs : List Int) (w : World) (hr : Rd w 1 A n c (bs.map (Value.int .u8))) (hb : AllBytes bs) (hn : n ≤ 2097152) :
    Calls Try.prog 21 #[.slice A n c] w (DrewC w) := by
  have HAL := Lib.hid (CurB.old_of hr)
  have HR := Lib.hid hr
  have HB := Lib.hid hb
  have HN := Lib.hid hn
  have B : Below w.heap.size w w := Below.refl _ _
  clear hr hb
  go_enter Try.func21, Try.ntmps21
  go_wp2_with fail
  refine (l1New_any A n c bs _ HR.out HB.out hn).mono ?_
  rintro e w1 ⟨h, rfl, rfl⟩
  generalize hW : World.alloc _ _ = w1
  have C : Cur.Cur w1 (w.heap.size) A n c bs := (by rw [← hW]; exact CurB.cur_newAt (by first | rfl | (simp; done)) (by first | exact HR.out | exact HR.out.alloc _ | exact (HR.out.alloc _).alloc _ | exact ((HR.out.alloc _).alloc _).alloc _) HB.out HN.out _)
  replace B : Below w.heap.size w w1 := (by rw [← hW]; go_grown)
  have z1 : w1.heap.size = _ := congrArg (fun W : World => W.heap.size) hW.symm
  (try simp only [World.size_alloc, Bk.size_set, World.size_drew, World.drewN] at z1)
  clear hW
  go_wp2_with fail
  refine (l32Scan_any A n c bs _ _ (by (repeat (first | with_reducible assumption | with_reducible apply Cur.Cur.alloc | with_reducible apply CurB.cur_drewN | with_reducible apply CurB.cur_drew | ((with_reducible refine CurB.cur_set HAL.out ?_ ?_ ?_ _); (focus (first | omega | (dsimp only; done) | (dsimp only; omega))); (focus (first | omega | (dsimp only; omega)))))))).mono ?_
  rintro x w2 ⟨m, ys, L, d, hm, hys, ho, rfl, C0, hg0⟩
  have HO2 := Lib.hid ho
  have HY := Lib.hid hys
  replace C := C0
  replace B : Below w.heap.size w w2 := Bk.below_grown (by go_grown) hg0 (by omega) (by first | omega | (simp [Bk.size_set]; done) | (simp [Bk.size_set]; omega))
  have z2 := hg0.size
  (try simp only [World.size_alloc, Bk.size_set, World.size_drew, World.drewN] at z2)
  clear hg0
  clear ho hys
  go_wp2_with fail
  refine (l1Below_any A n c bs _ _ _ (by (repeat (first | with_reducible assumption | with_reducible apply Cur.Cur.alloc | with_reducible apply CurB.cur_drewN | with_reducible apply CurB.cur_drew | ((with_reducible refine CurB.cur_set HAL.out ?_ ?_ ?_ _); (focus (first | omega | (dsimp only; done) | (dsimp only; omega))); (focus (first | omega | (dsimp only; omega))))))) (by omega) (by omega)).mono ?_
  rintro x w3 ⟨x, hx, rfl, C0, hg0⟩
  have HO3 := Lib.hid (own_grown HO2.out hg0 (by omega))
  have HX := Lib.hid hx
  replace C := C0
  replace B : Below w.heap.size w w3 := Bk.below_grown (by go_grown) hg0 (by omega) (by first | omega | (simp [Bk.size_set]; done) | (simp [Bk.size_set]; omega))
  have z3 := hg0.size
  (try simp only [World.size_alloc, Bk.size_set, World.size_drew, World.drewN] at z3)
  clear hg0
  clear hx HO2
  go_wp2_with fail
  refine (l1Int_any A n c bs _ _ 4 4 [0, 5, 20, 100] _ (by (repeat (first | with_reducible assumption | with_reducible apply Cur.Cur.alloc | with_reducible apply CurB.cur_drewN | with_reducible apply CurB.cur_drew | ((with_reducible refine CurB.cur_set HAL.out ?_ ?_ ?_ _); (focus (first | omega | (dsimp only; done) | (dsimp only; omega))); (focus (first | omega | (dsimp only; omega))))))) (by exact Rd.litAt _ (([0, 5, 20, 100] : List Int).map (Value.int .i64)) _ 4 _ (by first | rfl | (simp; done)) rfl (by unfold maxLen; omega)) (fun e => by simp [blk] at e; have := C.lt; omega) (by omega) (by omega)).mono ?_
  rintro x w4 ⟨y, hy, rfl, C0, hg0⟩
  have HO4 := Lib.hid (own_grown (own_alloc HO3.out _) hg0 (by omega))
  have HY2 := Lib.hid (four_in y hy)
  replace C := C0
  replace B : Below w.heap.size w w4 := Bk.below_grown (by go_grown) hg0 (by omega) (by first | omega | (simp [Bk.size_set]; done) | (simp [Bk.size_set]; omega))
  have z4 := hg0.size
  (try simp only [World.size_alloc, Bk.size_set, World.size_drew, World.drewN] at z4)
  clear hg0
  clear hy HO3
  go_wp2
  go_ret3
  exact ⟨m, ys, L, d, x, y, hm, HY.out, HX.out, HY2.out, ownsRow_mono HO4.out (by omega), rfl, B⟩
/-- a scan and three numbers have been drawn -/
def DrewW (w : World) (e : Ending) (w' : World) : Prop :=
  ∃ (m : Nat) (ys : List Int) (L : Option Addr) (d : Nat) (k x y : Int), m ≤ 6 ∧ EntsIn ys m ∧ (0 ≤ k ∧ k < 5) ∧ (0 ≤ x ∧ x < 40) ∧ (0 ≤ y ∧ y ≤ 100) ∧ w'.ownsRow w.heap.size 30 4 (.slice L m d) m (ys.map (Value.int .i64)) ∧ e = .returned (.tuple #[.slice L m d, .int .i64 k, .int .i64 x, .int .i64 y]) ∧ Below w.heap.size w w'
set_option maxHeartbeats 4000000 in
theorem drawSwitch_any (A : Option Addr) (n c : Nat) (bs : List Int) (w : World) (hr : Rd w 1 A n c (bs.map (Value.int .u8))) (hb : AllBytes bs) (hn : n ≤ 2097152) :
    Calls Try.prog 6 #[.slice A n c] w (DrewW w) := by
  have HAL := Lib.hid (CurB.old_of hr)
  have HR := Lib.hid hr
  have HB := Lib.hid hb
  have HN := Lib.hid hn
  have B : Below w.heap.size w w := Below.refl _ _
  clear hr hb
  go_enter Try.func6, Try.ntmps6
  go_wp2_with fail
  refine (drawChoose_any A n c bs _ HR.out HB.out hn).mono ?_
  rintro x w1 ⟨m, ys, L, d, x, y, hm, hys, hx, hy, ho, rfl, hb0⟩
  have HO1 := Lib.hid ho
  have HLT := Lib.hid ho.lt
  have HY := Lib.hid hys
  have HX := Lib.hid hx
  have HY2 := Lib.hid hy
  replace B : Below w.heap.size w w1 := Below.trans (by go_grown) (hb0.mono (by first | omega | (simp [Bk.size_set]; done) | (simp [Bk.size_set]; omega)))
  have z1 := hb0.size
  (try simp only [World.size_alloc, Bk.size_set, World.size_drew, World.drewN] at z1)
  clear hb0
  clear ho hys hx hy
  go_wp2_with fail
  refine (l1New_any A n c bs _ (HR.out.below B) HB.out hn).mono ?_
  rintro e w1' ⟨h, rfl, rfl⟩
  generalize hW : World.alloc _ _ = w2
  have HO2 := Lib.hid (own_to HO1.out hW)
  have C : Cur w2 (w1.heap.size) A n c bs := (by rw [← hW]; exact CurB.cur_newAt rfl (HR.out.below B) HB.out HN.out _)
  replace B : Below w.heap.size w w2 := (by rw [← hW]; go_grown)
  have z2 : w2.heap.size = _ := congrArg (fun W : World => W.heap.size) hW.symm
  (try simp only [World.size_alloc, Bk.size_set, World.size_drew, World.drewN] at z2)
  clear hW
  clear HO1
  go_wp2_with fail
  refine (l1Below_any A n c bs _ _ _ (by (repeat (first | with_reducible assumption | with_reducible apply Cur.Cur.alloc | with_reducible apply CurB.cur_drewN | with_reducible apply CurB.cur_drew | ((with_reducible refine CurB.cur_set HAL.out ?_ ?_ ?_ _); (focus (first | omega | (dsimp only; done) | (dsimp only; omega))); (focus (first | omega | (dsimp only; omega))))))) (by omega) (by omega)).mono ?_
  rintro x w3 ⟨k, hk, rfl, C0, hg0⟩
  have HO3 := Lib.hid (own_grown2 HO2.out hg0 (fun q hq => by have := (HLT.out q hq).2; omega))
  have HK := Lib.hid hk
  replace B : Below w.heap.size w w3 := Bk.below_grown (by go_grown) hg0 (by omega) (by first | omega | (simp [Bk.size_set]; done) | (simp [Bk.size_set]; omega))
  have z3 := hg0.size
  (try simp only [World.size_alloc, Bk.size_set, World.size_drew, World.drewN] at z3)
  clear hg0
  clear hk HO2 C
  go_wp2
  refine bodyPost_ret (v := .tuple #[.slice L m d, .int .i64 k, .int .i64 x, .int .i64 y]) (by simp [results, Try.results6, go_sem]) rfl (⟨m, ys, L, d, k, x, y, hm, HY.out, HK.out, HX.out, HY2.out, HO3.out, rfl, B⟩)
end Go.Proofs.Ytikolopdkjocgaa.Cl
