/- The draw of a body: bytes in new memory. -/
import Derived.Test.YthdieeaegplnmaaCurB
import Derived.Test.YthdieeaegplnmaaKeepA
namespace Go.Proofs.Ythdieeaegplnmaa.Drw
open Go.RowKit
open Go.Proofs.Ythdieeaegplnmaa.Num Go.Proofs.Ythdieeaegplnmaa.Mem Go.Proofs.Ythdieeaegplnmaa.Hsh Go.Proofs.Ythdieeaegplnmaa.Sls Go.Proofs.Ythdieeaegplnmaa.Own Go.Proofs.Ythdieeaegplnmaa.SS Go.Proofs.Ythdieeaegplnmaa.Cur Go.Proofs.Ythdieeaegplnmaa.Gb
set_option linter.unusedSimpArgs false
set_option linter.unusedVariables false
theorem own_grownK {w w' : World} {base g n c : Nat} {e : TypeId} {sz : Nat} {A : Option Addr} {xs : List Value} (h : w.ownsRow base e sz (.slice A n c) n xs) (hg : w.grownBy w' (some g)) (hb : g < base) : w'.ownsRow base e sz (.slice A n c) n xs := by
  obtain ⟨h1, h2⟩ := h
  rcases h2 with h2 | ⟨q, cap, cur, hv, h3, h4, h5⟩
  · exact ⟨h1, .inl h2⟩
  · have hq : q < w.heap.size := by
      rcases Nat.lt_or_ge q w.heap.size with h | h
      · exact h
      · rw [Array.getElem?_eq_none h] at h4; cases h4
    exact ⟨h1, .inr ⟨q, cap, cur, hv, h3, (hg.block q hq (by intro e; injection e with e; omega)).trans h4, h5⟩⟩
theorem cur_grownK {w w' : World} {g : Nat} {A : Option Addr} {n c : Nat} {bs : List Int} {row : Option Nat} (hg : w.grownBy w' row) (hne : some g ≠ row) (hA : 0 < n → blk A = row → False) (h : Cur w g A n c bs) : Cur w' g A n c bs := by
  have hlt := h.lt
  obtain ⟨⟨i, q, hgg, h1, h2⟩, hr, hne', hb, hn⟩ := h
  exact ⟨⟨i, q, (hg.block g hlt hne).trans hgg, h1, h2⟩, hr.grown hg (.inr (fun h0 e => hA h0 e)), hne', hb, hn⟩
theorem cur_offK {W : World} {c : Nat} {bs : List Int} {A L : Option Addr} {n B base : Nat} (hr : Rd W 1 A n c (bs.map (Value.int .u8))) (h : CurB.Old A n B) (hb : ∀ q, blk L = some q → base ≤ q) (h0 : 0 < n) (e : blk A = blk L) (hB : B ≤ base) : False := by
  cases hL : blk L with
  | none =>
    obtain ⟨g', o, rfl, _, _⟩ := hr.at_ (k := 0) (by rw [hr.1]; omega)
    rw [hL] at e; cases e
  | some q => have h1 := hb q hL; have h2 := h h0 q (e.trans hL); omega
theorem gr_rowK {a w w' : World} {r row : Option Nat} (h : a.grownBy w r) (hg : w.grownBy w' row) (hb : ∀ q, row = some q → a.heap.size ≤ q) : a.grownBy w' r :=
  ⟨hg.os.trans h.os, hg.tape.trans h.tape, hg.output.trans h.output, Nat.le_trans h.size hg.size, fun k hk hne => (hg.block k (Nat.lt_of_lt_of_le hk h.size) (fun e => by have := hb k e.symm; omega)).trans (h.block k hk hne)⟩
theorem own_freshK {W w' : World} {lo sz : Nat} {e : TypeId} (hW : W.alloc (.cells #[] e) = w') (h : lo ≤ W.heap.size) : w'.ownsRow lo e sz (.slice (some ⟨W.heap.size, 0, none⟩) 0 0) 0 [] := hW ▸ own_empty W lo _ e sz rfl h
theorem own_allocK {w : World} {base n : Nat} {e : TypeId} {sz : Nat} {v : Value} {xs : List Value} (h : w.ownsRow base e sz v n xs) (o : Obj) : (w.alloc o).ownsRow base e sz v n xs := own_below h (Below.alloc (Below.refl _ _) (Nat.le_refl _) _)
theorem rd_freshK {W w' : World} {v : Value} {t : TypeId} (hW : W.alloc (.cells #[v] t) = w') : Rd w' 1 (some ⟨W.heap.size, 0, none⟩) 1 1 [v] := hW ▸ Rd.one W v t
/-- bytes have been drawn into new memory -/
def DrewBy (w : World) (g : Nat) (A : Option Addr) (n c : Nat) (bs : List Int) (e : Ending) (w' : World) : Prop :=
  ∃ (q : Nat) (ys : List Int) (L : Option Addr) (d : Nat), q ≤ 256 ∧ AllBytes ys ∧ w'.ownsRow w.heap.size 5 1 (.slice L q d) q (ys.map (Value.int .u8)) ∧ e = .returned (.slice L q d) ∧ Cur w' g A n c bs ∧ w.grownBy w' (some g)
theorem bytes_snoc {ys : List Int} {x : Int} (h : AllBytes ys) (h0 : 0 ≤ x) (h1 : x ≤ 255) : AllBytes (ys ++ [x]) := by
  intro z hz
  rcases List.mem_append.mp hz with hz | hz
  · exact h z hz
  · simp at hz; subst hz; omega
set_option maxHeartbeats 4000000 in
theorem l1Bytes_any (A : Option Addr) (n c : Nat) (bs : List Int) (g : Nat) (m : Int) (w : World) (hcur : Cur w g A n c bs) (m0 : 0 ≤ m) (m1 : m ≤ 256) :
    Calls Try.prog 104 #[.pointer (some ⟨g, 0, none⟩), .int .i64 m] w (DrewBy w g A n c bs) := by
  obtain ⟨iu, hiu, hu0, hu1, hu2⟩ := info_parts uInfo
  have HAL := Lib.hid (CurB.old_cur hcur)
  have hgl := hcur.lt
  have C := hcur
  have G : w.grownBy w (some g) := World.grownBy.refl _ _
  clear hcur
  go_enter Try.func104, Try.ntmps104
  go_wp2_with fail
  generalize hW : World.alloc _ _ = w1
  have HO := Lib.hid (own_freshK (lo := w.heap.size) (sz := 1) hW (Nat.le_refl _))
  replace C : Cur.Cur w1 (g) A n c bs := (by rw [← hW]; (repeat (first | with_reducible assumption | with_reducible apply Cur.Cur.alloc | with_reducible apply CurB.cur_drewN | with_reducible apply CurB.cur_drew | ((with_reducible refine CurB.cur_set HAL.out ?_ ?_ ?_ _); (focus (first | omega | (dsimp only; done) | (dsimp only; omega))); (focus (first | omega | (dsimp only; omega)))))))
  replace G : w.grownBy w1 (some (g)) := (by rw [← hW]; exact CurB.gv)
  have z1 : w1.heap.size = _ := congrArg (fun W : World => W.heap.size) hW.symm
  (try simp only [World.size_alloc, Bk.size_set, World.size_drew, World.drewN] at z1)
  clear hW
  go_loopw [5, 6] (fun v5 v6 wr => ∃ (k : Nat) (ys : List Int) (L : Option Addr) (d : Nat), (k : Int) ≤ m ∧ AllBytes ys ∧ v5 = .slice L k d ∧ v6 = .int .i64 (k : Int) ∧ wr.ownsRow w.heap.size 5 1 (.slice L k d) k (ys.map (Value.int .u8)) ∧ Cur wr g A n c bs ∧ w.grownBy wr (some g)) (fun _ v6 _ => (m - intOf v6).toNat)
  case atStart => exact ⟨0, [], _, _, m0, fun z hz => by simp at hz, rfl, rfl, HO.out, C, G⟩
  case round =>
    clear HO C G
    obtain ⟨k, ys, L, d, hk, hys, rfl, rfl, ho, C, G⟩ := hrel
    have HO2 := Lib.hid ho
    have HY := Lib.hid hys
    clear ho hys
    by_cases hz : (k : Int) < m
    · obtain ⟨w3, hw3⟩ : ∃ W, W = wr := ⟨_, rfl⟩
      subst hw3
      have z3g := G.size
      go_wp2_with fail
      refine (l1Byte_any A n c bs g _ (by (repeat (first | with_reducible assumption | with_reducible apply Cur.Cur.alloc | with_reducible apply CurB.cur_drewN | with_reducible apply CurB.cur_drew | ((with_reducible refine CurB.cur_set HAL.out ?_ ?_ ?_ _); (focus (first | omega | (dsimp only; done) | (dsimp only; omega))); (focus (first | omega | (dsimp only; omega)))))))).mono ?_
      rintro x w4 ⟨x, hx, rfl, C0, hg0⟩
      have HO4 := Lib.hid (own_grownK HO2.out hg0 hgl)
      obtain ⟨x0, x1⟩ := hx
      replace C := C0
      replace G : w.grownBy w4 (some (g)) := World.grownBy.trans (by exact CurB.gv) hg0
      have z4 := hg0.size
      (try simp only [World.size_alloc, Bk.size_set, World.size_drew, World.drewN] at z4)
      clear hg0
      clear HO2
      go_wp2_with (at_builtin; refine wpl_app _ rfl _ _ 25 rfl w.heap.size 5 iu (.int .u8 0) 1 1 Try.underlying25 hiu hu0 hu1 hu2 rfl (by decide) _ _ _ _ rfl (own_allocK HO4.out _) _ _ _ _ rfl (rd_freshK rfl) (fun u hu => by simp at hu; subst hu; rfl) (by unfold maxLen; omega) (by omega) (by simp; omega) ?_)
      intro A4 c4 w5 hown4 hg4 hat4
      have HBB := own_lo HO4.out
      have HO5 := Lib.hid hown4
      have hgA : blk L ≠ some g := by intro e; have := HBB _ e; omega
      have C5 : Cur w5 g A n c bs := cur_grownK hg4 (fun e => hgA e.symm) (fun h0 e => cur_offK C.2.1 HAL.out HBB h0 e (by omega)) (by (repeat (first | with_reducible assumption | with_reducible apply Cur.Cur.alloc | with_reducible apply CurB.cur_drewN | with_reducible apply CurB.cur_drew | ((with_reducible refine CurB.cur_set HAL.out ?_ ?_ ?_ _); (focus (first | omega | (dsimp only; done) | (dsimp only; omega))); (focus (first | omega | (dsimp only; omega)))))))
      have G5 : w.grownBy w5 (some g) := gr_rowK (by exact CurB.gv) hg4 HBB
      clear hown4 hg4 hat4 HO4
      go_wp2
      go_roundw
      case rel => exact ⟨k + 1, ys ++ [x], A4, c4, by omega, bytes_snoc HY.out x0 x1, rfl, by go_num, by simpa using HO5.out, C5, G5⟩
      case measure => simp [intOf]; omega
    · go_wp2
      go_ret
      exact ⟨k, ys, L, d, by omega, HY.out, HO2.out, rfl, C, G⟩
end Go.Proofs.Ythdieeaegplnmaa.Drw
