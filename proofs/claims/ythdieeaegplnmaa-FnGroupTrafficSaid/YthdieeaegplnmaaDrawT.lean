/- The draw of a power buffer, valid or not. -/
import Derived.Test.YthdieeaegplnmaaDrawP
namespace Go.Proofs.Ythdieeaegplnmaa.Pb
open Go.RowKit
open Go.Proofs.Ythdieeaegplnmaa.Num Go.Proofs.Ythdieeaegplnmaa.Mem Go.Proofs.Ythdieeaegplnmaa.Hsh Go.Proofs.Ythdieeaegplnmaa.Sls Go.Proofs.Ythdieeaegplnmaa.Own Go.Proofs.Ythdieeaegplnmaa.SS Go.Proofs.Ythdieeaegplnmaa.Gb Go.Proofs.Ythdieeaegplnmaa.Cur
set_option linter.unusedSimpArgs false
set_option linter.unusedVariables false
theorem nthK_oldT {l : List Kt} {e : Kt} {i : Nat} (h : i < l.length) : nthK (l ++ [e]) i = nthK l i := by
  unfold nthK
  rw [List.getD_eq_getElem?_getD, List.getD_eq_getElem?_getD, List.getElem?_append_left h]
theorem nthK_newT {l : List Kt} {e : Kt} {i : Nat} (h : l.length = i) : nthK (l ++ [e]) i = e := by
  subst h
  unfold nthK
  rw [List.getD_eq_getElem?_getD, List.getElem?_append_right (Nat.le_refl _)]
  simp
theorem cells_snocT {k : Nat} {ls : List Kt} {es : List Sl} {cs : List Value} (h : CellsK cs ls es k) (hk : ls.length = k) (hl : es.length = k) (e : Kt) (s : Sl) : CellsK (cs ++ cellsK e s) (ls ++ [e]) (es ++ [s]) (k + 1) := by
  have h3 : CellsK cs (ls ++ [e]) es k := ⟨h.1, fun i hi => by rw [nthK_oldT (by omega)]; exact h.2 i hi⟩
  have h4 := cells_step h3 hl s
  rw [nthK_newT hk] at h4
  exact h4
theorem RowO.addr {w : World} {lo hi n c : Nat} {A : Option Addr} {ks : List Kt} (h : RowO w lo hi A n c ks) (hn : 0 < n) : ∃ g, A = some ⟨g, 0, none⟩ ∧ lo ≤ g ∧ g < hi := by
  obtain ⟨h0, cs, es, h1, k2, ⟨⟨p1, p2⟩, h4⟩, _⟩ := h
  rcases p2 with ⟨_, p2⟩ | ⟨g, cap, cur, hv, p3, _⟩
  · omega
  · simp only [Value.slice.injEq, true_and] at hv
    exact ⟨g, hv.1, p3, h4 g (by rw [hv.1]; rfl)⟩
section
variable {w : World} {lo hi g n c j : Nat} {ks : List Kt}
theorem RowO.cell (h : RowO w lo hi (some ⟨g, 0, none⟩) n c ks) (hj : j < n * 4) : ∃ u, w.cell? ⟨g, j, none⟩ = some u ∧ ∀ o, w.frozen? ⟨g, o, none⟩ = false := by
  obtain ⟨h0, cs, es, h1, k2, ⟨h3, _⟩, _⟩ := h
  exact ⟨cs[j]'(by rw [k2.1]; exact hj), by rw [h3.cellAt j hj, List.getElem?_eq_getElem], fun o => h3.frozenAt o⟩
theorem RowO.setAp (h : RowO w lo hi (some ⟨g, 0, none⟩) n c ks) (hj : j < n) (b : Bool) : RowO (w.setCell ⟨g, j * 4 + 1, none⟩ (.bool b)) lo hi (some ⟨g, 0, none⟩) n c (ks.set j { nthK ks j with ap := b }) := by
  obtain ⟨h0, cs, es, k1, ⟨k2, k3⟩, ⟨k4, k5⟩, k6⟩ := h
  refine ⟨by simp [h0], cs.set (j * 4 + 1) (.bool b), es, k1, ⟨by simp [k2], fun i hi' => ?_⟩, ⟨(k4.stored _ (.bool b)).1, k5⟩, fun w2 hag i hi' => ?_⟩
  · obtain ⟨e0, e1, e2, e3⟩ := k3 i hi'
    rw [nthK_set (by omega), cell_set e0, cell_set e1, cell_set e2, cell_set e3, if_neg (show ¬ i * 4 = j * 4 + 1 by omega), if_neg (show ¬ i * 4 + 2 = j * 4 + 1 by omega), if_neg (show ¬ i * 4 + 3 = j * 4 + 1 by omega)]
    by_cases hij : i = j
    · subst hij; rw [if_pos rfl, if_pos (show i * 4 + 1 = i * 4 + 1 from rfl)]; exact ⟨rfl, rfl, rfl, rfl⟩
    · rw [if_neg hij, if_neg (show ¬ i * 4 + 1 = j * 4 + 1 by omega)]; exact ⟨rfl, rfl, rfl, rfl⟩
  · have hs := k6 w2 (fun q q1 q2 q3 => (hag q q1 q2 q3).trans (Below.heap_setCell _ _ _ q (fun e => q3 (by rw [e]; rfl)))) i hi'
    rw [nthK_set (by omega)]
    by_cases hij : i = j
    · subst hij; rw [if_pos rfl]; exact hs
    · rw [if_neg hij]; exact hs
theorem RowO.setLo (h : RowO w lo hi (some ⟨g, 0, none⟩) n c ks) (hj : j < n) (b : Int) : RowO (w.setCell ⟨g, j * 4 + 3, none⟩ (.int .i64 b)) lo hi (some ⟨g, 0, none⟩) n c (ks.set j { nthK ks j with lo := b }) := by
  obtain ⟨h0, cs, es, k1, ⟨k2, k3⟩, ⟨k4, k5⟩, k6⟩ := h
  refine ⟨by simp [h0], cs.set (j * 4 + 3) (.int .i64 b), es, k1, ⟨by simp [k2], fun i hi' => ?_⟩, ⟨(k4.stored _ (.int .i64 b)).1, k5⟩, fun w2 hag i hi' => ?_⟩
  · obtain ⟨e0, e1, e2, e3⟩ := k3 i hi'
    rw [nthK_set (by omega), cell_set e0, cell_set e1, cell_set e2, cell_set e3, if_neg (show ¬ i * 4 = j * 4 + 3 by omega), if_neg (show ¬ i * 4 + 1 = j * 4 + 3 by omega), if_neg (show ¬ i * 4 + 2 = j * 4 + 3 by omega)]
    by_cases hij : i = j
    · subst hij; rw [if_pos rfl, if_pos (show i * 4 + 3 = i * 4 + 3 from rfl)]; exact ⟨rfl, rfl, rfl, rfl⟩
    · rw [if_neg hij, if_neg (show ¬ i * 4 + 3 = j * 4 + 3 by omega)]; exact ⟨rfl, rfl, rfl, rfl⟩
  · have hs := k6 w2 (fun q q1 q2 q3 => (hag q q1 q2 q3).trans (Below.heap_setCell _ _ _ q (fun e => q3 (by rw [e]; rfl)))) i hi'
    rw [nthK_set (by omega)]
    by_cases hij : i = j
    · subst hij; rw [if_pos rfl]; exact hs
    · rw [if_neg hij]; exact hs
end
theorem few_set {ks : List Kt} {j : Nat} {e : Kt} (h : AllFew ks) (hj : j < ks.length) (he : e.fs = (nthK ks j).fs) : AllFew (ks.set j e) := fun i => by
  rw [nthK_set hj]
  by_cases hij : i = j
  · subst hij; rw [if_pos rfl, he]; exact h i
  · rw [if_neg hij]; exact h i
theorem few_snoc {ks : List Kt} {e : Kt} (h : AllFew ks) (he : e.fs.length ≤ 2097152 ∧ AllShort e.fs) : AllFew (ks ++ [e]) := fun i => by
  rcases Nat.lt_or_ge i ks.length with h1 | h1
  · rw [nthK_oldT h1]; exact h i
  · rcases Nat.lt_or_ge ks.length i with h2 | h2
    · have e2 : nthK (ks ++ [e]) i = ⟨0, false, [], 0⟩ := by unfold nthK; rw [List.getD_eq_getElem?_getD, List.getElem?_eq_none (by simp; omega)]; rfl
      rw [e2]
      exact ⟨by simp, fun j => by simp⟩
    · rw [nthK_newT (show ks.length = i by omega)]; exact he
theorem own_keepB {w w2 : World} {lo hi b n c k : Nat} {e : TypeId} {sz : Nat} {A : Option Addr} {xs : List Value} (h : w.ownsRow lo e sz (.slice A n c) k xs) (hA : ∀ g, blk A = some g → g < hi ∧ g ≠ b) (hk : ∀ q, lo ≤ q → q < hi → q ≠ b → w2.heap[q]? = w.heap[q]?) : w2.ownsRow lo e sz (.slice A n c) k xs := by
  obtain ⟨h1, h2⟩ := h
  rcases h2 with h2 | ⟨q, cap, cur, hv, g1, g2, g3⟩
  · exact ⟨h1, .inl h2⟩
  · have hq := hA q (by simp only [Value.slice.injEq] at hv; rw [hv.1]; rfl)
    exact ⟨h1, .inr ⟨q, cap, cur, hv, g1, (hk q g1 hq.1 hq.2).trans g2, g3⟩⟩
/-- an entry appended to a row of one's own; block b (the box) may turn -/
theorem row_app {W w9 : World} {lo hi b L N c9 : Nat} {Ap A9 : Option Addr} {ks : List Kt} {cs : List Value} {es : List Sl} {e : Kt} {s : Sl} (h0 : ks.length = N) (h1 : es.length = N) (hc : CellsK cs ks es N)
    (hfr : ∀ w2 : World, (∀ q, lo ≤ q → q < hi → blk Ap ≠ some q → w2.heap[q]? = W.heap[q]?) → ∀ i, i < N → RdSS w2 (nth es i).1 (nth es i).2.1 (nth es i).2.2 (nthK ks i).fs)
    (hg : W.grownBy w9 (blk Ap)) (hhi : hi ≤ b) (hb : b < L) (hL : L ≤ W.heap.size) (hlo : lo ≤ L) (own9 : w9.ownsRow lo 95 4 (.slice A9 (N + 1) c9) (N + 1) (cs ++ cellsK e s)) (hA9 : some b ≠ blk A9)
    (hn : ∀ w2 : World, (∀ q, L ≤ q → q < w9.heap.size → w2.heap[q]? = w9.heap[q]?) → RdSS w2 s.1 s.2.1 s.2.2 e.fs) (w2 : World) (hag : ∀ q, lo ≤ q → q < w9.heap.size → q ≠ b → w2.heap[q]? = w9.heap[q]?) : RdPB w2 A9 (N + 1) c9 (ks ++ [e]) := by
  have hz := hg.size
  have hw := own_keepB own9 (fun g e => ⟨(blk_of_own own9 g e).2, fun e2 => hA9 (by rw [e, e2])⟩) hag
  have hc2 := cells_snocT hc h0 h1 e s
  have hr := Rd.of_own hw
  have hlen := hc2.1
  refine ⟨by simp [h0], hr.2.1, hr.2.2.1, fun hp => ?_⟩
  obtain ⟨g, o, rfl, hcell⟩ := hr.2.2.2.2 (by omega)
  refine ⟨g, o, rfl, fun j hj => ?_⟩
  obtain ⟨e0, e1, e2, e3⟩ := hc2.2 j hj
  refine ⟨(nth (es ++ [s]) j).1, (nth (es ++ [s]) j).2.1, (nth (es ++ [s]) j).2.2, ?_, ?_, ?_, ?_, ?_⟩
  · rw [hcell (j * 4) (by omega)]; exact e0
  · rw [Nat.add_assoc, hcell (j * 4 + 1) (by omega)]; exact e1
  · rw [Nat.add_assoc, hcell (j * 4 + 2) (by omega)]; exact e2
  · rw [Nat.add_assoc, hcell (j * 4 + 3) (by omega)]; exact e3
  · rcases Nat.lt_or_ge j N with h3 | h3
    · rw [nthK_oldT (by omega), nth_old (by omega)]
      exact hfr w2 (fun q q1 q2 q3 => (hag q q1 (by omega) (by omega)).trans (hg.block q (by omega) (fun e => q3 e.symm))) j h3
    · obtain rfl : j = N := by omega
      rw [nthK_newT h0, nth_new h1]
      exact hn w2 fun q q1 q2 => hag q (by omega) q2 (by omega)
/-- the cursor, and what has come since -/
def JJ (w4 W : World) (g : Nat) (A : Option Addr) (n c : Nat) (bs : List Int) : Prop := Cur W g A n c bs ∧ w4.grownBy W (some g)
theorem rd_gr {W w' : World} {g sz m d p o : Nat} {xs : List Value} (h : Rd W sz (some ⟨p, o, none⟩) m d xs) (hg : W.grownBy w' (some g)) (hp : p ≠ g) : Rd w' sz (some ⟨p, o, none⟩) m d xs := h.grown hg (.inr fun _ e => hp (by simpa [blk] using e))
theorem lit_new {W w' : World} {cs : List Value} {t : TypeId} {sz m : Nat} (hW : W.alloc (.cells cs.toArray t) = w') (hl : cs.length = m * sz) (hm : m ≤ maxLen) : Rd w' sz (some ⟨W.heap.size, 0, none⟩) m m cs := by
  subst hW
  refine ⟨hl, Nat.le_refl _, hm, (fun e => by cases e), fun _ => ⟨_, _, rfl, fun j hj => ?_⟩⟩
  rw [Nat.zero_add, (Bk.Blk.newAt (w := W) rfl t _).cell j]
  simp
/-- what stands of the new entry: the choices, the byte, the row of one frame -/
def KK (w4 W : World) (g : Nat) (A : Option Addr) (n c : Nat) (bs : List Int) (o3 o5 o6 : Option Nat) : Prop :=
  g < w4.heap.size ∧ JJ w4 W g A n c bs ∧ (∀ p, o3 = some p → w4.heap.size ≤ p ∧ Rd W 1 (some ⟨p, 0, none⟩) 4 4 (([-1, 0, 15, 16] : List Int).map (Value.int .i64))) ∧
    (∀ p, o5 = some p → (w4.heap.size ≤ p ∧ p < W.heap.size) ∧ Rd W 1 (some ⟨p, 0, none⟩) 1 1 (([1] : List Int).map (Value.int .u8))) ∧
    (∀ p q, o6 = some p → o5 = some q → (w4.heap.size ≤ p ∧ p < W.heap.size) ∧ Rd W 1 (some ⟨p, 0, none⟩) 1 1 [.slice (some ⟨q, 0, none⟩) 1 1])
/-- all of it -/
def KF (w4 W : World) (g : Nat) (A : Option Addr) (n c : Nat) (bs : List Int) (x : Int) (p5 p6 p8 : Nat) : Prop :=
  KK w4 W g A n c bs none (some p5) (some p6) ∧ Rd W 4 (some ⟨p8, 0, none⟩) 1 1 (cellsK ⟨x, false, [[1]], 0⟩ (some ⟨p6, 0, none⟩, 1, 1))
section
variable {w4 W w' : World} {g n c p3 p5 : Nat} {A : Option Addr} {bs : List Int} {o3 o5 o6 : Option Nat}
theorem kk_gr (h : KK w4 W g A n c bs o3 o5 o6) (hc : Cur w' g A n c bs) (hg : W.grownBy w' (some g)) : KK w4 w' g A n c bs o3 o5 o6 := by
  obtain ⟨h0, h1, h3, h5, h6⟩ := h
  have hs := hg.size
  refine ⟨h0, ⟨hc, h1.2.trans hg⟩, fun p e => ?_, fun p e => ?_, fun p q e e2 => ?_⟩
  · have h := h3 p e; exact ⟨h.1, rd_gr h.2 hg (by omega)⟩
  · have h := h5 p e; exact ⟨⟨h.1.1, by omega⟩, rd_gr h.2 hg (by omega)⟩
  · have h := h6 p q e e2; exact ⟨⟨h.1.1, by omega⟩, rd_gr h.2 hg (by omega)⟩
theorem kk_drew (h : KK w4 W g A n c bs o3 o5 o6) : KK w4 W.drew g A n c bs o3 o5 o6 := kk_gr h (CurB.cur_drew h.2.1.1) (CurB.gr_drew (World.grownBy.refl _ _))
theorem kk_al {o : Obj} (h : KK w4 W g A n c bs o3 o5 o6) (hW : W.alloc o = w') : KK w4 w' g A n c bs o3 o5 o6 := hW ▸ kk_gr h (h.2.1.1.alloc _) (CurB.gr_alloc (World.grownBy.refl _ _) _)
theorem kk3 {t : TypeId} (h : KK w4 W g A n c bs none o5 o6) (hW : W.alloc (.cells #[.int .i64 (-1), .int .i64 0, .int .i64 15, .int .i64 16] t) = w') : ∃ p, p = W.heap.size ∧ KK w4 w' g A n c bs (some p) o5 o6 := by
  have h2 := kk_al h hW
  exact ⟨_, rfl, h2.1, h2.2.1, fun p e => by injection e with e; subst e; exact ⟨h.2.1.2.size, lit_new (cs := ([-1, 0, 15, 16] : List Int).map (Value.int .i64)) hW rfl (by unfold maxLen; omega)⟩, h2.2.2.2⟩
theorem kk5 {t : TypeId} (h : KK w4 W g A n c bs o3 none none) (hW : W.alloc (.cells #[.int .u8 1] t) = w') : ∃ p, p = W.heap.size ∧ KK w4 w' g A n c bs o3 (some p) none := by
  have h2 := kk_al h hW
  have hz : w'.heap.size = W.heap.size + 1 := by rw [← hW]; simp
  exact ⟨_, rfl, h2.1, h2.2.1, h2.2.2.1, (fun p e => by injection e with e; subst e; exact ⟨⟨h.2.1.2.size, by omega⟩, lit_new (cs := ([1] : List Int).map (Value.int .u8)) hW rfl (by unfold maxLen; omega)⟩), (fun p q e => by cases e)⟩
theorem kk6 {t : TypeId} (h : KK w4 W g A n c bs o3 (some p5) none) (hW : W.alloc (.cells #[.slice (some ⟨p5, 0, none⟩) 1 1] t) = w') : ∃ p, p = W.heap.size ∧ KK w4 w' g A n c bs o3 (some p5) (some p) := by
  have h2 := kk_al h hW
  have hz : w'.heap.size = W.heap.size + 1 := by rw [← hW]; simp
  exact ⟨_, rfl, h2.1, h2.2.1, h2.2.2.1, h2.2.2.2.1, fun p q e e2 => by
    injection e with e; injection e2 with e2; subst e e2
    exact ⟨⟨h.2.1.2.size, by omega⟩, lit_new (cs := [.slice (some ⟨p5, 0, none⟩) 1 1]) hW rfl (by unfold maxLen; omega)⟩⟩
theorem kk8 {t : TypeId} {x : Int} {p6 : Nat} (h : KK w4 W g A n c bs none (some p5) (some p6)) (hW : W.alloc (.cells #[.int .i64 x, .bool false, .slice (some ⟨p6, 0, none⟩) 1 1, .int .i64 0] t) = w') : ∃ p, p = W.heap.size ∧ KF w4 w' g A n c bs x p5 p6 p :=
  ⟨_, rfl, kk_al h hW, lit_new (cs := cellsK ⟨x, false, [[1]], 0⟩ (some ⟨p6, 0, none⟩, 1, 1)) hW rfl (by unfold maxLen; omega)⟩
theorem kk4 (h : KK w4 W g A n c bs (some p3) o5 o6) : Calls Try.prog 68 #[.pointer (some ⟨g, 0, none⟩), .slice (some ⟨p3, 0, none⟩) 4 4] W fun e w' => ∃ x : Int, e = .returned (.int .i64 x) ∧ KK w4 w' g A n c bs none o5 o6 := by
  have h3 := h.2.2.1 p3 rfl
  refine (l1Int_any A n c bs g _ 4 4 [-1, 0, 15, 16] _ h.2.1.1 h3.2 (fun e => by simp [blk] at e; have := h.1; omega) (by omega) (by omega)).mono ?_
  rintro e w6 ⟨x, _, rfl, C6, hg6⟩
  have h2 := kk_gr h C6 hg6
  exact ⟨x, rfl, h2.1, h2.2.1, (fun p e => by cases e), h2.2.2.2⟩
end
def tl9 : Array Bool := #[true, true, true, true, true, true, true, true, true, false, false, false]
/-- a list of one frame -/
theorem rdss_one {w : World} {p6 p5 : Nat} {bs : List Int} (h6 : Rd w 1 (some ⟨p6, 0, none⟩) 1 1 [.slice (some ⟨p5, 0, none⟩) 1 1]) (h5 : Rd w 1 (some ⟨p5, 0, none⟩) 1 1 (bs.map (Value.int .u8))) : RdSS w (some ⟨p6, 0, none⟩) 1 1 [bs] := by
  refine ⟨rfl, Nat.le_refl _, by unfold maxLen; omega, fun _ => ⟨p6, 0, rfl, fun j hj => ?_⟩⟩
  obtain rfl : j = 0 := by omega
  obtain ⟨g, o, e, hc⟩ := h6.2.2.2.2 (by simp)
  injection e with e
  injection e with e1 e2
  subst e1 e2
  exact ⟨_, _, _, hc 0 (by simp), h5⟩
theorem one_frame {w w' wx : World} {p5 p6 lo : Nat} {r : Option Nat} {bs : List Int} (h5 : Rd w 1 (some ⟨p5, 0, none⟩) 1 1 (bs.map (Value.int .u8))) (h6 : Rd w 1 (some ⟨p6, 0, none⟩) 1 1 [.slice (some ⟨p5, 0, none⟩) 1 1]) (hg : w.grownBy w' r) (hr : ∀ q, r = some q → q < lo) (l5 : lo ≤ p5) (l6 : lo ≤ p6) (hx : ∀ q, lo ≤ q → q < w'.heap.size → wx.heap[q]? = w'.heap[q]?) : RdSS wx (some ⟨p6, 0, none⟩) 1 1 [bs] := by
  have e5 := h5.grown hg (by cases r with | none => exact .inl rfl | some q => exact .inr fun _ e => by simp only [blk, Option.map_some, Option.some.injEq] at e; have := hr q rfl; omega)
  have e6 := h6.grown hg (by cases r with | none => exact .inl rfl | some q => exact .inr fun _ e => by simp only [blk, Option.map_some, Option.some.injEq] at e; have := hr q rfl; omega)
  refine rdss_one (e6.keep fun _ q hA hlt => ?_) (e5.keep fun _ q hA hlt => ?_)
  · simp only [blk, Option.map_some, Option.some.injEq] at hA; exact hx q (by omega) hlt
  · simp only [blk, Option.map_some, Option.some.injEq] at hA; exact hx q (by omega) hlt
theorem leafT {T F : World → Nat → Int → Nat → Nat → Nat → Prop} {G : Prop} (h : ∀ W p3 x p5 p6 p8, F W p3 x p5 p6 p8 → T W p3 x p5 p6 p8) (k : (∀ W p3 x p5 p6 p8, F W p3 x p5 p6 p8 → T W p3 x p5 p6 p8) → G) : G := k h
/-- a power buffer has been drawn into new memory -/
def DrewPa (w : World) (g : Nat) (A : Option Addr) (n c : Nat) (bs : List Int) (e : Ending) (w' : World) : Prop :=
  ∃ (N : Nat) (ks : List Kt) (Ap : Option Addr) (cp : Nat), N ≤ 15 ∧ AllFew ks ∧ PbIn w' w.heap.size w'.heap.size Ap N cp ks ∧ e = .returned (.agg #[.slice Ap N cp]) ∧ Cur w' g A n c bs ∧ w.grownBy w' (some g)
theorem l26B3 (A : Option Addr) (n c : Nat) (bs : List Int) (g : Nat) (w : World) (hcur : Cur w g A n c bs) :
    Calls Try.prog 87 #[.pointer (some ⟨g, 0, none⟩)] w fun e w' => ∃ (N : Nat) (ks : List Kt) (Ap : Option Addr) (cp : Nat), N ≤ 14 ∧ GoodP ks N 14 ∧ RowO w' w.heap.size w'.heap.size Ap N cp ks ∧ e = .returned (.agg #[.slice Ap N cp]) ∧ Cur w' g A n c bs ∧ w.grownBy w' (some g) := by
  refine (l26Buffer_any A n c bs g w hcur).mono ?_
  rintro e w' ⟨N, ks, Ap, cp, h1, h2, h3, h4, h5, h6⟩
  exact ⟨N, ks, Ap, cp, h1, h2, h4, h3, h5, h6⟩
set_option maxRecDepth 100000 in
set_option maxHeartbeats 16000000 in
theorem l26Any_any (A : Option Addr) (n c : Nat) (bs : List Int) (g : Nat) (w : World) (hcur : Cur w g A n c bs) :
    Calls Try.prog 67 #[.pointer (some ⟨g, 0, none⟩)] w (DrewPa w g A n c bs) := by
  have HAL := Lib.hid (CurB.old_cur hcur)
  have hgl := hcur.lt
  have C := hcur
  have G : w.grownBy w (some g) := World.grownBy.refl _ _
  clear hcur
  go_enter Try.func67, Try.ntmps67
  go_wp2_with fail
  generalize hW : World.alloc _ _ = w1
  have r0 : Bk.Blk w1 (w.heap.size) 39 #[.slice none 0 0] := (by rw [← hW]; apply Bk.Blk.to; (focus (exact Bk.sv)); rfl)
  replace C : Cur.Cur w1 (g) A n c bs := (by rw [← hW]; (repeat (first | with_reducible assumption | with_reducible apply Cur.Cur.alloc | with_reducible apply CurB.cur_drewN | with_reducible apply CurB.cur_drew | ((with_reducible refine CurB.cur_set HAL.out ?_ ?_ ?_ _); (focus (first | omega | (dsimp only; done) | (dsimp only; omega))); (focus (first | omega | (dsimp only; omega)))))))
  replace G : w.grownBy w1 (some (g)) := (by rw [← hW]; exact CurB.gv)
  have z1 : w1.heap.size = _ := congrArg (fun W : World => W.heap.size) hW.symm
  (try simp only [World.size_alloc, Bk.size_set, World.size_drew, World.drewN] at z1)
  clear hW
  go_wp2_with fail
  refine (l26B3 A n c bs g _ (by (repeat (first | with_reducible assumption | with_reducible apply Cur.Cur.alloc | with_reducible apply CurB.cur_drewN | with_reducible apply CurB.cur_drew | ((with_reducible refine CurB.cur_set HAL.out ?_ ?_ ?_ _); (focus (first | omega | (dsimp only; done) | (dsimp only; omega))); (focus (first | omega | (dsimp only; omega)))))))).mono ?_
  rintro x w2 ⟨N, ks, Ap, cp, hN, hgd, hro, rfl, C0, hg0⟩
  have HRO := Lib.hid hro
  have HFW := Lib.hid (good_few hgd)
  have HKL := Lib.hid hgd.2.1
  clear hgd hro
  replace r0 : Bk.Blk w2 (w.heap.size) 39 #[.slice none 0 0] := Bk.Blk.grown hg0 (by omega) (by exact Bk.sv)
  replace C := C0
  replace G : w.grownBy w2 (some (g)) := World.grownBy.trans (by exact CurB.gv) hg0
  have z2 := hg0.size
  (try simp only [World.size_alloc, Bk.size_set, World.size_drew, World.drewN] at z2)
  clear hg0
  go_wp2_with fail
  generalize hW : World.alloc _ _ = w3
  replace HRO := Lib.hid (HRO.out.keep (w' := w3) fun q _ h2 => by rw [← hW]; exact Below.heap_alloc _ _ q h2)
  have bk : Bk.Blk w3 (w2.heap.size) 39 #[.slice Ap N cp] := (by rw [← hW]; apply Bk.Blk.to; (focus (exact Bk.sv)); rfl)
  replace r0 : Bk.Blk w3 (w.heap.size) 39 #[.slice none 0 0] := (by rw [← hW]; exact Bk.sv)
  replace C : Cur.Cur w3 (g) A n c bs := (by rw [← hW]; (repeat (first | with_reducible assumption | with_reducible apply Cur.Cur.alloc | with_reducible apply CurB.cur_drewN | with_reducible apply CurB.cur_drew | ((with_reducible refine CurB.cur_set HAL.out ?_ ?_ ?_ _); (focus (first | omega | (dsimp only; done) | (dsimp only; omega))); (focus (first | omega | (dsimp only; omega)))))))
  replace G : w.grownBy w3 (some (g)) := (by rw [← hW]; exact CurB.gv)
  have z3 : w3.heap.size = _ := congrArg (fun W : World => W.heap.size) hW.symm
  (try simp only [World.size_alloc, Bk.size_set, World.size_drew, World.drewN] at z3)
  clear hW
  go_wp2_with fail
  refine (l1Below_any A n c bs g _ _ (by (repeat (first | with_reducible assumption | with_reducible apply Cur.Cur.alloc | with_reducible apply CurB.cur_drewN | with_reducible apply CurB.cur_drew | ((with_reducible refine CurB.cur_set HAL.out ?_ ?_ ?_ _); (focus (first | omega | (dsimp only; done) | (dsimp only; omega))); (focus (first | omega | (dsimp only; omega))))))) (by omega) (by omega)).mono ?_
  rintro x w4 ⟨y, hy, rfl, C0, hg0⟩
  replace HRO := Lib.hid (HRO.out.keep (w' := w4) fun q h1 h2 => hg0.block q (by omega) (fun e => by injection e with e; omega))
  replace r0 : Bk.Blk w4 (w.heap.size) 39 #[.slice none 0 0] := Bk.Blk.grown hg0 (by omega) (by exact Bk.sv)
  replace bk : Bk.Blk w4 (w2.heap.size) 39 #[.slice Ap N cp] := Bk.Blk.grown hg0 (by omega) (by exact Bk.sv)
  replace C := C0
  replace G : w.grownBy w4 (some (g)) := World.grownBy.trans (by exact CurB.gv) hg0
  have z4 := hg0.size
  (try simp only [World.size_alloc, Bk.size_set, World.size_drew, World.drewN] at z4)
  clear hg0
  by_cases h0 : y = 0
  · have e0 : (y == 0) = true := by simpa using h0
    clear h0
    go_wp2_with fail
    obtain ⟨hk0, cs, es, hes, hcs, hown, hfr⟩ := HRO.out
    have HES := Lib.hid hes
    have HCS := Lib.hid hcs
    have HOW := Lib.hid hown
    have HFR := Lib.hid hfr
    clear hk0 hes hcs hown hfr
    have KB := Lib.hid (fun (W : World) (J : JJ w4 W g A n c bs) => (blk_grownA J.2 (show some w2.heap.size ≠ some g from fun e => by injection e with e; omega) bk).cell 0)
    refine leafT (T := ?T) (F := fun W p3 x p5 p6 p8 => KF w4 W g A n c bs x p5 p6 p8) ?leaf ?tree
    case tree =>
      intro LEAF
      have J : KK w4 w4 g A n c bs none none none := ⟨C.lt, ⟨C, World.grownBy.refl _ _⟩, (fun p e => by cases e), (fun p e => by cases e), (fun p q e => by cases e)⟩
      have cb : w4.cell? ⟨w2.heap.size, 0, none⟩ = some (.slice Ap N cp) := KB.out _ J.2.1
      refine wp_region_held_drew (S := (fun _ => True)) (by kernel_rfl) ?_ (fun hHeld => ?_)
      · (try dsimp only); skip
      first | refine Reg.tkA 0 (Reg.get rfl) hHeld ?_ | refine Reg.tkB 0 (Reg.get rfl) hHeld ?_
      try simp only [Act.put, List.setIfInBounds_toArray, List.set_cons_zero, List.set_cons_succ]
      first | refine Reg.tkA 2 (Reg.get rfl) hHeld ?_ | refine Reg.tkB 2 (Reg.get rfl) hHeld ?_
      try simp only [Act.put, List.setIfInBounds_toArray, List.set_cons_zero, List.set_cons_succ]
      refine wpAnyH_ready (rs := [1, 3, 5]) (by kernel_rfl) (by simp) ?_
      refine (AllReadyH.cons (Reg.get rfl) (fun K hK => ?_) (AllReadyH.cons (Reg.get rfl) (fun K hK => ?_) (AllReadyH.cons (Reg.get rfl) (fun K hK => ?_) AllReadyH.nil)))
      
      · skip
        clear hHeld; go_simp; (skip); refine hK.out _ _ ?_ (fun hHeld => ?_); ((try dsimp only); skip); clear hK K
        try simp only [Act.put, List.setIfInBounds_toArray, List.set_cons_zero, List.set_cons_succ]
        refine wpAnyH_ready (rs := [3, 5]) (by kernel_rfl) (by simp) ?_
        refine (AllReadyH.cons (Reg.get rfl) (fun K hK => ?_) (AllReadyH.cons (Reg.get rfl) (fun K hK => ?_) AllReadyH.nil))
      
        · skip
          clear hHeld; go_simp; ((generalize hW : World.alloc _ _ = w5; obtain ⟨p3, hp, K⟩ := kk3 J hW; rw [← hp]; replace J := K; clear hW cb hp K; have cb := KB.out _ J.2.1)); refine hK.out _ _ ?_ (fun hHeld => ?_); ((try dsimp only); skip); clear hK K
          try simp only [Act.put, List.setIfInBounds_toArray, List.set_cons_zero, List.set_cons_succ]
          refine wpAnyH_ready (rs := [4, 5]) (by kernel_rfl) (by simp) ?_
          refine (AllReadyH.cons (Reg.get rfl) (fun K hK => ?_) (AllReadyH.cons (Reg.get rfl) (fun K hK => ?_) AllReadyH.nil))
      
          · skip
            clear hHeld; go_simp; ((go_at_call 68; first | refine (kk4 J).mono ?_ | refine (kk4 (kk_drew J)).mono ?_; rintro e w6 ⟨x, rfl, K⟩; replace J := K; clear cb K; have cb := KB.out _ J.2.1)); refine hK.out _ _ ?_ (fun hHeld => ?_); ((try dsimp only); skip); clear hK K
            try simp only [Act.put, List.setIfInBounds_toArray, List.set_cons_zero, List.set_cons_succ]
            first | ((refine Reg.tkB 5 (Reg.get rfl) hHeld ?_)) | (refine wpAnyH_ready (rs := [5]) (by kernel_rfl) (by simp) ?_; refine AllReadyH.cons (Reg.get rfl) (fun K hK => ?_) AllReadyH.nil; clear hHeld; go_simp; ((generalize hW : World.alloc _ _ = w7; obtain ⟨p5, hp, K⟩ := kk5 J hW; rw [← hp]; replace J := K; clear hW cb hp K; have cb := KB.out _ J.2.1)); refine hK.out _ _ ?_ (fun hHeld => ?_); ((try dsimp only); skip); clear hK K)
            try simp only [Act.put, List.setIfInBounds_toArray, List.set_cons_zero, List.set_cons_succ]
            first | ((refine Reg.tkB 6 (Reg.get rfl) hHeld ?_)) | (refine wpAnyH_ready (rs := [6]) (by kernel_rfl) (by simp) ?_; refine AllReadyH.cons (Reg.get rfl) (fun K hK => ?_) AllReadyH.nil; clear hHeld; go_simp; ((generalize hW : World.alloc _ _ = w8; obtain ⟨p6, hp, K⟩ := kk6 J hW; rw [← hp]; replace J := K; clear hW cb hp K; have cb := KB.out _ J.2.1)); refine hK.out _ _ ?_ (fun hHeld => ?_); ((try dsimp only); skip); clear hK K)
            try simp only [Act.put, List.setIfInBounds_toArray, List.set_cons_zero, List.set_cons_succ]
            first | refine Reg.tkA 7 (Reg.get rfl) hHeld ?_ | refine Reg.tkB 7 (Reg.get rfl) hHeld ?_
            try simp only [Act.put, List.setIfInBounds_toArray, List.set_cons_zero, List.set_cons_succ]
            first | ((refine Reg.tkB 8 (Reg.get rfl) hHeld ?_)) | (refine wpAnyH_ready (rs := [8]) (by kernel_rfl) (by simp) ?_; refine AllReadyH.cons (Reg.get rfl) (fun K hK => ?_) AllReadyH.nil; clear hHeld; go_simp; ((generalize hW : World.alloc _ _ = w9; obtain ⟨p8, hp, KX⟩ := kk8 J hW; rw [← hp]; clear hW cb hp; have cb := KB.out _ KX.1.2.1)); refine hK.out _ _ ?_ (fun hHeld => ?_); ((try dsimp only); skip); clear hK K)
            try simp only [Act.put, List.setIfInBounds_toArray, List.set_cons_zero, List.set_cons_succ]
            (clear hHeld; refine any_normA (f2 := 3) (l2 := tl9) (by kernel_rfl) (by kernel_rfl) ?_; first | (with_reducible exact LEAF w9 p3 x p5 p6 p8 KX) | exact LEAF w9 p3 x p5 p6 p8 KX)
      
          · skip
            clear hHeld; go_simp; ((generalize hW : World.alloc _ _ = w7; obtain ⟨p5, hp, K⟩ := kk5 J hW; rw [← hp]; replace J := K; clear hW cb hp K; have cb := KB.out _ J.2.1)); refine hK.out _ _ ?_ (fun hHeld => ?_); ((try dsimp only); skip); clear hK K
            try simp only [Act.put, List.setIfInBounds_toArray, List.set_cons_zero, List.set_cons_succ]
            refine wpAnyH_ready (rs := [4, 6]) (by kernel_rfl) (by simp) ?_
            refine (AllReadyH.cons (Reg.get rfl) (fun K hK => ?_) (AllReadyH.cons (Reg.get rfl) (fun K hK => ?_) AllReadyH.nil))
      
            · skip
              clear hHeld; go_simp; ((go_at_call 68; first | refine (kk4 J).mono ?_ | refine (kk4 (kk_drew J)).mono ?_; rintro e w6 ⟨x, rfl, K⟩; replace J := K; clear cb K; have cb := KB.out _ J.2.1)); refine hK.out _ _ ?_ (fun hHeld => ?_); ((try dsimp only); skip); clear hK K
              try simp only [Act.put, List.setIfInBounds_toArray, List.set_cons_zero, List.set_cons_succ]
              first | ((refine Reg.tkB 6 (Reg.get rfl) hHeld ?_)) | (refine wpAnyH_ready (rs := [6]) (by kernel_rfl) (by simp) ?_; refine AllReadyH.cons (Reg.get rfl) (fun K hK => ?_) AllReadyH.nil; clear hHeld; go_simp; ((generalize hW : World.alloc _ _ = w8; obtain ⟨p6, hp, K⟩ := kk6 J hW; rw [← hp]; replace J := K; clear hW cb hp K; have cb := KB.out _ J.2.1)); refine hK.out _ _ ?_ (fun hHeld => ?_); ((try dsimp only); skip); clear hK K)
              try simp only [Act.put, List.setIfInBounds_toArray, List.set_cons_zero, List.set_cons_succ]
              first | refine Reg.tkA 7 (Reg.get rfl) hHeld ?_ | refine Reg.tkB 7 (Reg.get rfl) hHeld ?_
              try simp only [Act.put, List.setIfInBounds_toArray, List.set_cons_zero, List.set_cons_succ]
              first | ((refine Reg.tkB 8 (Reg.get rfl) hHeld ?_)) | (refine wpAnyH_ready (rs := [8]) (by kernel_rfl) (by simp) ?_; refine AllReadyH.cons (Reg.get rfl) (fun K hK => ?_) AllReadyH.nil; clear hHeld; go_simp; ((generalize hW : World.alloc _ _ = w9; obtain ⟨p8, hp, KX⟩ := kk8 J hW; rw [← hp]; clear hW cb hp; have cb := KB.out _ KX.1.2.1)); refine hK.out _ _ ?_ (fun hHeld => ?_); ((try dsimp only); skip); clear hK K)
              try simp only [Act.put, List.setIfInBounds_toArray, List.set_cons_zero, List.set_cons_succ]
              (clear hHeld; refine any_normA (f2 := 3) (l2 := tl9) (by kernel_rfl) (by kernel_rfl) ?_; first | (with_reducible exact LEAF w9 p3 x p5 p6 p8 KX) | exact LEAF w9 p3 x p5 p6 p8 KX)
      
            · skip
              clear hHeld; go_simp; ((generalize hW : World.alloc _ _ = w8; obtain ⟨p6, hp, K⟩ := kk6 J hW; rw [← hp]; replace J := K; clear hW cb hp K; have cb := KB.out _ J.2.1)); refine hK.out _ _ ?_ (fun hHeld => ?_); ((try dsimp only); skip); clear hK K
              try simp only [Act.put, List.setIfInBounds_toArray, List.set_cons_zero, List.set_cons_succ]
              first | ((refine Reg.tkB 4 (Reg.get rfl) hHeld ?_)) | (refine wpAnyH_ready (rs := [4]) (by kernel_rfl) (by simp) ?_; refine AllReadyH.cons (Reg.get rfl) (fun K hK => ?_) AllReadyH.nil; clear hHeld; go_simp; ((go_at_call 68; first | refine (kk4 J).mono ?_ | refine (kk4 (kk_drew J)).mono ?_; rintro e w6 ⟨x, rfl, K⟩; replace J := K; clear cb K; have cb := KB.out _ J.2.1)); refine hK.out _ _ ?_ (fun hHeld => ?_); ((try dsimp only); skip); clear hK K)
              try simp only [Act.put, List.setIfInBounds_toArray, List.set_cons_zero, List.set_cons_succ]
              first | refine Reg.tkA 7 (Reg.get rfl) hHeld ?_ | refine Reg.tkB 7 (Reg.get rfl) hHeld ?_
              try simp only [Act.put, List.setIfInBounds_toArray, List.set_cons_zero, List.set_cons_succ]
              first | ((refine Reg.tkB 8 (Reg.get rfl) hHeld ?_)) | (refine wpAnyH_ready (rs := [8]) (by kernel_rfl) (by simp) ?_; refine AllReadyH.cons (Reg.get rfl) (fun K hK => ?_) AllReadyH.nil; clear hHeld; go_simp; ((generalize hW : World.alloc _ _ = w9; obtain ⟨p8, hp, KX⟩ := kk8 J hW; rw [← hp]; clear hW cb hp; have cb := KB.out _ KX.1.2.1)); refine hK.out _ _ ?_ (fun hHeld => ?_); ((try dsimp only); skip); clear hK K)
              try simp only [Act.put, List.setIfInBounds_toArray, List.set_cons_zero, List.set_cons_succ]
              (clear hHeld; refine any_normA (f2 := 3) (l2 := tl9) (by kernel_rfl) (by kernel_rfl) ?_; first | (with_reducible exact LEAF w9 p3 x p5 p6 p8 KX) | exact LEAF w9 p3 x p5 p6 p8 KX)
      
        · skip
          clear hHeld; go_simp; ((generalize hW : World.alloc _ _ = w7; obtain ⟨p5, hp, K⟩ := kk5 J hW; rw [← hp]; replace J := K; clear hW cb hp K; have cb := KB.out _ J.2.1)); refine hK.out _ _ ?_ (fun hHeld => ?_); ((try dsimp only); skip); clear hK K
          try simp only [Act.put, List.setIfInBounds_toArray, List.set_cons_zero, List.set_cons_succ]
          refine wpAnyH_ready (rs := [3, 6]) (by kernel_rfl) (by simp) ?_
          refine (AllReadyH.cons (Reg.get rfl) (fun K hK => ?_) (AllReadyH.cons (Reg.get rfl) (fun K hK => ?_) AllReadyH.nil))
      
          · skip
            clear hHeld; go_simp; ((generalize hW : World.alloc _ _ = w5; obtain ⟨p3, hp, K⟩ := kk3 J hW; rw [← hp]; replace J := K; clear hW cb hp K; have cb := KB.out _ J.2.1)); refine hK.out _ _ ?_ (fun hHeld => ?_); ((try dsimp only); skip); clear hK K
            try simp only [Act.put, List.setIfInBounds_toArray, List.set_cons_zero, List.set_cons_succ]
            refine wpAnyH_ready (rs := [4, 6]) (by kernel_rfl) (by simp) ?_
            refine (AllReadyH.cons (Reg.get rfl) (fun K hK => ?_) (AllReadyH.cons (Reg.get rfl) (fun K hK => ?_) AllReadyH.nil))
      
            · skip
              clear hHeld; go_simp; ((go_at_call 68; first | refine (kk4 J).mono ?_ | refine (kk4 (kk_drew J)).mono ?_; rintro e w6 ⟨x, rfl, K⟩; replace J := K; clear cb K; have cb := KB.out _ J.2.1)); refine hK.out _ _ ?_ (fun hHeld => ?_); ((try dsimp only); skip); clear hK K
              try simp only [Act.put, List.setIfInBounds_toArray, List.set_cons_zero, List.set_cons_succ]
              first | ((refine Reg.tkB 6 (Reg.get rfl) hHeld ?_)) | (refine wpAnyH_ready (rs := [6]) (by kernel_rfl) (by simp) ?_; refine AllReadyH.cons (Reg.get rfl) (fun K hK => ?_) AllReadyH.nil; clear hHeld; go_simp; ((generalize hW : World.alloc _ _ = w8; obtain ⟨p6, hp, K⟩ := kk6 J hW; rw [← hp]; replace J := K; clear hW cb hp K; have cb := KB.out _ J.2.1)); refine hK.out _ _ ?_ (fun hHeld => ?_); ((try dsimp only); skip); clear hK K)
              try simp only [Act.put, List.setIfInBounds_toArray, List.set_cons_zero, List.set_cons_succ]
              first | refine Reg.tkA 7 (Reg.get rfl) hHeld ?_ | refine Reg.tkB 7 (Reg.get rfl) hHeld ?_
              try simp only [Act.put, List.setIfInBounds_toArray, List.set_cons_zero, List.set_cons_succ]
              first | ((refine Reg.tkB 8 (Reg.get rfl) hHeld ?_)) | (refine wpAnyH_ready (rs := [8]) (by kernel_rfl) (by simp) ?_; refine AllReadyH.cons (Reg.get rfl) (fun K hK => ?_) AllReadyH.nil; clear hHeld; go_simp; ((generalize hW : World.alloc _ _ = w9; obtain ⟨p8, hp, KX⟩ := kk8 J hW; rw [← hp]; clear hW cb hp; have cb := KB.out _ KX.1.2.1)); refine hK.out _ _ ?_ (fun hHeld => ?_); ((try dsimp only); skip); clear hK K)
              try simp only [Act.put, List.setIfInBounds_toArray, List.set_cons_zero, List.set_cons_succ]
              (clear hHeld; refine any_normA (f2 := 3) (l2 := tl9) (by kernel_rfl) (by kernel_rfl) ?_; first | (with_reducible exact LEAF w9 p3 x p5 p6 p8 KX) | exact LEAF w9 p3 x p5 p6 p8 KX)
      
            · skip
              clear hHeld; go_simp; ((generalize hW : World.alloc _ _ = w8; obtain ⟨p6, hp, K⟩ := kk6 J hW; rw [← hp]; replace J := K; clear hW cb hp K; have cb := KB.out _ J.2.1)); refine hK.out _ _ ?_ (fun hHeld => ?_); ((try dsimp only); skip); clear hK K
              try simp only [Act.put, List.setIfInBounds_toArray, List.set_cons_zero, List.set_cons_succ]
              first | ((refine Reg.tkB 4 (Reg.get rfl) hHeld ?_)) | (refine wpAnyH_ready (rs := [4]) (by kernel_rfl) (by simp) ?_; refine AllReadyH.cons (Reg.get rfl) (fun K hK => ?_) AllReadyH.nil; clear hHeld; go_simp; ((go_at_call 68; first | refine (kk4 J).mono ?_ | refine (kk4 (kk_drew J)).mono ?_; rintro e w6 ⟨x, rfl, K⟩; replace J := K; clear cb K; have cb := KB.out _ J.2.1)); refine hK.out _ _ ?_ (fun hHeld => ?_); ((try dsimp only); skip); clear hK K)
              try simp only [Act.put, List.setIfInBounds_toArray, List.set_cons_zero, List.set_cons_succ]
              first | refine Reg.tkA 7 (Reg.get rfl) hHeld ?_ | refine Reg.tkB 7 (Reg.get rfl) hHeld ?_
              try simp only [Act.put, List.setIfInBounds_toArray, List.set_cons_zero, List.set_cons_succ]
              first | ((refine Reg.tkB 8 (Reg.get rfl) hHeld ?_)) | (refine wpAnyH_ready (rs := [8]) (by kernel_rfl) (by simp) ?_; refine AllReadyH.cons (Reg.get rfl) (fun K hK => ?_) AllReadyH.nil; clear hHeld; go_simp; ((generalize hW : World.alloc _ _ = w9; obtain ⟨p8, hp, KX⟩ := kk8 J hW; rw [← hp]; clear hW cb hp; have cb := KB.out _ KX.1.2.1)); refine hK.out _ _ ?_ (fun hHeld => ?_); ((try dsimp only); skip); clear hK K)
              try simp only [Act.put, List.setIfInBounds_toArray, List.set_cons_zero, List.set_cons_succ]
              (clear hHeld; refine any_normA (f2 := 3) (l2 := tl9) (by kernel_rfl) (by kernel_rfl) ?_; first | (with_reducible exact LEAF w9 p3 x p5 p6 p8 KX) | exact LEAF w9 p3 x p5 p6 p8 KX)
      
          · skip
            clear hHeld; go_simp; ((generalize hW : World.alloc _ _ = w8; obtain ⟨p6, hp, K⟩ := kk6 J hW; rw [← hp]; replace J := K; clear hW cb hp K; have cb := KB.out _ J.2.1)); refine hK.out _ _ ?_ (fun hHeld => ?_); ((try dsimp only); skip); clear hK K
            try simp only [Act.put, List.setIfInBounds_toArray, List.set_cons_zero, List.set_cons_succ]
            first | ((refine Reg.tkB 3 (Reg.get rfl) hHeld ?_)) | (refine wpAnyH_ready (rs := [3]) (by kernel_rfl) (by simp) ?_; refine AllReadyH.cons (Reg.get rfl) (fun K hK => ?_) AllReadyH.nil; clear hHeld; go_simp; ((generalize hW : World.alloc _ _ = w5; obtain ⟨p3, hp, K⟩ := kk3 J hW; rw [← hp]; replace J := K; clear hW cb hp K; have cb := KB.out _ J.2.1)); refine hK.out _ _ ?_ (fun hHeld => ?_); ((try dsimp only); skip); clear hK K)
            try simp only [Act.put, List.setIfInBounds_toArray, List.set_cons_zero, List.set_cons_succ]
            first | ((refine Reg.tkB 4 (Reg.get rfl) hHeld ?_)) | (refine wpAnyH_ready (rs := [4]) (by kernel_rfl) (by simp) ?_; refine AllReadyH.cons (Reg.get rfl) (fun K hK => ?_) AllReadyH.nil; clear hHeld; go_simp; ((go_at_call 68; first | refine (kk4 J).mono ?_ | refine (kk4 (kk_drew J)).mono ?_; rintro e w6 ⟨x, rfl, K⟩; replace J := K; clear cb K; have cb := KB.out _ J.2.1)); refine hK.out _ _ ?_ (fun hHeld => ?_); ((try dsimp only); skip); clear hK K)
            try simp only [Act.put, List.setIfInBounds_toArray, List.set_cons_zero, List.set_cons_succ]
            first | refine Reg.tkA 7 (Reg.get rfl) hHeld ?_ | refine Reg.tkB 7 (Reg.get rfl) hHeld ?_
            try simp only [Act.put, List.setIfInBounds_toArray, List.set_cons_zero, List.set_cons_succ]
            first | ((refine Reg.tkB 8 (Reg.get rfl) hHeld ?_)) | (refine wpAnyH_ready (rs := [8]) (by kernel_rfl) (by simp) ?_; refine AllReadyH.cons (Reg.get rfl) (fun K hK => ?_) AllReadyH.nil; clear hHeld; go_simp; ((generalize hW : World.alloc _ _ = w9; obtain ⟨p8, hp, KX⟩ := kk8 J hW; rw [← hp]; clear hW cb hp; have cb := KB.out _ KX.1.2.1)); refine hK.out _ _ ?_ (fun hHeld => ?_); ((try dsimp only); skip); clear hK K)
            try simp only [Act.put, List.setIfInBounds_toArray, List.set_cons_zero, List.set_cons_succ]
            (clear hHeld; refine any_normA (f2 := 3) (l2 := tl9) (by kernel_rfl) (by kernel_rfl) ?_; first | (with_reducible exact LEAF w9 p3 x p5 p6 p8 KX) | exact LEAF w9 p3 x p5 p6 p8 KX)
      
      · skip
        clear hHeld; go_simp; ((generalize hW : World.alloc _ _ = w5; obtain ⟨p3, hp, K⟩ := kk3 J hW; rw [← hp]; replace J := K; clear hW cb hp K; have cb := KB.out _ J.2.1)); refine hK.out _ _ ?_ (fun hHeld => ?_); ((try dsimp only); skip); clear hK K
        try simp only [Act.put, List.setIfInBounds_toArray, List.set_cons_zero, List.set_cons_succ]
        refine wpAnyH_ready (rs := [1, 4, 5]) (by kernel_rfl) (by simp) ?_
        refine (AllReadyH.cons (Reg.get rfl) (fun K hK => ?_) (AllReadyH.cons (Reg.get rfl) (fun K hK => ?_) (AllReadyH.cons (Reg.get rfl) (fun K hK => ?_) AllReadyH.nil)))
      
        · skip
          clear hHeld; go_simp; (skip); refine hK.out _ _ ?_ (fun hHeld => ?_); ((try dsimp only); skip); clear hK K
          try simp only [Act.put, List.setIfInBounds_toArray, List.set_cons_zero, List.set_cons_succ]
          refine wpAnyH_ready (rs := [4, 5]) (by kernel_rfl) (by simp) ?_
          refine (AllReadyH.cons (Reg.get rfl) (fun K hK => ?_) (AllReadyH.cons (Reg.get rfl) (fun K hK => ?_) AllReadyH.nil))
      
          · skip
            clear hHeld; go_simp; ((go_at_call 68; first | refine (kk4 J).mono ?_ | refine (kk4 (kk_drew J)).mono ?_; rintro e w6 ⟨x, rfl, K⟩; replace J := K; clear cb K; have cb := KB.out _ J.2.1)); refine hK.out _ _ ?_ (fun hHeld => ?_); ((try dsimp only); skip); clear hK K
            try simp only [Act.put, List.setIfInBounds_toArray, List.set_cons_zero, List.set_cons_succ]
            first | ((refine Reg.tkB 5 (Reg.get rfl) hHeld ?_)) | (refine wpAnyH_ready (rs := [5]) (by kernel_rfl) (by simp) ?_; refine AllReadyH.cons (Reg.get rfl) (fun K hK => ?_) AllReadyH.nil; clear hHeld; go_simp; ((generalize hW : World.alloc _ _ = w7; obtain ⟨p5, hp, K⟩ := kk5 J hW; rw [← hp]; replace J := K; clear hW cb hp K; have cb := KB.out _ J.2.1)); refine hK.out _ _ ?_ (fun hHeld => ?_); ((try dsimp only); skip); clear hK K)
            try simp only [Act.put, List.setIfInBounds_toArray, List.set_cons_zero, List.set_cons_succ]
            first | ((refine Reg.tkB 6 (Reg.get rfl) hHeld ?_)) | (refine wpAnyH_ready (rs := [6]) (by kernel_rfl) (by simp) ?_; refine AllReadyH.cons (Reg.get rfl) (fun K hK => ?_) AllReadyH.nil; clear hHeld; go_simp; ((generalize hW : World.alloc _ _ = w8; obtain ⟨p6, hp, K⟩ := kk6 J hW; rw [← hp]; replace J := K; clear hW cb hp K; have cb := KB.out _ J.2.1)); refine hK.out _ _ ?_ (fun hHeld => ?_); ((try dsimp only); skip); clear hK K)
            try simp only [Act.put, List.setIfInBounds_toArray, List.set_cons_zero, List.set_cons_succ]
            first | refine Reg.tkA 7 (Reg.get rfl) hHeld ?_ | refine Reg.tkB 7 (Reg.get rfl) hHeld ?_
            try simp only [Act.put, List.setIfInBounds_toArray, List.set_cons_zero, List.set_cons_succ]
            first | ((refine Reg.tkB 8 (Reg.get rfl) hHeld ?_)) | (refine wpAnyH_ready (rs := [8]) (by kernel_rfl) (by simp) ?_; refine AllReadyH.cons (Reg.get rfl) (fun K hK => ?_) AllReadyH.nil; clear hHeld; go_simp; ((generalize hW : World.alloc _ _ = w9; obtain ⟨p8, hp, KX⟩ := kk8 J hW; rw [← hp]; clear hW cb hp; have cb := KB.out _ KX.1.2.1)); refine hK.out _ _ ?_ (fun hHeld => ?_); ((try dsimp only); skip); clear hK K)
            try simp only [Act.put, List.setIfInBounds_toArray, List.set_cons_zero, List.set_cons_succ]
            (clear hHeld; refine any_normA (f2 := 3) (l2 := tl9) (by kernel_rfl) (by kernel_rfl) ?_; first | (with_reducible exact LEAF w9 p3 x p5 p6 p8 KX) | exact LEAF w9 p3 x p5 p6 p8 KX)
      
          · skip
            clear hHeld; go_simp; ((generalize hW : World.alloc _ _ = w7; obtain ⟨p5, hp, K⟩ := kk5 J hW; rw [← hp]; replace J := K; clear hW cb hp K; have cb := KB.out _ J.2.1)); refine hK.out _ _ ?_ (fun hHeld => ?_); ((try dsimp only); skip); clear hK K
            try simp only [Act.put, List.setIfInBounds_toArray, List.set_cons_zero, List.set_cons_succ]
            refine wpAnyH_ready (rs := [4, 6]) (by kernel_rfl) (by simp) ?_
            refine (AllReadyH.cons (Reg.get rfl) (fun K hK => ?_) (AllReadyH.cons (Reg.get rfl) (fun K hK => ?_) AllReadyH.nil))
      
            · skip
              clear hHeld; go_simp; ((go_at_call 68; first | refine (kk4 J).mono ?_ | refine (kk4 (kk_drew J)).mono ?_; rintro e w6 ⟨x, rfl, K⟩; replace J := K; clear cb K; have cb := KB.out _ J.2.1)); refine hK.out _ _ ?_ (fun hHeld => ?_); ((try dsimp only); skip); clear hK K
              try simp only [Act.put, List.setIfInBounds_toArray, List.set_cons_zero, List.set_cons_succ]
              first | ((refine Reg.tkB 6 (Reg.get rfl) hHeld ?_)) | (refine wpAnyH_ready (rs := [6]) (by kernel_rfl) (by simp) ?_; refine AllReadyH.cons (Reg.get rfl) (fun K hK => ?_) AllReadyH.nil; clear hHeld; go_simp; ((generalize hW : World.alloc _ _ = w8; obtain ⟨p6, hp, K⟩ := kk6 J hW; rw [← hp]; replace J := K; clear hW cb hp K; have cb := KB.out _ J.2.1)); refine hK.out _ _ ?_ (fun hHeld => ?_); ((try dsimp only); skip); clear hK K)
              try simp only [Act.put, List.setIfInBounds_toArray, List.set_cons_zero, List.set_cons_succ]
              first | refine Reg.tkA 7 (Reg.get rfl) hHeld ?_ | refine Reg.tkB 7 (Reg.get rfl) hHeld ?_
              try simp only [Act.put, List.setIfInBounds_toArray, List.set_cons_zero, List.set_cons_succ]
              first | ((refine Reg.tkB 8 (Reg.get rfl) hHeld ?_)) | (refine wpAnyH_ready (rs := [8]) (by kernel_rfl) (by simp) ?_; refine AllReadyH.cons (Reg.get rfl) (fun K hK => ?_) AllReadyH.nil; clear hHeld; go_simp; ((generalize hW : World.alloc _ _ = w9; obtain ⟨p8, hp, KX⟩ := kk8 J hW; rw [← hp]; clear hW cb hp; have cb := KB.out _ KX.1.2.1)); refine hK.out _ _ ?_ (fun hHeld => ?_); ((try dsimp only); skip); clear hK K)
              try simp only [Act.put, List.setIfInBounds_toArray, List.set_cons_zero, List.set_cons_succ]
              (clear hHeld; refine any_normA (f2 := 3) (l2 := tl9) (by kernel_rfl) (by kernel_rfl) ?_; first | (with_reducible exact LEAF w9 p3 x p5 p6 p8 KX) | exact LEAF w9 p3 x p5 p6 p8 KX)
      
            · skip
              clear hHeld; go_simp; ((generalize hW : World.alloc _ _ = w8; obtain ⟨p6, hp, K⟩ := kk6 J hW; rw [← hp]; replace J := K; clear hW cb hp K; have cb := KB.out _ J.2.1)); refine hK.out _ _ ?_ (fun hHeld => ?_); ((try dsimp only); skip); clear hK K
              try simp only [Act.put, List.setIfInBounds_toArray, List.set_cons_zero, List.set_cons_succ]
              first | ((refine Reg.tkB 4 (Reg.get rfl) hHeld ?_)) | (refine wpAnyH_ready (rs := [4]) (by kernel_rfl) (by simp) ?_; refine AllReadyH.cons (Reg.get rfl) (fun K hK => ?_) AllReadyH.nil; clear hHeld; go_simp; ((go_at_call 68; first | refine (kk4 J).mono ?_ | refine (kk4 (kk_drew J)).mono ?_; rintro e w6 ⟨x, rfl, K⟩; replace J := K; clear cb K; have cb := KB.out _ J.2.1)); refine hK.out _ _ ?_ (fun hHeld => ?_); ((try dsimp only); skip); clear hK K)
              try simp only [Act.put, List.setIfInBounds_toArray, List.set_cons_zero, List.set_cons_succ]
              first | refine Reg.tkA 7 (Reg.get rfl) hHeld ?_ | refine Reg.tkB 7 (Reg.get rfl) hHeld ?_
              try simp only [Act.put, List.setIfInBounds_toArray, List.set_cons_zero, List.set_cons_succ]
              first | ((refine Reg.tkB 8 (Reg.get rfl) hHeld ?_)) | (refine wpAnyH_ready (rs := [8]) (by kernel_rfl) (by simp) ?_; refine AllReadyH.cons (Reg.get rfl) (fun K hK => ?_) AllReadyH.nil; clear hHeld; go_simp; ((generalize hW : World.alloc _ _ = w9; obtain ⟨p8, hp, KX⟩ := kk8 J hW; rw [← hp]; clear hW cb hp; have cb := KB.out _ KX.1.2.1)); refine hK.out _ _ ?_ (fun hHeld => ?_); ((try dsimp only); skip); clear hK K)
              try simp only [Act.put, List.setIfInBounds_toArray, List.set_cons_zero, List.set_cons_succ]
              (clear hHeld; refine any_normA (f2 := 3) (l2 := tl9) (by kernel_rfl) (by kernel_rfl) ?_; first | (with_reducible exact LEAF w9 p3 x p5 p6 p8 KX) | exact LEAF w9 p3 x p5 p6 p8 KX)
      
        · skip
          clear hHeld; go_simp; ((go_at_call 68; first | refine (kk4 J).mono ?_ | refine (kk4 (kk_drew J)).mono ?_; rintro e w6 ⟨x, rfl, K⟩; replace J := K; clear cb K; have cb := KB.out _ J.2.1)); refine hK.out _ _ ?_ (fun hHeld => ?_); ((try dsimp only); skip); clear hK K
          try simp only [Act.put, List.setIfInBounds_toArray, List.set_cons_zero, List.set_cons_succ]
          refine wpAnyH_ready (rs := [1, 5]) (by kernel_rfl) (by simp) ?_
          refine (AllReadyH.cons (Reg.get rfl) (fun K hK => ?_) (AllReadyH.cons (Reg.get rfl) (fun K hK => ?_) AllReadyH.nil))
      
          · skip
            clear hHeld; go_simp; (skip); refine hK.out _ _ ?_ (fun hHeld => ?_); ((try dsimp only); skip); clear hK K
            try simp only [Act.put, List.setIfInBounds_toArray, List.set_cons_zero, List.set_cons_succ]
            first | ((refine Reg.tkB 5 (Reg.get rfl) hHeld ?_)) | (refine wpAnyH_ready (rs := [5]) (by kernel_rfl) (by simp) ?_; refine AllReadyH.cons (Reg.get rfl) (fun K hK => ?_) AllReadyH.nil; clear hHeld; go_simp; ((generalize hW : World.alloc _ _ = w7; obtain ⟨p5, hp, K⟩ := kk5 J hW; rw [← hp]; replace J := K; clear hW cb hp K; have cb := KB.out _ J.2.1)); refine hK.out _ _ ?_ (fun hHeld => ?_); ((try dsimp only); skip); clear hK K)
            try simp only [Act.put, List.setIfInBounds_toArray, List.set_cons_zero, List.set_cons_succ]
            first | ((refine Reg.tkB 6 (Reg.get rfl) hHeld ?_)) | (refine wpAnyH_ready (rs := [6]) (by kernel_rfl) (by simp) ?_; refine AllReadyH.cons (Reg.get rfl) (fun K hK => ?_) AllReadyH.nil; clear hHeld; go_simp; ((generalize hW : World.alloc _ _ = w8; obtain ⟨p6, hp, K⟩ := kk6 J hW; rw [← hp]; replace J := K; clear hW cb hp K; have cb := KB.out _ J.2.1)); refine hK.out _ _ ?_ (fun hHeld => ?_); ((try dsimp only); skip); clear hK K)
            try simp only [Act.put, List.setIfInBounds_toArray, List.set_cons_zero, List.set_cons_succ]
            first | refine Reg.tkA 7 (Reg.get rfl) hHeld ?_ | refine Reg.tkB 7 (Reg.get rfl) hHeld ?_
            try simp only [Act.put, List.setIfInBounds_toArray, List.set_cons_zero, List.set_cons_succ]
            first | ((refine Reg.tkB 8 (Reg.get rfl) hHeld ?_)) | (refine wpAnyH_ready (rs := [8]) (by kernel_rfl) (by simp) ?_; refine AllReadyH.cons (Reg.get rfl) (fun K hK => ?_) AllReadyH.nil; clear hHeld; go_simp; ((generalize hW : World.alloc _ _ = w9; obtain ⟨p8, hp, KX⟩ := kk8 J hW; rw [← hp]; clear hW cb hp; have cb := KB.out _ KX.1.2.1)); refine hK.out _ _ ?_ (fun hHeld => ?_); ((try dsimp only); skip); clear hK K)
            try simp only [Act.put, List.setIfInBounds_toArray, List.set_cons_zero, List.set_cons_succ]
            (clear hHeld; refine any_normA (f2 := 3) (l2 := tl9) (by kernel_rfl) (by kernel_rfl) ?_; first | (with_reducible exact LEAF w9 p3 x p5 p6 p8 KX) | exact LEAF w9 p3 x p5 p6 p8 KX)
      
          · skip
            clear hHeld; go_simp; ((generalize hW : World.alloc _ _ = w7; obtain ⟨p5, hp, K⟩ := kk5 J hW; rw [← hp]; replace J := K; clear hW cb hp K; have cb := KB.out _ J.2.1)); refine hK.out _ _ ?_ (fun hHeld => ?_); ((try dsimp only); skip); clear hK K
            try simp only [Act.put, List.setIfInBounds_toArray, List.set_cons_zero, List.set_cons_succ]
            refine wpAnyH_ready (rs := [1, 6]) (by kernel_rfl) (by simp) ?_
            refine (AllReadyH.cons (Reg.get rfl) (fun K hK => ?_) (AllReadyH.cons (Reg.get rfl) (fun K hK => ?_) AllReadyH.nil))
      
            · skip
              clear hHeld; go_simp; (skip); refine hK.out _ _ ?_ (fun hHeld => ?_); ((try dsimp only); skip); clear hK K
              try simp only [Act.put, List.setIfInBounds_toArray, List.set_cons_zero, List.set_cons_succ]
              first | ((refine Reg.tkB 6 (Reg.get rfl) hHeld ?_)) | (refine wpAnyH_ready (rs := [6]) (by kernel_rfl) (by simp) ?_; refine AllReadyH.cons (Reg.get rfl) (fun K hK => ?_) AllReadyH.nil; clear hHeld; go_simp; ((generalize hW : World.alloc _ _ = w8; obtain ⟨p6, hp, K⟩ := kk6 J hW; rw [← hp]; replace J := K; clear hW cb hp K; have cb := KB.out _ J.2.1)); refine hK.out _ _ ?_ (fun hHeld => ?_); ((try dsimp only); skip); clear hK K)
              try simp only [Act.put, List.setIfInBounds_toArray, List.set_cons_zero, List.set_cons_succ]
              first | refine Reg.tkA 7 (Reg.get rfl) hHeld ?_ | refine Reg.tkB 7 (Reg.get rfl) hHeld ?_
              try simp only [Act.put, List.setIfInBounds_toArray, List.set_cons_zero, List.set_cons_succ]
              first | ((refine Reg.tkB 8 (Reg.get rfl) hHeld ?_)) | (refine wpAnyH_ready (rs := [8]) (by kernel_rfl) (by simp) ?_; refine AllReadyH.cons (Reg.get rfl) (fun K hK => ?_) AllReadyH.nil; clear hHeld; go_simp; ((generalize hW : World.alloc _ _ = w9; obtain ⟨p8, hp, KX⟩ := kk8 J hW; rw [← hp]; clear hW cb hp; have cb := KB.out _ KX.1.2.1)); refine hK.out _ _ ?_ (fun hHeld => ?_); ((try dsimp only); skip); clear hK K)
              try simp only [Act.put, List.setIfInBounds_toArray, List.set_cons_zero, List.set_cons_succ]
              (clear hHeld; refine any_normA (f2 := 3) (l2 := tl9) (by kernel_rfl) (by kernel_rfl) ?_; first | (with_reducible exact LEAF w9 p3 x p5 p6 p8 KX) | exact LEAF w9 p3 x p5 p6 p8 KX)
      
            · skip
              clear hHeld; go_simp; ((generalize hW : World.alloc _ _ = w8; obtain ⟨p6, hp, K⟩ := kk6 J hW; rw [← hp]; replace J := K; clear hW cb hp K; have cb := KB.out _ J.2.1)); refine hK.out _ _ ?_ (fun hHeld => ?_); ((try dsimp only); skip); clear hK K
              try simp only [Act.put, List.setIfInBounds_toArray, List.set_cons_zero, List.set_cons_succ]
              first | refine Reg.tkA 7 (Reg.get rfl) hHeld ?_ | refine Reg.tkB 7 (Reg.get rfl) hHeld ?_
              try simp only [Act.put, List.setIfInBounds_toArray, List.set_cons_zero, List.set_cons_succ]
              refine wpAnyH_ready (rs := [1, 8]) (by kernel_rfl) (by simp) ?_
              refine (AllReadyH.cons (Reg.get rfl) (fun K hK => ?_) (AllReadyH.cons (Reg.get rfl) (fun K hK => ?_) AllReadyH.nil))
      
              · skip
                clear hHeld; go_simp; (skip); refine hK.out _ _ ?_ (fun hHeld => ?_); ((try dsimp only); skip); clear hK K
                try simp only [Act.put, List.setIfInBounds_toArray, List.set_cons_zero, List.set_cons_succ]
                first | ((refine Reg.tkB 8 (Reg.get rfl) hHeld ?_)) | (refine wpAnyH_ready (rs := [8]) (by kernel_rfl) (by simp) ?_; refine AllReadyH.cons (Reg.get rfl) (fun K hK => ?_) AllReadyH.nil; clear hHeld; go_simp; ((generalize hW : World.alloc _ _ = w9; obtain ⟨p8, hp, KX⟩ := kk8 J hW; rw [← hp]; clear hW cb hp; have cb := KB.out _ KX.1.2.1)); refine hK.out _ _ ?_ (fun hHeld => ?_); ((try dsimp only); skip); clear hK K)
                try simp only [Act.put, List.setIfInBounds_toArray, List.set_cons_zero, List.set_cons_succ]
                (clear hHeld; refine any_normA (f2 := 3) (l2 := tl9) (by kernel_rfl) (by kernel_rfl) ?_; first | (with_reducible exact LEAF w9 p3 x p5 p6 p8 KX) | exact LEAF w9 p3 x p5 p6 p8 KX)
      
              · skip
                clear hHeld; go_simp; ((generalize hW : World.alloc _ _ = w9; obtain ⟨p8, hp, KX⟩ := kk8 J hW; rw [← hp]; clear hW cb hp; have cb := KB.out _ KX.1.2.1)); refine hK.out _ _ ?_ (fun hHeld => ?_); ((try dsimp only); skip); clear hK K
                try simp only [Act.put, List.setIfInBounds_toArray, List.set_cons_zero, List.set_cons_succ]
                first | ((refine Reg.tkB 1 (Reg.get rfl) hHeld ?_)) | (refine wpAnyH_ready (rs := [1]) (by kernel_rfl) (by simp) ?_; refine AllReadyH.cons (Reg.get rfl) (fun K hK => ?_) AllReadyH.nil; clear hHeld; go_simp; (skip); refine hK.out _ _ ?_ (fun hHeld => ?_); ((try dsimp only); skip); clear hK K)
                try simp only [Act.put, List.setIfInBounds_toArray, List.set_cons_zero, List.set_cons_succ]
                (clear hHeld; refine any_normA (f2 := 3) (l2 := tl9) (by kernel_rfl) (by kernel_rfl) ?_; first | (with_reducible exact LEAF w9 p3 x p5 p6 p8 KX) | exact LEAF w9 p3 x p5 p6 p8 KX)
      
        · skip
          clear hHeld; go_simp; ((generalize hW : World.alloc _ _ = w7; obtain ⟨p5, hp, K⟩ := kk5 J hW; rw [← hp]; replace J := K; clear hW cb hp K; have cb := KB.out _ J.2.1)); refine hK.out _ _ ?_ (fun hHeld => ?_); ((try dsimp only); skip); clear hK K
          try simp only [Act.put, List.setIfInBounds_toArray, List.set_cons_zero, List.set_cons_succ]
          refine wpAnyH_ready (rs := [1, 4, 6]) (by kernel_rfl) (by simp) ?_
          refine (AllReadyH.cons (Reg.get rfl) (fun K hK => ?_) (AllReadyH.cons (Reg.get rfl) (fun K hK => ?_) (AllReadyH.cons (Reg.get rfl) (fun K hK => ?_) AllReadyH.nil)))
      
          · skip
            clear hHeld; go_simp; (skip); refine hK.out _ _ ?_ (fun hHeld => ?_); ((try dsimp only); skip); clear hK K
            try simp only [Act.put, List.setIfInBounds_toArray, List.set_cons_zero, List.set_cons_succ]
            refine wpAnyH_ready (rs := [4, 6]) (by kernel_rfl) (by simp) ?_
            refine (AllReadyH.cons (Reg.get rfl) (fun K hK => ?_) (AllReadyH.cons (Reg.get rfl) (fun K hK => ?_) AllReadyH.nil))
      
            · skip
              clear hHeld; go_simp; ((go_at_call 68; first | refine (kk4 J).mono ?_ | refine (kk4 (kk_drew J)).mono ?_; rintro e w6 ⟨x, rfl, K⟩; replace J := K; clear cb K; have cb := KB.out _ J.2.1)); refine hK.out _ _ ?_ (fun hHeld => ?_); ((try dsimp only); skip); clear hK K
              try simp only [Act.put, List.setIfInBounds_toArray, List.set_cons_zero, List.set_cons_succ]
              first | ((refine Reg.tkB 6 (Reg.get rfl) hHeld ?_)) | (refine wpAnyH_ready (rs := [6]) (by kernel_rfl) (by simp) ?_; refine AllReadyH.cons (Reg.get rfl) (fun K hK => ?_) AllReadyH.nil; clear hHeld; go_simp; ((generalize hW : World.alloc _ _ = w8; obtain ⟨p6, hp, K⟩ := kk6 J hW; rw [← hp]; replace J := K; clear hW cb hp K; have cb := KB.out _ J.2.1)); refine hK.out _ _ ?_ (fun hHeld => ?_); ((try dsimp only); skip); clear hK K)
              try simp only [Act.put, List.setIfInBounds_toArray, List.set_cons_zero, List.set_cons_succ]
              first | refine Reg.tkA 7 (Reg.get rfl) hHeld ?_ | refine Reg.tkB 7 (Reg.get rfl) hHeld ?_
              try simp only [Act.put, List.setIfInBounds_toArray, List.set_cons_zero, List.set_cons_succ]
              first | ((refine Reg.tkB 8 (Reg.get rfl) hHeld ?_)) | (refine wpAnyH_ready (rs := [8]) (by kernel_rfl) (by simp) ?_; refine AllReadyH.cons (Reg.get rfl) (fun K hK => ?_) AllReadyH.nil; clear hHeld; go_simp; ((generalize hW : World.alloc _ _ = w9; obtain ⟨p8, hp, KX⟩ := kk8 J hW; rw [← hp]; clear hW cb hp; have cb := KB.out _ KX.1.2.1)); refine hK.out _ _ ?_ (fun hHeld => ?_); ((try dsimp only); skip); clear hK K)
              try simp only [Act.put, List.setIfInBounds_toArray, List.set_cons_zero, List.set_cons_succ]
              (clear hHeld; refine any_normA (f2 := 3) (l2 := tl9) (by kernel_rfl) (by kernel_rfl) ?_; first | (with_reducible exact LEAF w9 p3 x p5 p6 p8 KX) | exact LEAF w9 p3 x p5 p6 p8 KX)
      
            · skip
              clear hHeld; go_simp; ((generalize hW : World.alloc _ _ = w8; obtain ⟨p6, hp, K⟩ := kk6 J hW; rw [← hp]; replace J := K; clear hW cb hp K; have cb := KB.out _ J.2.1)); refine hK.out _ _ ?_ (fun hHeld => ?_); ((try dsimp only); skip); clear hK K
              try simp only [Act.put, List.setIfInBounds_toArray, List.set_cons_zero, List.set_cons_succ]
              first | ((refine Reg.tkB 4 (Reg.get rfl) hHeld ?_)) | (refine wpAnyH_ready (rs := [4]) (by kernel_rfl) (by simp) ?_; refine AllReadyH.cons (Reg.get rfl) (fun K hK => ?_) AllReadyH.nil; clear hHeld; go_simp; ((go_at_call 68; first | refine (kk4 J).mono ?_ | refine (kk4 (kk_drew J)).mono ?_; rintro e w6 ⟨x, rfl, K⟩; replace J := K; clear cb K; have cb := KB.out _ J.2.1)); refine hK.out _ _ ?_ (fun hHeld => ?_); ((try dsimp only); skip); clear hK K)
              try simp only [Act.put, List.setIfInBounds_toArray, List.set_cons_zero, List.set_cons_succ]
              first | refine Reg.tkA 7 (Reg.get rfl) hHeld ?_ | refine Reg.tkB 7 (Reg.get rfl) hHeld ?_
              try simp only [Act.put, List.setIfInBounds_toArray, List.set_cons_zero, List.set_cons_succ]
              first | ((refine Reg.tkB 8 (Reg.get rfl) hHeld ?_)) | (refine wpAnyH_ready (rs := [8]) (by kernel_rfl) (by simp) ?_; refine AllReadyH.cons (Reg.get rfl) (fun K hK => ?_) AllReadyH.nil; clear hHeld; go_simp; ((generalize hW : World.alloc _ _ = w9; obtain ⟨p8, hp, KX⟩ := kk8 J hW; rw [← hp]; clear hW cb hp; have cb := KB.out _ KX.1.2.1)); refine hK.out _ _ ?_ (fun hHeld => ?_); ((try dsimp only); skip); clear hK K)
              try simp only [Act.put, List.setIfInBounds_toArray, List.set_cons_zero, List.set_cons_succ]
              (clear hHeld; refine any_normA (f2 := 3) (l2 := tl9) (by kernel_rfl) (by kernel_rfl) ?_; first | (with_reducible exact LEAF w9 p3 x p5 p6 p8 KX) | exact LEAF w9 p3 x p5 p6 p8 KX)
      
          · skip
            clear hHeld; go_simp; ((go_at_call 68; first | refine (kk4 J).mono ?_ | refine (kk4 (kk_drew J)).mono ?_; rintro e w6 ⟨x, rfl, K⟩; replace J := K; clear cb K; have cb := KB.out _ J.2.1)); refine hK.out _ _ ?_ (fun hHeld => ?_); ((try dsimp only); skip); clear hK K
            try simp only [Act.put, List.setIfInBounds_toArray, List.set_cons_zero, List.set_cons_succ]
            refine wpAnyH_ready (rs := [1, 6]) (by kernel_rfl) (by simp) ?_
            refine (AllReadyH.cons (Reg.get rfl) (fun K hK => ?_) (AllReadyH.cons (Reg.get rfl) (fun K hK => ?_) AllReadyH.nil))
      
            · skip
              clear hHeld; go_simp; (skip); refine hK.out _ _ ?_ (fun hHeld => ?_); ((try dsimp only); skip); clear hK K
              try simp only [Act.put, List.setIfInBounds_toArray, List.set_cons_zero, List.set_cons_succ]
              first | ((refine Reg.tkB 6 (Reg.get rfl) hHeld ?_)) | (refine wpAnyH_ready (rs := [6]) (by kernel_rfl) (by simp) ?_; refine AllReadyH.cons (Reg.get rfl) (fun K hK => ?_) AllReadyH.nil; clear hHeld; go_simp; ((generalize hW : World.alloc _ _ = w8; obtain ⟨p6, hp, K⟩ := kk6 J hW; rw [← hp]; replace J := K; clear hW cb hp K; have cb := KB.out _ J.2.1)); refine hK.out _ _ ?_ (fun hHeld => ?_); ((try dsimp only); skip); clear hK K)
              try simp only [Act.put, List.setIfInBounds_toArray, List.set_cons_zero, List.set_cons_succ]
              first | refine Reg.tkA 7 (Reg.get rfl) hHeld ?_ | refine Reg.tkB 7 (Reg.get rfl) hHeld ?_
              try simp only [Act.put, List.setIfInBounds_toArray, List.set_cons_zero, List.set_cons_succ]
              first | ((refine Reg.tkB 8 (Reg.get rfl) hHeld ?_)) | (refine wpAnyH_ready (rs := [8]) (by kernel_rfl) (by simp) ?_; refine AllReadyH.cons (Reg.get rfl) (fun K hK => ?_) AllReadyH.nil; clear hHeld; go_simp; ((generalize hW : World.alloc _ _ = w9; obtain ⟨p8, hp, KX⟩ := kk8 J hW; rw [← hp]; clear hW cb hp; have cb := KB.out _ KX.1.2.1)); refine hK.out _ _ ?_ (fun hHeld => ?_); ((try dsimp only); skip); clear hK K)
              try simp only [Act.put, List.setIfInBounds_toArray, List.set_cons_zero, List.set_cons_succ]
              (clear hHeld; refine any_normA (f2 := 3) (l2 := tl9) (by kernel_rfl) (by kernel_rfl) ?_; first | (with_reducible exact LEAF w9 p3 x p5 p6 p8 KX) | exact LEAF w9 p3 x p5 p6 p8 KX)
      
            · skip
              clear hHeld; go_simp; ((generalize hW : World.alloc _ _ = w8; obtain ⟨p6, hp, K⟩ := kk6 J hW; rw [← hp]; replace J := K; clear hW cb hp K; have cb := KB.out _ J.2.1)); refine hK.out _ _ ?_ (fun hHeld => ?_); ((try dsimp only); skip); clear hK K
              try simp only [Act.put, List.setIfInBounds_toArray, List.set_cons_zero, List.set_cons_succ]
              first | refine Reg.tkA 7 (Reg.get rfl) hHeld ?_ | refine Reg.tkB 7 (Reg.get rfl) hHeld ?_
              try simp only [Act.put, List.setIfInBounds_toArray, List.set_cons_zero, List.set_cons_succ]
              refine wpAnyH_ready (rs := [1, 8]) (by kernel_rfl) (by simp) ?_
              refine (AllReadyH.cons (Reg.get rfl) (fun K hK => ?_) (AllReadyH.cons (Reg.get rfl) (fun K hK => ?_) AllReadyH.nil))
      
              · skip
                clear hHeld; go_simp; (skip); refine hK.out _ _ ?_ (fun hHeld => ?_); ((try dsimp only); skip); clear hK K
                try simp only [Act.put, List.setIfInBounds_toArray, List.set_cons_zero, List.set_cons_succ]
                first | ((refine Reg.tkB 8 (Reg.get rfl) hHeld ?_)) | (refine wpAnyH_ready (rs := [8]) (by kernel_rfl) (by simp) ?_; refine AllReadyH.cons (Reg.get rfl) (fun K hK => ?_) AllReadyH.nil; clear hHeld; go_simp; ((generalize hW : World.alloc _ _ = w9; obtain ⟨p8, hp, KX⟩ := kk8 J hW; rw [← hp]; clear hW cb hp; have cb := KB.out _ KX.1.2.1)); refine hK.out _ _ ?_ (fun hHeld => ?_); ((try dsimp only); skip); clear hK K)
                try simp only [Act.put, List.setIfInBounds_toArray, List.set_cons_zero, List.set_cons_succ]
                (clear hHeld; refine any_normA (f2 := 3) (l2 := tl9) (by kernel_rfl) (by kernel_rfl) ?_; first | (with_reducible exact LEAF w9 p3 x p5 p6 p8 KX) | exact LEAF w9 p3 x p5 p6 p8 KX)
      
              · skip
                clear hHeld; go_simp; ((generalize hW : World.alloc _ _ = w9; obtain ⟨p8, hp, KX⟩ := kk8 J hW; rw [← hp]; clear hW cb hp; have cb := KB.out _ KX.1.2.1)); refine hK.out _ _ ?_ (fun hHeld => ?_); ((try dsimp only); skip); clear hK K
                try simp only [Act.put, List.setIfInBounds_toArray, List.set_cons_zero, List.set_cons_succ]
                first | ((refine Reg.tkB 1 (Reg.get rfl) hHeld ?_)) | (refine wpAnyH_ready (rs := [1]) (by kernel_rfl) (by simp) ?_; refine AllReadyH.cons (Reg.get rfl) (fun K hK => ?_) AllReadyH.nil; clear hHeld; go_simp; (skip); refine hK.out _ _ ?_ (fun hHeld => ?_); ((try dsimp only); skip); clear hK K)
                try simp only [Act.put, List.setIfInBounds_toArray, List.set_cons_zero, List.set_cons_succ]
                (clear hHeld; refine any_normA (f2 := 3) (l2 := tl9) (by kernel_rfl) (by kernel_rfl) ?_; first | (with_reducible exact LEAF w9 p3 x p5 p6 p8 KX) | exact LEAF w9 p3 x p5 p6 p8 KX)
      
          · skip
            clear hHeld; go_simp; ((generalize hW : World.alloc _ _ = w8; obtain ⟨p6, hp, K⟩ := kk6 J hW; rw [← hp]; replace J := K; clear hW cb hp K; have cb := KB.out _ J.2.1)); refine hK.out _ _ ?_ (fun hHeld => ?_); ((try dsimp only); skip); clear hK K
            try simp only [Act.put, List.setIfInBounds_toArray, List.set_cons_zero, List.set_cons_succ]
            refine wpAnyH_ready (rs := [1, 4]) (by kernel_rfl) (by simp) ?_
            refine (AllReadyH.cons (Reg.get rfl) (fun K hK => ?_) (AllReadyH.cons (Reg.get rfl) (fun K hK => ?_) AllReadyH.nil))
      
            · skip
              clear hHeld; go_simp; (skip); refine hK.out _ _ ?_ (fun hHeld => ?_); ((try dsimp only); skip); clear hK K
              try simp only [Act.put, List.setIfInBounds_toArray, List.set_cons_zero, List.set_cons_succ]
              first | ((refine Reg.tkB 4 (Reg.get rfl) hHeld ?_)) | (refine wpAnyH_ready (rs := [4]) (by kernel_rfl) (by simp) ?_; refine AllReadyH.cons (Reg.get rfl) (fun K hK => ?_) AllReadyH.nil; clear hHeld; go_simp; ((go_at_call 68; first | refine (kk4 J).mono ?_ | refine (kk4 (kk_drew J)).mono ?_; rintro e w6 ⟨x, rfl, K⟩; replace J := K; clear cb K; have cb := KB.out _ J.2.1)); refine hK.out _ _ ?_ (fun hHeld => ?_); ((try dsimp only); skip); clear hK K)
              try simp only [Act.put, List.setIfInBounds_toArray, List.set_cons_zero, List.set_cons_succ]
              first | refine Reg.tkA 7 (Reg.get rfl) hHeld ?_ | refine Reg.tkB 7 (Reg.get rfl) hHeld ?_
              try simp only [Act.put, List.setIfInBounds_toArray, List.set_cons_zero, List.set_cons_succ]
              first | ((refine Reg.tkB 8 (Reg.get rfl) hHeld ?_)) | (refine wpAnyH_ready (rs := [8]) (by kernel_rfl) (by simp) ?_; refine AllReadyH.cons (Reg.get rfl) (fun K hK => ?_) AllReadyH.nil; clear hHeld; go_simp; ((generalize hW : World.alloc _ _ = w9; obtain ⟨p8, hp, KX⟩ := kk8 J hW; rw [← hp]; clear hW cb hp; have cb := KB.out _ KX.1.2.1)); refine hK.out _ _ ?_ (fun hHeld => ?_); ((try dsimp only); skip); clear hK K)
              try simp only [Act.put, List.setIfInBounds_toArray, List.set_cons_zero, List.set_cons_succ]
              (clear hHeld; refine any_normA (f2 := 3) (l2 := tl9) (by kernel_rfl) (by kernel_rfl) ?_; first | (with_reducible exact LEAF w9 p3 x p5 p6 p8 KX) | exact LEAF w9 p3 x p5 p6 p8 KX)
      
            · skip
              clear hHeld; go_simp; ((go_at_call 68; first | refine (kk4 J).mono ?_ | refine (kk4 (kk_drew J)).mono ?_; rintro e w6 ⟨x, rfl, K⟩; replace J := K; clear cb K; have cb := KB.out _ J.2.1)); refine hK.out _ _ ?_ (fun hHeld => ?_); ((try dsimp only); skip); clear hK K
              try simp only [Act.put, List.setIfInBounds_toArray, List.set_cons_zero, List.set_cons_succ]
              first | refine Reg.tkA 7 (Reg.get rfl) hHeld ?_ | refine Reg.tkB 7 (Reg.get rfl) hHeld ?_
              try simp only [Act.put, List.setIfInBounds_toArray, List.set_cons_zero, List.set_cons_succ]
              refine wpAnyH_ready (rs := [1, 8]) (by kernel_rfl) (by simp) ?_
              refine (AllReadyH.cons (Reg.get rfl) (fun K hK => ?_) (AllReadyH.cons (Reg.get rfl) (fun K hK => ?_) AllReadyH.nil))
      
              · skip
                clear hHeld; go_simp; (skip); refine hK.out _ _ ?_ (fun hHeld => ?_); ((try dsimp only); skip); clear hK K
                try simp only [Act.put, List.setIfInBounds_toArray, List.set_cons_zero, List.set_cons_succ]
                first | ((refine Reg.tkB 8 (Reg.get rfl) hHeld ?_)) | (refine wpAnyH_ready (rs := [8]) (by kernel_rfl) (by simp) ?_; refine AllReadyH.cons (Reg.get rfl) (fun K hK => ?_) AllReadyH.nil; clear hHeld; go_simp; ((generalize hW : World.alloc _ _ = w9; obtain ⟨p8, hp, KX⟩ := kk8 J hW; rw [← hp]; clear hW cb hp; have cb := KB.out _ KX.1.2.1)); refine hK.out _ _ ?_ (fun hHeld => ?_); ((try dsimp only); skip); clear hK K)
                try simp only [Act.put, List.setIfInBounds_toArray, List.set_cons_zero, List.set_cons_succ]
                (clear hHeld; refine any_normA (f2 := 3) (l2 := tl9) (by kernel_rfl) (by kernel_rfl) ?_; first | (with_reducible exact LEAF w9 p3 x p5 p6 p8 KX) | exact LEAF w9 p3 x p5 p6 p8 KX)
      
              · skip
                clear hHeld; go_simp; ((generalize hW : World.alloc _ _ = w9; obtain ⟨p8, hp, KX⟩ := kk8 J hW; rw [← hp]; clear hW cb hp; have cb := KB.out _ KX.1.2.1)); refine hK.out _ _ ?_ (fun hHeld => ?_); ((try dsimp only); skip); clear hK K
                try simp only [Act.put, List.setIfInBounds_toArray, List.set_cons_zero, List.set_cons_succ]
                first | ((refine Reg.tkB 1 (Reg.get rfl) hHeld ?_)) | (refine wpAnyH_ready (rs := [1]) (by kernel_rfl) (by simp) ?_; refine AllReadyH.cons (Reg.get rfl) (fun K hK => ?_) AllReadyH.nil; clear hHeld; go_simp; (skip); refine hK.out _ _ ?_ (fun hHeld => ?_); ((try dsimp only); skip); clear hK K)
                try simp only [Act.put, List.setIfInBounds_toArray, List.set_cons_zero, List.set_cons_succ]
                (clear hHeld; refine any_normA (f2 := 3) (l2 := tl9) (by kernel_rfl) (by kernel_rfl) ?_; first | (with_reducible exact LEAF w9 p3 x p5 p6 p8 KX) | exact LEAF w9 p3 x p5 p6 p8 KX)
      
      · skip
        clear hHeld; go_simp; ((generalize hW : World.alloc _ _ = w7; obtain ⟨p5, hp, K⟩ := kk5 J hW; rw [← hp]; replace J := K; clear hW cb hp K; have cb := KB.out _ J.2.1)); refine hK.out _ _ ?_ (fun hHeld => ?_); ((try dsimp only); skip); clear hK K
        try simp only [Act.put, List.setIfInBounds_toArray, List.set_cons_zero, List.set_cons_succ]
        refine wpAnyH_ready (rs := [1, 3, 6]) (by kernel_rfl) (by simp) ?_
        refine (AllReadyH.cons (Reg.get rfl) (fun K hK => ?_) (AllReadyH.cons (Reg.get rfl) (fun K hK => ?_) (AllReadyH.cons (Reg.get rfl) (fun K hK => ?_) AllReadyH.nil)))
      
        · skip
          clear hHeld; go_simp; (skip); refine hK.out _ _ ?_ (fun hHeld => ?_); ((try dsimp only); skip); clear hK K
          try simp only [Act.put, List.setIfInBounds_toArray, List.set_cons_zero, List.set_cons_succ]
          refine wpAnyH_ready (rs := [3, 6]) (by kernel_rfl) (by simp) ?_
          refine (AllReadyH.cons (Reg.get rfl) (fun K hK => ?_) (AllReadyH.cons (Reg.get rfl) (fun K hK => ?_) AllReadyH.nil))
      
          · skip
            clear hHeld; go_simp; ((generalize hW : World.alloc _ _ = w5; obtain ⟨p3, hp, K⟩ := kk3 J hW; rw [← hp]; replace J := K; clear hW cb hp K; have cb := KB.out _ J.2.1)); refine hK.out _ _ ?_ (fun hHeld => ?_); ((try dsimp only); skip); clear hK K
            try simp only [Act.put, List.setIfInBounds_toArray, List.set_cons_zero, List.set_cons_succ]
            refine wpAnyH_ready (rs := [4, 6]) (by kernel_rfl) (by simp) ?_
            refine (AllReadyH.cons (Reg.get rfl) (fun K hK => ?_) (AllReadyH.cons (Reg.get rfl) (fun K hK => ?_) AllReadyH.nil))
      
            · skip
              clear hHeld; go_simp; ((go_at_call 68; first | refine (kk4 J).mono ?_ | refine (kk4 (kk_drew J)).mono ?_; rintro e w6 ⟨x, rfl, K⟩; replace J := K; clear cb K; have cb := KB.out _ J.2.1)); refine hK.out _ _ ?_ (fun hHeld => ?_); ((try dsimp only); skip); clear hK K
              try simp only [Act.put, List.setIfInBounds_toArray, List.set_cons_zero, List.set_cons_succ]
              first | ((refine Reg.tkB 6 (Reg.get rfl) hHeld ?_)) | (refine wpAnyH_ready (rs := [6]) (by kernel_rfl) (by simp) ?_; refine AllReadyH.cons (Reg.get rfl) (fun K hK => ?_) AllReadyH.nil; clear hHeld; go_simp; ((generalize hW : World.alloc _ _ = w8; obtain ⟨p6, hp, K⟩ := kk6 J hW; rw [← hp]; replace J := K; clear hW cb hp K; have cb := KB.out _ J.2.1)); refine hK.out _ _ ?_ (fun hHeld => ?_); ((try dsimp only); skip); clear hK K)
              try simp only [Act.put, List.setIfInBounds_toArray, List.set_cons_zero, List.set_cons_succ]
              first | refine Reg.tkA 7 (Reg.get rfl) hHeld ?_ | refine Reg.tkB 7 (Reg.get rfl) hHeld ?_
              try simp only [Act.put, List.setIfInBounds_toArray, List.set_cons_zero, List.set_cons_succ]
              first | ((refine Reg.tkB 8 (Reg.get rfl) hHeld ?_)) | (refine wpAnyH_ready (rs := [8]) (by kernel_rfl) (by simp) ?_; refine AllReadyH.cons (Reg.get rfl) (fun K hK => ?_) AllReadyH.nil; clear hHeld; go_simp; ((generalize hW : World.alloc _ _ = w9; obtain ⟨p8, hp, KX⟩ := kk8 J hW; rw [← hp]; clear hW cb hp; have cb := KB.out _ KX.1.2.1)); refine hK.out _ _ ?_ (fun hHeld => ?_); ((try dsimp only); skip); clear hK K)
              try simp only [Act.put, List.setIfInBounds_toArray, List.set_cons_zero, List.set_cons_succ]
              (clear hHeld; refine any_normA (f2 := 3) (l2 := tl9) (by kernel_rfl) (by kernel_rfl) ?_; first | (with_reducible exact LEAF w9 p3 x p5 p6 p8 KX) | exact LEAF w9 p3 x p5 p6 p8 KX)
      
            · skip
              clear hHeld; go_simp; ((generalize hW : World.alloc _ _ = w8; obtain ⟨p6, hp, K⟩ := kk6 J hW; rw [← hp]; replace J := K; clear hW cb hp K; have cb := KB.out _ J.2.1)); refine hK.out _ _ ?_ (fun hHeld => ?_); ((try dsimp only); skip); clear hK K
              try simp only [Act.put, List.setIfInBounds_toArray, List.set_cons_zero, List.set_cons_succ]
              first | ((refine Reg.tkB 4 (Reg.get rfl) hHeld ?_)) | (refine wpAnyH_ready (rs := [4]) (by kernel_rfl) (by simp) ?_; refine AllReadyH.cons (Reg.get rfl) (fun K hK => ?_) AllReadyH.nil; clear hHeld; go_simp; ((go_at_call 68; first | refine (kk4 J).mono ?_ | refine (kk4 (kk_drew J)).mono ?_; rintro e w6 ⟨x, rfl, K⟩; replace J := K; clear cb K; have cb := KB.out _ J.2.1)); refine hK.out _ _ ?_ (fun hHeld => ?_); ((try dsimp only); skip); clear hK K)
              try simp only [Act.put, List.setIfInBounds_toArray, List.set_cons_zero, List.set_cons_succ]
              first | refine Reg.tkA 7 (Reg.get rfl) hHeld ?_ | refine Reg.tkB 7 (Reg.get rfl) hHeld ?_
              try simp only [Act.put, List.setIfInBounds_toArray, List.set_cons_zero, List.set_cons_succ]
              first | ((refine Reg.tkB 8 (Reg.get rfl) hHeld ?_)) | (refine wpAnyH_ready (rs := [8]) (by kernel_rfl) (by simp) ?_; refine AllReadyH.cons (Reg.get rfl) (fun K hK => ?_) AllReadyH.nil; clear hHeld; go_simp; ((generalize hW : World.alloc _ _ = w9; obtain ⟨p8, hp, KX⟩ := kk8 J hW; rw [← hp]; clear hW cb hp; have cb := KB.out _ KX.1.2.1)); refine hK.out _ _ ?_ (fun hHeld => ?_); ((try dsimp only); skip); clear hK K)
              try simp only [Act.put, List.setIfInBounds_toArray, List.set_cons_zero, List.set_cons_succ]
              (clear hHeld; refine any_normA (f2 := 3) (l2 := tl9) (by kernel_rfl) (by kernel_rfl) ?_; first | (with_reducible exact LEAF w9 p3 x p5 p6 p8 KX) | exact LEAF w9 p3 x p5 p6 p8 KX)
      
          · skip
            clear hHeld; go_simp; ((generalize hW : World.alloc _ _ = w8; obtain ⟨p6, hp, K⟩ := kk6 J hW; rw [← hp]; replace J := K; clear hW cb hp K; have cb := KB.out _ J.2.1)); refine hK.out _ _ ?_ (fun hHeld => ?_); ((try dsimp only); skip); clear hK K
            try simp only [Act.put, List.setIfInBounds_toArray, List.set_cons_zero, List.set_cons_succ]
            first | ((refine Reg.tkB 3 (Reg.get rfl) hHeld ?_)) | (refine wpAnyH_ready (rs := [3]) (by kernel_rfl) (by simp) ?_; refine AllReadyH.cons (Reg.get rfl) (fun K hK => ?_) AllReadyH.nil; clear hHeld; go_simp; ((generalize hW : World.alloc _ _ = w5; obtain ⟨p3, hp, K⟩ := kk3 J hW; rw [← hp]; replace J := K; clear hW cb hp K; have cb := KB.out _ J.2.1)); refine hK.out _ _ ?_ (fun hHeld => ?_); ((try dsimp only); skip); clear hK K)
            try simp only [Act.put, List.setIfInBounds_toArray, List.set_cons_zero, List.set_cons_succ]
            first | ((refine Reg.tkB 4 (Reg.get rfl) hHeld ?_)) | (refine wpAnyH_ready (rs := [4]) (by kernel_rfl) (by simp) ?_; refine AllReadyH.cons (Reg.get rfl) (fun K hK => ?_) AllReadyH.nil; clear hHeld; go_simp; ((go_at_call 68; first | refine (kk4 J).mono ?_ | refine (kk4 (kk_drew J)).mono ?_; rintro e w6 ⟨x, rfl, K⟩; replace J := K; clear cb K; have cb := KB.out _ J.2.1)); refine hK.out _ _ ?_ (fun hHeld => ?_); ((try dsimp only); skip); clear hK K)
            try simp only [Act.put, List.setIfInBounds_toArray, List.set_cons_zero, List.set_cons_succ]
            first | refine Reg.tkA 7 (Reg.get rfl) hHeld ?_ | refine Reg.tkB 7 (Reg.get rfl) hHeld ?_
            try simp only [Act.put, List.setIfInBounds_toArray, List.set_cons_zero, List.set_cons_succ]
            first | ((refine Reg.tkB 8 (Reg.get rfl) hHeld ?_)) | (refine wpAnyH_ready (rs := [8]) (by kernel_rfl) (by simp) ?_; refine AllReadyH.cons (Reg.get rfl) (fun K hK => ?_) AllReadyH.nil; clear hHeld; go_simp; ((generalize hW : World.alloc _ _ = w9; obtain ⟨p8, hp, KX⟩ := kk8 J hW; rw [← hp]; clear hW cb hp; have cb := KB.out _ KX.1.2.1)); refine hK.out _ _ ?_ (fun hHeld => ?_); ((try dsimp only); skip); clear hK K)
            try simp only [Act.put, List.setIfInBounds_toArray, List.set_cons_zero, List.set_cons_succ]
            (clear hHeld; refine any_normA (f2 := 3) (l2 := tl9) (by kernel_rfl) (by kernel_rfl) ?_; first | (with_reducible exact LEAF w9 p3 x p5 p6 p8 KX) | exact LEAF w9 p3 x p5 p6 p8 KX)
      
        · skip
          clear hHeld; go_simp; ((generalize hW : World.alloc _ _ = w5; obtain ⟨p3, hp, K⟩ := kk3 J hW; rw [← hp]; replace J := K; clear hW cb hp K; have cb := KB.out _ J.2.1)); refine hK.out _ _ ?_ (fun hHeld => ?_); ((try dsimp only); skip); clear hK K
          try simp only [Act.put, List.setIfInBounds_toArray, List.set_cons_zero, List.set_cons_succ]
          refine wpAnyH_ready (rs := [1, 4, 6]) (by kernel_rfl) (by simp) ?_
          refine (AllReadyH.cons (Reg.get rfl) (fun K hK => ?_) (AllReadyH.cons (Reg.get rfl) (fun K hK => ?_) (AllReadyH.cons (Reg.get rfl) (fun K hK => ?_) AllReadyH.nil)))
      
          · skip
            clear hHeld; go_simp; (skip); refine hK.out _ _ ?_ (fun hHeld => ?_); ((try dsimp only); skip); clear hK K
            try simp only [Act.put, List.setIfInBounds_toArray, List.set_cons_zero, List.set_cons_succ]
            refine wpAnyH_ready (rs := [4, 6]) (by kernel_rfl) (by simp) ?_
            refine (AllReadyH.cons (Reg.get rfl) (fun K hK => ?_) (AllReadyH.cons (Reg.get rfl) (fun K hK => ?_) AllReadyH.nil))
      
            · skip
              clear hHeld; go_simp; ((go_at_call 68; first | refine (kk4 J).mono ?_ | refine (kk4 (kk_drew J)).mono ?_; rintro e w6 ⟨x, rfl, K⟩; replace J := K; clear cb K; have cb := KB.out _ J.2.1)); refine hK.out _ _ ?_ (fun hHeld => ?_); ((try dsimp only); skip); clear hK K
              try simp only [Act.put, List.setIfInBounds_toArray, List.set_cons_zero, List.set_cons_succ]
              first | ((refine Reg.tkB 6 (Reg.get rfl) hHeld ?_)) | (refine wpAnyH_ready (rs := [6]) (by kernel_rfl) (by simp) ?_; refine AllReadyH.cons (Reg.get rfl) (fun K hK => ?_) AllReadyH.nil; clear hHeld; go_simp; ((generalize hW : World.alloc _ _ = w8; obtain ⟨p6, hp, K⟩ := kk6 J hW; rw [← hp]; replace J := K; clear hW cb hp K; have cb := KB.out _ J.2.1)); refine hK.out _ _ ?_ (fun hHeld => ?_); ((try dsimp only); skip); clear hK K)
              try simp only [Act.put, List.setIfInBounds_toArray, List.set_cons_zero, List.set_cons_succ]
              first | refine Reg.tkA 7 (Reg.get rfl) hHeld ?_ | refine Reg.tkB 7 (Reg.get rfl) hHeld ?_
              try simp only [Act.put, List.setIfInBounds_toArray, List.set_cons_zero, List.set_cons_succ]
              first | ((refine Reg.tkB 8 (Reg.get rfl) hHeld ?_)) | (refine wpAnyH_ready (rs := [8]) (by kernel_rfl) (by simp) ?_; refine AllReadyH.cons (Reg.get rfl) (fun K hK => ?_) AllReadyH.nil; clear hHeld; go_simp; ((generalize hW : World.alloc _ _ = w9; obtain ⟨p8, hp, KX⟩ := kk8 J hW; rw [← hp]; clear hW cb hp; have cb := KB.out _ KX.1.2.1)); refine hK.out _ _ ?_ (fun hHeld => ?_); ((try dsimp only); skip); clear hK K)
              try simp only [Act.put, List.setIfInBounds_toArray, List.set_cons_zero, List.set_cons_succ]
              (clear hHeld; refine any_normA (f2 := 3) (l2 := tl9) (by kernel_rfl) (by kernel_rfl) ?_; first | (with_reducible exact LEAF w9 p3 x p5 p6 p8 KX) | exact LEAF w9 p3 x p5 p6 p8 KX)
      
            · skip
              clear hHeld; go_simp; ((generalize hW : World.alloc _ _ = w8; obtain ⟨p6, hp, K⟩ := kk6 J hW; rw [← hp]; replace J := K; clear hW cb hp K; have cb := KB.out _ J.2.1)); refine hK.out _ _ ?_ (fun hHeld => ?_); ((try dsimp only); skip); clear hK K
              try simp only [Act.put, List.setIfInBounds_toArray, List.set_cons_zero, List.set_cons_succ]
              first | ((refine Reg.tkB 4 (Reg.get rfl) hHeld ?_)) | (refine wpAnyH_ready (rs := [4]) (by kernel_rfl) (by simp) ?_; refine AllReadyH.cons (Reg.get rfl) (fun K hK => ?_) AllReadyH.nil; clear hHeld; go_simp; ((go_at_call 68; first | refine (kk4 J).mono ?_ | refine (kk4 (kk_drew J)).mono ?_; rintro e w6 ⟨x, rfl, K⟩; replace J := K; clear cb K; have cb := KB.out _ J.2.1)); refine hK.out _ _ ?_ (fun hHeld => ?_); ((try dsimp only); skip); clear hK K)
              try simp only [Act.put, List.setIfInBounds_toArray, List.set_cons_zero, List.set_cons_succ]
              first | refine Reg.tkA 7 (Reg.get rfl) hHeld ?_ | refine Reg.tkB 7 (Reg.get rfl) hHeld ?_
              try simp only [Act.put, List.setIfInBounds_toArray, List.set_cons_zero, List.set_cons_succ]
              first | ((refine Reg.tkB 8 (Reg.get rfl) hHeld ?_)) | (refine wpAnyH_ready (rs := [8]) (by kernel_rfl) (by simp) ?_; refine AllReadyH.cons (Reg.get rfl) (fun K hK => ?_) AllReadyH.nil; clear hHeld; go_simp; ((generalize hW : World.alloc _ _ = w9; obtain ⟨p8, hp, KX⟩ := kk8 J hW; rw [← hp]; clear hW cb hp; have cb := KB.out _ KX.1.2.1)); refine hK.out _ _ ?_ (fun hHeld => ?_); ((try dsimp only); skip); clear hK K)
              try simp only [Act.put, List.setIfInBounds_toArray, List.set_cons_zero, List.set_cons_succ]
              (clear hHeld; refine any_normA (f2 := 3) (l2 := tl9) (by kernel_rfl) (by kernel_rfl) ?_; first | (with_reducible exact LEAF w9 p3 x p5 p6 p8 KX) | exact LEAF w9 p3 x p5 p6 p8 KX)
      
          · skip
            clear hHeld; go_simp; ((go_at_call 68; first | refine (kk4 J).mono ?_ | refine (kk4 (kk_drew J)).mono ?_; rintro e w6 ⟨x, rfl, K⟩; replace J := K; clear cb K; have cb := KB.out _ J.2.1)); refine hK.out _ _ ?_ (fun hHeld => ?_); ((try dsimp only); skip); clear hK K
            try simp only [Act.put, List.setIfInBounds_toArray, List.set_cons_zero, List.set_cons_succ]
            refine wpAnyH_ready (rs := [1, 6]) (by kernel_rfl) (by simp) ?_
            refine (AllReadyH.cons (Reg.get rfl) (fun K hK => ?_) (AllReadyH.cons (Reg.get rfl) (fun K hK => ?_) AllReadyH.nil))
      
            · skip
              clear hHeld; go_simp; (skip); refine hK.out _ _ ?_ (fun hHeld => ?_); ((try dsimp only); skip); clear hK K
              try simp only [Act.put, List.setIfInBounds_toArray, List.set_cons_zero, List.set_cons_succ]
              first | ((refine Reg.tkB 6 (Reg.get rfl) hHeld ?_)) | (refine wpAnyH_ready (rs := [6]) (by kernel_rfl) (by simp) ?_; refine AllReadyH.cons (Reg.get rfl) (fun K hK => ?_) AllReadyH.nil; clear hHeld; go_simp; ((generalize hW : World.alloc _ _ = w8; obtain ⟨p6, hp, K⟩ := kk6 J hW; rw [← hp]; replace J := K; clear hW cb hp K; have cb := KB.out _ J.2.1)); refine hK.out _ _ ?_ (fun hHeld => ?_); ((try dsimp only); skip); clear hK K)
              try simp only [Act.put, List.setIfInBounds_toArray, List.set_cons_zero, List.set_cons_succ]
              first | refine Reg.tkA 7 (Reg.get rfl) hHeld ?_ | refine Reg.tkB 7 (Reg.get rfl) hHeld ?_
              try simp only [Act.put, List.setIfInBounds_toArray, List.set_cons_zero, List.set_cons_succ]
              first | ((refine Reg.tkB 8 (Reg.get rfl) hHeld ?_)) | (refine wpAnyH_ready (rs := [8]) (by kernel_rfl) (by simp) ?_; refine AllReadyH.cons (Reg.get rfl) (fun K hK => ?_) AllReadyH.nil; clear hHeld; go_simp; ((generalize hW : World.alloc _ _ = w9; obtain ⟨p8, hp, KX⟩ := kk8 J hW; rw [← hp]; clear hW cb hp; have cb := KB.out _ KX.1.2.1)); refine hK.out _ _ ?_ (fun hHeld => ?_); ((try dsimp only); skip); clear hK K)
              try simp only [Act.put, List.setIfInBounds_toArray, List.set_cons_zero, List.set_cons_succ]
              (clear hHeld; refine any_normA (f2 := 3) (l2 := tl9) (by kernel_rfl) (by kernel_rfl) ?_; first | (with_reducible exact LEAF w9 p3 x p5 p6 p8 KX) | exact LEAF w9 p3 x p5 p6 p8 KX)
      
            · skip
              clear hHeld; go_simp; ((generalize hW : World.alloc _ _ = w8; obtain ⟨p6, hp, K⟩ := kk6 J hW; rw [← hp]; replace J := K; clear hW cb hp K; have cb := KB.out _ J.2.1)); refine hK.out _ _ ?_ (fun hHeld => ?_); ((try dsimp only); skip); clear hK K
              try simp only [Act.put, List.setIfInBounds_toArray, List.set_cons_zero, List.set_cons_succ]
              first | refine Reg.tkA 7 (Reg.get rfl) hHeld ?_ | refine Reg.tkB 7 (Reg.get rfl) hHeld ?_
              try simp only [Act.put, List.setIfInBounds_toArray, List.set_cons_zero, List.set_cons_succ]
              refine wpAnyH_ready (rs := [1, 8]) (by kernel_rfl) (by simp) ?_
              refine (AllReadyH.cons (Reg.get rfl) (fun K hK => ?_) (AllReadyH.cons (Reg.get rfl) (fun K hK => ?_) AllReadyH.nil))
      
              · skip
                clear hHeld; go_simp; (skip); refine hK.out _ _ ?_ (fun hHeld => ?_); ((try dsimp only); skip); clear hK K
                try simp only [Act.put, List.setIfInBounds_toArray, List.set_cons_zero, List.set_cons_succ]
                first | ((refine Reg.tkB 8 (Reg.get rfl) hHeld ?_)) | (refine wpAnyH_ready (rs := [8]) (by kernel_rfl) (by simp) ?_; refine AllReadyH.cons (Reg.get rfl) (fun K hK => ?_) AllReadyH.nil; clear hHeld; go_simp; ((generalize hW : World.alloc _ _ = w9; obtain ⟨p8, hp, KX⟩ := kk8 J hW; rw [← hp]; clear hW cb hp; have cb := KB.out _ KX.1.2.1)); refine hK.out _ _ ?_ (fun hHeld => ?_); ((try dsimp only); skip); clear hK K)
                try simp only [Act.put, List.setIfInBounds_toArray, List.set_cons_zero, List.set_cons_succ]
                (clear hHeld; refine any_normA (f2 := 3) (l2 := tl9) (by kernel_rfl) (by kernel_rfl) ?_; first | (with_reducible exact LEAF w9 p3 x p5 p6 p8 KX) | exact LEAF w9 p3 x p5 p6 p8 KX)
      
              · skip
                clear hHeld; go_simp; ((generalize hW : World.alloc _ _ = w9; obtain ⟨p8, hp, KX⟩ := kk8 J hW; rw [← hp]; clear hW cb hp; have cb := KB.out _ KX.1.2.1)); refine hK.out _ _ ?_ (fun hHeld => ?_); ((try dsimp only); skip); clear hK K
                try simp only [Act.put, List.setIfInBounds_toArray, List.set_cons_zero, List.set_cons_succ]
                first | ((refine Reg.tkB 1 (Reg.get rfl) hHeld ?_)) | (refine wpAnyH_ready (rs := [1]) (by kernel_rfl) (by simp) ?_; refine AllReadyH.cons (Reg.get rfl) (fun K hK => ?_) AllReadyH.nil; clear hHeld; go_simp; (skip); refine hK.out _ _ ?_ (fun hHeld => ?_); ((try dsimp only); skip); clear hK K)
                try simp only [Act.put, List.setIfInBounds_toArray, List.set_cons_zero, List.set_cons_succ]
                (clear hHeld; refine any_normA (f2 := 3) (l2 := tl9) (by kernel_rfl) (by kernel_rfl) ?_; first | (with_reducible exact LEAF w9 p3 x p5 p6 p8 KX) | exact LEAF w9 p3 x p5 p6 p8 KX)
      
          · skip
            clear hHeld; go_simp; ((generalize hW : World.alloc _ _ = w8; obtain ⟨p6, hp, K⟩ := kk6 J hW; rw [← hp]; replace J := K; clear hW cb hp K; have cb := KB.out _ J.2.1)); refine hK.out _ _ ?_ (fun hHeld => ?_); ((try dsimp only); skip); clear hK K
            try simp only [Act.put, List.setIfInBounds_toArray, List.set_cons_zero, List.set_cons_succ]
            refine wpAnyH_ready (rs := [1, 4]) (by kernel_rfl) (by simp) ?_
            refine (AllReadyH.cons (Reg.get rfl) (fun K hK => ?_) (AllReadyH.cons (Reg.get rfl) (fun K hK => ?_) AllReadyH.nil))
      
            · skip
              clear hHeld; go_simp; (skip); refine hK.out _ _ ?_ (fun hHeld => ?_); ((try dsimp only); skip); clear hK K
              try simp only [Act.put, List.setIfInBounds_toArray, List.set_cons_zero, List.set_cons_succ]
              first | ((refine Reg.tkB 4 (Reg.get rfl) hHeld ?_)) | (refine wpAnyH_ready (rs := [4]) (by kernel_rfl) (by simp) ?_; refine AllReadyH.cons (Reg.get rfl) (fun K hK => ?_) AllReadyH.nil; clear hHeld; go_simp; ((go_at_call 68; first | refine (kk4 J).mono ?_ | refine (kk4 (kk_drew J)).mono ?_; rintro e w6 ⟨x, rfl, K⟩; replace J := K; clear cb K; have cb := KB.out _ J.2.1)); refine hK.out _ _ ?_ (fun hHeld => ?_); ((try dsimp only); skip); clear hK K)
              try simp only [Act.put, List.setIfInBounds_toArray, List.set_cons_zero, List.set_cons_succ]
              first | refine Reg.tkA 7 (Reg.get rfl) hHeld ?_ | refine Reg.tkB 7 (Reg.get rfl) hHeld ?_
              try simp only [Act.put, List.setIfInBounds_toArray, List.set_cons_zero, List.set_cons_succ]
              first | ((refine Reg.tkB 8 (Reg.get rfl) hHeld ?_)) | (refine wpAnyH_ready (rs := [8]) (by kernel_rfl) (by simp) ?_; refine AllReadyH.cons (Reg.get rfl) (fun K hK => ?_) AllReadyH.nil; clear hHeld; go_simp; ((generalize hW : World.alloc _ _ = w9; obtain ⟨p8, hp, KX⟩ := kk8 J hW; rw [← hp]; clear hW cb hp; have cb := KB.out _ KX.1.2.1)); refine hK.out _ _ ?_ (fun hHeld => ?_); ((try dsimp only); skip); clear hK K)
              try simp only [Act.put, List.setIfInBounds_toArray, List.set_cons_zero, List.set_cons_succ]
              (clear hHeld; refine any_normA (f2 := 3) (l2 := tl9) (by kernel_rfl) (by kernel_rfl) ?_; first | (with_reducible exact LEAF w9 p3 x p5 p6 p8 KX) | exact LEAF w9 p3 x p5 p6 p8 KX)
      
            · skip
              clear hHeld; go_simp; ((go_at_call 68; first | refine (kk4 J).mono ?_ | refine (kk4 (kk_drew J)).mono ?_; rintro e w6 ⟨x, rfl, K⟩; replace J := K; clear cb K; have cb := KB.out _ J.2.1)); refine hK.out _ _ ?_ (fun hHeld => ?_); ((try dsimp only); skip); clear hK K
              try simp only [Act.put, List.setIfInBounds_toArray, List.set_cons_zero, List.set_cons_succ]
              first | refine Reg.tkA 7 (Reg.get rfl) hHeld ?_ | refine Reg.tkB 7 (Reg.get rfl) hHeld ?_
              try simp only [Act.put, List.setIfInBounds_toArray, List.set_cons_zero, List.set_cons_succ]
              refine wpAnyH_ready (rs := [1, 8]) (by kernel_rfl) (by simp) ?_
              refine (AllReadyH.cons (Reg.get rfl) (fun K hK => ?_) (AllReadyH.cons (Reg.get rfl) (fun K hK => ?_) AllReadyH.nil))
      
              · skip
                clear hHeld; go_simp; (skip); refine hK.out _ _ ?_ (fun hHeld => ?_); ((try dsimp only); skip); clear hK K
                try simp only [Act.put, List.setIfInBounds_toArray, List.set_cons_zero, List.set_cons_succ]
                first | ((refine Reg.tkB 8 (Reg.get rfl) hHeld ?_)) | (refine wpAnyH_ready (rs := [8]) (by kernel_rfl) (by simp) ?_; refine AllReadyH.cons (Reg.get rfl) (fun K hK => ?_) AllReadyH.nil; clear hHeld; go_simp; ((generalize hW : World.alloc _ _ = w9; obtain ⟨p8, hp, KX⟩ := kk8 J hW; rw [← hp]; clear hW cb hp; have cb := KB.out _ KX.1.2.1)); refine hK.out _ _ ?_ (fun hHeld => ?_); ((try dsimp only); skip); clear hK K)
                try simp only [Act.put, List.setIfInBounds_toArray, List.set_cons_zero, List.set_cons_succ]
                (clear hHeld; refine any_normA (f2 := 3) (l2 := tl9) (by kernel_rfl) (by kernel_rfl) ?_; first | (with_reducible exact LEAF w9 p3 x p5 p6 p8 KX) | exact LEAF w9 p3 x p5 p6 p8 KX)
      
              · skip
                clear hHeld; go_simp; ((generalize hW : World.alloc _ _ = w9; obtain ⟨p8, hp, KX⟩ := kk8 J hW; rw [← hp]; clear hW cb hp; have cb := KB.out _ KX.1.2.1)); refine hK.out _ _ ?_ (fun hHeld => ?_); ((try dsimp only); skip); clear hK K
                try simp only [Act.put, List.setIfInBounds_toArray, List.set_cons_zero, List.set_cons_succ]
                first | ((refine Reg.tkB 1 (Reg.get rfl) hHeld ?_)) | (refine wpAnyH_ready (rs := [1]) (by kernel_rfl) (by simp) ?_; refine AllReadyH.cons (Reg.get rfl) (fun K hK => ?_) AllReadyH.nil; clear hHeld; go_simp; (skip); refine hK.out _ _ ?_ (fun hHeld => ?_); ((try dsimp only); skip); clear hK K)
                try simp only [Act.put, List.setIfInBounds_toArray, List.set_cons_zero, List.set_cons_succ]
                (clear hHeld; refine any_normA (f2 := 3) (l2 := tl9) (by kernel_rfl) (by kernel_rfl) ?_; first | (with_reducible exact LEAF w9 p3 x p5 p6 p8 KX) | exact LEAF w9 p3 x p5 p6 p8 KX)
      
        · skip
          clear hHeld; go_simp; ((generalize hW : World.alloc _ _ = w8; obtain ⟨p6, hp, K⟩ := kk6 J hW; rw [← hp]; replace J := K; clear hW cb hp K; have cb := KB.out _ J.2.1)); refine hK.out _ _ ?_ (fun hHeld => ?_); ((try dsimp only); skip); clear hK K
          try simp only [Act.put, List.setIfInBounds_toArray, List.set_cons_zero, List.set_cons_succ]
          refine wpAnyH_ready (rs := [1, 3]) (by kernel_rfl) (by simp) ?_
          refine (AllReadyH.cons (Reg.get rfl) (fun K hK => ?_) (AllReadyH.cons (Reg.get rfl) (fun K hK => ?_) AllReadyH.nil))
      
          · skip
            clear hHeld; go_simp; (skip); refine hK.out _ _ ?_ (fun hHeld => ?_); ((try dsimp only); skip); clear hK K
            try simp only [Act.put, List.setIfInBounds_toArray, List.set_cons_zero, List.set_cons_succ]
            first | ((refine Reg.tkB 3 (Reg.get rfl) hHeld ?_)) | (refine wpAnyH_ready (rs := [3]) (by kernel_rfl) (by simp) ?_; refine AllReadyH.cons (Reg.get rfl) (fun K hK => ?_) AllReadyH.nil; clear hHeld; go_simp; ((generalize hW : World.alloc _ _ = w5; obtain ⟨p3, hp, K⟩ := kk3 J hW; rw [← hp]; replace J := K; clear hW cb hp K; have cb := KB.out _ J.2.1)); refine hK.out _ _ ?_ (fun hHeld => ?_); ((try dsimp only); skip); clear hK K)
            try simp only [Act.put, List.setIfInBounds_toArray, List.set_cons_zero, List.set_cons_succ]
            first | ((refine Reg.tkB 4 (Reg.get rfl) hHeld ?_)) | (refine wpAnyH_ready (rs := [4]) (by kernel_rfl) (by simp) ?_; refine AllReadyH.cons (Reg.get rfl) (fun K hK => ?_) AllReadyH.nil; clear hHeld; go_simp; ((go_at_call 68; first | refine (kk4 J).mono ?_ | refine (kk4 (kk_drew J)).mono ?_; rintro e w6 ⟨x, rfl, K⟩; replace J := K; clear cb K; have cb := KB.out _ J.2.1)); refine hK.out _ _ ?_ (fun hHeld => ?_); ((try dsimp only); skip); clear hK K)
            try simp only [Act.put, List.setIfInBounds_toArray, List.set_cons_zero, List.set_cons_succ]
            first | refine Reg.tkA 7 (Reg.get rfl) hHeld ?_ | refine Reg.tkB 7 (Reg.get rfl) hHeld ?_
            try simp only [Act.put, List.setIfInBounds_toArray, List.set_cons_zero, List.set_cons_succ]
            first | ((refine Reg.tkB 8 (Reg.get rfl) hHeld ?_)) | (refine wpAnyH_ready (rs := [8]) (by kernel_rfl) (by simp) ?_; refine AllReadyH.cons (Reg.get rfl) (fun K hK => ?_) AllReadyH.nil; clear hHeld; go_simp; ((generalize hW : World.alloc _ _ = w9; obtain ⟨p8, hp, KX⟩ := kk8 J hW; rw [← hp]; clear hW cb hp; have cb := KB.out _ KX.1.2.1)); refine hK.out _ _ ?_ (fun hHeld => ?_); ((try dsimp only); skip); clear hK K)
            try simp only [Act.put, List.setIfInBounds_toArray, List.set_cons_zero, List.set_cons_succ]
            (clear hHeld; refine any_normA (f2 := 3) (l2 := tl9) (by kernel_rfl) (by kernel_rfl) ?_; first | (with_reducible exact LEAF w9 p3 x p5 p6 p8 KX) | exact LEAF w9 p3 x p5 p6 p8 KX)
      
          · skip
            clear hHeld; go_simp; ((generalize hW : World.alloc _ _ = w5; obtain ⟨p3, hp, K⟩ := kk3 J hW; rw [← hp]; replace J := K; clear hW cb hp K; have cb := KB.out _ J.2.1)); refine hK.out _ _ ?_ (fun hHeld => ?_); ((try dsimp only); skip); clear hK K
            try simp only [Act.put, List.setIfInBounds_toArray, List.set_cons_zero, List.set_cons_succ]
            refine wpAnyH_ready (rs := [1, 4]) (by kernel_rfl) (by simp) ?_
            refine (AllReadyH.cons (Reg.get rfl) (fun K hK => ?_) (AllReadyH.cons (Reg.get rfl) (fun K hK => ?_) AllReadyH.nil))
      
            · skip
              clear hHeld; go_simp; (skip); refine hK.out _ _ ?_ (fun hHeld => ?_); ((try dsimp only); skip); clear hK K
              try simp only [Act.put, List.setIfInBounds_toArray, List.set_cons_zero, List.set_cons_succ]
              first | ((refine Reg.tkB 4 (Reg.get rfl) hHeld ?_)) | (refine wpAnyH_ready (rs := [4]) (by kernel_rfl) (by simp) ?_; refine AllReadyH.cons (Reg.get rfl) (fun K hK => ?_) AllReadyH.nil; clear hHeld; go_simp; ((go_at_call 68; first | refine (kk4 J).mono ?_ | refine (kk4 (kk_drew J)).mono ?_; rintro e w6 ⟨x, rfl, K⟩; replace J := K; clear cb K; have cb := KB.out _ J.2.1)); refine hK.out _ _ ?_ (fun hHeld => ?_); ((try dsimp only); skip); clear hK K)
              try simp only [Act.put, List.setIfInBounds_toArray, List.set_cons_zero, List.set_cons_succ]
              first | refine Reg.tkA 7 (Reg.get rfl) hHeld ?_ | refine Reg.tkB 7 (Reg.get rfl) hHeld ?_
              try simp only [Act.put, List.setIfInBounds_toArray, List.set_cons_zero, List.set_cons_succ]
              first | ((refine Reg.tkB 8 (Reg.get rfl) hHeld ?_)) | (refine wpAnyH_ready (rs := [8]) (by kernel_rfl) (by simp) ?_; refine AllReadyH.cons (Reg.get rfl) (fun K hK => ?_) AllReadyH.nil; clear hHeld; go_simp; ((generalize hW : World.alloc _ _ = w9; obtain ⟨p8, hp, KX⟩ := kk8 J hW; rw [← hp]; clear hW cb hp; have cb := KB.out _ KX.1.2.1)); refine hK.out _ _ ?_ (fun hHeld => ?_); ((try dsimp only); skip); clear hK K)
              try simp only [Act.put, List.setIfInBounds_toArray, List.set_cons_zero, List.set_cons_succ]
              (clear hHeld; refine any_normA (f2 := 3) (l2 := tl9) (by kernel_rfl) (by kernel_rfl) ?_; first | (with_reducible exact LEAF w9 p3 x p5 p6 p8 KX) | exact LEAF w9 p3 x p5 p6 p8 KX)
      
            · skip
              clear hHeld; go_simp; ((go_at_call 68; first | refine (kk4 J).mono ?_ | refine (kk4 (kk_drew J)).mono ?_; rintro e w6 ⟨x, rfl, K⟩; replace J := K; clear cb K; have cb := KB.out _ J.2.1)); refine hK.out _ _ ?_ (fun hHeld => ?_); ((try dsimp only); skip); clear hK K
              try simp only [Act.put, List.setIfInBounds_toArray, List.set_cons_zero, List.set_cons_succ]
              first | refine Reg.tkA 7 (Reg.get rfl) hHeld ?_ | refine Reg.tkB 7 (Reg.get rfl) hHeld ?_
              try simp only [Act.put, List.setIfInBounds_toArray, List.set_cons_zero, List.set_cons_succ]
              refine wpAnyH_ready (rs := [1, 8]) (by kernel_rfl) (by simp) ?_
              refine (AllReadyH.cons (Reg.get rfl) (fun K hK => ?_) (AllReadyH.cons (Reg.get rfl) (fun K hK => ?_) AllReadyH.nil))
      
              · skip
                clear hHeld; go_simp; (skip); refine hK.out _ _ ?_ (fun hHeld => ?_); ((try dsimp only); skip); clear hK K
                try simp only [Act.put, List.setIfInBounds_toArray, List.set_cons_zero, List.set_cons_succ]
                first | ((refine Reg.tkB 8 (Reg.get rfl) hHeld ?_)) | (refine wpAnyH_ready (rs := [8]) (by kernel_rfl) (by simp) ?_; refine AllReadyH.cons (Reg.get rfl) (fun K hK => ?_) AllReadyH.nil; clear hHeld; go_simp; ((generalize hW : World.alloc _ _ = w9; obtain ⟨p8, hp, KX⟩ := kk8 J hW; rw [← hp]; clear hW cb hp; have cb := KB.out _ KX.1.2.1)); refine hK.out _ _ ?_ (fun hHeld => ?_); ((try dsimp only); skip); clear hK K)
                try simp only [Act.put, List.setIfInBounds_toArray, List.set_cons_zero, List.set_cons_succ]
                (clear hHeld; refine any_normA (f2 := 3) (l2 := tl9) (by kernel_rfl) (by kernel_rfl) ?_; first | (with_reducible exact LEAF w9 p3 x p5 p6 p8 KX) | exact LEAF w9 p3 x p5 p6 p8 KX)
      
              · skip
                clear hHeld; go_simp; ((generalize hW : World.alloc _ _ = w9; obtain ⟨p8, hp, KX⟩ := kk8 J hW; rw [← hp]; clear hW cb hp; have cb := KB.out _ KX.1.2.1)); refine hK.out _ _ ?_ (fun hHeld => ?_); ((try dsimp only); skip); clear hK K
                try simp only [Act.put, List.setIfInBounds_toArray, List.set_cons_zero, List.set_cons_succ]
                first | ((refine Reg.tkB 1 (Reg.get rfl) hHeld ?_)) | (refine wpAnyH_ready (rs := [1]) (by kernel_rfl) (by simp) ?_; refine AllReadyH.cons (Reg.get rfl) (fun K hK => ?_) AllReadyH.nil; clear hHeld; go_simp; (skip); refine hK.out _ _ ?_ (fun hHeld => ?_); ((try dsimp only); skip); clear hK K)
                try simp only [Act.put, List.setIfInBounds_toArray, List.set_cons_zero, List.set_cons_succ]
                (clear hHeld; refine any_normA (f2 := 3) (l2 := tl9) (by kernel_rfl) (by kernel_rfl) ?_; first | (with_reducible exact LEAF w9 p3 x p5 p6 p8 KX) | exact LEAF w9 p3 x p5 p6 p8 KX)
    case leaf =>
      intro w9 p3 x p5 p6 p8 hF
      obtain ⟨⟨_, J, _, h5, h6⟩, E8⟩ := hF
      obtain ⟨⟨a5, b5⟩, E5⟩ := h5 p5 rfl
      obtain ⟨⟨a6, b6⟩, E6⟩ := h6 p6 p5 rfl rfl
      clear h5 h6
      have hHeld : True := trivial
      have z9 := J.2.size
      have hgw : g < w4.heap.size := C.lt
      have hk9 : ∀ q, q < w4.heap.size → q ≠ g → w9.heap[q]? = w4.heap[q]? := fun q h1 h2 => J.2.block q h1 (fun e => by injection e with e; omega)
      replace HOW := Lib.hid (HOW.out.keep (w' := w9) fun q h1 h2 => hk9 q (by omega) (by omega))
      have hfr9 := Lib.hid (fun (wx : World) (h : ∀ q, w1.heap.size ≤ q → q < w2.heap.size → blk Ap ≠ some q → wx.heap[q]? = w9.heap[q]?) => HFR.out wx fun q h1 h2 h3 => (h q h1 h2 h3).trans (hk9 q (by omega) (by omega)))
      replace bk : Bk.Blk w9 w2.heap.size 39 #[.slice Ap N cp] := (hk9 _ (by omega) (by omega)).trans bk
      replace r0 : Bk.Blk w9 w.heap.size 39 #[.slice none 0 0] := (hk9 _ (by omega) (by omega)).trans r0
      replace C := J.1
      replace G := G.trans J.2
      clear hk9
      have cb := Lay.f1 bk
      first | ((refine Reg.tkB 9 (Reg.get rfl) hHeld ?_)) | (refine wpAnyH_ready (rs := [9]) (by kernel_rfl) (by simp) ?_; refine AllReadyH.cons (Reg.get rfl) (fun K hK => ?_) AllReadyH.nil; clear hHeld; ((refine wp_appK () rfl w1.heap.size rfl HOW.out.1 rfl E8 (one_cellsK _ _) (by omega) (by omega) ?_; intro A10 c10 w10 own10 hg10 _; have hP := own_lo HOW.out.1; have hn10 := Lib.hid (fun (wx : World) (h : ∀ q, w4.heap.size ≤ q → q < w10.heap.size → wx.heap[q]? = w10.heap[q]?) => one_frame (lo := w4.heap.size) E5 E6 hg10 (fun q hq => by have := HOW.out.2 q hq; omega) a5 a6 h); have z10 := hg10.size; replace r0 := blk_grownA hg10 (own_ne HOW.out.1 r0 (by decide)) r0; replace bk := blk_grownA hg10 (own_ne HOW.out.1 bk (by decide)) bk; have HPB := Lib.hid (row_app HKL.out HES.out HCS.out hfr9.out hg10 (Nat.le_refl _) (show w2.heap.size < w4.heap.size by omega) (by omega) (by omega) own10 (own_ne own10 bk (by decide)) hn10.out); have hgA : blk Ap ≠ some g := (by intro e; have := hP _ e; omega); replace C := Drw.cur_grownK hg10 (fun e => hgA e.symm) (fun h0 e => Drw.cur_offK C.2.1 HAL.out hP h0 e (by omega)) C; replace G := Drw.gr_rowK G hg10 (fun q e => Nat.le_trans (by omega) (hP q e)); clear hP hn10 hgA hg10 own10 cb; have cb := Lay.f1 bk)); refine hK.out _ _ ?_ (fun hHeld => ?_); ((try dsimp only); skip); clear hK K)
      try simp only [Act.put, List.setIfInBounds_toArray, List.set_cons_zero, List.set_cons_succ]
      first | refine Reg.tkA 10 (Reg.get rfl) hHeld ?_ | refine Reg.tkB 10 (Reg.get rfl) hHeld ?_
      try simp only [Act.put, List.setIfInBounds_toArray, List.set_cons_zero, List.set_cons_succ]
      first | ((refine Reg.tkB 11 (Reg.get rfl) hHeld ?_)) | (refine wpAnyH_ready (rs := [11]) (by kernel_rfl) (by simp) ?_; refine AllReadyH.cons (Reg.get rfl) (fun K hK => ?_) AllReadyH.nil; clear hHeld; go_simp; (skip); refine hK.out _ _ ?_ (fun hHeld => ?_); ((try dsimp only); skip); clear hK K)
      try simp only [Act.put, List.setIfInBounds_toArray, List.set_cons_zero, List.set_cons_succ]
      refine wpAnyH_done (by kernel_rfl) ?_ _
      clear cb hHeld
      generalize hW : World.setCell _ _ _ = w11
      have HP11 := Lib.hid (show PbIn w11 w1.heap.size w10.heap.size A10 (N + 1) c10 (ks ++ [⟨x, false, [[1]], 0⟩]) from fun wx hag => HPB.out wx fun q h1 h2 h3 => (hag q h1 h2).trans (by rw [← hW]; exact Below.heap_setCell _ _ _ q (by simpa using h3)))
      replace bk : Bk.Blk w11 (w2.heap.size) 39 #[.slice A10 (N + 1) c10] := (by rw [← hW]; apply Bk.Blk.to; (focus (exact Bk.sv)); rfl)
      replace r0 : Bk.Blk w11 (w.heap.size) 39 #[.slice none 0 0] := (by rw [← hW]; exact Bk.sv)
      replace C : Cur.Cur w11 (g) A n c bs := (by rw [← hW]; (repeat (first | with_reducible assumption | with_reducible apply Cur.Cur.alloc | with_reducible apply CurB.cur_drewN | with_reducible apply CurB.cur_drew | ((with_reducible refine CurB.cur_set HAL.out ?_ ?_ ?_ _); (focus (first | omega | (dsimp only; done) | (dsimp only; omega))); (focus (first | omega | (dsimp only; omega)))))))
      replace G : w.grownBy w11 (some (g)) := (by rw [← hW]; exact CurB.gv)
      have z11 : w11.heap.size = _ := congrArg (fun W : World => W.heap.size) hW.symm
      (try simp only [World.size_alloc, Bk.size_set, World.size_drew, World.drewN] at z11)
      clear hW
      clear HPB
      have L_bk := Lay.f1 bk
      have L_r0 := Lay.f1 r0
      go_wp2_with fail
      clear L_bk L_r0
      generalize hW : World.setCell _ _ _ = w12
      have hs12 : w12.heap.size = w11.heap.size := by rw [← hW]; exact Bk.size_set _ _ _
      have HP12 := Lib.hid (show PbIn w12 w.heap.size w12.heap.size A10 (N + 1) c10 (ks ++ [⟨x, false, [[1]], 0⟩]) from fun wx hag => HP11.out wx fun q h1 h2 => (hag q (by omega) (by omega)).trans (by rw [← hW]; exact Below.heap_setCell _ _ _ q (by simp; omega)))
      replace r0 : Bk.Blk w12 (w.heap.size) 39 #[.slice A10 (N + 1) c10] := (by rw [← hW]; apply Bk.Blk.to; (focus (exact Bk.sv)); rfl)
      replace C : Cur.Cur w12 (g) A n c bs := (by rw [← hW]; (repeat (first | with_reducible assumption | with_reducible apply Cur.Cur.alloc | with_reducible apply CurB.cur_drewN | with_reducible apply CurB.cur_drew | ((with_reducible refine CurB.cur_set HAL.out ?_ ?_ ?_ _); (focus (first | omega | (dsimp only; done) | (dsimp only; omega))); (focus (first | omega | (dsimp only; omega)))))))
      replace G : w.grownBy w12 (some (g)) := (by rw [← hW]; exact CurB.gv)
      have z12 : w12.heap.size = _ := congrArg (fun W : World => W.heap.size) hW.symm
      (try simp only [World.size_alloc, Bk.size_set, World.size_drew, World.drewN] at z12)
      clear hW
      have L_r0 := Lay.c1 r0
      go_wp2
      refine bodyPost_ret (v := .agg #[.slice A10 (N + 1) c10]) (by simp [results, Try.results67, go_sem, L_r0]) rfl (⟨N + 1, _, A10, c10, by omega, few_snoc HFW.out ⟨by simp, fun i => by cases i <;> simp⟩, HP12.out, rfl, C, G⟩)
  · have e0 : (y == 0) = false := by simpa using h0
    by_cases h1 : y = 1
    · have e1 : (y == 1) = true := by simpa using h1
      clear h0 h1
      by_cases hn0 : 0 < N
      · obtain ⟨q, rfl, hq1, hq2⟩ := HRO.out.addr hn0
        obtain ⟨u, hu, hfz⟩ := HRO.out.cell (j := 3) (by omega)
        have hqb : q ≠ w2.heap.size := by omega
        have hqr : q ≠ w.heap.size := by omega
        have hql : q < w4.heap.size := by omega
        have i0 : (0 : Int) < (N : Int) := by omega
        have HR2 := Lib.hid (HRO.out.setLo hn0 (-1))
        have L_bk := Lay.f1 bk
        have L_r0 := Lay.f1 r0
        go_wp2_with fail
        clear hu hfz
        clear L_bk L_r0
        generalize hW : World.setCell _ _ _ = w7
        have hs7 : w7.heap.size = w4.heap.size := by rw [← hW]; simp only [Bk.size_set]
        have HP2 := Lib.hid (show PbIn w7 w.heap.size w7.heap.size (some ⟨q, 0, none⟩) N cp _ from ((HR2.out.keep (w' := w7) fun q' h1 _ => by rw [← hW]; exact Below.heap_setCell _ _ _ q' (by simp; omega)).wider (by omega) (by omega)).pbIn)
        replace r0 : Bk.Blk w7 (w.heap.size) 39 #[.slice (some ⟨q, 0, none⟩) N cp] := (by rw [← hW]; apply Bk.Blk.to; (focus (exact Bk.sv)); rfl)
        replace C : Cur.Cur w7 (g) A n c bs := (by rw [← hW]; (repeat (first | with_reducible assumption | with_reducible apply Cur.Cur.alloc | with_reducible apply CurB.cur_drewN | with_reducible apply CurB.cur_drew | ((with_reducible refine CurB.cur_set HAL.out ?_ ?_ ?_ _); (focus (first | omega | (dsimp only; done) | (dsimp only; omega))); (focus (first | omega | (dsimp only; omega)))))))
        replace G : w.grownBy w7 (some (g)) := (by rw [← hW]; exact CurB.gv)
        have z7 : w7.heap.size = _ := congrArg (fun W : World => W.heap.size) hW.symm
        (try simp only [World.size_alloc, Bk.size_set, World.size_drew, World.drewN] at z7)
        clear hW
        have L_r0 := Lay.c1 r0
        go_wp2
        refine bodyPost_ret (v := .agg #[.slice (some ⟨q, 0, none⟩) N cp]) (by simp [results, Try.results67, go_sem, L_r0]) rfl (⟨N, _, _, cp, by omega, few_set (e := { nthK ks 0 with lo := -1 }) HFW.out (by rw [HKL.out]; exact hn0) rfl, HP2.out, rfl, C, G⟩)
      · have i0 : ¬ (0 : Int) < (N : Int) := by omega
        have L_bk := Lay.f1 bk
        have L_r0 := Lay.f1 r0
        go_wp2_with fail
        clear L_bk L_r0
        generalize hW : World.setCell _ _ _ = w7
        have hs7 : w7.heap.size = w4.heap.size := by rw [← hW]; simp only [Bk.size_set]
        have HP2 := Lib.hid (show PbIn w7 w.heap.size w7.heap.size Ap N cp ks from ((HRO.out.keep (w' := w7) fun q' h1 _ => by rw [← hW]; exact Below.heap_setCell _ _ _ q' (by simp; omega)).wider (by omega) (by omega)).pbIn)
        replace r0 : Bk.Blk w7 (w.heap.size) 39 #[.slice Ap N cp] := (by rw [← hW]; apply Bk.Blk.to; (focus (exact Bk.sv)); rfl)
        replace C : Cur.Cur w7 (g) A n c bs := (by rw [← hW]; (repeat (first | with_reducible assumption | with_reducible apply Cur.Cur.alloc | with_reducible apply CurB.cur_drewN | with_reducible apply CurB.cur_drew | ((with_reducible refine CurB.cur_set HAL.out ?_ ?_ ?_ _); (focus (first | omega | (dsimp only; done) | (dsimp only; omega))); (focus (first | omega | (dsimp only; omega)))))))
        replace G : w.grownBy w7 (some (g)) := (by rw [← hW]; exact CurB.gv)
        have z7 : w7.heap.size = _ := congrArg (fun W : World => W.heap.size) hW.symm
        (try simp only [World.size_alloc, Bk.size_set, World.size_drew, World.drewN] at z7)
        clear hW
        have L_r0 := Lay.c1 r0
        go_wp2
        refine bodyPost_ret (v := .agg #[.slice Ap N cp]) (by simp [results, Try.results67, go_sem, L_r0]) rfl (⟨N, ks, Ap, cp, by omega, HFW.out, HP2.out, rfl, C, G⟩)
    · have e1 : (y == 1) = false := by simpa using h1
      by_cases h2 : y = 2
      · have e2 : (y == 2) = true := by simpa using h2
        clear h0 h1 h2
        by_cases hn0 : 0 < N
        · obtain ⟨q, rfl, hq1, hq2⟩ := HRO.out.addr hn0
          obtain ⟨u, hu, hfz⟩ := HRO.out.cell (j := 1) (by omega)
          have hqb : q ≠ w2.heap.size := by omega
          have hqr : q ≠ w.heap.size := by omega
          have hql : q < w4.heap.size := by omega
          have i0 : (0 : Int) < (N : Int) := by omega
          have HR2 := Lib.hid (HRO.out.setAp hn0 false)
          have L_bk := Lay.f1 bk
          have L_r0 := Lay.f1 r0
          go_wp2_with fail
          clear hu hfz
          clear L_bk L_r0
          generalize hW : World.setCell _ _ _ = w7
          have hs7 : w7.heap.size = w4.heap.size := by rw [← hW]; simp only [Bk.size_set]
          have HP2 := Lib.hid (show PbIn w7 w.heap.size w7.heap.size (some ⟨q, 0, none⟩) N cp _ from ((HR2.out.keep (w' := w7) fun q' h1 _ => by rw [← hW]; exact Below.heap_setCell _ _ _ q' (by simp; omega)).wider (by omega) (by omega)).pbIn)
          replace r0 : Bk.Blk w7 (w.heap.size) 39 #[.slice (some ⟨q, 0, none⟩) N cp] := (by rw [← hW]; apply Bk.Blk.to; (focus (exact Bk.sv)); rfl)
          replace C : Cur.Cur w7 (g) A n c bs := (by rw [← hW]; (repeat (first | with_reducible assumption | with_reducible apply Cur.Cur.alloc | with_reducible apply CurB.cur_drewN | with_reducible apply CurB.cur_drew | ((with_reducible refine CurB.cur_set HAL.out ?_ ?_ ?_ _); (focus (first | omega | (dsimp only; done) | (dsimp only; omega))); (focus (first | omega | (dsimp only; omega)))))))
          replace G : w.grownBy w7 (some (g)) := (by rw [← hW]; exact CurB.gv)
          have z7 : w7.heap.size = _ := congrArg (fun W : World => W.heap.size) hW.symm
          (try simp only [World.size_alloc, Bk.size_set, World.size_drew, World.drewN] at z7)
          clear hW
          have L_r0 := Lay.c1 r0
          go_wp2
          refine bodyPost_ret (v := .agg #[.slice (some ⟨q, 0, none⟩) N cp]) (by simp [results, Try.results67, go_sem, L_r0]) rfl (⟨N, _, _, cp, by omega, few_set (e := { nthK ks 0 with ap := false }) HFW.out (by rw [HKL.out]; exact hn0) rfl, HP2.out, rfl, C, G⟩)
        · have i0 : ¬ (0 : Int) < (N : Int) := by omega
          have L_bk := Lay.f1 bk
          have L_r0 := Lay.f1 r0
          go_wp2_with fail
          clear L_bk L_r0
          generalize hW : World.setCell _ _ _ = w7
          have hs7 : w7.heap.size = w4.heap.size := by rw [← hW]; simp only [Bk.size_set]
          have HP2 := Lib.hid (show PbIn w7 w.heap.size w7.heap.size Ap N cp ks from ((HRO.out.keep (w' := w7) fun q' h1 _ => by rw [← hW]; exact Below.heap_setCell _ _ _ q' (by simp; omega)).wider (by omega) (by omega)).pbIn)
          replace r0 : Bk.Blk w7 (w.heap.size) 39 #[.slice Ap N cp] := (by rw [← hW]; apply Bk.Blk.to; (focus (exact Bk.sv)); rfl)
          replace C : Cur.Cur w7 (g) A n c bs := (by rw [← hW]; (repeat (first | with_reducible assumption | with_reducible apply Cur.Cur.alloc | with_reducible apply CurB.cur_drewN | with_reducible apply CurB.cur_drew | ((with_reducible refine CurB.cur_set HAL.out ?_ ?_ ?_ _); (focus (first | omega | (dsimp only; done) | (dsimp only; omega))); (focus (first | omega | (dsimp only; omega)))))))
          replace G : w.grownBy w7 (some (g)) := (by rw [← hW]; exact CurB.gv)
          have z7 : w7.heap.size = _ := congrArg (fun W : World => W.heap.size) hW.symm
          (try simp only [World.size_alloc, Bk.size_set, World.size_drew, World.drewN] at z7)
          clear hW
          have L_r0 := Lay.c1 r0
          go_wp2
          refine bodyPost_ret (v := .agg #[.slice Ap N cp]) (by simp [results, Try.results67, go_sem, L_r0]) rfl (⟨N, ks, Ap, cp, by omega, HFW.out, HP2.out, rfl, C, G⟩)
      · have e2 : (y == 2) = false := by simpa using h2
        clear h0 h1 h2
        have L_bk := Lay.f1 bk
        have L_r0 := Lay.f1 r0
        go_wp2_with fail
        clear L_bk L_r0
        generalize hW : World.setCell _ _ _ = w7
        have hs7 : w7.heap.size = w4.heap.size := by rw [← hW]; simp only [Bk.size_set]
        have HP2 := Lib.hid (show PbIn w7 w.heap.size w7.heap.size Ap N cp ks from ((HRO.out.keep (w' := w7) fun q' h1 _ => by rw [← hW]; exact Below.heap_setCell _ _ _ q' (by simp; omega)).wider (by omega) (by omega)).pbIn)
        replace r0 : Bk.Blk w7 (w.heap.size) 39 #[.slice Ap N cp] := (by rw [← hW]; apply Bk.Blk.to; (focus (exact Bk.sv)); rfl)
        replace C : Cur.Cur w7 (g) A n c bs := (by rw [← hW]; (repeat (first | with_reducible assumption | with_reducible apply Cur.Cur.alloc | with_reducible apply CurB.cur_drewN | with_reducible apply CurB.cur_drew | ((with_reducible refine CurB.cur_set HAL.out ?_ ?_ ?_ _); (focus (first | omega | (dsimp only; done) | (dsimp only; omega))); (focus (first | omega | (dsimp only; omega)))))))
        replace G : w.grownBy w7 (some (g)) := (by rw [← hW]; exact CurB.gv)
        have z7 : w7.heap.size = _ := congrArg (fun W : World => W.heap.size) hW.symm
        (try simp only [World.size_alloc, Bk.size_set, World.size_drew, World.drewN] at z7)
        clear hW
        have L_r0 := Lay.c1 r0
        go_wp2
        refine bodyPost_ret (v := .agg #[.slice Ap N cp]) (by simp [results, Try.results67, go_sem, L_r0]) rfl (⟨N, ks, Ap, cp, by omega, HFW.out, HP2.out, rfl, C, G⟩)
end Go.Proofs.Ythdieeaegplnmaa.Pb
