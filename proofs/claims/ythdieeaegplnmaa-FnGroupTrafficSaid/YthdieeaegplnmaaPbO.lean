/- Power buffers whose row of entries is one's own; the frames read as long as all other blocks stay. -/
import Derived.Test.YthdieeaegplnmaaPbA
import Derived.Test.YthdieeaegplnmaaKeepA
namespace Go.Proofs.Ythdieeaegplnmaa.Pb
open Go.RowKit
open Go.Proofs.Ythdieeaegplnmaa.Num Go.Proofs.Ythdieeaegplnmaa.Mem Go.Proofs.Ythdieeaegplnmaa.Hsh Go.Proofs.Ythdieeaegplnmaa.Sls Go.Proofs.Ythdieeaegplnmaa.Own Go.Proofs.Ythdieeaegplnmaa.SS Go.Proofs.Ythdieeaegplnmaa.Gb
set_option linter.unusedSimpArgs false
set_option linter.unusedVariables false
theorem OwnPB.readNil {w w' : World} {lo hi g n c j : Nat} {ks : List Kt} (h : OwnPB w lo hi (some ⟨g, 0, none⟩) n c ks) (hj : j < n) (X : Option Addr) (hw : ∀ q, lo ≤ q → q < hi → w'.heap[q]? = (w.setCell ⟨g, j * 4 + 2, none⟩ (.slice X 0 0)).heap[q]?) :
    RdPB w' (some ⟨g, 0, none⟩) n c (ks.set j { nthK ks j with fs := [] }) := by
  obtain ⟨h0, cs, es, r, k1, ⟨k2, k3⟩, ⟨k4, k5⟩, k6, k7⟩ := h
  have hst : Own (w.setCell ⟨g, j * 4 + 2, none⟩ (.slice X 0 0)) lo hi 95 4 (some ⟨g, 0, none⟩) n c (cs.set (j * 4 + 2) (.slice X 0 0)) := ⟨(k4.stored _ _).1, k5⟩
  have hr := (hst.keep hw).rd
  refine ⟨by simp [h0], hr.2.1, hr.2.2.1, fun hp => ?_⟩
  obtain ⟨g', o, hA, hc⟩ := hr.2.2.2.2 (by simp [k2]; omega)
  injection hA with hA
  injection hA with e1 e2
  subst e1 e2
  refine ⟨g, 0, rfl, fun i hi' => ?_⟩
  obtain ⟨e0, e1, e2, e3⟩ := k3 i hi'
  have c0 := hc (i * 4) (by simp [k2]; omega)
  have c1 := hc (i * 4 + 1) (by simp [k2]; omega)
  have c2 := hc (i * 4 + 2) (by simp [k2]; omega)
  have c3 := hc (i * 4 + 3) (by simp [k2]; omega)
  rw [cell_set e0, if_neg (show ¬ i * 4 = j * 4 + 2 by omega)] at c0
  rw [cell_set e1, if_neg (show ¬ i * 4 + 1 = j * 4 + 2 by omega)] at c1
  rw [cell_set e2] at c2
  rw [cell_set e3, if_neg (show ¬ i * 4 + 3 = j * 4 + 2 by omega)] at c3
  rw [nthK_set (by omega)]
  simp only [Nat.add_assoc]
  by_cases hij : i = j
  · subst hij
    rw [if_pos rfl] at c2 ⊢
    exact ⟨X, 0, 0, c0, c1, c2, c3, rdSS_none _ _⟩
  · rw [if_neg (show ¬ i * 4 + 2 = j * 4 + 2 by omega)] at c2
    rw [if_neg hij]
    refine ⟨(nth es i).1, (nth es i).2.1, (nth es i).2.2, c0, c1, c2, c3, ?_⟩
    have hs := ownSS_two k4 (k6 i hi').2 (by decide) (by decide) (j * 4 + 2) (.slice X 0 0)
    exact (hs.keep fun q q1 q2 => hw q (by have := (k6 i hi').1; omega) (by have := (k6 i hi').1; omega)).rd
theorem OwnPB.keepFr {w w' : World} {lo hi g n c j : Nat} {ks : List Kt} (h : OwnPB w lo hi (some ⟨g, 0, none⟩) n c ks) (hj : j < n) (o : Nat) (u : Value) (s : Sl) (hc : w.cell? ⟨g, j * 4 + 2, none⟩ = some (sl s)) (hw : ∀ q, lo ≤ q → q < hi → w'.heap[q]? = (w.setCell ⟨g, o, none⟩ u).heap[q]?) :
    RdSS w' s.1 s.2.1 s.2.2 (nthK ks j).fs := by
  obtain ⟨h0, cs, es, r, k1, ⟨k2, k3⟩, ⟨k4, k5⟩, k6, k7⟩ := h
  obtain ⟨e0, e1, e2, e3⟩ := k3 j hj
  have hs := ((ownSS_two k4 (k6 j hj).2 (by decide) (by decide) o u).keep (w' := w') fun q q1 q2 => hw q (by have := (k6 j hj).1; omega) (by have := (k6 j hj).1; omega)).rd
  rw [k4.cellAt _ (by omega), e2] at hc
  injection hc with hc
  unfold sl at hc
  injection hc with a b d
  rw [← a, ← b, ← d]
  exact hs
theorem own_ne2 {w : World} {base b2 n m c d g : Nat} {e e2 : TypeId} {sz sz2 : Nat} {A : Option Addr} {xs ys : List Value} (h : w.ownsRow base e sz (.slice A n c) n xs) (h2 : w.ownsRow b2 e2 sz2 (.slice (some ⟨g, 0, none⟩) m d) m ys) (he : e ≠ e2) : blk A ≠ some g := by
  intro hb
  rcases h.2 with ⟨hv', _⟩ | ⟨g', cap', cur', hv', _, h4', _⟩
  · simp only [Value.slice.injEq] at hv'; rw [hv'.1] at hb; cases hb
  · simp only [Value.slice.injEq, true_and] at hv'
    rw [hv'.1] at hb
    simp only [blk, Option.map_some, Option.some.injEq] at hb
    subst hb
    rcases h2.2 with ⟨hv, _⟩ | ⟨g2, cap, cur, hv, _, h4, _⟩
    · simp at hv
    · simp only [Value.slice.injEq, Option.some.injEq, Addr.mk.injEq, and_true, true_and] at hv
      obtain ⟨rfl, _⟩ := hv
      rw [h4] at h4'
      simp only [Option.some.injEq, Obj.cells.injEq] at h4'
      exact he h4'.2.1.symm
theorem set_congr {w w' : World} {q : Nat} (p : Addr) (u : Value) (h : w'.heap[q]? = w.heap[q]?) : (w'.setCell p u).heap[q]? = (w.setCell p u).heap[q]? := by
  simp only [World.setCell, Array.getElem?_modify]
  rw [h]
/-- all blocks but one row are as they were -/
structure KeptH (w w' : World) (row : Option Nat) : Prop where
  size : w.heap.size ≤ w'.heap.size
  block : ∀ q, q < w.heap.size → row ≠ some q → w'.heap[q]? = w.heap[q]?
theorem KeptH.refl (w : World) (row : Option Nat) : KeptH w w row := ⟨Nat.le_refl _, fun _ _ _ => rfl⟩
theorem KeptH.drew {w w1 : World} {row : Option Nat} (h : KeptH w w1 row) : KeptH w w1.drew row := ⟨h.size, h.block⟩
theorem KeptH.below {w w1 w2 : World} {row : Option Nat} (h : KeptH w w1 row) (hb : Below w1.heap.size w1 w2) : KeptH w w2 row := ⟨Nat.le_trans h.size hb.size, fun q hq hr => (hb.block q (Nat.lt_of_lt_of_le hq h.size)).trans (h.block q hq hr)⟩
theorem KeptH.alloc {w w1 w2 : World} {o : Obj} {row : Option Nat} (h : KeptH w w1 row) (hW : w1.alloc o = w2) : KeptH w w2 row := hW ▸ h.below (Below.alloc (Below.refl _ _) (Nat.le_refl _) _)
theorem KeptH.grown {w w1 w2 : World} {row : Option Nat} (h : KeptH w w1 row) (hg : w1.grownBy w2 row) : KeptH w w2 row := ⟨Nat.le_trans h.size hg.size, fun q hq hr => (hg.block q (Nat.lt_of_lt_of_le hq h.size) (fun e => hr e.symm)).trans (h.block q hq hr)⟩
/-- an entry's frames as one's own, with the range of blocks they lie in -/
theorem OwnPB.takeFr {w : World} {lo hi g n c j : Nat} {ks : List Kt} (h : OwnPB w lo hi (some ⟨g, 0, none⟩) n c ks) (hj : j < n) :
    ∃ (A1 : Option Addr) (n1 c1 : Nat) (a b : Nat) (ss : List Sl) (cs : List Value), w.ownsRow lo 95 4 (.slice (some ⟨g, 0, none⟩) n c) n cs ∧ cs[j * 4]? = some (.int .i64 (nthK ks j).st) ∧ cs[j * 4 + 1]? = some (.bool (nthK ks j).ap) ∧ cs[j * 4 + 2]? = some (.slice A1 n1 c1) ∧ cs[j * 4 + 3]? = some (.int .i64 (nthK ks j).lo) ∧
      (nthK ks j).fs.length = n1 ∧ ss.length = n1 ∧ lo ≤ a ∧ a ≤ b ∧ b ≤ hi ∧ w.ownsRow a 25 1 (.slice A1 n1 c1) n1 (ss.map sl) ∧ InSS w a b ss (nthK ks j).fs n1 ∧ (∀ q, blk A1 = some q → q < b) ∧ cs.length = n * 4 := by
  obtain ⟨h0, cs, es, r, k1, ⟨k2, k3⟩, ⟨k4, k5⟩, k6, k7⟩ := h
  obtain ⟨e0, e1, e2, e3⟩ := k3 j hj
  obtain ⟨q1, q2, q3⟩ := (k6 j hj).1
  obtain ⟨p0, ss, p1, p2, p3⟩ := (k6 j hj).2
  exact ⟨(nth es j).1, (nth es j).2.1, (nth es j).2.2, (r j).1, (r j).2, ss, cs, k4, e0, e1, by rw [e2]; rfl, e3, p0, p1, q1, q2, q3, p2.1, p3, p2.2, k2⟩
/-- an entry's frames are replaced; only its old row may have turned -/
theorem OwnPB.readSet {w w' : World} {lo hi g n c j : Nat} {ks : List Kt} (h : OwnPB w lo hi (some ⟨g, 0, none⟩) n c ks) (hj : j < n) (X : Option Addr) (m d : Nat) (xss : List (List Int)) (row : Option Nat)
    (hrow : ∀ q, row = some q → ∃ A1 n1 c1, w.cell? ⟨g, j * 4 + 2, none⟩ = some (.slice A1 n1 c1) ∧ blk A1 = some q)
    (hw : ∀ q, lo ≤ q → q < hi → row ≠ some q → w'.heap[q]? = (w.setCell ⟨g, j * 4 + 2, none⟩ (.slice X m d)).heap[q]?) (hx : RdSS w' X m d xss) :
    RdPB w' (some ⟨g, 0, none⟩) n c (ks.set j { nthK ks j with fs := xss }) := by
  obtain ⟨h0, cs, es, r, k1, ⟨k2, k3⟩, ⟨k4, k5⟩, k6, k7⟩ := h
  have hr2 : ∀ q, row = some q → blk (nth es j).1 = some q := by
    intro q hq
    obtain ⟨A1, n1, c1, hc, hb⟩ := hrow q hq
    obtain ⟨e0, e1, e2, e3⟩ := k3 j hj
    rw [k4.cellAt _ (by omega), e2] at hc
    injection hc with hc
    unfold sl at hc
    injection hc with a b d
    rw [a]; exact hb
  have hrg : row ≠ some g := by
    intro e
    have hb := hr2 g e
    obtain ⟨p0, ss, p1, p2, p3⟩ := (k6 j hj).2
    exact own_ne2 p2.1 k4 (by decide) hb
  have hg := k5 g rfl
  have hgl := (blk_of_own k4 g rfl).1
  have hst : w'.ownsRow lo 95 4 (.slice (some ⟨g, 0, none⟩) n c) n (cs.set (j * 4 + 2) (.slice X m d)) := by
    have h1 := (k4.stored (j * 4 + 2) (.slice X m d)).1
    obtain ⟨l1, l2⟩ := h1
    rcases l2 with l2 | ⟨g2, cap, cur, hv, l3, l4, l5⟩
    · exact ⟨l1, .inl l2⟩
    · have hq : g2 = g := by injection hv with hv; injection hv with hv; injection hv with hv; exact hv.symm
      subst hq
      exact ⟨l1, .inr ⟨g2, cap, cur, hv, l3, (hw g2 hgl hg hrg).trans l4, l5⟩⟩
  have hr : Rd w' 4 (some ⟨g, 0, none⟩) n c (cs.set (j * 4 + 2) (.slice X m d)) := Rd.of_own hst
  refine ⟨by simp [h0], hr.2.1, hr.2.2.1, fun hp => ?_⟩
  obtain ⟨g', o, hA, hc⟩ := hr.2.2.2.2 (by simp [k2]; omega)
  injection hA with hA
  injection hA with e1 e2
  subst e1 e2
  refine ⟨g, 0, rfl, fun i hi' => ?_⟩
  obtain ⟨e0, e1, e2, e3⟩ := k3 i hi'
  have c0 := hc (i * 4) (by simp [k2]; omega)
  have c1 := hc (i * 4 + 1) (by simp [k2]; omega)
  have c2 := hc (i * 4 + 2) (by simp [k2]; omega)
  have c3 := hc (i * 4 + 3) (by simp [k2]; omega)
  rw [cell_set e0, if_neg (show ¬ i * 4 = j * 4 + 2 by omega)] at c0
  rw [cell_set e1, if_neg (show ¬ i * 4 + 1 = j * 4 + 2 by omega)] at c1
  rw [cell_set e2] at c2
  rw [cell_set e3, if_neg (show ¬ i * 4 + 3 = j * 4 + 2 by omega)] at c3
  rw [nthK_set (by omega)]
  simp only [Nat.add_assoc]
  by_cases hij : i = j
  · subst hij
    rw [if_pos rfl] at c2 ⊢
    exact ⟨X, m, d, c0, c1, c2, c3, hx⟩
  · rw [if_neg (show ¬ i * 4 + 2 = j * 4 + 2 by omega)] at c2
    rw [if_neg hij]
    refine ⟨(nth es i).1, (nth es i).2.1, (nth es i).2.2, c0, c1, c2, c3, ?_⟩
    have hs := ownSS_two k4 (k6 i hi').2 (by decide) (by decide) (j * 4 + 2) (.slice X m d)
    have hdis : (r i).2 ≤ (r j).1 ∨ (r j).2 ≤ (r i).1 := by
      rcases Nat.lt_or_gt_of_ne hij with h | h
      · exact k7 i j h hj
      · exact (k7 j i h hi').symm
    refine (hs.keep (w' := w') fun q q1 q2 => hw q (by have := (k6 i hi').1; omega) (by have := (k6 i hi').1; omega) ?_).rd
    intro e
    obtain ⟨p0, ss, p1, p2, p3⟩ := (k6 j hj).2
    have b1 := (blk_of_own p2.1 q (hr2 q e)).1
    have b2 := p2.2 q (hr2 q e)
    omega
def RowO (w : World) (lo hi : Nat) (A : Option Addr) (n c : Nat) (ks : List Kt) : Prop :=
  ks.length = n ∧ ∃ (cs : List Value) (es : List Sl), es.length = n ∧ CellsK cs ks es n ∧ Own w lo hi 95 4 A n c cs ∧ ∀ w2 : World, (∀ q, lo ≤ q → q < hi → blk A ≠ some q → w2.heap[q]? = w.heap[q]?) → ∀ i, i < n → RdSS w2 (nth es i).1 (nth es i).2.1 (nth es i).2.2 (nthK ks i).fs
theorem own_keepX {w w2 : World} {lo hi b2 n m c d k : Nat} {e e' : TypeId} {sz sz' : Nat} {A B : Option Addr} {xs ys : List Value} (h : w.ownsRow lo e sz (.slice A n c) k xs) (hA : ∀ g, blk A = some g → g < hi) (h' : w.ownsRow b2 e' sz' (.slice B m d) m ys) (hne : e ≠ e') (hk : ∀ q, lo ≤ q → q < hi → blk B ≠ some q → w2.heap[q]? = w.heap[q]?) : w2.ownsRow lo e sz (.slice A n c) k xs := by
  obtain ⟨h1, h2⟩ := h
  rcases h2 with h2 | ⟨q, cap, cur, hv, g1, g2, g3⟩
  · exact ⟨h1, .inl h2⟩
  · refine ⟨h1, .inr ⟨q, cap, cur, hv, g1, (hk q g1 (hA q ?_) ?_).trans g2, g3⟩⟩
    · simp only [Value.slice.injEq] at hv; rw [hv.1]; rfl
    · intro hb
      rcases h'.2 with ⟨hv2, _⟩ | ⟨q2, cap2, cur2, hv2, _, k2, _⟩
      · simp only [Value.slice.injEq] at hv2; rw [hv2.1] at hb; cases hb
      · simp only [Value.slice.injEq] at hv2
        rw [hv2.1] at hb
        simp only [blk, Option.map_some, Option.some.injEq] at hb
        subst hb
        rw [k2] at g2
        simp only [Option.some.injEq, Obj.cells.injEq] at g2
        exact hne g2.2.1.symm
theorem ownSS_keepX {w w2 : World} {lo hi b2 n m c d : Nat} {e' : TypeId} {sz' : Nat} {A B : Option Addr} {xss : List (List Int)} {ys : List Value} (h : OwnSS w lo hi A n c xss) (h' : w.ownsRow b2 e' sz' (.slice B m d) m ys) (he : 25 ≠ e') (he2 : 5 ≠ e') (hk : ∀ q, lo ≤ q → q < hi → blk B ≠ some q → w2.heap[q]? = w.heap[q]?) : OwnSS w2 lo hi A n c xss := by
  obtain ⟨h0, ss, h1, h2, h3⟩ := h
  refine ⟨h0, ss, h1, ⟨own_keepX h2.1 h2.2 h' he hk, h2.2⟩, ⟨fun i hi' => ⟨own_keepX (h3.1 i hi').1 (h3.1 i hi').2 h' he2 hk, (h3.1 i hi').2⟩, h3.2⟩⟩
section
variable {w w' : World} {lo hi l2 h2 n c j : Nat} {A : Option Addr} {ks : List Kt}
theorem OwnPB.rowO (h : OwnPB w lo hi A n c ks) (hl : l2 ≤ lo) (hh : hi ≤ h2) : RowO w l2 h2 A n c ks := by
  obtain ⟨h0, cs, es, r, h1, k2, h3, h4⟩ := h
  refine ⟨h0, cs, es, h1, k2, h3.wider hl hh, fun w2 hag i hi' => ?_⟩
  have h5 := (h4.1 i hi').1
  exact (ownSS_keepX (h4.1 i hi').2 h3.1 (by decide) (by decide) fun q q1 q2 q3 => hag q (by omega) (by omega) q3).rd
theorem RowO.keep (h : RowO w lo hi A n c ks) (hk : ∀ q, lo ≤ q → q < hi → w'.heap[q]? = w.heap[q]?) : RowO w' lo hi A n c ks := by
  obtain ⟨h0, cs, es, h1, k2, h3, h4⟩ := h
  exact ⟨h0, cs, es, h1, k2, h3.keep hk, fun w2 hag => h4 w2 fun q q1 q2 q3 => (hag q q1 q2 q3).trans (hk q q1 q2)⟩
theorem RowO.wider (h : RowO w lo hi A n c ks) (hl : l2 ≤ lo) (hh : hi ≤ h2) : RowO w l2 h2 A n c ks := by
  obtain ⟨h0, cs, es, h1, k2, h3, h4⟩ := h
  exact ⟨h0, cs, es, h1, k2, h3.wider hl hh, fun w2 hag => h4 w2 fun q q1 q2 q3 => hag q (by omega) (by omega) q3⟩
theorem RowO.rd (h : RowO w lo hi A n c ks) : RdPB w A n c ks := by
  obtain ⟨h0, cs, es, h1, ⟨k2, h2b⟩, h3, h4⟩ := h
  have hr := h3.rd
  refine ⟨h0, hr.2.1, hr.2.2.1, fun hp => ?_⟩
  obtain ⟨g, o, rfl, hc⟩ := hr.2.2.2.2 (by omega)
  refine ⟨g, o, rfl, fun j hj => ?_⟩
  obtain ⟨e0, e1, e2, e3⟩ := h2b j hj
  refine ⟨(nth es j).1, (nth es j).2.1, (nth es j).2.2, ?_, ?_, ?_, ?_, h4 w (fun _ _ _ _ => rfl) j hj⟩
  · rw [hc (j * 4) (by omega), e0]
  · rw [Nat.add_assoc, hc (j * 4 + 1) (by omega), e1]
  · rw [Nat.add_assoc, hc (j * 4 + 2) (by omega), e2]; rfl
  · rw [Nat.add_assoc, hc (j * 4 + 3) (by omega), e3]
theorem RowO.pbIn (h : RowO w lo hi A n c ks) : PbIn w lo hi A n c ks := fun _ hag => (h.keep hag).rd
theorem row_empty (w : World) (lo hi : Nat) : RowO w lo hi none 0 0 [] :=
  ⟨rfl, [], [], rfl, cells_zero _, ⟨⟨rfl, .inl ⟨rfl, rfl⟩⟩, fun g h => by cases h⟩, fun _ _ i h => absurd h (Nat.not_lt_zero _)⟩
theorem row_grown {g : Nat} (h : RowO w lo w.heap.size A n c ks) (hg : w.grownBy w' (some g)) (hb : g < lo) : RowO w' lo w'.heap.size A n c ks := (h.keep fun q h1 h2 => hg.block q h2 (fun e => by injection e with e; omega)).wider (Nat.le_refl _) hg.size
theorem row_set {b o : Nat} (h : RowO w lo w.heap.size A n c ks) (hb : b < lo) (u : Value) : RowO (w.setCell ⟨b, o, none⟩ u) lo (w.setCell ⟨b, o, none⟩ u).heap.size A n c ks := (h.keep fun q h1 _ => Below.heap_setCell _ _ _ q (by simp; omega)).wider (Nat.le_refl _) (by rw [Bk.size_set]; exact Nat.le_refl _)
theorem row_alloc (h : RowO w lo w.heap.size A n c ks) (o : Obj) : RowO (w.alloc o) lo (w.alloc o).heap.size A n c ks := (h.keep fun q _ hq => Below.heap_alloc _ _ q hq).wider (Nat.le_refl _) (by simp)
end
section
variable {w w' : World} {lo hi l2 h2 g n c j : Nat} {ks : List Kt}
/-- other frames for entry j, and perhaps entry j's own old row grown -/
theorem OwnPB.readSetO (h : OwnPB w lo hi (some ⟨g, 0, none⟩) n c ks) (hj : j < n) (X : Option Addr) (m d : Nat) (xss : List (List Int)) (row : Option Nat)
    (hrow : ∀ q, row = some q → ∃ A1 n1 c1, w.cell? ⟨g, j * 4 + 2, none⟩ = some (.slice A1 n1 c1) ∧ blk A1 = some q)
    (hw : ∀ q, lo ≤ q → q < hi → row ≠ some q → w'.heap[q]? = (w.setCell ⟨g, j * 4 + 2, none⟩ (.slice X m d)).heap[q]?)
    (hl : l2 ≤ lo) (hh : hi ≤ h2) (hx : ∀ w2 : World, (∀ q, l2 ≤ q → q < h2 → blk (some ⟨g, 0, none⟩) ≠ some q → w2.heap[q]? = w'.heap[q]?) → RdSS w2 X m d xss) :
    RowO w' l2 h2 (some ⟨g, 0, none⟩) n c (ks.set j { nthK ks j with fs := xss }) := by
  obtain ⟨h0, cs, es, r, k1, ⟨k2, k3⟩, ⟨k4, k5⟩, k6, k7⟩ := h
  have hr2 : ∀ q, row = some q → blk (nth es j).1 = some q := by
    intro q hq
    obtain ⟨A1, n1, c1, hc, hb⟩ := hrow q hq
    obtain ⟨e0, e1, e2, e3⟩ := k3 j hj
    rw [k4.cellAt _ (by omega), e2] at hc
    injection hc with hc
    unfold sl at hc
    injection hc with a b d
    rw [a]; exact hb
  have hrg : row ≠ some g := by
    intro e
    have hb := hr2 g e
    obtain ⟨p0, ss, p1, p2, p3⟩ := (k6 j hj).2
    exact own_ne2 p2.1 k4 (by decide) hb
  have hg := k5 g rfl
  have hgl := (blk_of_own k4 g rfl).1
  have hst : w'.ownsRow lo 95 4 (.slice (some ⟨g, 0, none⟩) n c) n (cs.set (j * 4 + 2) (.slice X m d)) := by
    have h1 := (k4.stored (j * 4 + 2) (.slice X m d)).1
    obtain ⟨l1, l2⟩ := h1
    rcases l2 with l2 | ⟨g2, cap, cur, hv, l3, l4, l5⟩
    · exact ⟨l1, .inl l2⟩
    · have hq : g2 = g := by injection hv with hv; injection hv with hv; injection hv with hv; exact hv.symm
      subst hq
      exact ⟨l1, .inr ⟨g2, cap, cur, hv, l3, (hw g2 hgl hg hrg).trans l4, l5⟩⟩
  refine ⟨by simp [h0], cs.set (j * 4 + 2) (.slice X m d), es.set j (X, m, d), by simp [k1], ⟨by simp [k2], fun i hi' => ?_⟩, (show Own w' lo hi _ _ _ _ _ _ from ⟨hst, k5⟩).wider hl hh, fun w2 hag i hi' => ?_⟩
  · obtain ⟨e0, e1, e2, e3⟩ := k3 i hi'
    rw [nthK_set (by omega), nth_set (by omega), cell_set e0, cell_set e1, cell_set e2, cell_set e3, if_neg (show ¬ i * 4 = j * 4 + 2 by omega), if_neg (show ¬ i * 4 + 1 = j * 4 + 2 by omega), if_neg (show ¬ i * 4 + 3 = j * 4 + 2 by omega)]
    by_cases hij : i = j
    · subst hij; simp [sl]
    · rw [if_neg hij, if_neg hij, if_neg (show ¬ i * 4 + 2 = j * 4 + 2 by omega)]; exact ⟨rfl, rfl, rfl, rfl⟩
  · rw [nthK_set (by omega), nth_set (by omega)]
    by_cases hij : i = j
    · subst hij
      rw [if_pos rfl, if_pos rfl]
      exact hx w2 hag
    · rw [if_neg hij, if_neg hij]
      have hs := ownSS_two k4 (k6 i hi').2 (by decide) (by decide) (j * 4 + 2) (.slice X m d)
      have hdis : (r i).2 ≤ (r j).1 ∨ (r j).2 ≤ (r i).1 := by
        rcases Nat.lt_or_gt_of_ne hij with h | h
        · exact k7 i j h hj
        · exact (k7 j i h hi').symm
      have hs2 := hs.keep (w' := w') fun q q1 q2 => hw q (by have := (k6 i hi').1; omega) (by have := (k6 i hi').1; omega) (by
        intro e
        obtain ⟨p0, ss, p1, p2, p3⟩ := (k6 j hj).2
        have b1 := (blk_of_own p2.1 q (hr2 q e)).1
        have b2 := p2.2 q (hr2 q e)
        omega)
      exact (ownSS_keepX hs2 hst (by decide) (by decide) fun q q1 q2 q3 => hag q (by have := (k6 i hi').1; omega) (by have := (k6 i hi').1; omega) q3).rd
theorem OwnPB.readNilO (h : OwnPB w lo hi (some ⟨g, 0, none⟩) n c ks) (hj : j < n) (X : Option Addr) (hw : ∀ q, lo ≤ q → q < hi → w'.heap[q]? = (w.setCell ⟨g, j * 4 + 2, none⟩ (.slice X 0 0)).heap[q]?) (hl : l2 ≤ lo) (hh : hi ≤ h2) :
    RowO w' l2 h2 (some ⟨g, 0, none⟩) n c (ks.set j { nthK ks j with fs := [] }) :=
  h.readSetO hj X 0 0 [] none (fun q hq => by cases hq) (fun q q1 q2 _ => hw q q1 q2) hl hh fun w2 _ => rdSS_none _ _
/-- the row of entries is one's own -/
def RowX (w : World) (base g n c : Nat) : Prop := ∃ ys, w.ownsRow base 95 4 (.slice (some ⟨g, 0, none⟩) n c) n ys
theorem OwnPB.rowX (h : OwnPB w lo hi (some ⟨g, 0, none⟩) n c ks) : RowX w lo g n c := by
  obtain ⟨h0, cs, es, r, k1, k2, k3, k6⟩ := h
  exact ⟨cs, k3.1⟩
theorem RowX.stored {base o : Nat} {u : Value} (h : RowX w base g n c) (hW : w.setCell ⟨g, o, none⟩ u = w') : RowX w' base g n c := by
  obtain ⟨ys, h⟩ := h
  exact ⟨_, hW ▸ (h.stored o u).1⟩
theorem RowX.off {base b o : Nat} {u : Value} (h : RowX w base g n c) (hb : b < base) (hW : w.setCell ⟨b, o, none⟩ u = w') : RowX w' base g n c := by
  obtain ⟨ys, h⟩ := h
  exact ⟨_, hW ▸ own_off h (by have := own_lo h g rfl; omega) u⟩
/-- frames of one's own read as long as all blocks but the row's stay -/
theorem fr_robust {a b m d base : Nat} {X : Option Addr} {xss : List (List Int)} (h : OwnSS w' a b X m d xss) (hr : RowX w' base g n c) (ha : l2 ≤ a) (hb : b ≤ h2) :
    ∀ w2 : World, (∀ q, l2 ≤ q → q < h2 → blk (some ⟨g, 0, none⟩) ≠ some q → w2.heap[q]? = w'.heap[q]?) → RdSS w2 X m d xss := by
  obtain ⟨ys, hr⟩ := hr
  exact fun w2 hag => (ownSS_keepX h hr (by decide) (by decide) fun q q1 q2 q3 => hag q (by omega) (by omega) q3).rd
end
/-- as RetPF, RetPN, with the row of entries one's own -/
def RetSF (w : World) (n : Nat) (ks : List Kt) (fr : List (List Int)) (x : Ending) (w' : World) : Prop :=
  ∃ A c F m d, x = .returned (.tuple #[.agg #[.slice A n c], .slice F m d]) ∧ RowO w' w.heap.size w'.heap.size A n c ks ∧ RdSS w' F m d fr ∧ Below w.heap.size w w'
def RetSN (w : World) (n : Nat) (ks : List Kt) (b : Bool) (x : Ending) (w' : World) : Prop :=
  ∃ A c, x = .returned (.tuple #[.agg #[.slice A n c], .bool b]) ∧ RowO w' w.heap.size w'.heap.size A n c ks ∧ Below w.heap.size w w'
end Go.Proofs.Ythdieeaegplnmaa.Pb
