/- Two growing lists of frames of one's own, side by side. -/
import Derived.Test.YthdieeaegplnmaaPbF
namespace Go.Proofs.Ythdieeaegplnmaa.Pb
open Go.RowKit
open Go.Proofs.Ythdieeaegplnmaa.Num Go.Proofs.Ythdieeaegplnmaa.Mem Go.Proofs.Ythdieeaegplnmaa.Hsh Go.Proofs.Ythdieeaegplnmaa.Sls Go.Proofs.Ythdieeaegplnmaa.Own Go.Proofs.Ythdieeaegplnmaa.SS Go.Proofs.Ythdieeaegplnmaa.Gb
set_option linter.unusedSimpArgs false
set_option linter.unusedVariables false
/-- the frames are readable, and lie in neither row -/
def Els (w : World) (ss : List Sl) (xs : List (List Int)) (n L : Nat) (X Y : Option Nat) : Prop :=
  ∀ i, i < n → Rd w 1 (nth ss i).1 (nth ss i).2.1 (nth ss i).2.2 ((xs.getD i []).map (Value.int .u8)) ∧ ∀ q, blk (nth ss i).1 = some q → L ≤ q ∧ q < w.heap.size ∧ X ≠ some q ∧ Y ≠ some q
/-- two lists of frames -/
def TwoL (w : World) (L : Nat) (A : Option Addr) (n c : Nat) (xs : List (List Int)) (B : Option Addr) (m d : Nat) (ys : List (List Int)) : Prop :=
  L ≤ w.heap.size ∧ ∃ ss ts : List Sl, (ss.length = n ∧ ts.length = m ∧ xs.length = n ∧ ys.length = m) ∧ w.ownsRow L 25 1 (.slice A n c) n (ss.map sl) ∧ w.ownsRow L 25 1 (.slice B m d) m (ts.map sl) ∧ Els w ss xs n L (blk A) (blk B) ∧ Els w ts ys m L (blk A) (blk B) ∧ ∀ q, blk A = some q → blk B ≠ some q
section
variable {w w' : World} {L n c m d : Nat} {A B X' : Option Addr} {X Y : Option Nat} {xs ys : List (List Int)} {ss ts : List Sl}
theorem Els.keep (h : Els w ss xs n L X Y) (hs : w.heap.size ≤ w'.heap.size) (hk : ∀ q, L ≤ q → q < w.heap.size → w'.heap[q]? = w.heap[q]?) : Els w' ss xs n L X Y := fun i hi => by
  obtain ⟨h1, h2⟩ := h i hi
  exact ⟨h1.keep fun _ g hA hlt => hk g (h2 g hA).1 hlt, fun q hq => ⟨(h2 q hq).1, Nat.lt_of_lt_of_le (h2 q hq).2.1 hs, (h2 q hq).2.2⟩⟩
theorem TwoL.keep (h : TwoL w L A n c xs B m d ys) (hs : w.heap.size ≤ w'.heap.size) (hk : ∀ q, L ≤ q → q < w.heap.size → w'.heap[q]? = w.heap[q]?) : TwoL w' L A n c xs B m d ys := by
  obtain ⟨h0, ss, ts, h1, h2, h3, h4, h5, h6⟩ := h
  exact ⟨Nat.le_trans h0 hs, ss, ts, h1, ((Own.of h2).keep hk).1, ((Own.of h3).keep hk).1, h4.keep hs hk, h5.keep hs hk, h6⟩
theorem TwoL.below (h : TwoL w L A n c xs B m d ys) (hb : Below w.heap.size w w') : TwoL w' L A n c xs B m d ys := h.keep hb.size fun q _ hq => hb.block q hq
theorem TwoL.setBox {b o : Nat} (h : TwoL w L A n c xs B m d ys) (hb : b < L) (u : Value) : TwoL (w.setCell ⟨b, o, none⟩ u) L A n c xs B m d ys := h.keep (by rw [Bk.size_set]; exact Nat.le_refl _) fun q h1 _ => Below.heap_setCell _ _ _ q (by simp; omega)
theorem Els.swap (h : Els w ss xs n L X Y) : Els w ss xs n L Y X := fun i hi => ⟨(h i hi).1, fun q hq => ⟨((h i hi).2 q hq).1, ((h i hi).2 q hq).2.1, ((h i hi).2 q hq).2.2.2, ((h i hi).2 q hq).2.2.1⟩⟩
theorem TwoL.swap (h : TwoL w L A n c xs B m d ys) : TwoL w L B m d ys A n c xs := by
  obtain ⟨h0, ss, ts, h1, h2, h3, h4, h5, h6⟩ := h
  exact ⟨h0, ts, ss, ⟨h1.2.1, h1.1, h1.2.2.2, h1.2.2.1⟩, h3, h2, h5.swap, h4.swap, fun q hq e => h6 q e hq⟩
theorem TwoL.rd (h : TwoL w L A n c xs B m d ys) : RdSS w A n c xs := by
  obtain ⟨h0, ss, ts, h1, h2, h3, h4, h5, h6⟩ := h
  have hr := Rd.of_own h2
  refine ⟨h1.2.2.1, hr.2.1, hr.2.2.1, fun hp => ?_⟩
  obtain ⟨g, o, rfl, hc⟩ := hr.2.2.2.2 (by simp; omega)
  refine ⟨g, o, rfl, fun j hj => ⟨(nth ss j).1, (nth ss j).2.1, (nth ss j).2.2, ?_, (h4 j hj).1⟩⟩
  rw [hc j (by simp; omega), nth_map (by omega)]
  rfl
theorem TwoL.fresh (h : TwoL w L A n c xs B m d ys) {q : Nat} (hq : w.heap.size ≤ q) : L ≤ q ∧ blk A ≠ some q ∧ blk B ≠ some q := by
  obtain ⟨h0, ss, ts, h1, h2, h3, h4, h5, h6⟩ := h
  refine ⟨Nat.le_trans h0 hq, fun e => ?_, fun e => ?_⟩
  · have := (blk_of_own h2 q e).2; omega
  · have := (blk_of_own h3 q e).2; omega
theorem Els.grown (h : Els w ss xs n L X Y) (hg : w.grownBy w' X) {Z : Option Nat} (hZ : Z = X ∨ Z = some w.heap.size) : Els w' ss xs n L Z Y := fun i hi => by
  obtain ⟨h1, h2⟩ := h i hi
  refine ⟨h1.keep fun _ g hA hlt => hg.block g hlt (fun e => (h2 g hA).2.2.1 e.symm), fun q hq => ?_⟩
  obtain ⟨k1, k2, k3, k4⟩ := h2 q hq
  refine ⟨k1, Nat.lt_of_lt_of_le k2 hg.size, ?_, k4⟩
  rcases hZ with rfl | rfl
  · exact k3
  · intro e; injection e with e; omega
theorem Els.step (h : Els w ss xs n L X Y) (h1 : ss.length = n) (h2 : xs.length = n) {D : Option Addr} {dn dc : Nat} {bs : List Int} (hd : Rd w 1 D dn dc (bs.map (Value.int .u8))) (hq : ∀ q, blk D = some q → L ≤ q ∧ q < w.heap.size ∧ X ≠ some q ∧ Y ≠ some q) : Els w (ss ++ [(D, dn, dc)]) (xs ++ [bs]) (n + 1) L X Y := fun i hi => by
  rcases Nat.lt_or_ge i n with h3 | h3
  · rw [nth_old (by omega), show (xs ++ [bs]).getD i [] = xs.getD i [] by rw [List.getD_eq_getElem?_getD, List.getElem?_append_left (by omega), List.getD_eq_getElem?_getD]]
    exact h i h3
  · obtain rfl : i = n := by omega
    rw [nth_new h1, show (xs ++ [bs]).getD i [] = bs by rw [List.getD_eq_getElem?_getD, List.getElem?_append_right (by omega), h2, Nat.sub_self]; rfl]
    exact ⟨hd, hq⟩
/-- an append onto the first list -/
theorem TwoL.app (h : TwoL w L A n c xs B m d ys) : ∃ ss : List Sl, w.ownsRow L 25 1 (.slice A n c) n (ss.map sl) ∧
    ∀ (w' : World) (D : Option Addr) (dn dc : Nat) (bs : List Int) (A' : Option Addr) (c' : Nat), Rd w 1 D dn dc (bs.map (Value.int .u8)) → (∀ q, blk D = some q → L ≤ q ∧ q < w.heap.size ∧ blk A ≠ some q ∧ blk B ≠ some q) →
      w'.ownsRow L 25 1 (.slice A' (n + 1) c') (n + 1) (ss.map sl ++ [.slice D dn dc]) → w.grownBy w' (blk A) → (blk A' = blk A ∨ blk A' = some w.heap.size) → TwoL w' L A' (n + 1) c' (xs ++ [bs]) B m d ys := by
  obtain ⟨h0, ss, ts, ⟨h1, h1b, h1c, h1d⟩, h2, h3, h4, h5, h6⟩ := h
  refine ⟨ss, h2, fun w' D dn dc bs A' c' hd hq hown hg hA => ?_⟩
  have hB : ∀ q, blk B = some q → q < w.heap.size := fun q hq => (blk_of_own h3 q hq).2
  refine ⟨Nat.le_trans h0 hg.size, ss ++ [(D, dn, dc)], ts, ⟨by simp [h1], h1b, by simp [h1c], h1d⟩, by rw [List.map_append]; exact hown, ?_, (h4.step h1 h1c hd hq).grown hg hA, h5.grown hg hA, ?_⟩
  · have hk := (Own.of h3)
    obtain ⟨l1, l2⟩ := h3
    rcases l2 with l2 | ⟨g, cap, cur, hv, k3, k4, k5⟩
    · exact ⟨l1, .inl l2⟩
    · have hbB : blk B = some g := by injection hv with hv; rw [hv]; rfl
      exact ⟨l1, .inr ⟨g, cap, cur, hv, k3, (hg.block g (hB g hbB) (fun e => h6 g e.symm hbB)).trans k4, k5⟩⟩
  · intro q hq e
    rcases hA with hA | hA
    · rw [hA] at hq; exact h6 q hq e
    · rw [hA] at hq; injection hq with hq; have := hB q e; omega
end
theorem twoL_start {W W1 W2 : World} (h1 : W.alloc (.cells #[] 25) = W1) (h2 : W1.alloc (.cells #[] 25) = W2) : TwoL W2 W.heap.size (some ⟨W.heap.size, 0, none⟩) 0 0 [] (some ⟨W1.heap.size, 0, none⟩) 0 0 [] := by
  have z1 : W1.heap.size = W.heap.size + 1 := by rw [← h1]; simp
  have z2 : W2.heap.size = W1.heap.size + 1 := by rw [← h2]; simp
  refine ⟨by omega, [], [], ⟨rfl, rfl, rfl, rfl⟩, own_toA (own_freshA h1 (Nat.le_refl _)) h2, own_monoA (own_freshA h2 (Nat.le_refl _)) (by omega), fun i h => absurd h (Nat.not_lt_zero _), fun i h => absurd h (Nat.not_lt_zero _), fun q hq e => ?_⟩
  simp only [blk, Option.map_some, Option.some.injEq] at hq e
  omega
end Go.Proofs.Ythdieeaegplnmaa.Pb
