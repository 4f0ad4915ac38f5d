/- Power buffers of one's own: one cell of an entry is stored into. -/
import Derived.Test.YthdieeaegplnmaaPbK
namespace Go.Proofs.Ythdieeaegplnmaa.Pb
open Go.RowKit
open Go.Proofs.Ythdieeaegplnmaa.Num Go.Proofs.Ythdieeaegplnmaa.Mem Go.Proofs.Ythdieeaegplnmaa.Hsh Go.Proofs.Ythdieeaegplnmaa.Sls Go.Proofs.Ythdieeaegplnmaa.Own Go.Proofs.Ythdieeaegplnmaa.SS Go.Proofs.Ythdieeaegplnmaa.Gb
set_option linter.unusedSimpArgs false
set_option linter.unusedVariables false
theorem own_two {w : World} {base base2 n m g c : Nat} {e e2 : TypeId} {sz sz2 : Nat} {v : Value} {xs ys : List Value} (h : w.ownsRow base e sz (.slice (some ⟨g, 0, none⟩) n c) n xs) (h2 : w.ownsRow base2 e2 sz2 v m ys) (he : e ≠ e2) (o : Nat) (u : Value) : (w.setCell ⟨g, o, none⟩ u).ownsRow base2 e2 sz2 v m ys := by
  obtain ⟨_, h⟩ := h
  obtain ⟨k1, k2⟩ := h2
  rcases h with ⟨h, _⟩ | ⟨q, cap, cur, hv, h3, h4, h5⟩
  · injection h with h; cases h
  · have hq : q = g := by injection hv with hv; injection hv with hv; injection hv with hv; exact hv.symm
    subst hq
    rcases k2 with k2 | ⟨q2, cap2, cur2, hv2, k3, k4, k5⟩
    · exact ⟨k1, .inl k2⟩
    · have hne : q2 ≠ q := by
        rintro rfl
        rw [h4] at k4
        simp only [Option.some.injEq, Obj.cells.injEq] at k4
        exact he k4.2.1
      exact ⟨k1, .inr ⟨q2, cap2, cur2, hv2, k3, (Below.heap_setCell w ⟨q, o, none⟩ u q2 hne).trans k4, k5⟩⟩
theorem ownSS_two {w : World} {base n g c : Nat} {e : TypeId} {sz lo hi m d : Nat} {A : Option Addr} {xs : List Value} {xss : List (List Int)} (h : w.ownsRow base e sz (.slice (some ⟨g, 0, none⟩) n c) n xs) (h2 : OwnSS w lo hi A m d xss) (he : e ≠ 25) (he2 : e ≠ 5) (o : Nat) (u : Value) : OwnSS (w.setCell ⟨g, o, none⟩ u) lo hi A m d xss := by
  obtain ⟨h0, ss, h1, k2, k3⟩ := h2
  exact ⟨h0, ss, h1, ⟨own_two h k2.1 he o u, k2.2⟩, ⟨fun i hi' => ⟨own_two h (k3.1 i hi').1 he2 o u, (k3.1 i hi').2⟩, k3.2⟩⟩
theorem nthK_set {ks : List Kt} {j i : Nat} {e : Kt} (hj : j < ks.length) : nthK (ks.set j e) i = if i = j then e else nthK ks i := by
  unfold nthK
  rw [List.getD_eq_getElem?_getD, List.getElem?_set]
  by_cases h : j = i
  · subst h; simp [hj]
  · rw [if_neg h, if_neg (fun e => h e.symm), List.getD_eq_getElem?_getD]
theorem cell_set {cs : List Value} {a b : Nat} {u v : Value} (h : cs[a]? = some v) : (cs.set b u)[a]? = some (if a = b then u else v) := by
  rw [List.getElem?_set]
  have hl : a < cs.length := by
    rcases Nat.lt_or_ge a cs.length with h1 | h1
    · exact h1
    · rw [List.getElem?_eq_none h1] at h; cases h
  by_cases e : b = a
  · subst e; simp [hl]
  · rw [if_neg e, if_neg (fun h => e h.symm), h]
section
variable {w : World} {lo hi h2 g n c j : Nat} {ks : List Kt}
theorem OwnPB.setAp (h : OwnPB w lo hi (some ⟨g, 0, none⟩) n c ks) (hj : j < n) (b : Bool) : OwnPB (w.setCell ⟨g, j * 4 + 1, none⟩ (.bool b)) lo hi (some ⟨g, 0, none⟩) n c (ks.set j { nthK ks j with ap := b }) := by
  obtain ⟨h0, cs, es, r, k1, ⟨k2, k3⟩, ⟨k4, k5⟩, k6, k7⟩ := h
  refine ⟨by simp [h0], cs.set (j * 4 + 1) (.bool b), es, r, k1, ⟨by simp [k2], fun i hi' => ?_⟩, ⟨(k4.stored _ (.bool b)).1, k5⟩, fun i hi' => ⟨(k6 i hi').1, ?_⟩, k7⟩
  · obtain ⟨e0, e1, e2, e3⟩ := k3 i hi'
    rw [nthK_set (by omega), cell_set e0, cell_set e1, cell_set e2, cell_set e3, if_neg (show ¬ i * 4 = j * 4 + 1 by omega), if_neg (show ¬ i * 4 + 2 = j * 4 + 1 by omega), if_neg (show ¬ i * 4 + 3 = j * 4 + 1 by omega)]
    by_cases hij : i = j
    · subst hij; rw [if_pos rfl, if_pos (show i * 4 + 1 = i * 4 + 1 from rfl)]; exact ⟨rfl, rfl, rfl, rfl⟩
    · rw [if_neg hij, if_neg (show ¬ i * 4 + 1 = j * 4 + 1 by omega)]; exact ⟨rfl, rfl, rfl, rfl⟩
  · have hs := ownSS_two k4 (k6 i hi').2 (by decide) (by decide) (j * 4 + 1) (.bool b)
    rw [nthK_set (by omega)]
    by_cases hij : i = j
    · subst hij; rw [if_pos rfl]; exact hs
    · rw [if_neg hij]; exact hs
theorem OwnPB.setLo (h : OwnPB w lo hi (some ⟨g, 0, none⟩) n c ks) (hj : j < n) (b : Int) : OwnPB (w.setCell ⟨g, j * 4 + 3, none⟩ (.int .i64 b)) lo hi (some ⟨g, 0, none⟩) n c (ks.set j { nthK ks j with lo := b }) := by
  obtain ⟨h0, cs, es, r, k1, ⟨k2, k3⟩, ⟨k4, k5⟩, k6, k7⟩ := h
  refine ⟨by simp [h0], cs.set (j * 4 + 3) (.int .i64 b), es, r, k1, ⟨by simp [k2], fun i hi' => ?_⟩, ⟨(k4.stored _ (.int .i64 b)).1, k5⟩, fun i hi' => ⟨(k6 i hi').1, ?_⟩, k7⟩
  · obtain ⟨e0, e1, e2, e3⟩ := k3 i hi'
    rw [nthK_set (by omega), cell_set e0, cell_set e1, cell_set e2, cell_set e3, if_neg (show ¬ i * 4 = j * 4 + 3 by omega), if_neg (show ¬ i * 4 + 1 = j * 4 + 3 by omega), if_neg (show ¬ i * 4 + 2 = j * 4 + 3 by omega)]
    by_cases hij : i = j
    · subst hij; rw [if_pos rfl, if_pos (show i * 4 + 3 = i * 4 + 3 from rfl)]; exact ⟨rfl, rfl, rfl, rfl⟩
    · rw [if_neg hij, if_neg (show ¬ i * 4 + 3 = j * 4 + 3 by omega)]; exact ⟨rfl, rfl, rfl, rfl⟩
  · have hs := ownSS_two k4 (k6 i hi').2 (by decide) (by decide) (j * 4 + 3) (.int .i64 b)
    rw [nthK_set (by omega)]
    by_cases hij : i = j
    · subst hij; rw [if_pos rfl]; exact hs
    · rw [if_neg hij]; exact hs
theorem nth_set {es : List Sl} {i : Nat} {s : Sl} (hj : j < es.length) : nth (es.set j s) i = if i = j then s else nth es i := by
  unfold nth
  rw [List.getD_eq_getElem?_getD, List.getElem?_set]
  by_cases h : j = i
  · subst h; simp [hj]
  · rw [if_neg h, if_neg (fun e => h e.symm), List.getD_eq_getElem?_getD]
theorem OwnPB.setFs (h : OwnPB w lo hi (some ⟨g, 0, none⟩) n c ks) (hj : j < n) (s : Sl) (xss : List (List Int)) (hs : OwnSS w hi h2 s.1 s.2.1 s.2.2 xss) (hlo : lo ≤ hi) (hh : hi ≤ h2) : OwnPB (w.setCell ⟨g, j * 4 + 2, none⟩ (sl s)) lo h2 (some ⟨g, 0, none⟩) n c (ks.set j { nthK ks j with fs := xss }) := by
  obtain ⟨h0, cs, es, r, k1, ⟨k2, k3⟩, ⟨k4, k5⟩, k6, k7⟩ := h
  refine ⟨by simp [h0], cs.set (j * 4 + 2) (sl s), es.set j s, ext r j (hi, h2), by simp [k1], ⟨by simp [k2], fun i hi' => ?_⟩, ⟨(k4.stored _ (sl s)).1, fun g' e => Nat.lt_of_lt_of_le (k5 g' e) hh⟩, fun i hi' => ?_, fun i i2 hlt hi2 => ?_⟩
  · obtain ⟨e0, e1, e2, e3⟩ := k3 i hi'
    rw [nthK_set (by omega), nth_set (by omega), cell_set e0, cell_set e1, cell_set e2, cell_set e3, if_neg (show ¬ i * 4 = j * 4 + 2 by omega), if_neg (show ¬ i * 4 + 1 = j * 4 + 2 by omega), if_neg (show ¬ i * 4 + 3 = j * 4 + 2 by omega)]
    by_cases hij : i = j
    · subst hij; simp
    · rw [if_neg hij, if_neg hij, if_neg (show ¬ i * 4 + 2 = j * 4 + 2 by omega)]; exact ⟨rfl, rfl, rfl, rfl⟩
  · rw [nthK_set (by omega), nth_set (by omega)]
    by_cases hij : i = j
    · subst hij
      have e : ext r i (hi, h2) i = (hi, h2) := by unfold ext; rw [if_pos rfl]
      rw [if_pos rfl, if_pos rfl, e]
      exact ⟨⟨hlo, hh, Nat.le_refl _⟩, ownSS_two k4 hs (by decide) (by decide) _ _⟩
    · have e : ext r j (hi, h2) i = r i := by unfold ext; rw [if_neg hij]
      rw [if_neg hij, if_neg hij, e]
      exact ⟨by have := (k6 i hi').1; omega, ownSS_two k4 (k6 i hi').2 (by decide) (by decide) _ _⟩
  · by_cases h3 : i = j
    · subst h3
      have e : ext r i (hi, h2) i = (hi, h2) := by unfold ext; rw [if_pos rfl]
      have e2 : ext r i (hi, h2) i2 = r i2 := by unfold ext; rw [if_neg (by omega)]
      rw [e, e2]
      exact .inr (k6 i2 hi2).1.2.2
    · have e : ext r j (hi, h2) i = r i := by unfold ext; rw [if_neg h3]
      rw [e]
      by_cases h4 : i2 = j
      · subst h4
        have e2 : ext r i2 (hi, h2) i2 = (hi, h2) := by unfold ext; rw [if_pos rfl]
        rw [e2]
        exact .inl (k6 i (by omega)).1.2.2
      · have e2 : ext r j (hi, h2) i2 = r i2 := by unfold ext; rw [if_neg h4]
        rw [e2]
        exact k7 i i2 hlt hi2
end
/-- reads as ks as long as the blocks from lo on and below hi stay as they are -/
def PbIn (w : World) (lo hi : Nat) (A : Option Addr) (n c : Nat) (ks : List Kt) : Prop := ∀ w2 : World, (∀ q, lo ≤ q → q < hi → w2.heap[q]? = w.heap[q]?) → RdPB w2 A n c ks
theorem PbIn.rd {w : World} {lo hi n c : Nat} {A : Option Addr} {ks : List Kt} (h : PbIn w lo hi A n c ks) : RdPB w A n c ks := h w fun _ _ _ => rfl
theorem OwnPB.pbIn {w : World} {lo hi l2 h2 n c : Nat} {A : Option Addr} {ks : List Kt} (h : OwnPB w lo hi A n c ks) (hl : l2 ≤ lo) (hh : hi ≤ h2) : PbIn w l2 h2 A n c ks := fun w2 hag => (h.keep fun g h1 h2 => hag g (by omega) (by omega)).rd
theorem PbIn.keep {w w' : World} {lo hi n c : Nat} {A : Option Addr} {ks : List Kt} (h : PbIn w lo hi A n c ks) (hk : ∀ q, lo ≤ q → q < hi → w'.heap[q]? = w.heap[q]?) : PbIn w' lo hi A n c ks := fun w2 hag => h w2 fun q h1 h2 => (hag q h1 h2).trans (hk q h1 h2)
end Go.Proofs.Ythdieeaegplnmaa.Pb
