/- Power buffers: an entry put in (plain). -/
import Derived.Test.YthdieeaegplnmaaPbU
namespace Go.Proofs.Ythdieeaegplnmaa.Pb
open Go.RowKit
open Go.Proofs.Ythdieeaegplnmaa.Num Go.Proofs.Ythdieeaegplnmaa.Mem Go.Proofs.Ythdieeaegplnmaa.Hsh Go.Proofs.Ythdieeaegplnmaa.Sls Go.Proofs.Ythdieeaegplnmaa.Own Go.Proofs.Ythdieeaegplnmaa.SS Go.Proofs.Ythdieeaegplnmaa.Gb
set_option linter.unusedSimpArgs false
set_option linter.unusedVariables false
theorem rd4_take {w : World} {A : Option Addr} {n c j : Nat} {xs : List Value} (h : Mem.Rd w 4 A n c xs) (hj : j ≤ n) : Mem.Rd w 4 A j c (xs.take (j * 4)) := by
  obtain ⟨h1, h2, h3, h4, h5⟩ := h
  refine ⟨by simp; omega, by omega, h3, h4, fun hp => ?_⟩
  obtain ⟨g, o, e, hc⟩ := h5 (by simp at hp ⊢; omega)
  refine ⟨g, o, e, fun i hi => ?_⟩
  simp only [List.length_take] at hi
  rw [hc i (by omega), List.getElem?_take, if_pos (by omega)]
theorem rd4_drop {w : World} {g n c j : Nat} {xs : List Value} (h : Mem.Rd w 4 (some ⟨g, 0, none⟩) n c xs) (hj : j ≤ n) : Mem.Rd w 4 (if c = j then some ⟨g, 0, none⟩ else some ⟨g, j * 4, none⟩) (n - j) (c - j) (xs.drop (j * 4)) := by
  obtain ⟨h1, h2, h3, h4, h5⟩ := h
  refine ⟨by simp; omega, by omega, by omega, (fun h => by split at h <;> cases h), fun hp => ?_⟩
  simp only [List.length_drop] at hp
  obtain ⟨g', o', e, hc⟩ := h5 (by omega)
  simp only [Option.some.injEq, Addr.mk.injEq, and_true] at e
  obtain ⟨rfl, rfl⟩ := e
  rw [if_neg (by omega)]
  refine ⟨g, j * 4, rfl, fun i hi => ?_⟩
  simp only [List.length_drop] at hi
  have := hc (j * 4 + i) (by omega)
  rw [Nat.zero_add] at this
  rw [this, List.getElem?_drop]
theorem get_ins {α : Type} (l m : List α) {a : Nat} (ha : a ≤ l.length) (i : Nat) : (l.take a ++ m ++ l.drop a)[i]? = if i < a then l[i]? else if i < a + m.length then m[i - a]? else l[i - m.length]? := by
  have hl : (l.take a).length = a := by simp; omega
  by_cases h1 : i < a
  · rw [if_pos h1, List.append_assoc, List.getElem?_append_left (by omega), List.getElem?_take, if_pos h1]
  · rw [if_neg h1]
    by_cases h2 : i < a + m.length
    · rw [if_pos h2, List.append_assoc, List.getElem?_append_right (by omega), hl, List.getElem?_append_left (by omega)]
    · rw [if_neg h2, List.getElem?_append_right (by simp; omega), List.getElem?_drop]
      congr 1
      simp; omega
/-- the entry e put in at index a -/
def insK (ks : List Kt) (a : Nat) (e : Kt) : List Kt := ks.take a ++ [e] ++ ks.drop a
theorem insK_len {ks : List Kt} {a n : Nat} {e : Kt} (hl : ks.length = n) (ha : a ≤ n) : (insK ks a e).length = n + 1 := by unfold insK; simp; omega
theorem nthK_ins {ks : List Kt} {a : Nat} {e : Kt} (ha : a ≤ ks.length) (i : Nat) : nthK (insK ks a e) i = if i < a then nthK ks i else if i = a then e else nthK ks (i - 1) := by
  unfold nthK insK
  rw [List.getD_eq_getElem?_getD, get_ins ks [e] ha]
  by_cases h1 : i < a
  · rw [if_pos h1, if_pos h1, List.getD_eq_getElem?_getD]
  · rw [if_neg h1, if_neg h1]
    by_cases h2 : i = a
    · subst h2; simp
    · rw [if_neg h2, if_neg (by simp; omega), List.getD_eq_getElem?_getD]; rfl
def insE (es : List Sl) (a : Nat) (s : Sl) : List Sl := es.take a ++ [s] ++ es.drop a
theorem nth_ins {es : List Sl} {a : Nat} {s : Sl} (ha : a ≤ es.length) (i : Nat) : nth (insE es a s) i = if i < a then nth es i else if i = a then s else nth es (i - 1) := by
  unfold nth insE
  rw [List.getD_eq_getElem?_getD, get_ins es [s] ha]
  by_cases h1 : i < a
  · rw [if_pos h1, if_pos h1, List.getD_eq_getElem?_getD]
  · rw [if_neg h1, if_neg h1]
    by_cases h2 : i = a
    · subst h2; simp
    · rw [if_neg h2, if_neg (by simp; omega), List.getD_eq_getElem?_getD]; rfl
/-- the cells of one entry -/
def cellsK (e : Kt) (s : Sl) : List Value := [.int .i64 e.st, .bool e.ap, sl s, .int .i64 e.lo]
theorem cells_ins {cs : List Value} {ks : List Kt} {es : List Sl} {n a : Nat} {e : Kt} {s : Sl} (h : CellsK cs ks es n) (hk : ks.length = n) (he : es.length = n) (ha : a ≤ n) :
    CellsK (cs.take (a * 4) ++ cellsK e s ++ cs.drop (a * 4)) (insK ks a e) (insE es a s) (n + 1) := by
  obtain ⟨h1, h2⟩ := h
  have h4 : (cellsK e s).length = 4 := rfl
  refine ⟨by simp [h4]; omega, fun i hi => ?_⟩
  rw [nthK_ins (by omega), nth_ins (by omega), get_ins _ _ (by omega), get_ins _ _ (by omega), get_ins _ _ (by omega), get_ins _ _ (by omega), h4]
  by_cases g1 : i < a
  · obtain ⟨e0, e1, e2, e3⟩ := h2 i (by omega)
    simp only [show i * 4 < a * 4 by omega, show i * 4 + 1 < a * 4 by omega, show i * 4 + 2 < a * 4 by omega, show i * 4 + 3 < a * 4 by omega, g1, if_true]
    exact ⟨e0, e1, e2, e3⟩
  · simp only [show ¬ i * 4 < a * 4 by omega, show ¬ i * 4 + 1 < a * 4 by omega, show ¬ i * 4 + 2 < a * 4 by omega, show ¬ i * 4 + 3 < a * 4 by omega, g1, if_false]
    by_cases g2 : i = a
    · subst g2
      simp only [show i * 4 < i * 4 + 4 by omega, show i * 4 + 1 < i * 4 + 4 by omega, show i * 4 + 2 < i * 4 + 4 by omega, show i * 4 + 3 < i * 4 + 4 by omega, if_true, Nat.sub_self, show i * 4 + 1 - i * 4 = 1 by omega, show i * 4 + 2 - i * 4 = 2 by omega, show i * 4 + 3 - i * 4 = 3 by omega]
      exact ⟨rfl, rfl, rfl, rfl⟩
    · obtain ⟨e0, e1, e2, e3⟩ := h2 (i - 1) (by omega)
      simp only [show ¬ i * 4 < a * 4 + 4 by omega, show ¬ i * 4 + 1 < a * 4 + 4 by omega, show ¬ i * 4 + 2 < a * 4 + 4 by omega, show ¬ i * 4 + 3 < a * 4 + 4 by omega, g2, if_false]
      rw [show i * 4 - 4 = (i - 1) * 4 by omega, show i * 4 + 1 - 4 = (i - 1) * 4 + 1 by omega, show i * 4 + 2 - 4 = (i - 1) * 4 + 2 by omega, show i * 4 + 3 - 4 = (i - 1) * 4 + 3 by omega]
      exact ⟨e0, e1, e2, e3⟩
def insR (r : Nat → Nat × Nat) (a : Nat) (p : Nat × Nat) : Nat → Nat × Nat := fun i => if i < a then r i else if i = a then p else r (i - 1)
theorem in_ins {w : World} {lo hi h2 n a : Nat} {es : List Sl} {ks : List Kt} {r : Nat → Nat × Nat} {e : Kt} {s : Sl} (h : InPB w lo hi es ks r n) (hk : ks.length = n) (he : es.length = n) (ha : a ≤ n) (hs : OwnSS w hi h2 s.1 s.2.1 s.2.2 e.fs) (hlo : lo ≤ hi) (hh : hi ≤ h2) :
    InPB w lo h2 (insE es a s) (insK ks a e) (insR r a (hi, h2)) (n + 1) := by
  refine ⟨fun i hi' => ?_, fun i j hij hj => ?_⟩
  · rw [nthK_ins (by omega), nth_ins (by omega)]
    unfold insR
    by_cases g1 : i < a
    · simp only [g1, if_true]
      exact ⟨by have := (h.1 i (by omega)).1; omega, (h.1 i (by omega)).2⟩
    · by_cases g2 : i = a
      · simp only [g1, g2, if_true, if_false, Nat.lt_irrefl]
        exact ⟨⟨hlo, hh, Nat.le_refl _⟩, hs⟩
      · simp only [g1, g2, if_false]
        exact ⟨by have := (h.1 (i - 1) (by omega)).1; omega, (h.1 (i - 1) (by omega)).2⟩
  · have R : ∀ l, insR r a (hi, h2) l = if l < a then r l else if l = a then (hi, h2) else r (l - 1) := fun l => rfl
    rw [R i, R j]
    by_cases g1 : i < a
    · by_cases g2 : j < a
      · simp only [g1, g2, if_true]; exact h.2 i j hij (by omega)
      · by_cases g3 : j = a
        · simp only [g1, g2, g3, if_true, if_false, Nat.lt_irrefl]; exact .inl (h.1 i (by omega)).1.2.2
        · simp only [g1, g2, g3, if_true, if_false]; exact h.2 i (j - 1) (by omega) (by omega)
    · by_cases g4 : i = a
      · simp only [g1, g4, show ¬ j < a by omega, show ¬ j = a by omega, if_true, if_false, Nat.lt_irrefl]
        exact .inr (h.1 (j - 1) (by omega)).1.2.2
      · simp only [g1, g4, show ¬ j < a by omega, show ¬ j = a by omega, if_false]
        exact h.2 (i - 1) (j - 1) (by omega) (by omega)
/-- the parts of a power buffer of one's own -/
theorem OwnPB.parts {w : World} {lo hi n c : Nat} {A : Option Addr} {ks : List Kt} (h : OwnPB w lo hi A n c ks) :
    ks.length = n ∧ ∃ (cs : List Value) (es : List Sl) (r : Nat → Nat × Nat), es.length = n ∧ CellsK cs ks es n ∧ w.ownsRow lo 95 4 (.slice A n c) n cs ∧ InPB w lo hi es ks r n := by
  obtain ⟨h0, cs, es, r, h1, h2, h3, h4⟩ := h
  exact ⟨h0, cs, es, r, h1, h2, h3.1, h4⟩
theorem cells_oneK {cs : List Value} {ks : List Kt} {es : List Sl} {n : Nat} (h : CellsK cs ks es n) : ∀ u ∈ cs, u.oneCell' = true := by
  intro u hu
  obtain ⟨i, hi, rfl⟩ := List.mem_iff_getElem.1 hu
  obtain ⟨h1, h2⟩ := h
  obtain ⟨e0, e1, e2, e3⟩ := h2 (i / 4) (by omega)
  have hd : i = i / 4 * 4 + i % 4 := by omega
  have h3 : i % 4 = 0 ∨ i % 4 = 1 ∨ i % 4 = 2 ∨ i % 4 = 3 := by omega
  have hg : cs[i]? = some cs[i] := List.getElem?_eq_getElem hi
  rcases h3 with h3 | h3 | h3 | h3
  · rw [show i / 4 * 4 = i by omega, hg] at e0; injection e0 with e0; rw [e0]; rfl
  · rw [show i / 4 * 4 + 1 = i by omega, hg] at e1; injection e1 with e1; rw [e1]; rfl
  · rw [show i / 4 * 4 + 2 = i by omega, hg] at e2; injection e2 with e2; rw [e2]; rfl
  · rw [show i / 4 * 4 + 3 = i by omega, hg] at e3; injection e3 with e3; rw [e3]; rfl
theorem one_take {cs : List Value} (h : ∀ u ∈ cs, u.oneCell' = true) (k : Nat) : ∀ u ∈ cs.take k, u.oneCell' = true := fun u hu => h u (List.mem_of_mem_take hu)
theorem one_drop {cs : List Value} (h : ∀ u ∈ cs, u.oneCell' = true) (k : Nat) : ∀ u ∈ cs.drop k, u.oneCell' = true := fun u hu => h u (List.mem_of_mem_drop hu)
theorem rd_litK (w : World) (e : Kt) (s : Sl) (t : TypeId) : Mem.Rd (w.alloc (.cells #[.int .i64 e.st, .bool e.ap, sl s, .int .i64 e.lo] t)) 4 (some ⟨w.heap.size, 0, none⟩) 1 1 (cellsK e s) :=
  ⟨rfl, Nat.le_refl _, (by unfold maxLen; omega), (fun e => by cases e), fun _ => ⟨_, _, rfl, fun j hj => by
    have h4 : j < 4 := hj
    rw [Nat.zero_add, (Bk.Blk.newAt (w := w) rfl t _).cell j]
    simp [cellsK]⟩⟩
theorem one_cellsK (e : Kt) (s : Sl) : ∀ u ∈ cellsK e s, u.oneCell' = true := by
  intro u hu
  simp [cellsK] at hu
  rcases hu with rfl | rfl | rfl | rfl <;> rfl
/-- the entry put in, in memory of one's own -/
theorem ins_own {w : World} {L lo hi h2 n a c' : Nat} {A : Option Addr} {es : List Sl} {ks : List Kt} {cs : List Value} {r : Nat → Nat × Nat} {e : Kt} {s : Sl}
    (hc : CellsK cs ks es n) (hk : ks.length = n) (he : es.length = n) (ha : a ≤ n) (hI : InPB w lo hi es ks r n) (hs : OwnSS w hi h2 s.1 s.2.1 s.2.2 e.fs) (hlo : lo ≤ hi) (hh : hi ≤ h2) (hL : L ≤ lo) (h2w : h2 ≤ w.heap.size)
    (hown : w.ownsRow L 95 4 (.slice A (n + 1) c') (n + 1) (cs.take (a * 4) ++ cellsK e s ++ cs.drop (a * 4))) :
    OwnPB w L w.heap.size A (n + 1) c' (insK ks a e) :=
  ⟨insK_len hk ha, _, insE es a s, insR r a (hi, h2), by unfold insE; simp; omega, cells_ins hc hk he ha, Own.of hown, (in_ins hI hk he ha hs hlo hh).wider hL h2w⟩
end Go.Proofs.Ythdieeaegplnmaa.Pb
