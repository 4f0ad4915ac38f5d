/- An argument that is a power buffer's slice of entries, opened. -/
import Derived.Test.YthdieeaegplnmaaOpenSS
import Derived.Test.YthdieeaegplnmaaPb
namespace Go.Proofs.Ythdieeaegplnmaa.OpenPB
open Go.ChangeShapes Go.WideShapes Go.RowKit Go.Deep
open Go.Proofs.Ythdieeaegplnmaa.Mem Go.Proofs.Ythdieeaegplnmaa.SS Go.Proofs.Ythdieeaegplnmaa.Pb
variable {H : Type} {enc : TypeId × Value → H} {P : Program} {w : World} {base : Nat} {spare : Nat → Bool} {held : Bool}
theorem nthK_old {ks : List Kt} {k : Kt} {i : Nat} (h : i < ks.length) : nthK (ks ++ [k]) i = nthK ks i := by
  simp [nthK, List.getD, List.getElem?_append_left h]
theorem nthK_new {ks : List Kt} {k : Kt} {n : Nat} (h : ks.length = n) : nthK (ks ++ [k]) n = k := by
  subst h; simp [nthK, List.getD]
theorem kts_of {Q : Nat → Kt → Prop} (N : Nat) (h : ∀ j, j < N → ∃ k, Q j k) : ∃ ks : List Kt, ks.length = N ∧ ∀ j, j < N → Q j (nthK ks j) := by
  induction N with
  | zero => exact ⟨[], rfl, fun j hj => absurd hj (by omega)⟩
  | succ N ih =>
    obtain ⟨ks, h1, h2⟩ := ih fun j hj => h j (by omega)
    obtain ⟨k, hk⟩ := h N (by omega)
    refine ⟨ks ++ [k], by simp [h1], fun j hj => ?_⟩
    rcases Nat.lt_or_ge j N with h3 | h3
    · rw [nthK_old (by omega)]; exact h2 j h3
    · obtain rfl : j = N := by omega
      rw [nthK_new h1]; exact hk
theorem open_kts {t e q q2 : TypeId} {f0 f1 f2 f3 : Field} {fuel : Nat} {cs : List Value} {x : DataW H × List MemPlace} (ht : P.underlying t = some (.slice e)) (he : P.underlying e = some (.struct #[f0, f1, f2, f3]))
    (hone : oneCellFields P #[f0, f1, f2, f3] = true) (hC : P.cellsOf e = 4) (h0 : P.underlying f0.type = some (.int .i64)) (h1 : P.underlying f1.type = some .bool) (h2 : P.underlying f2.type = some (.slice q)) (h3 : P.underlying f3.type = some (.int .i64))
    (hq : P.underlying q = some (.slice q2)) (hq2 : P.underlying q2 = some (.int .u8)) (cq : P.cellsOf q = 1) (cq2 : P.cellsOf q2 = 1) (h : DataW.trod enc P w base spare held fuel t cs = some x) :
    ∃ (A : Option Addr) (n c : Nat) (ks : List Kt), cs = [.slice A n c] ∧ RdPB w A n c ks := by
  rcases open_slice ht h with ⟨hcs, _⟩ | ⟨a, len, cap, m, n, D, Pl, hcs, _, hl, hm, hmm, _, hi⟩
  · exact ⟨none, 0, 0, [], hcs, ⟨rfl, Nat.le_refl _, by omega, fun h => absurd h (by omega)⟩⟩
  · have hcell : ∀ j, j < len → ∃ k : Kt, ∃ A' n' c', w.cell? (a.add (j * 4)) = some (.int .i64 k.st) ∧ w.cell? (a.add (j * 4 + 1)) = some (.bool k.ap) ∧ w.cell? (a.add (j * 4 + 2)) = some (.slice A' n' c') ∧ w.cell? (a.add (j * 4 + 3)) = some (.int .i64 k.lo) ∧ RdSS w A' n' c' k.fs := by
      intro j hj
      obtain ⟨cs', hc, ht'⟩ := hi j (by rw [hmm]; split <;> omega)
      rw [hC] at hc
      obtain ⟨ys, n', _, _, hlen, hyl, hf⟩ := DataW.trod_struct he ht'
      obtain ⟨_, hcl, hat⟩ := World.cells?_some hc
      have hone' : ∀ p, p < 4 → (cs'.drop p).take 1 = [cs'.getD p (.int .i64 0)] := fun p hp => by
        have hp2 : p < cs'.length := by omega
        have e : cs'.getD p (.int .i64 0) = cs'[p] := by rw [List.getD_eq_getElem?_getD, List.getElem?_eq_getElem hp2]; rfl
        rw [List.drop_eq_getElem_cons hp2, e]
        rfl
      have hc' : ∀ p, p < 4 → w.cell? (a.add (j * 4 + p)) = some (cs'.getD p (.int .i64 0)) := fun p hp => by
        rw [← Go.Deep.add_add, hat p hp]
        simp [List.getD, show p < cs'.length by omega]
      have G : ∀ p f, (#[f0, f1, f2, f3] : Array Field)[p]? = some f → p < 4 → ∃ y, ys[p]? = some y ∧ DataW.trod enc P w base spare held n' f.type [cs'.getD p (.int .i64 0)] = some y := by
        intro p f hfp hp
        obtain ⟨ho, hk⟩ := hone_of hone p f hfp
        have h1 := hf p f hfp
        rw [ho, hk, hone' p hp] at h1
        have hp2 : p < ys.length := by first | (rw [hyl]; simpa using hp) | (rw [hlen]; simpa using hp) | (simp at hyl; omega)
        exact ⟨ys[p], List.getElem?_eq_getElem hp2, by rw [h1, List.getElem?_eq_getElem hp2]⟩
      obtain ⟨y0, _, g0⟩ := G 0 f0 rfl (by omega)
      obtain ⟨y1, _, g1⟩ := G 1 f1 rfl (by omega)
      obtain ⟨y2, _, g2⟩ := G 2 f2 rfl (by omega)
      obtain ⟨y3, _, g3⟩ := G 3 f3 rfl (by omega)
      obtain ⟨st, e0, _, _⟩ := DataW.trod_int h0 g0
      obtain ⟨ap, e1, _⟩ := DataW.trod_bool h1 g1
      obtain ⟨A', n2, c', fs, e2, hrd, _⟩ := OpenSS.open_ss h2 hq hq2 cq cq2 g2
      obtain ⟨lo, e3, _, _⟩ := DataW.trod_int h3 g3
      simp only [List.cons.injEq, and_true] at e0 e1 e2 e3
      refine ⟨⟨st, ap, fs, lo⟩, A', n2, c', ?_, ?_, ?_, ?_, hrd⟩
      · have := hc' 0 (by omega); rw [e0] at this; exact this
      · have := hc' 1 (by omega); rw [e1] at this; exact this
      · have := hc' 2 (by omega); rw [e2] at this; exact this
      · have := hc' 3 (by omega); rw [e3] at this; exact this
    obtain ⟨ks, hk1, hk2⟩ := kts_of len hcell
    refine ⟨some a, len, cap, ks, hcs, ⟨hk1, hl, hm, fun hp => ?_⟩⟩
    obtain ⟨A0, n0, c0, z0, _⟩ := hk2 0 hp
    obtain ⟨g, o, s⟩ := a
    have hs : s = none := by simpa [Addr.add] using World.cell?_spot z0
    subst hs
    have ha : ∀ j, (⟨g, o, none⟩ : Addr).add j = ⟨g, o + j, none⟩ := by
      intro j
      unfold Addr.add
      split
      · subst_vars; rfl
      · rfl
    refine ⟨g, o, rfl, fun j hj => ?_⟩
    obtain ⟨A', n', c', z0, z1, z2, z3, hr⟩ := hk2 j hj
    rw [ha] at z0 z1 z2 z3
    exact ⟨A', n', c', z0, by rw [Nat.add_assoc]; exact z1, by rw [Nat.add_assoc]; exact z2, by rw [Nat.add_assoc]; exact z3, hr⟩
end Go.Proofs.Ythdieeaegplnmaa.OpenPB
