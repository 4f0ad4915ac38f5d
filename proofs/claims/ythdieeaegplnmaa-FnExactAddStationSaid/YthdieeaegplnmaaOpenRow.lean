/- An argument that is a slice of structs of whole numbers, opened: it reads as one row of numbers. -/
import Derived.Test.YthdieeaegplnmaaMem
import Derived.Lib.SmallJoins
import Derived.Deep.Slices
import Derived.Deep.Fields
namespace Go.Proofs.Ythdieeaegplnmaa.OpenRow
open Go.ChangeShapes Go.WideShapes Go.RowKit Go.Deep
open Go.Proofs.Ythdieeaegplnmaa.Mem
variable {H : Type} {enc : TypeId × Value → H} {P : Program} {w : World} {base : Nat} {spare : Nat → Bool} {held : Bool}

theorem row_of_cells {k : IntKind} (x : Addr) (N : Nat) (h : ∀ j, j < N → ∃ z, w.cell? (x.add j) = some (.int k z) ∧ (Lit.int k z).wf = true) :
    ∃ zs : List Int, zs.length = N ∧ (∀ j, j < N → w.cell? (x.add j) = some (.int k (zs.getD j 0))) ∧ ∀ z ∈ zs, (Lit.int k z).wf = true := by
  induction N with
  | zero => exact ⟨[], rfl, fun j hj => absurd hj (by omega), by simp⟩
  | succ N ih =>
    obtain ⟨zs, h1, h2, h3⟩ := ih fun j hj => h j (by omega)
    obtain ⟨z, hz, hw⟩ := h N (by omega)
    refine ⟨zs ++ [z], by simp [h1], fun j hj => ?_, fun u hu => ?_⟩
    · rcases Nat.lt_or_ge j N with hlt | hge
      · rw [h2 j hlt]
        simp [List.getD, h1, hlt, List.getElem?_append_left]
      · obtain rfl : j = N := by omega
        rw [hz]
        simp [List.getD, ← h1]
    · rcases List.mem_append.1 hu with hu | hu
      · exact h3 u hu
      · obtain rfl : u = z := by simpa using hu
        exact hw

theorem rd_of_cells {k : IntKind} {x : Addr} {l c sz : Nat} (hl : l ≤ c) (hm : c ≤ maxLen) (h : ∀ j, j < l * sz → ∃ z, w.cell? (x.add j) = some (.int k z) ∧ (Lit.int k z).wf = true) :
    ∃ zs : List Int, Rd w sz (some x) l c (zs.map (Value.int k)) ∧ ∀ z ∈ zs, (Lit.int k z).wf = true := by
  obtain ⟨zs, h1, h2, h3⟩ := row_of_cells x (l * sz) h
  refine ⟨zs, ⟨by simpa using h1, hl, hm, (fun e => by cases e), fun hp => ?_⟩, h3⟩
  simp only [List.length_map] at hp
  have h0 := h2 0 (by omega)
  obtain ⟨g, o, s⟩ := x
  have hs : s = none := by simpa [Addr.add] using World.cell?_spot h0
  subst hs
  refine ⟨g, o, rfl, fun j hj => ?_⟩
  simp only [List.length_map] at hj
  have h4 := h2 j (by omega)
  have ha : (⟨g, o, none⟩ : Addr).add j = ⟨g, o + j, none⟩ := by
    unfold Addr.add
    split
    · subst_vars; rfl
    · rfl
  rw [ha] at h4
  rw [h4, List.getElem?_map, List.getElem?_eq_getElem (by omega)]
  simp [List.getD, show j < zs.length by omega]

theorem div_split {j l s : Nat} (hs : 0 < s) (h : j < l * s) : ∃ i q, i < l ∧ q < s ∧ j = i * s + q :=
  ⟨j / s, j % s, (Nat.div_lt_iff_lt_mul hs).2 h, Nat.mod_lt _ hs, by rw [Nat.mul_comm]; exact (Nat.div_add_mod j s).symm⟩

/-- a slice of structs whose fields are all ints -/
theorem open_structs {t e : TypeId} {fs : Array Field} {fuel : Nat} {cs : List Value} {x : DataW H × List MemPlace} (ht : P.underlying t = some (.slice e)) (he : P.underlying e = some (.struct fs))
    (hone : oneCellFields P fs = true) (hC : P.cellsOf e = fs.size) (h0 : 0 < fs.size) (hint : ∀ (j : Nat) (f : Field), fs[j]? = some f → P.underlying f.type = some (.int .i64)) (h : DataW.trod enc P w base spare held fuel t cs = some x) :
    ∃ (A : Option Addr) (n c : Nat) (zs : List Int), cs = [.slice A n c] ∧ Rd w fs.size A n c (zs.map (Value.int .i64)) ∧ ∀ z ∈ zs, (Lit.int .i64 z).wf = true := by
  rcases open_slice ht h with ⟨hcs, _⟩ | ⟨a, len, cap, m, n, D, Pl, hcs, _, hl, hm, hmm, _, hi⟩
  · exact ⟨none, 0, 0, [], hcs, Rd.nil_ _ _, by simp⟩
  · have hcell : ∀ j, j < len * fs.size → ∃ z, w.cell? (a.add j) = some (.int .i64 z) ∧ (Lit.int .i64 z).wf = true := by
      intro j hj
      obtain ⟨i, q, hil, hq, rfl⟩ := div_split h0 hj
      have him : i < m := by rw [hmm]; split <;> omega
      obtain ⟨cs', hc, ht'⟩ := hi i him
      rw [hC] at hc
      obtain ⟨ys, n', _, _, hlen, hyl, hf⟩ := DataW.trod_struct he ht'
      obtain ⟨_, hcl, hat⟩ := World.cells?_some hc
      obtain ⟨f, hfq⟩ : ∃ f, fs[q]? = some f := ⟨_, Array.getElem?_eq_getElem hq⟩
      obtain ⟨ho, hk⟩ := hone_of hone q f hfq
      have h1 := hf q f hfq
      rw [ho, hk] at h1
      have hone' : (cs'.drop q).take 1 = [cs'[q]'(by omega)] := by
        rw [List.drop_eq_getElem_cons (by omega)]
        rfl
      rw [hone', List.getElem?_eq_getElem (by omega)] at h1
      obtain ⟨z, e1, _, e3⟩ := DataW.trod_int (hint q f hfq) h1
      refine ⟨z, ?_, e3⟩
      rw [← Go.Deep.add_add, hat q hq, List.getElem?_eq_getElem (by omega)]
      simp only [List.cons.injEq, and_true] at e1
      rw [e1]
    obtain ⟨zs, hz, hw⟩ := rd_of_cells hl hm hcell
    exact ⟨some a, len, cap, zs, hcs, hz, hw⟩
/-- a slice of ints -/
theorem open_row {t e : TypeId} {k : IntKind} {fuel : Nat} {cs : List Value} {x : DataW H × List MemPlace} (ht : P.underlying t = some (.slice e)) (he : P.underlying e = some (.int k)) (hC : P.cellsOf e = 1)
    (h : DataW.trod enc P w base spare held fuel t cs = some x) :
    ∃ (A : Option Addr) (n c : Nat) (zs : List Int), cs = [.slice A n c] ∧ (Rd w 1 A n c (zs.map (Value.int k)) ∧ ∀ z ∈ zs, (Lit.int k z).wf = true) := by
  rcases open_ints ht he hC h with ⟨hcs, _⟩ | ⟨x, l, c, zs, hcs, _, hl, hm, hz, _, hcell, hwz⟩
  · exact ⟨none, 0, 0, [], hcs, Rd.nil_ _ _, by simp⟩
  · have hlen : l ≤ zs.length := by rw [hz]; split <;> omega
    obtain ⟨us, h1, h2⟩ := rd_of_cells (k := k) (sz := 1) hl hm (fun j hj => ⟨zs.getD j 0, hcell j (by omega), hwz _ (by
      rw [List.getD_eq_getElem?_getD, List.getElem?_eq_getElem (show j < zs.length by omega)]
      exact List.getElem_mem _)⟩)
    exact ⟨_, _, _, us, hcs, h1, h2⟩
end Go.Proofs.Ythdieeaegplnmaa.OpenRow
