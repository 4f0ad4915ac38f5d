/- Plain facts of the law on nonces: what its rounds keep. -/
import Derived.Test.YtgbmbnofnhhblaaDoorProt
namespace Go.Proofs.YtgbmbnofnhhblaaDoor.Seal
open Go.RowKit
open Go.Proofs.YtgbmbnofnhhblaaDoor.Num Go.Proofs.YtgbmbnofnhhblaaDoor.Mem Go.Proofs.YtgbmbnofnhhblaaDoor.Hsh Go.Proofs.YtgbmbnofnhhblaaDoor.Own Go.Proofs.YtgbmbnofnhhblaaDoor.Ks
theorem not_mem_of_okR {ke : Int} {zs : List Int} (h : okR ke zs zs.length) : ke ∉ zs := by
  intro hm
  obtain ⟨k, hk, e⟩ := List.mem_iff_getElem.1 hm
  refine (h k hk).1 ?_
  rw [List.getD_eq_getElem?_getD, List.getElem?_eq_getElem hk]
  exact e
theorem okR_key {ke key : Int} {zs : List Int} (h : okR ke zs zs.length) (h2 : key ∉ zs) : okR key zs zs.length := by
  intro k hk
  refine ⟨fun e => h2 ?_, (h k hk).2⟩
  rw [← e]
  exact mem_getD' zs k hk
theorem okR_snoc {ke key : Int} {zs : List Int} (h : okR ke zs zs.length) (h1 : key ≠ ke) (h2 : key ∉ zs) : okR key (zs ++ [ke]) (zs.length + 1) := by
  intro k hk
  by_cases hlt : k < zs.length
  · have e1 : (zs ++ [ke]).getD k 0 = zs.getD k 0 := by
      rw [List.getD_eq_getElem?_getD, List.getD_eq_getElem?_getD, List.getElem?_append_left hlt]
    have e2 : (zs ++ [ke]).take k = zs.take k := by rw [List.take_append_of_le_length (by omega)]
    rw [e1, e2]
    exact ⟨fun e => h2 (by rw [← e]; exact mem_getD' zs k hlt), (h k hlt).2⟩
  · obtain rfl : k = zs.length := by omega
    have e1 : (zs ++ [ke]).getD zs.length 0 = ke := by
      rw [List.getD_eq_getElem?_getD, List.getElem?_append_right (by omega)]
      simp
    have e2 : (zs ++ [ke]).take zs.length = zs := by simp
    rw [e1, e2]
    exact ⟨fun e => h1 e.symm, not_mem_of_okR h⟩
/-- what stands after i rounds: the state's key, its counter, the retired keys, the keys and counters that were used -/
structure NInv (i : Nat) (ke se : Int) (zs ks cs : List Int) : Prop where
  valid : validK ke se 0 zs zs.length
  same : ks.length = cs.length
  short : ks.length ≤ i
  few : zs.length ≤ i
  low : 0 ≤ se ∧ se ≤ (i : Int)
  key : ke = 0 ∨ (1 ≤ ke ∧ ke ≤ 2147483646)
  nz : ∀ x ∈ ks, x ≠ 0
  used : ∀ j, j < ks.length → (ks.getD j 0 = ke ∧ cs.getD j 0 ≤ se) ∨ ks.getD j 0 ∈ zs
theorem ninv_start : NInv 0 0 0 [] [] [] :=
  ⟨⟨⟨.inl rfl, ⟨by omega, by omega⟩, ⟨by omega, by omega⟩, fun _ => ⟨rfl, rfl⟩⟩, okR_zero _ _⟩, rfl, by simp, by simp, ⟨by omega, by simp⟩, .inl rfl, (fun x h => by cases h), fun j h => by simp at h⟩
theorem NInv.step {i : Nat} {ke se : Int} {zs ks cs : List Int} (h : NInv i ke se zs ks cs) : NInv (i + 1) ke se zs ks cs :=
  ⟨h.valid, h.same, by have := h.short; omega, by have := h.few; omega, ⟨h.low.1, by have := h.low.2; omega⟩, h.key, h.nz, h.used⟩
/-- a key that is installed was not used before -/
theorem NInv.fresh {i : Nat} {ke se key : Int} {zs ks cs : List Int} (h : NInv i ke se zs ks cs) (h1 : key ≠ ke) (h2 : key ∉ zs) : key ∉ ks := by
  intro hm
  obtain ⟨j, hj, e⟩ := List.mem_iff_getElem.1 hm
  have e' : ks.getD j 0 = key := by rw [List.getD_eq_getElem?_getD, List.getElem?_eq_getElem hj]; exact e
  rcases h.used j hj with ⟨h3, _⟩ | h3
  · exact h1 (e'.symm.trans h3)
  · exact h2 (e' ▸ h3)
theorem NInv.first {i : Nat} {se key : Int} {zs ks cs : List Int} (h : NInv i 0 se zs ks cs) (hk : 1 ≤ key ∧ key ≤ 2147483646) (h2 : key ∉ zs) : NInv (i + 1) key 0 zs ks cs := by
  refine ⟨⟨⟨.inr hk, ⟨by omega, by omega⟩, ⟨by omega, by omega⟩, fun e => by omega⟩, okR_key h.valid.2 h2⟩, h.same, by have := h.short; omega, by have := h.few; omega, ⟨by omega, by omega⟩, .inr hk, h.nz, fun j hj => .inr ?_⟩
  rcases h.used j hj with ⟨h3, _⟩ | h3
  · exact absurd h3 (h.nz _ (mem_getD' ks j hj))
  · exact h3
theorem NInv.next {i : Nat} {ke se key : Int} {zs ks cs : List Int} (h : NInv i ke se zs ks cs) (hk : 1 ≤ key ∧ key ≤ 2147483646) (h1 : key ≠ ke) (h2 : key ∉ zs) : NInv (i + 1) key 0 (zs ++ [ke]) ks cs := by
  refine ⟨⟨⟨.inr hk, ⟨by omega, by omega⟩, ⟨by omega, by omega⟩, fun e => by omega⟩, by simpa using okR_snoc h.valid.2 h1 h2⟩, h.same, by have := h.short; omega, by have := h.few; simp; omega, ⟨by omega, by omega⟩, .inr hk, h.nz, fun j hj => .inr ?_⟩
  rcases h.used j hj with ⟨h3, _⟩ | h3
  · rw [h3]; simp
  · exact List.mem_append_left _ h3
theorem getD_snoc (l : List Int) (x : Int) (j : Nat) (h : j < l.length + 1) : (l ++ [x]).getD j 0 = if j = l.length then x else l.getD j 0 := by
  split
  · subst j
    rw [List.getD_eq_getElem?_getD, List.getElem?_append_right (by omega)]
    simp
  · rw [List.getD_eq_getElem?_getD, List.getD_eq_getElem?_getD, List.getElem?_append_left (by omega)]
theorem NInv.protect {i : Nat} {ke se : Int} {zs ks cs : List Int} (h : NInv i ke se zs ks cs) (hk : ke ≠ 0) (hi : i < 1000) : NInv (i + 1) ke (se + 1) zs (ks ++ [ke]) (cs ++ [se + 1]) := by
  obtain ⟨⟨h1, h2, h3, h4⟩, h5⟩ := h.valid
  have hl := h.low
  refine ⟨⟨⟨h1, ⟨by omega, by omega⟩, h3, fun e => absurd e hk⟩, h5⟩, by simp [h.same], by have := h.short; simp; omega, by have := h.few; omega, ⟨by omega, by omega⟩, h.key, ?_, fun j hj => ?_⟩
  · intro x hx
    rcases List.mem_append.1 hx with hx | hx
    · exact h.nz x hx
    · rw [List.mem_singleton] at hx; rw [hx]; exact hk
  · have hj' : j < ks.length + 1 := by simpa using hj
    rw [getD_snoc ks ke j hj', getD_snoc cs (se + 1) j (by rw [← h.same]; exact hj')]
    by_cases e : j = ks.length
    · rw [if_pos e, if_pos (by rw [← h.same]; exact e)]
      exact .inl ⟨rfl, by omega⟩
    · rw [if_neg e, if_neg (by rw [← h.same]; exact e)]
      rcases h.used j (by omega) with ⟨h6, h7⟩ | h6
      · exact .inl ⟨h6, by omega⟩
      · exact .inr h6
/-- no pair of key and counter comes twice -/
theorem NInv.apart {i : Nat} {ke se : Int} {zs ks cs : List Int} (h : NInv i ke se zs ks cs) (j : Nat) (hj : j < ks.length) : ¬ (ks.getD j 0 = ke ∧ cs.getD j 0 = se + 1) := by
  rintro ⟨h1, h2⟩
  rcases h.used j hj with ⟨_, h4⟩ | h3
  · omega
  · rw [h1] at h3
    exact not_mem_of_okR h.valid.2 h3
end Go.Proofs.YtgbmbnofnhhblaaDoor.Seal
