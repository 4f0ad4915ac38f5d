/- Memory of one's own between two block numbers; what keeps it; a whole copy onto a row just made. -/
import Derived.Test.YthdieeaegplnmaaMem
import Derived.Laws.CopyOwn
namespace Go.Proofs.Ythdieeaegplnmaa.Own
open Go.RowKit
open Go.Proofs.Ythdieeaegplnmaa.Mem

/-- the slice is one's own, its block lies from lo on and below hi, and it reads as xs -/
def Own (w : World) (lo hi : Nat) (e : TypeId) (sz : Nat) (A : Option Addr) (n c : Nat) (xs : List Value) : Prop :=
  w.ownsRow lo e sz (.slice A n c) n xs ∧ ∀ g, blk A = some g → g < hi
section
variable {w w' w'' : World} {lo hi l2 h2 B : Nat} {e : TypeId} {sz : Nat} {A : Option Addr} {n c : Nat} {xs : List Value}
theorem Own.rd (h : Own w lo hi e sz A n c xs) : Rd w sz A n c xs := Rd.of_own h.1
theorem Own.of (h : w.ownsRow lo e sz (.slice A n c) n xs) : Own w lo w.heap.size e sz A n c xs := ⟨h, fun g hg => (blk_of_own h g hg).2⟩
theorem Own.keep (h : Own w lo hi e sz A n c xs) (hk : ∀ g, lo ≤ g → g < hi → w'.heap[g]? = w.heap[g]?) : Own w' lo hi e sz A n c xs := by
  obtain ⟨h1, h2⟩ := h
  refine ⟨⟨h1.1, ?_⟩, h2⟩
  rcases h1.2 with hn | ⟨g, cap, cur, hv, hb, hg, rest⟩
  · exact .inl hn
  · refine .inr ⟨g, cap, cur, hv, hb, ?_, rest⟩
    have hA : blk A = some g := by
      injection hv with hv
      rw [hv]; rfl
    rw [hk g hb (h2 g hA)]
    exact hg
theorem Own.below (h : Own w lo hi e sz A n c xs) (hb : Below B w w') (hB : hi ≤ B) : Own w' lo hi e sz A n c xs := h.keep fun g _ hg => hb.block g (by omega)
theorem Own.wider (h : Own w lo hi e sz A n c xs) (hl : l2 ≤ lo) (hh : hi ≤ h2) : Own w l2 h2 e sz A n c xs := by
  obtain ⟨⟨h1, h3⟩, h4⟩ := h
  refine ⟨⟨h1, ?_⟩, fun g hg => Nat.lt_of_lt_of_le (h4 g hg) hh⟩
  rcases h3 with hn | ⟨g, cap, cur, hv, hb, rest⟩
  · exact .inl hn
  · exact .inr ⟨g, cap, cur, hv, Nat.le_trans hl hb, rest⟩

/-- only blocks from lo on and below hi, and new ones, may have turned -/
structure Turned (lo hi : Nat) (w w' : World) : Prop where
  os : w'.os = w.os
  tape : w'.tape = w.tape
  output : w'.output = w.output
  size : w.heap.size ≤ w'.heap.size
  block : ∀ g, g < w.heap.size → g < lo ∨ hi ≤ g → w'.heap[g]? = w.heap[g]?
theorem Turned.refl (lo hi : Nat) (w : World) : Turned lo hi w w := ⟨rfl, rfl, rfl, Nat.le_refl _, fun _ _ _ => rfl⟩
theorem Turned.trans (h : Turned lo hi w w') (k : Turned lo hi w' w'') : Turned lo hi w w'' :=
  ⟨k.os.trans h.os, k.tape.trans h.tape, k.output.trans h.output, Nat.le_trans h.size k.size, fun g hg hne => (k.block g (Nat.lt_of_lt_of_le hg h.size) hne).trans (h.block g hg hne)⟩
theorem Turned.wider (h : Turned lo hi w w') (hl : l2 ≤ lo) (hh : hi ≤ h2) : Turned l2 h2 w w' := ⟨h.os, h.tape, h.output, h.size, fun g hg hne => h.block g hg (by omega)⟩
theorem Turned.of_below (h : Below w.heap.size w w') (lo hi : Nat) : Turned lo hi w w' := ⟨h.os, h.tape, h.output, h.size, fun g hg _ => h.block g hg⟩
theorem Turned.below (h : Turned lo hi w w') (h1 : B ≤ lo) (h2 : B ≤ w.heap.size) : Below B w w' := ⟨h.os, h.tape, h.output, h.size, fun g hg => h.block g (by omega) (.inl (by omega))⟩
theorem Turned.setCell (h : Turned lo hi w w') {p : Addr} (h1 : lo ≤ p.block) (h2 : p.block < hi) (u : Value) : Turned lo hi w (w'.setCell p u) :=
  ⟨h.os, h.tape, h.output, by simpa [World.setCell] using h.size, fun g hg hne => (Below.heap_setCell w' p u g (by omega)).trans (h.block g hg hne)⟩
theorem Turned.grown {row : Option Nat} (h : Turned lo hi w w') (hg : w'.grownBy w'' row) (hr : ∀ g, row = some g → lo ≤ g ∧ g < hi) : Turned lo hi w w'' :=
  h.trans ⟨hg.os, hg.tape, hg.output, hg.size, fun g hgs hne => hg.block g hgs (fun e => by have := hr g e.symm; omega)⟩
theorem Own.turned (h : Own w lo hi e sz A n c xs) (ht : Turned l2 h2 w w') (hd : hi ≤ l2 ∨ h2 ≤ lo) (hs : hi ≤ w.heap.size) : Own w' lo hi e sz A n c xs :=
  h.keep fun g h1 h2 => ht.block g (by omega) (by omega)
theorem Rd.turned (h : Rd w sz A n c xs) (hA : ∀ g, blk A = some g → g < B) (ht : Turned l2 h2 w w') (hB : B ≤ l2) : Rd w' sz A n c xs :=
  h.keep fun _ g hg hlt => ht.block g hlt (.inl (by have := hA g hg; omega))
theorem cell_turned {b o : Nat} {v : Value} (h : w.cell? ⟨b, o, none⟩ = some v) (ht : Turned l2 h2 w w') (hd : b < l2 ∨ h2 ≤ b) : w'.cell? ⟨b, o, none⟩ = some v :=
  (World.cell?_of_block (a := ⟨b, o, none⟩) (ht.block b (World.block_lt_of_cell? w _ h) hd)).trans h
theorem own_empty (w : World) (lo H : Nat) (e : TypeId) (sz : Nat) (hH : w.heap.size = H) (h : lo ≤ H) : (w.alloc (.cells #[] e)).ownsRow lo e sz (.slice (some ⟨H, 0, none⟩) 0 0) 0 [] := by
  subst hH
  exact World.ownsRow_lit w #[] 0 h (by unfold maxLen; omega) (by simp)
end

/-- copy of a whole slice onto a row of the call's own of the same length -/
theorem wpl_copy {P : Program} (w : World) {ops : Array Oper} {rest : List Oper} {o : Oper} {a : Act} {Q : Exit → Act → World → Prop} (hgd : o.guard = none) (d s : Operand) (dT sT : TypeId)
    (ho : o.op = .call { callee := .builtin .copy, args := #[d, s], argTypes := #[dT, sT] })
    (elem : TypeId) (i : TypeInfo) (sz : Nat) (hu : P.underlying dT = some (.slice elem)) (hi : P.info? elem = some i) (hsz : i.size = sz)
    (base : Nat) (e : TypeId) (g n c : Nat) (xs : List Value) (hd : a.eval d = .slice (some ⟨g, 0, none⟩) n c) (hown : w.ownsRow base e sz (.slice (some ⟨g, 0, none⟩) n c) n xs)
    (B : Option Addr) (m : Nat) (news : List Value) (hs : a.eval s = .slice B n m) (hr : Rd w sz B n m news) (h1 : ∀ u ∈ news, u.oneCell' = true)
    (hK : ∀ w', w'.ownsRow base e sz (.slice (some ⟨g, 0, none⟩) n c) n news → w.grownBy w' (some g) → wpList P ops Q rest (a.put o.dst (goInt n)) w') :
    wpList P ops Q (o :: rest) a w := by
  refine wpList_plain hgd fun K hK' => ?_
  have main : ∃ w', (Builtin.copy_ #[dT, sT] o.type #[.slice (some ⟨g, 0, none⟩) n c, .slice B n m]).run P w = .ok (goInt n) w' ∧ w'.ownsRow base e sz (.slice (some ⟨g, 0, none⟩) n c) n news ∧ w.grownBy w' (some g) := by
    obtain ⟨r1, r2, r3, r4, r5⟩ := hr
    rcases hown.2 with ⟨hv, _⟩ | ⟨g', cap, cur, hv, hb, hg, hnc, hcm, hcs, htake⟩
    · simp at hv
    · simp only [Value.slice.injEq, Option.some.injEq, Addr.mk.injEq, and_true, true_and] at hv
      obtain ⟨rfl, rfl⟩ := hv
      have hfit : n * sz ≤ cur.size := by rw [hcs]; exact Nat.mul_le_mul_right _ hnc
      have hload : (Builtin.firstCells sz n (.slice B n m)).run P w = .ok news.toArray w := by
        cases B with
        | none =>
          have hm : m = 0 := r4 rfl
          have hn : n = 0 := by omega
          subst hm hn
          have : news = [] := List.eq_nil_of_length_eq_zero (by simpa using r1)
          subst this
          rfl
        | some ad =>
          show (loadCells ad (n * sz)).run P w = _
          rw [← r1]
          refine run_loadCells_list w ad news fun j v hj => ?_
          have hjl : j < news.length := (List.getElem?_eq_some_iff.1 hj).1
          obtain ⟨b, o', he, hc⟩ := r5 (by omega)
          injection he with he
          subst he
          have ha : (⟨b, o', none⟩ : Addr).add j = ⟨b, o' + j, none⟩ := by
            unfold Addr.add
            split
            · subst_vars; rfl
            · rfl
          rw [ha, hc j hjl, hj]
      have hst := run_storeCells_at P g 0 e news 0 cur w hg (by rw [r1]; simpa using hfit) h1
      refine ⟨w.setRow g (cur.toList.take (0 + 0) ++ news ++ cur.toList.drop (0 + 0 + news.length)).toArray, ?_, ⟨r1, .inr ⟨g, c, (cur.toList.take (0 + 0) ++ news ++ cur.toList.drop (0 + 0 + news.length)).toArray, rfl, hb, setRow_heap w g cur _ e _ hg, hnc, hcm, ?_, ?_⟩⟩, ?_⟩
      · simp [Builtin.copy_, run_underlying hu, Builtin.lenOf, sizeOf, typeInfo, hi, hsz, hload, hst]
      · simp; omega
      · simp [r1]
      · exact ⟨rfl, rfl, rfl, by simp [World.setRow], fun k hk hne => setRow_other w g k _ (fun e => hne (by rw [e]))⟩
  obtain ⟨w', hrun, h2, h3⟩ := main
  unfold Oper.wp
  simp only [execOp, ho, resolve, invoke, builtin, Sem.run_bind, Sem.run_pure, Result.andThen_ok, List.map_toArray, List.map_cons, List.map_nil, hd, hs, hrun]
  exact hK' _ _ (hK w' h2 h3)
end Go.Proofs.Ythdieeaegplnmaa.Own
