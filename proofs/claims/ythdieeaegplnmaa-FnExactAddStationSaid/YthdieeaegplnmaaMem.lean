/- Words for memory: a slice that reads as a list of cells; what keeps it; slices of numbers among the arguments; append of whatever source onto a slice of the call's own. -/
import Derived.WalkKit
import Derived.ProofKit
import Derived.Below
import Derived.Laws.OwnMore
import Derived.Maps.AppendAt
import Derived.Deep.Draws
import Derived.Lib.Hide
namespace Go.Proofs.Ythdieeaegplnmaa.Mem
open Go.RowKit

/-- the block of an address -/
def blk (A : Option Addr) : Option Nat := A.map (·.block)

/-- the slice value '.slice A n c', of elements of sz cells each, reads as the cells xs -/
def Rd (w : World) (sz : Nat) (A : Option Addr) (n c : Nat) (xs : List Value) : Prop :=
  xs.length = n * sz ∧ n ≤ c ∧ c ≤ maxLen ∧ (A = none → c = 0) ∧
  (0 < xs.length → ∃ g o, A = some ⟨g, o, none⟩ ∧ ∀ j, j < xs.length → w.cell? ⟨g, o + j, none⟩ = xs[j]?)

section
variable {w w' : World} {sz n c : Nat} {A : Option Addr} {xs : List Value}

theorem Rd.nil_ (w : World) (sz : Nat) : Rd w sz none 0 0 [] := ⟨by simp, by omega, by omega, fun _ => rfl, fun h => absurd h (by simp)⟩

theorem Rd.pos (h : Rd w sz A n c xs) (hp : 0 < xs.length) : 0 < n := by
  rw [h.1] at hp; exact Nat.pos_of_mul_pos_right hp
theorem Rd.keep (h : Rd w sz A n c xs) (hk : 0 < n → ∀ g, blk A = some g → g < w.heap.size → w'.heap[g]? = w.heap[g]?) : Rd w' sz A n c xs := by
  have h0 := h.pos
  obtain ⟨h1, h2, h3, h4, h5⟩ := h
  refine ⟨h1, h2, h3, h4, fun hp => ?_⟩
  obtain ⟨g, o, rfl, hc⟩ := h5 hp
  have h1 := hc 0 hp
  rw [List.getElem?_eq_getElem hp] at h1
  have hlt : g < w.heap.size := World.block_lt_of_cell? _ _ h1
  exact ⟨g, o, rfl, fun j hj => (World.cell?_of_block (a := ⟨g, o + j, none⟩) (hk (h0 hp) g rfl hlt)).trans (hc j hj)⟩

theorem Rd.below (h : Rd w sz A n c xs) (hb : Below w.heap.size w w') : Rd w' sz A n c xs := h.keep fun _ g _ hlt => hb.block g hlt
theorem Rd.drew (h : Rd w sz A n c xs) : Rd w.drew sz A n c xs := h
theorem Rd.drewN (h : Rd w sz A n c xs) (k : Nat) : Rd (w.drewN k) sz A n c xs := h
theorem Rd.alloc (h : Rd w sz A n c xs) (o : Obj) : Rd (w.alloc o) sz A n c xs := h.keep fun _ g _ hlt => Below.heap_alloc w o g hlt
theorem Rd.setCell (h : Rd w sz A n c xs) {p : Addr} (hp : 0 < n → blk A ≠ some p.block) (u : Value) : Rd (w.setCell p u) sz A n c xs :=
  h.keep fun h0 g hg _ => Below.heap_setCell w p u g (fun e => hp h0 (by rw [hg, e]))
theorem Rd.grown (h : Rd w sz A n c xs) {row : Option Nat} (hg : w.grownBy w' row) (hr : row = none ∨ (0 < n → blk A ≠ row)) : Rd w' sz A n c xs :=
  h.keep fun h0 g hA hlt => hg.block g hlt (fun e => by
    rcases hr with hr | hr
    · rw [hr] at e; cases e
    · exact hr h0 (by rw [hA, e]))

/-- the cell at place k, with the address laid open -/
theorem Rd.at_ {k : Nat} (h : Rd w sz A n c xs) (hk : k < xs.length) : ∃ g o, A = some ⟨g, o, none⟩ ∧ g < w.heap.size ∧ ∀ j, j < xs.length → w.cell? ⟨g, o + j, none⟩ = xs[j]? := by
  obtain ⟨g, o, rfl, hc⟩ := h.2.2.2.2 (by omega)
  have h0 := hc k hk
  rw [List.getElem?_eq_getElem hk] at h0
  exact ⟨g, o, rfl, World.block_lt_of_cell? _ _ h0, hc⟩

theorem Rd.of_own {base : Nat} {e : TypeId} (h : w.ownsRow base e sz (.slice A n c) n xs) : Rd w sz A n c xs := by
  obtain ⟨h1, h2⟩ := h
  rcases h2 with ⟨hv, hn⟩ | ⟨g, cap, cur, hv, _, hg, hnc, hcm, hcs, htake⟩
  · simp only [Value.slice.injEq] at hv
    obtain ⟨rfl, rfl, rfl⟩ := hv
    exact ⟨h1, by omega, by omega, fun _ => rfl, fun hp => by rw [h1] at hp; simp at hp⟩
  · simp only [Value.slice.injEq, true_and] at hv
    obtain ⟨rfl, rfl⟩ := hv
    refine ⟨h1, hnc, hcm, (fun e => by cases e), fun hp => ⟨g, 0, rfl, fun j hj => ?_⟩⟩
    rw [Nat.zero_add, cell_of_row w g j cur e (0, 0) hg, ← htake, List.getElem?_take, if_pos (by omega)]
    simp

theorem blk_of_own {base : Nat} {e : TypeId} (h : w.ownsRow base e sz (.slice A n c) n xs) : ∀ g, blk A = some g → base ≤ g ∧ g < w.heap.size := by
  intro g hg
  refine h.lt g ?_
  cases A with
  | none => cases hg
  | some a => exact hg
end

/-- a slice of numbers among the arguments: its elements, each within its kind -/
def RowIn (k : IntKind) (w : World) (A : Option Addr) (n c : Nat) (zs : List Int) : Prop :=
  Rd w 1 A n c (zs.map (Value.int k)) ∧ ∀ z ∈ zs, (Lit.int k z).wf = true

theorem rowIn_nil (k : IntKind) (w : World) : RowIn k w none 0 0 [] := ⟨Rd.nil_ w 1, by simp⟩
theorem rowIn_of_open {k : IntKind} {w : World} {x : Addr} {l c : Nat} {zs : List Int} (hl : l ≤ c) (hm : c ≤ maxLen) (hz : zs.length = c) (hcell : ∀ i, i < zs.length → w.cell? (x.add i) = some (.int k (zs.getD i 0)))
    (hw : ∀ n ∈ zs, (Lit.int k n).wf = true) : RowIn k w (some x) l c (zs.take l) := by
  refine ⟨⟨by simp; omega, hl, hm, (fun e => by cases e), fun hp => ?_⟩, fun z hz' => hw z (List.mem_of_mem_take hz')⟩
  simp only [List.length_map, List.length_take] at hp
  have h0 := hcell 0 (by omega)
  obtain ⟨g, o, s⟩ := x
  have hs : s = none := by simpa [Addr.add] using World.cell?_spot h0
  subst hs
  refine ⟨g, o, rfl, fun j hj => ?_⟩
  simp only [List.length_map, List.length_take] at hj
  have hjz : j < zs.length := by omega
  have h1 := hcell j hjz
  have ha : (⟨g, o, none⟩ : Addr).add j = ⟨g, o + j, none⟩ := by
    unfold Addr.add
    split
    · subst_vars; rfl
    · rfl
  rw [ha] at h1
  rw [h1, List.getElem?_map, List.getElem?_take, if_pos (by omega), List.getElem?_eq_getElem hjz]
  simp [List.getD, hjz]

theorem RowIn.len {k : IntKind} {w : World} {A : Option Addr} {n c : Nat} {zs : List Int} (h : RowIn k w A n c zs) : zs.length = n := by
  have := h.1.1
  simpa using this

/-- the number at place k, its cell, and the address laid open -/
theorem Rd.int_at {k : IntKind} {w : World} {A : Option Addr} {n c j : Nat} {zs : List Int} (h : Rd w 1 A n c (zs.map (Value.int k))) (hj : j < n) :
    ∃ g o, A = some ⟨g, o, none⟩ ∧ g < w.heap.size ∧ w.cell? ⟨g, o + j, none⟩ = some (.int k (zs.getD j 0)) := by
  have hl : zs.length = n := by have := h.1; simpa using this
  obtain ⟨g, o, rfl, hg, hc⟩ := h.at_ (k := j) (by simp; omega)
  refine ⟨g, o, rfl, hg, ?_⟩
  rw [hc j (by simp; omega), List.getElem?_map, List.getElem?_eq_getElem (by omega)]
  simp [List.getD, show j < zs.length by omega]
theorem len_ints {k : IntKind} {w : World} {A : Option Addr} {n c : Nat} {zs : List Int} (h : Rd w 1 A n c (zs.map (Value.int k))) : zs.length = n := by
  have := h.1; simpa using this
theorem one_ints (k : IntKind) (zs : List Int) : ∀ u ∈ zs.map (Value.int k), u.oneCell' = true := by
  intro u hu
  obtain ⟨z, _, rfl⟩ := List.mem_map.1 hu
  rfl

/-- a new block of one cell, read as a slice -/
theorem Rd.one (w : World) (u : Value) (t : TypeId) : Rd (w.alloc (.cells #[u] t)) 1 (some ⟨w.heap.size, 0, none⟩) 1 1 [u] :=
  ⟨rfl, Nat.le_refl _, (by unfold maxLen; omega), (fun e => by cases e), fun _ => ⟨_, _, rfl, fun j hj => by
    have : j = 0 := by simp at hj; omega
    subst this
    simp [World.cell?_alloc_at]⟩⟩
/-- a new block written out, read as a slice -/
theorem Rd.lit (w : World) (cs : List Value) (t : TypeId) (n : Nat) (hn : cs.length = n) (hm : n ≤ maxLen) : Rd (w.alloc (.cells cs.toArray t)) 1 (some ⟨w.heap.size, 0, none⟩) n n cs :=
  ⟨by omega, Nat.le_refl _, hm, (fun e => by cases e), fun _ => ⟨_, _, rfl, fun j hj => by simp [World.cell?_alloc_at]⟩⟩

theorem Rd.litAt (w : World) (cs : List Value) (t : TypeId) (n H : Nat) (hH : w.heap.size = H) (hn : cs.length = n) (hm : n ≤ maxLen) : Rd (w.alloc (.cells cs.toArray t)) 1 (some ⟨H, 0, none⟩) n n cs := by
  subst hH; exact Rd.lit w cs t n hn hm

/-- append of a source that is nil, empty or not, onto a slice of the call's own: the new value written out, and where it lies -/
theorem wpl_app {P : Program} (w : World) {ops : Array Oper} {rest : List Oper} {o : Oper} {a : Act} {Q : Exit → Act → World → Prop} (hgd : o.guard = none) (s x : Operand) (t : TypeId)
    (ho : o.op = .call { callee := .builtin .append, args := #[s, x], argTypes := #[t, t] })
    (base : Nat) (e : TypeId) (i : TypeInfo) (z : Value) (size bytes : Nat) (ht : P.underlying t = some (.slice e)) (hi : P.info? e = some i) (hz : i.zero = some z)
    (hsize : i.size = size) (hby : i.bytes = bytes) (hzs : z.cells.size = size) (hsz : 0 < size)
    (A : Option Addr) (n c : Nat) (xs : List Value) (hs : a.eval s = .slice A n c) (hown : w.ownsRow base e size (.slice A n c) n xs)
    (B : Option Addr) (m d : Nat) (news : List Value) (hx : a.eval x = .slice B m d) (hr : Rd w size B m d news) (h1 : ∀ u ∈ news, u.oneCell' = true)
    (h63 : n + m ≤ maxLen) (hbytes : (n + m) * bytes ≤ 140737488355328) (hbase : base ≤ w.heap.size)
    (hK : ∀ A' c' w', w'.ownsRow base e size (.slice A' (n + m) c') (n + m) (xs ++ news) → w.grownBy w' (blk A) → (blk A' = blk A ∨ blk A' = some w.heap.size) → wpList P ops Q rest (a.put o.dst (.slice A' (n + m) c')) w') :
    wpList P ops Q (o :: rest) a w := by
  refine wpList_plain hgd fun K hK' => ?_
  have hob : (Value.slice A n c).ownBlock = blk A := by cases A <;> rfl
  have main : ∃ A' c' w', (Builtin.append_ #[t, t] o.type #[.slice A n c, .slice B m d]).run P w = .ok (.slice A' (n + m) c') w' ∧ w'.ownsRow base e size (.slice A' (n + m) c') (n + m) (xs ++ news) ∧ w.grownBy w' (blk A) ∧ (blk A' = blk A ∨ blk A' = some w.heap.size) := by
    obtain ⟨r1, r2, r3, r4, r5⟩ := hr
    cases B with
    | none =>
      have hd : d = 0 := r4 rfl
      have hm : m = 0 := by omega
      subst hd hm
      have hn : news = [] := List.eq_nil_of_length_eq_zero (by simpa using r1)
      subst hn
      exact ⟨A, c, w, run_append_owned_none w base t o.type e i size ht hi _ n xs hown, by simpa using hown, World.grownBy.refl w _, .inl rfl⟩
    | some ad =>
      have hnews : ∀ j u, news[j]? = some u → w.cell? (ad.add j) = some u := by
        intro j u hu
        have hj : j < news.length := (List.getElem?_eq_some_iff.1 hu).1
        obtain ⟨g, o', he, hc⟩ := r5 (by omega)
        injection he with he
        subst he
        have ha : (⟨g, o', none⟩ : Addr).add j = ⟨g, o' + j, none⟩ := by
          unfold Addr.add
          split
          · subst_vars; rfl
          · rfl
        rw [ha, hc j hj, hu]
      obtain ⟨v', w', hrun, h2, h3, _, h5⟩ := run_append_own_at (P := P) w base t o.type e i z size bytes ht hi hz hsize hby hzs hsz _ n xs hown ad m d news r1 hnews h1 h63 hbytes hbase
      have hv : ∃ A' c', v' = .slice A' (n + m) c' := by
        rcases h2.2 with ⟨hv, hn⟩ | ⟨g, cap, cur, hv, _⟩
        · exact ⟨none, 0, by rw [hv, hn]⟩
        · exact ⟨_, cap, hv⟩
      obtain ⟨A', c', rfl⟩ := hv
      have hob' : (Value.slice A' (n + m) c').ownBlock = blk A' := by cases A' <;> rfl
      rw [hob] at h3 h5
      rw [hob'] at h5
      exact ⟨A', c', w', hrun, h2, h3, h5⟩
  obtain ⟨A', c', w', hrun, h2, h3, h4⟩ := main
  unfold Oper.wp
  simp only [execOp, ho, resolve, invoke, builtin, Sem.run_bind, Sem.run_pure, Result.andThen_ok, List.map_toArray, List.map_cons, List.map_nil, hs, hx, hrun]
  exact hK' _ _ (hK A' c' w' h2 h3 h4)

/-- behind a call that left all that was there: each old cell, each old mark, as rules for the walk -/
theorem bcells {W w1 : World} (hb : Below W.heap.size W w1) : (∀ b o, b < W.heap.size → w1.cell? ⟨b, o, none⟩ = W.cell? ⟨b, o, none⟩) ∧ (∀ b o, b < W.heap.size → w1.frozen? ⟨b, o, none⟩ = W.frozen? ⟨b, o, none⟩) :=
  ⟨fun b o h => hb.cell (p := ⟨b, o, none⟩) h, fun b o h => hb.frozen (p := ⟨b, o, none⟩) h⟩

/-- a cell that was there reads as it did -/
theorem lift {W w1 : World} (hb : Below W.heap.size W w1) {b o : Nat} {v : Value} (h : W.cell? ⟨b, o, none⟩ = some v) : w1.cell? ⟨b, o, none⟩ = some v :=
  (hb.cell (p := ⟨b, o, none⟩) (World.block_lt_of_cell? W _ h)).trans h
/-- a step that made blocks, then a call that left all that was there -/
theorem stepB {B : Nat} {a W w1 : World} (h : Below B a W) (hb : Below W.heap.size W w1) (hB : B ≤ W.heap.size) : Below B a w1 := h.trans (hb.mono hB)

theorem stepW {w W w1 : World} (h : Below w.heap.size w W) (hb : Below W.heap.size W w1) : Below w.heap.size w w1 := h.trans (hb.mono h.size)

/-- the call hands back a slice of n elements in new memory, which reads as xs; what was there is as it was -/
def RetOwn (w : World) (t : TypeId) (sz n : Nat) (xs : List Value) (x : Ending) (w' : World) : Prop :=
  ∃ A c, x = .returned (.slice A n c) ∧ w'.ownsRow w.heap.size t sz (.slice A n c) n xs ∧ Below w.heap.size w w'

/-- behind an append, what was there when the call began is as it was -/
theorem below_app {B : Nat} {w0 w w' : World} {A : Option Addr} (h : Below B w0 w) (hg : w.grownBy w' (blk A)) (hB : B ≤ w.heap.size) (hA : ∀ g, blk A = some g → B ≤ g) : Below B w0 w' :=
  h.grown hg hB hA
end Go.Proofs.Ythdieeaegplnmaa.Mem
