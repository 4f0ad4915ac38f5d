/- append at an operation of a drawn region. -/
import Derived.Test.YthdieeaegplnmaaBase
namespace Go.Proofs.Ythdieeaegplnmaa.App
open Go.RowKit
open Go.Proofs.Ythdieeaegplnmaa.Mem
/-- append of a source that is nil, empty or not, onto a slice of the call's own, at one operation -/
theorem wp_app {P : Program} (w : World) {o : Oper} {a : Act} {K : Act → World → Prop} {Q : Exit → Act → World → Prop} (s x : Operand) (t : TypeId)
    (ho : o.op = .call { callee := .builtin .append, args := #[s, x], argTypes := #[t, t] })
    (base : Nat) (e : TypeId) (i : TypeInfo) (z : Value) (size bytes : Nat) (ht : P.underlying t = some (.slice e)) (hi : P.info? e = some i) (hz : i.zero = some z)
    (hsize : i.size = size) (hby : i.bytes = bytes) (hzs : z.cells.size = size) (hsz : 0 < size)
    (A : Option Addr) (n c : Nat) (xs : List Value) (hs : a.eval s = .slice A n c) (hown : w.ownsRow base e size (.slice A n c) n xs)
    (B : Option Addr) (m d : Nat) (news : List Value) (hx : a.eval x = .slice B m d) (hr : Rd w size B m d news) (h1 : ∀ u ∈ news, u.oneCell' = true)
    (h63 : n + m ≤ maxLen) (hbytes : (n + m) * bytes ≤ 140737488355328) (hbase : base ≤ w.heap.size)
    (hK : ∀ A' c' w', w'.ownsRow base e size (.slice A' (n + m) c') (n + m) (xs ++ news) → w.grownBy w' (blk A) → (blk A' = blk A ∨ blk A' = some w.heap.size) → K (a.put o.dst (.slice A' (n + m) c')) w') :
    o.wp P a w K Q := by
  have hob : (Value.slice A n c).ownBlock = blk A := by cases A <;> rfl
  have main : ∃ A' c' w', (Builtin.append_ #[t, t] o.type #[.slice A n c, .slice B m d]).run P w = .ok (.slice A' (n + m) c') w' ∧ w'.ownsRow base e size (.slice A' (n + m) c') (n + m) (xs ++ news) ∧ w.grownBy w' (blk A) ∧ (blk A' = blk A ∨ blk A' = some w.heap.size) := by
    obtain ⟨r1, r2, r3, r4, r5⟩ := hr
    cases B with
    | none =>
      have hd : d = 0 := r4 rfl
      have hm : m = 0 := by omega
      subst hd hm
      have hn : news = [] := List.eq_nil_of_length_eq_zero (by simpa using r1)
      subst hn
      exact ⟨A, c, w, run_append_owned_none w base t o.type e i size ht hi _ n xs hown, by simpa using hown, World.grownBy.refl w _, .inl rfl⟩
    | some ad =>
      have hnews : ∀ j u, news[j]? = some u → w.cell? (ad.add j) = some u := by
        intro j u hu
        have hj : j < news.length := (List.getElem?_eq_some_iff.1 hu).1
        obtain ⟨g, o', he, hc⟩ := r5 (by omega)
        injection he with he
        subst he
        have ha : (⟨g, o', none⟩ : Addr).add j = ⟨g, o' + j, none⟩ := by
          unfold Addr.add
          split
          · subst_vars; rfl
          · rfl
        rw [ha, hc j hj, hu]
      obtain ⟨v', w', hrun, h2, h3, _, h5⟩ := run_append_own_at (P := P) w base t o.type e i z size bytes ht hi hz hsize hby hzs hsz _ n xs hown ad m d news r1 hnews h1 h63 hbytes hbase
      have hv : ∃ A' c', v' = .slice A' (n + m) c' := by
        rcases h2.2 with ⟨hv, hn⟩ | ⟨g, cap, cur, hv, _⟩
        · exact ⟨none, 0, by rw [hv, hn]⟩
        · exact ⟨_, cap, hv⟩
      obtain ⟨A', c', rfl⟩ := hv
      have hob' : (Value.slice A' (n + m) c').ownBlock = blk A' := by cases A' <;> rfl
      rw [hob] at h3 h5
      rw [hob'] at h5
      exact ⟨A', c', w', hrun, h2, h3, h5⟩
  obtain ⟨A', c', w', hrun, h2, h3, h4⟩ := main
  unfold Oper.wp
  simp only [execOp, ho, resolve, invoke, builtin, Sem.run_bind, Sem.run_pure, Result.andThen_ok, List.map_toArray, List.map_cons, List.map_nil, hs, hx, hrun]
  exact hK A' c' w' h2 h3 h4

end Go.Proofs.Ythdieeaegplnmaa.App
