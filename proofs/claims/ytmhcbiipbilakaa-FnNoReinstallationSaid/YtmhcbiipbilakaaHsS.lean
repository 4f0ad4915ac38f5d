/- Rows of messages; the third sent again, in the plain words' form. -/
import Derived.Test.YtmhcbiipbilakaaHsR
import Derived.Test.YtmhcbiipbilakaaOwn
import Derived.Test.YtmhcbiipbilakaaKept
namespace Go.Proofs.Ytmhcbiipbilakaa.Hs
open Go.RowKit
open Go.Proofs.Ytmhcbiipbilakaa.Num Go.Proofs.Ytmhcbiipbilakaa.Mem Go.Proofs.Ytmhcbiipbilakaa.Hsh Go.Proofs.Ytmhcbiipbilakaa.Keys Go.Proofs.Ytmhcbiipbilakaa.Hand Go.Proofs.Ytmhcbiipbilakaa.Auth Go.Proofs.Ytmhcbiipbilakaa.Own
def mc (x : Msg) : List Value := [.int .i64 x.n, .int .i64 x.r, .int .i64 x.c, .int .i64 x.g, .int .i64 x.m]
def mcs (l : List Msg) : List Value := l.flatMap mc
theorem mcs_len (l : List Msg) : (mcs l).length = l.length * 5 := by
  induction l with
  | nil => rfl
  | cons x l ih => rw [mcs, List.flatMap_cons, List.length_append, ← mcs, ih, List.length_cons]; simp [mc]; omega
theorem mcs_snoc (l : List Msg) (x : Msg) : mcs (l ++ [x]) = mcs l ++ mc x := by simp [mcs]
theorem mcs_at : ∀ (l : List Msg) (k : Nat) (h : k < l.length) (q : Nat), q < 5 → (mcs l)[k * 5 + q]? = (mc l[k])[q]?
  | x :: l, 0, _, q, hq => by
    rw [mcs, List.flatMap_cons, List.getElem?_append_left (by simp [mc]; omega)]
    simp
  | x :: l, k + 1, h, q, hq => by
    have hk : k < l.length := by simpa using h
    rw [mcs, List.flatMap_cons, List.getElem?_append_right (by simp [mc]; omega), ← mcs, show (k + 1) * 5 + q - (mc x).length = k * 5 + q by simp [mc]; omega, mcs_at l k hk q hq]
    rfl
theorem mc_one (x : Msg) : ∀ u ∈ mc x, u.oneCell' = true := by
  intro u hu
  simp only [mc, List.mem_cons, List.not_mem_nil, or_false] at hu
  rcases hu with rfl | rfl | rfl | rfl | rfl <;> rfl
theorem own_at {w : World} {lo n c k : Nat} {e : TypeId} {A : Option Addr} {l : List Msg} (h : w.ownsRow lo e 5 (.slice A n c) n (mcs l)) (hk : k < l.length) :
    ∃ g x, A = some ⟨g, 0, none⟩ ∧ x ∈ l ∧ lo ≤ g ∧ g < w.heap.size ∧ w.cell? ⟨g, k * 5, none⟩ = some (.int .i64 x.n) ∧ w.cell? ⟨g, k * 5 + 1, none⟩ = some (.int .i64 x.r) ∧ w.cell? ⟨g, k * 5 + 2, none⟩ = some (.int .i64 x.c) ∧ w.cell? ⟨g, k * 5 + 3, none⟩ = some (.int .i64 x.g) ∧ w.cell? ⟨g, k * 5 + 4, none⟩ = some (.int .i64 x.m) := by
  have hr := Rd.of_own h
  have hl : k * 5 + 4 < (mcs l).length := by rw [mcs_len]; omega
  obtain ⟨g, o, rfl, hg, hc⟩ := hr.at_ (k := k * 5) (by omega)
  obtain ⟨b1, b2⟩ := blk_of_own h g rfl
  have ho : o = 0 := by
    rcases h.2 with ⟨hv, _⟩ | ⟨g', cap, cur, hv, _⟩
    · simp at hv
    · simp only [Value.slice.injEq, Option.some.injEq, Addr.mk.injEq, and_true, true_and] at hv
      exact hv.1.2
  subst ho
  refine ⟨g, l[k], rfl, List.getElem_mem _, b1, b2, ?_⟩
  have H : ∀ q, q < 5 → w.cell? ⟨g, k * 5 + q, none⟩ = (mc l[k])[q]? := fun q hq => by
    have := hc (k * 5 + q) (by omega)
    rw [Nat.zero_add] at this
    rw [this, mcs_at l k hk q hq]
  exact ⟨H 0 (by omega), H 1 (by omega), H 2 (by omega), H 3 (by omega), H 4 (by omega)⟩
theorem own_kept {w0 w : World} {lo n c : Nat} {e : TypeId} {sz : Nat} {A : Option Addr} {xs : List Value} (h : w0.ownsRow lo e sz (.slice A n c) n xs) (hk : Bk.Kept lo w0 w) : w.ownsRow lo e sz (.slice A n c) n xs :=
  (Own.keep (Own.of h) (fun g h1 h2 => hk.2 g h1 h2)).1
theorem rd_five (w : World) (x : Msg) (t : TypeId) (H : Nat) (hH : w.heap.size = H) : Rd (w.alloc (.cells #[.int .i64 x.n, .int .i64 x.r, .int .i64 x.c, .int .i64 x.g, .int .i64 x.m] t)) 5 (some ⟨H, 0, none⟩) 1 1 (mc x) := by
  subst hH
  exact ⟨rfl, Nat.le_refl _, (by unfold maxLen; omega), (fun e => by cases e), fun _ => ⟨_, _, rfl, fun j hj => by rw [Nat.zero_add, World.cell?_alloc_at _ _ _ _ rfl]; simp [mc]⟩⟩
theorem own_lit (w : World) (x : Msg) (t : TypeId) (H : Nat) (hH : w.heap.size = H) : (w.alloc (.cells #[.int .i64 x.n, .int .i64 x.r, .int .i64 x.c, .int .i64 x.g, .int .i64 x.m] t)).ownsRow H t 5 (.slice (some ⟨H, 0, none⟩) 1 1) 1 (mcs [x]) := by
  subst hH
  exact World.ownsRow_lit w #[.int .i64 x.n, .int .i64 x.r, .int .i64 x.c, .int .i64 x.g, .int .i64 x.m] 1 (Nat.le_refl _) (by unfold maxLen; omega) rfl
theorem msgInfo : (Try.prog.info? 29).map (fun i => (i.zero, i.size, i.bytes)) = some (some (.agg #[.int .i64 0, .int .i64 0, .int .i64 0, .int .i64 0, .int .i64 0]), 5, 40) := by kernel_rfl
theorem resend_any (a : Aut) (w : World) (ha : a.Ok) : Calls Try.prog 30 #[.agg #[.int .i64 a.ms, .int .i64 a.no, .int .i64 a.pe, .int .i64 a.re, .int .i64 a.gr, .int .i64 a.wa, .bool a.dn]] w fun x w' => x = .returned (.tuple #[.agg #[.int .i64 (resend a).a.ms, .int .i64 (resend a).a.no, .int .i64 (resend a).a.pe, .int .i64 (resend a).a.re, .int .i64 (resend a).a.gr, .int .i64 (resend a).a.wa, .bool (resend a).a.dn], .agg #[.int .i64 (resend a).m.n, .int .i64 (resend a).m.r, .int .i64 (resend a).m.c, .int .i64 (resend a).m.g, .int .i64 (resend a).m.m], .bool (resend a).ok]) ∧ Below w.heap.size w w' := by
  obtain ⟨h1, h2, h3, h4, h5, h6⟩ := ha
  by_cases hc : canSend a
  · rw [resend_on hc]
    obtain ⟨ms, no, pe, re, gr, wa, dn⟩ := a
    obtain ⟨e1, e2, e3⟩ := hc
    dsimp only at e1 e2 e3 h1 h2 h3 h5
    subst e1
    have h := resend_on_impl ms no pe re gr dn w h1 h2 h3 h5 e2 e3
    rw [← wrap1 e2 e3] at h
    exact h
  · rw [resend_off hc]
    obtain ⟨ms, no, pe, re, gr, wa, dn⟩ := a
    by_cases h4 : wa = 4
    · subst h4
      exact resend_off2_impl ms no pe re gr dn w (by by_cases h : 0 ≤ re ∧ re ≤ 999999999999; exact absurd ⟨rfl, h.1, h.2⟩ hc; omega)
    · exact resend_off1_impl ms no pe re gr wa dn w (by simpa using h4)
end Go.Proofs.Ytmhcbiipbilakaa.Hs
