/- InstallKey and ProtectFrame on a state that the law on nonces keeps. -/
import Derived.Test.YtgbmbnofnhhblaaDoorNonA
import Derived.Test.YtgbmbnofnhhblaaDoorLawProt
namespace Go.Proofs.YtgbmbnofnhhblaaDoor.Seal
open Go.RowKit
open Go.Proofs.YtgbmbnofnhhblaaDoor.Num Go.Proofs.YtgbmbnofnhhblaaDoor.Mem Go.Proofs.YtgbmbnofnhhblaaDoor.Hsh Go.Proofs.YtgbmbnofnhhblaaDoor.Itoa Go.Proofs.YtgbmbnofnhhblaaDoor.Pass Go.Proofs.YtgbmbnofnhhblaaDoor.Sls Go.Proofs.YtgbmbnofnhhblaaDoor.Own Go.Proofs.YtgbmbnofnhhblaaDoor.Ks Go.Proofs.YtgbmbnofnhhblaaDoor.SS
/-- what a round that installs leaves -/
def InstR (ke se key : Int) (zs ks : List Int) (ke' se' : Int) (zs' : List Int) (ok : Bool) : Prop :=
  (ok = false ∧ ke' = ke ∧ se' = se ∧ zs' = zs) ∨ (ok = true ∧ ke' = key ∧ key ∉ ks ∧ key ≠ ke ∧ se' = 0)
def RetIn (w : World) (i : Nat) (ke se key : Int) (zs ks cs : List Int) (x : Ending) (w' : World) : Prop :=
  ∃ ke' se' zs' ok A' c', (InstR ke se key zs ks ke' se' zs' ok ∧ NInv (i + 1) ke' se' zs' ks cs) ∧ x = .returned (.tuple #[.agg #[.int .i64 ke', .int .i64 se', .int .i64 0, .slice A' zs'.length c'], .bool ok]) ∧
    w'.ownsRow w.heap.size 3 1 (.slice A' zs'.length c') zs'.length (zs'.map (Value.int .i64)) ∧ Below w.heap.size w w'
theorem inst_inv {i : Nat} {ke se : Int} {zs ks cs : List Int} (h : NInv i ke se zs ks cs) (hi : i < 1000) (key : Int) (hk : 1 ≤ key ∧ key ≤ 2147483646) (A : Option Addr) (c : Nat) (w : World) (hr : Rd w 1 A zs.length c (zs.map (Value.int .i64))) :
    Calls Tryd.prog 29 #[.agg #[.int .i64 ke, .int .i64 se, .int .i64 0, .slice A zs.length c], .int .i64 key] w (RetIn w i ke se key zs ks cs) := by
  have hf := h.few
  by_cases hp : installP ke se 0 key zs zs.length
  · have h3 := hp.2.2.1
    have h4 := hp.2.2.2
    by_cases hz : ke = 0
    · refine (inst_impl_first ke se 0 key A zs.length c zs w hr (by omega) hp hz).mono ?_
      rintro x w' ⟨A', c', rfl, ho, hb⟩
      refine ⟨key, 0, zs, true, A', c', ⟨.inr ⟨rfl, rfl, h.fresh h3 h4, h3, rfl⟩, ?_⟩, rfl, ho, hb⟩
      subst hz
      exact h.first hk h4
    · refine (inst_impl_next ke se 0 key A zs.length c zs w hr (by omega) hp hz).mono ?_
      rintro x w' ⟨A', c', rfl, ho, hb⟩
      have e : (zs ++ [ke]).length = zs.length + 1 := by simp
      refine ⟨key, 0, zs ++ [ke], true, A', c', ⟨.inr ⟨rfl, rfl, h.fresh h3 h4, h3, rfl⟩, h.next hk h3 h4⟩, by rw [e], by rw [e]; exact ho, hb⟩
  · refine (inst_impl_no ke se 0 key A zs.length c zs w hr (by omega) hp).mono ?_
    rintro x w' ⟨A', c', rfl, ho, hb⟩
    exact ⟨ke, se, zs, false, A', c', ⟨.inl ⟨rfl, rfl, rfl, rfl⟩, h.step⟩, rfl, ho, hb⟩
/-- what a round that protects leaves -/
def ProtI (ke se : Int) (se' pc : Int) (ok : Bool) : Prop :=
  (ok = true ∧ ke ≠ 0 ∧ se' = se + 1 ∧ pc = se + 1) ∨ (ok = false ∧ ke = 0 ∧ se' = se ∧ pc = 0)
def RetPi (w : World) (ke se : Int) (zs : List Int) (x : Ending) (w' : World) : Prop :=
  ∃ se' pc mac pm ok A' c' D e, ProtI ke se se' pc ok ∧ x = .returned (.tuple #[.agg #[.int .i64 ke, .int .i64 se', .int .i64 0, .slice A' zs.length c'], .agg #[.int .i64 pc, .slice D pm e, .int .i64 mac], .bool ok]) ∧
    w'.ownsRow w.heap.size 3 1 (.slice A' zs.length c') zs.length (zs.map (Value.int .i64)) ∧ Below w.heap.size w w'
theorem prot_inv {i : Nat} {ke se : Int} {zs ks cs : List Int} (h : NInv i ke se zs ks cs) (hi : i < 1000) (A : Option Addr) (c : Nat) (B' : Option Addr) (d : Nat) (w : World) (ht : Tab w) (hr : Rd w 1 A zs.length c (zs.map (Value.int .i64))) (hbd : Rd w 1 B' 1 d [.int .u8 1]) :
    Calls Tryd.prog 10 #[.agg #[.int .i64 ke, .int .i64 se, .int .i64 0, .slice A zs.length c], .slice B' 1 d] w (RetPi w ke se zs) := by
  have hf := h.few
  have hl := h.low
  have hb1 : AllBytes [1] := by intro z hz; rw [List.mem_singleton] at hz; omega
  by_cases hz : ke = 0
  · refine (prot_impl_no ke se 0 A zs.length c zs B' 1 d w (fun hp => hp.2.1 hz) hr (by omega) (by omega)).mono ?_
    rintro x w' ⟨A', c', D, e, rfl, ho, _, hb⟩
    exact ⟨se, 0, 0, 0, false, A', c', D, e, .inr ⟨rfl, hz, rfl, rfl⟩, rfl, ho, hb⟩
  · refine (prot_impl_yes ke se 0 A zs.length c zs B' 1 d [1] w ⟨h.valid, hz, by omega, by omega⟩ ht hr (by omega) hbd hb1).mono ?_
    rintro x w' ⟨A', c', D, e, rfl, ho, _, hb⟩
    exact ⟨se + 1, se + 1, _, _, true, A', c', D, e, .inl ⟨rfl, hz, rfl, rfl⟩, rfl, ho, hb⟩
theorem eqks_yes (ke se re : Int) (A : Option Addr) (n c : Nat) (B : Option Addr) (d : Nat) (zs : List Int) (w : World) (hx : Rd w 1 A n c (zs.map (Value.int .i64))) (hy : Rd w 1 B n d (zs.map (Value.int .i64))) :
    Calls Tryd.prog 22 #[.agg #[.int .i64 ke, .int .i64 se, .int .i64 re, .slice A n c], .agg #[.int .i64 ke, .int .i64 se, .int .i64 re, .slice B n d]] w fun x w' => x = .returned (.bool true) ∧ Below w.heap.size w w' :=
  (eqks_impl ke se re A n c zs ke se re B n d zs w hx hy).mono fun x w' ⟨he, hw⟩ => ⟨by rw [he]; simp, hw⟩
theorem stepN {k : Nat} {w0 w1 w2 : World} (B : Below k w0 w1) (hb : Below w1.heap.size w1 w2) (h : k ≤ w1.heap.size) : Below k w0 w2 := B.trans (hb.mono h)
theorem tm5 {y : Int} (h : 0 ≤ y) : 0 ≤ y.tmod 5 ∧ y.tmod 5 < 5 := by rw [Int.tmod_eq_emod_of_nonneg h]; omega
theorem blk_set4 {w : World} {g : Nat} {t : TypeId} {u0 u1 u2 u3 : Value} (h : Bk.Blk w g t #[u0, u1, u2, u3]) (v0 v1 v2 v3 : Value) : Bk.Blk ((((w.setCell ⟨g, 0, none⟩ v0).setCell ⟨g, 1, none⟩ v1).setCell ⟨g, 2, none⟩ v2).setCell ⟨g, 3, none⟩ v3) g t #[v0, v1, v2, v3] := (((h.set_ 0 v0).set_ 1 v1).set_ 2 v2).set_ 3 v3
theorem own_set4K {w : World} {base n g : Nat} {e t : TypeId} {sz : Nat} {v : Value} {xs : List Value} {u0 u1 u2 u3 : Value} (h : w.ownsRow base e sz v n xs) (hb : Bk.Blk w g t #[u0, u1, u2, u3]) (ht : t ≠ e) (v0 v1 v2 v3 : Value) : ((((w.setCell ⟨g, 0, none⟩ v0).setCell ⟨g, 1, none⟩ v1).setCell ⟨g, 2, none⟩ v2).setCell ⟨g, 3, none⟩ v3).ownsRow base e sz v n xs :=
  own_farK (own_farK (own_farK (own_farK h hb ht v0) (hb.set_ 0 v0) ht v1) ((hb.set_ 0 v0).set_ 1 v1) ht v2) (((hb.set_ 0 v0).set_ 1 v1).set_ 2 v2) ht v3
end Go.Proofs.YtgbmbnofnhhblaaDoor.Seal
