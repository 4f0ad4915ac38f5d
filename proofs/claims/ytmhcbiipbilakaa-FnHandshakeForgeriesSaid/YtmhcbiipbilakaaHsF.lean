/- The handshake without losses, and forged messages, in plain words. -/
import Derived.Test.YtmhcbiipbilakaaHsL
namespace Go.Proofs.Ytmhcbiipbilakaa.Hs
open Go.RowKit
open Go.Proofs.Ytmhcbiipbilakaa.Num Go.Proofs.Ytmhcbiipbilakaa.Hsh Go.Proofs.Ytmhcbiipbilakaa.Keys Go.Proofs.Ytmhcbiipbilakaa.Auth

theorem macOf_bd (k : Int) (m : Msg) : 0 ≤ macOf k m ∧ macOf k m < 2147483647 := macM_bd _ _
/-- the four messages -/
def m1 (p : Par) : Msg := ⟨1, 1, p.A, 0, 0⟩
def m2 (p : Par) : Msg := sgn (kk p) ⟨2, 1, p.S, 0, 0⟩
def m3 (p : Par) : Msg := sgn (kk p) ⟨3, 2, p.A, hidM (kk p) 2 p.G, 0⟩
def m4 (p : Par) : Msg := sgn (kk p) ⟨4, 2, 0, 0, 0⟩
theorem hs1 (p : Par) : supR ⟨p.K, p.S, 0, 0, 0, 0, 0⟩ (m1 p) = ⟨⟨p.K, p.S, p.A, 1, 0, 0, 0⟩, m2 p, true, false⟩ := by
  unfold supR m1
  rw [if_neg (by simp), if_pos rfl]
  rfl
theorem hs2 (p : Par) : autR ⟨p.K, p.A, 0, 1, p.G, 2, false⟩ (m2 p) = ⟨⟨p.K, p.A, p.S, 2, p.G, 4, false⟩, m3 p, true⟩ := by
  unfold autR
  rw [if_neg (by simp [m2, sgn]), if_pos ⟨rfl, rfl, rfl⟩]
  have hw : wrap64 (1 + 1) = 2 := IntWalk.wrap64_in _ ⟨by omega, by omega⟩
  have ht : took2 ⟨p.K, p.A, 0, 1, p.G, 2, false⟩ (m2 p) = ⟨p.K, p.A, p.S, 2, p.G, 4, false⟩ := by
    unfold took2
    simp only [hw]
    rfl
  rw [ht]
  rfl
theorem hs3 (p : Par) (hp : p.Ok) : supR ⟨p.K, p.S, p.A, 1, 0, 0, 0⟩ (m3 p) = ⟨⟨p.K, p.S, p.A, 2, kk p, p.G, 1⟩, m4 p, true, true⟩ := by
  unfold supR
  rw [if_neg (by simp [m3, sgn]), if_neg (by simp [m3, sgn]), if_pos ⟨rfl, rfl, rfl⟩]
  unfold inst3
  have hb := keyM_bd p.K [41, p.A, p.S]
  have hk : sKey ⟨p.K, p.S, p.A, 1, 0, 0, 0⟩ = kk p := rfl
  rw [hk, if_neg (by show ¬ (0 = kk p); unfold kk; omega)]
  have hu : unhM (kk p) 2 (hidM (kk p) 2 p.G) = p.G := unh_hid _ _ _ (by have := hp.g; omega) (by have := hp.g; omega)
  have hw : wrap64 (0 + 1) = 1 := IntWalk.wrap64_in _ ⟨by omega, by omega⟩
  have ht : took3 ⟨p.K, p.S, p.A, 1, 0, 0, 0⟩ (m3 p) (kk p) = ⟨p.K, p.S, p.A, 2, kk p, p.G, 1⟩ := by
    show (⟨p.K, p.S, p.A, 2, kk p, unhM (kk p) 2 (hidM (kk p) 2 p.G), wrap64 (0 + 1)⟩ : Sup) = _
    rw [hu, hw]
  rw [ht]
  rfl
theorem hs4 (p : Par) : autR ⟨p.K, p.A, p.S, 2, p.G, 4, false⟩ (m4 p) = ⟨⟨p.K, p.A, p.S, 2, p.G, 0, true⟩, noMsg, false⟩ := by
  unfold autR
  rw [if_neg (by simp [m4, sgn]), if_neg (by simp [good2, m4, sgn]), if_pos ⟨rfl, rfl, rfl⟩]
  rfl

/-- a message whose code is wrong by one -/
def forged (k : Int) (m : Msg) : Msg := ⟨m.n, m.r, m.c, m.g, macOf k m + 1⟩
theorem forge_sup (s : Sup) (m : Msg) : (supR s (forged (sKey s) m)).it = false ∧ (supR s (forged (sKey s) m)).s.ins = s.ins ∧ (supR s (forged (sKey s) m)).s.pw = s.pw ∧ (supR s (forged (sKey s) m)).s.ms = s.ms := by
  unfold supR
  split
  · exact ⟨rfl, rfl, rfl, rfl⟩
  · split
    · exact ⟨rfl, rfl, rfl, rfl⟩
    · split
      · rename_i h
        have h2 : macOf (sKey s) m + 1 = macOf (sKey s) m := h.2.2
        omega
      · exact ⟨rfl, rfl, rfl, rfl⟩
theorem forge_aut2 (a : Aut) (m : Msg) (h : m.n = 2) : (autR a (forged (aKey a) m)).a.dn = a.dn := by
  unfold autR
  split
  · rfl
  · split
    · rfl
    · split
      · rename_i h4
        have h4 : m.n = 4 := h4.1
        omega
      · rfl
theorem forge_aut (a : Aut) (m : Msg) (h : m.n ≠ 2) : autR a (forged (aKey a) m) = ⟨a, noMsg, false⟩ := by
  unfold autR
  split
  · rfl
  · split
    · rename_i h2
      exact absurd h2.1 h
    · split
      · rename_i h4
        have h4 : macOf (aKey a) m + 1 = macOf (aKey a) m := h4.2.2
        omega
      · rfl
end Go.Proofs.Ytmhcbiipbilakaa.Hs
