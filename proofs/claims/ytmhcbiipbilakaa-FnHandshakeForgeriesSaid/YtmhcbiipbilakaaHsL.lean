/- Laws of the handshake in plain words: what is sent honestly, and what it leads to. -/
import Derived.Test.YtmhcbiipbilakaaHs
namespace Go.Proofs.Ytmhcbiipbilakaa.Hs
open Go.RowKit
open Go.Proofs.Ytmhcbiipbilakaa.Num Go.Proofs.Ytmhcbiipbilakaa.Hsh Go.Proofs.Ytmhcbiipbilakaa.Keys Go.Proofs.Ytmhcbiipbilakaa.Auth

theorem noFT {P : Prop} (e : false = true) : P := nomatch e
theorem noTF {P : Prop} (e : true = false) : P := nomatch e
theorem modI_eq (p : Int) : modI p 2147483647 = p % 2147483647 := by
  unfold modI
  rw [if_pos (by omega)]
theorem macM_bd (k : Int) (zs : List Int) : 0 ≤ macM k zs ∧ macM k zs < 2147483647 := by have := hashL_bd (keyed k zs); unfold macM; omega
theorem keyM_bd (k : Int) (zs : List Int) : 1 ≤ keyM k zs ∧ keyM k zs < 2147483647 := by have := hashL_bd (keyed k zs); unfold keyM orOne; split <;> omega
theorem unh_hid (k re gr : Int) (h0 : 0 ≤ gr) (h1 : gr < 2147483647) : unhM k re (hidM k re gr) = gr := by
  have hm := macM_bd k [47, re]
  unfold unhM hidM
  generalize macM k [47, re] = x at hm
  rw [modI_eq, modI_eq, IntWalk.i64_in (gr + x) ⟨by omega, by omega⟩]
  have h3 := Int.emod_nonneg (gr + x) (show (2147483647 : Int) ≠ 0 by omega)
  have h4 := Int.emod_lt_of_pos (gr + x) (show (0 : Int) < 2147483647 by omega)
  rw [IntWalk.i64_in _ ⟨by omega, by omega⟩]
  omega

/-- the numbers of a handshake: master key, both nonces, the group key -/
structure Par where
  K : Int
  A : Int
  S : Int
  G : Int
structure Par.Ok (p : Par) : Prop where
  k : 1 ≤ p.K ∧ p.K ≤ 50
  a : 1000 ≤ p.A ∧ p.A ≤ 1049
  s : 2000 ≤ p.S ∧ p.S ≤ 2049
  g : 1 ≤ p.G ∧ p.G ≤ 900
def kk (p : Par) : Int := keyM p.K [41, p.A, p.S]
/-- an honest message; the last kind only when the key has been installed -/
def Honest (p : Par) (ins : Int) (x : Msg) : Prop :=
  (x.n = 1 ∧ x.c = p.A) ∨ (x.n = 2 ∧ x.c = p.S ∧ x.m = macOf (kk p) x) ∨ (x.n = 3 ∧ x.c = p.A ∧ x.g = hidM (kk p) x.r p.G ∧ x.m = macOf (kk p) x) ∨ (x.n = 4 ∧ x.m = macOf (kk p) x ∧ ins = 1)
/-- what is in range on the way -/
def Small (i : Nat) (x : Msg) : Prop := 0 ≤ x.r ∧ x.r ≤ (i : Int) + 1 ∧ x.Ok
structure Inv (p : Par) (i : Nat) (a : Aut) (s : Sup) (l : List Msg) : Prop where
  ams : a.ms = p.K
  ano : a.no = p.A
  agr : a.gr = p.G
  are : 1 ≤ a.re ∧ a.re ≤ (i : Int) + 1
  awa : a.wa = 2 ∨ ((a.wa = 4 ∨ a.wa = 0) ∧ a.pe = p.S)
  adn : a.dn = true → s.ins = 1
  sms : s.ms = p.K
  sno : s.no = p.S
  sre : 0 ≤ s.re ∧ s.re ≤ (i : Int) + 1
  spn : s.pn = 0 ∨ s.pn = p.A
  sin : (s.ins = 0 ∧ s.pw = 0) ∨ (s.ins = 1 ∧ s.pw = kk p ∧ s.gk = p.G)
  aok : a.Ok
  sok : s.Ok
  all : ∀ x ∈ l, Honest p s.ins x ∧ Small i x
theorem Honest.more {p : Par} {ins ins' : Int} {x : Msg} (h : Honest p ins x) (hi : ins = 1 → ins' = 1) : Honest p ins' x := by
  rcases h with h | h | h | ⟨h1, h2, h3⟩
  · exact .inl h
  · exact .inr (.inl h)
  · exact .inr (.inr (.inl h))
  · exact .inr (.inr (.inr ⟨h1, h2, hi h3⟩))
theorem Small.more {i j : Nat} {x : Msg} (h : Small i x) (hj : i ≤ j) : Small j x := ⟨h.1, by have := h.2.1; omega, h.2.2⟩
theorem Inv.next {p : Par} {i : Nat} {a : Aut} {s : Sup} {l : List Msg} (h : Inv p i a s l) : Inv p (i + 1) a s l :=
  ⟨h.ams, h.ano, h.agr, ⟨h.are.1, by have := h.are.2; omega⟩, h.awa, h.adn, h.sms, h.sno, ⟨h.sre.1, by have := h.sre.2; omega⟩, h.spn, h.sin, h.aok, h.sok, fun x hx => ⟨(h.all x hx).1, (h.all x hx).2.more (by omega)⟩⟩
theorem aKey_eq {p : Par} {a : Aut} (h1 : a.ms = p.K) (h2 : a.no = p.A) (h3 : a.pe = p.S) : aKey a = kk p := by unfold aKey kk; rw [h1, h2, h3]
theorem wrap_next {x : Int} {i : Nat} (h0 : 0 ≤ x) (h1 : x ≤ (i : Int) + 1) (hi : i ≤ 100) : wrap64 (x + 1) = x + 1 := IntWalk.wrap64_in _ ⟨by omega, by omega⟩
theorem honest_third {p : Par} {a : Aut} {ins : Int} (h1 : a.ms = p.K) (h2 : a.no = p.A) (h3 : a.pe = p.S) (h4 : a.gr = p.G) : Honest p ins (third a) := by
  have e : third a = sgn (kk p) ⟨3, a.re, a.no, hidM (kk p) a.re p.G, 0⟩ := by
    unfold third
    rw [aKey_eq h1 h2 h3, h4]
  rw [e]
  exact .inr (.inr (.inl ⟨rfl, h2, rfl, rfl⟩))
theorem resend_on {a : Aut} (h : canSend a) : resend a = ⟨plus a, third (plus a), true⟩ := if_pos h
theorem resend_off {a : Aut} (h : ¬ canSend a) : resend a = ⟨a, noMsg, false⟩ := if_neg h
theorem inv_plus {p : Par} {i : Nat} {a : Aut} {s : Sup} {l : List Msg} (h : Inv p i a s l) (hi : i ≤ 100) (hc : canSend a) : Inv p (i + 1) (plus a) s (l ++ [third (plus a)]) := by
  have hpe : a.pe = p.S := by
    rcases h.awa with e | e
    · have := hc.1; omega
    · exact e.2
  have hre := h.are
  have hw := wrap_next (x := a.re) (i := i) (by omega) hre.2 hi
  have hN := h.next
  have e : (plus a).re = a.re + 1 := hw
  have hre2 : 1 ≤ (plus a).re ∧ (plus a).re ≤ ((i + 1 : Nat) : Int) + 1 := by rw [e]; omega
  have hok := plus_ok h.aok
  refine ⟨h.ams, h.ano, h.agr, hre2, h.awa, h.adn, hN.sms, hN.sno, hN.sre, hN.spn, hN.sin, hok, hN.sok, fun x hx => ?_⟩
  rcases List.mem_append.1 hx with hx | hx
  · exact hN.all x hx
  · rw [List.mem_singleton] at hx
    subst hx
    exact ⟨honest_third (a := plus a) h.ams h.ano hpe h.agr, (show 0 ≤ (plus a).re by omega), hre2.2, third_ok hok⟩
theorem inv_resend {p : Par} {i : Nat} {a : Aut} {s : Sup} {l : List Msg} (h : Inv p i a s l) (hi : i ≤ 100) :
    ((resend a).ok = false → Inv p (i + 1) (resend a).a s l) ∧ ((resend a).ok = true → Inv p (i + 1) (resend a).a s (l ++ [(resend a).m])) := by
  by_cases hc : canSend a
  · rw [resend_on hc]
    exact ⟨fun e => noTF e, fun _ => inv_plus h hi hc⟩
  · rw [resend_off hc]
    exact ⟨fun _ => h.next, fun e => noFT e⟩
theorem heard_small {i : Nat} {x : Msg} (h : Small i x) : 0 ≤ x.r ∧ x.r ≤ ((i + 1 : Nat) : Int) + 1 := ⟨h.1, by have := h.2.1; omega⟩
/-- the supplicant hears an honest message -/
theorem inv_sup {p : Par} {i : Nat} {a : Aut} {s : Sup} {l : List Msg} {x : Msg} (hp : p.Ok) (h : Inv p i a s l) (hx : x ∈ l) :
    ((supR s x).it = true ↔ (supR s x).s.ins = s.ins + 1) ∧ s.re ≤ (supR s x).s.re ∧ ((supR s x).rp = false → Inv p (i + 1) a (supR s x).s l) ∧ ((supR s x).rp = true → Inv p (i + 1) a (supR s x).s (l ++ [(supR s x).m])) := by
  obtain ⟨hh, hs⟩ := h.all x hx
  have hk := supR_ok h.sok hs.2.2
  have hsm := heard_small hs
  have hN := h.next
  have snoc : ∀ {t : Sup} {y : Msg} (_ : s.ins = 1 → t.ins = 1) (_ : Honest p t.ins y) (_ : Small (i + 1) y), ∀ z ∈ l ++ [y], Honest p t.ins z ∧ Small (i + 1) z := by
    intro t y h1 h2 h3 z hz
    rcases List.mem_append.1 hz with hz | hz
    · exact ⟨(hN.all z hz).1.more h1, (hN.all z hz).2⟩
    · rw [List.mem_singleton] at hz
      subst hz
      exact ⟨h2, h3⟩
  unfold supR at hk ⊢
  split
  · exact ⟨⟨fun e => noFT e, fun e => absurd e (by show ¬ s.ins = s.ins + 1; omega)⟩, Int.le_refl _, fun _ => h.next, fun e => noFT e⟩
  · rename_i hr
    rw [if_neg hr] at hk
    split
    · rename_i h1
      rw [if_pos h1] at hk
      have hc : x.c = p.A := by
        rcases hh with e | e | e | e
        · exact e.2
        all_goals (have := e.1; omega)
      refine ⟨⟨fun e => noFT e, fun e => absurd e (by show ¬ s.ins = s.ins + 1; omega)⟩, (show s.re ≤ x.r by omega), fun e => noTF e, fun _ => ?_⟩
      have hkey : sKey (heard1 s x) = kk p := by
        show keyM s.ms [41, x.c, s.no] = _
        rw [h.sms, hc, h.sno]; rfl
      refine ⟨hN.ams, hN.ano, hN.agr, hN.are, hN.awa, h.adn, h.sms, h.sno, hsm, .inr hc, h.sin, hN.aok, hk.1, snoc (t := heard1 s x) (fun e => e) (.inr (.inl ⟨rfl, h.sno, ?_⟩)) ⟨hsm.1, hsm.2, hk.2⟩⟩
      show macOf (sKey (heard1 s x)) _ = _
      rw [hkey]; rfl
    · rename_i h1
      rw [if_neg h1] at hk
      split
      · rename_i h3
        rw [if_pos h3] at hk
        obtain ⟨h3, hg3⟩ := h3
        obtain ⟨hg, hc⟩ : x.g = hidM (kk p) x.r p.G ∧ x.c = p.A := by
          rcases hh with e | e | e | e
          · have := e.1; omega
          · have := e.1; omega
          · exact ⟨e.2.2.1, e.2.1⟩
          · have := e.1; omega
        have hpn : s.pn = p.A := by rw [← hc]; exact hg3.1.symm
        have hkey : sKey s = kk p := by
          show keyM s.ms [41, s.pn, s.no] = _
          rw [h.sms, hpn, h.sno]; rfl
        have hm4 : ∀ t : Int, t = 1 → Honest p t (sgn (kk p) ⟨4, x.r, 0, 0, 0⟩) := fun t ht => .inr (.inr (.inr ⟨rfl, rfl, ht⟩))
        unfold inst3 at hk ⊢
        rw [hkey] at hk ⊢
        rcases h.sin with ⟨i0, i1⟩ | ⟨i0, i1, i2⟩
        · have hne : ¬ s.pw = kk p := by have := keyM_bd p.K [41, p.A, p.S]; unfold kk; rw [i1]; omega
          rw [if_neg hne] at hk ⊢
          have hw : wrap64 (s.ins + 1) = 1 := by rw [i0]; exact IntWalk.wrap64_in _ ⟨by omega, by omega⟩
          refine ⟨⟨fun _ => (show wrap64 (s.ins + 1) = s.ins + 1 by rw [hw, i0]; rfl), fun _ => rfl⟩, (show s.re ≤ x.r by omega), fun e => noTF e, fun _ => ?_⟩
          refine ⟨hN.ams, hN.ano, hN.agr, hN.are, hN.awa, fun _ => hw, h.sms, h.sno, hsm, .inr hpn, .inr ⟨hw, rfl, ?_⟩, hN.aok, hk.1, snoc (t := took3 s x (kk p)) (fun _ => hw) (hm4 _ hw) ⟨hsm.1, hsm.2, hk.2⟩⟩
          show unhM (kk p) x.r x.g = p.G
          have := hp.g
          rw [hg]; exact unh_hid _ _ _ (by omega) (by omega)
        · rw [if_pos i1] at hk ⊢
          refine ⟨⟨fun e => noFT e, fun e => absurd e (by show ¬ s.ins = s.ins + 1; omega)⟩, (show s.re ≤ x.r by omega), fun e => noTF e, fun _ => ?_⟩
          exact ⟨hN.ams, hN.ano, hN.agr, hN.are, hN.awa, h.adn, h.sms, h.sno, hsm, .inr hpn, .inr ⟨i0, i1, i2⟩, hN.aok, hk.1, snoc (t := heard3 s x) (fun e => e) (hm4 _ i0) ⟨hsm.1, hsm.2, hk.2⟩⟩
      · exact ⟨⟨fun e => noFT e, fun e => absurd e (by show ¬ s.ins = s.ins + 1; omega)⟩, Int.le_refl _, fun _ => h.next, fun e => noFT e⟩
/-- the authenticator hears an honest message -/
theorem inv_aut {p : Par} {i : Nat} {a : Aut} {s : Sup} {l : List Msg} {x : Msg} (h : Inv p i a s l) (hx : x ∈ l) (hi : i ≤ 100) :
    a.re ≤ (autR a x).a.re ∧ ((autR a x).ok = false → Inv p (i + 1) (autR a x).a s l) ∧ ((autR a x).ok = true → Inv p (i + 1) (autR a x).a s (l ++ [(autR a x).m])) := by
  obtain ⟨hh, hs⟩ := h.all x hx
  have hk := autR_ok h.aok hs.2.2
  have hN := h.next
  have hre := h.are
  have hw := wrap_next (by omega) h.are.2 hi
  unfold autR at hk ⊢
  split
  · exact ⟨Int.le_refl _, fun _ => h.next, fun e => noFT e⟩
  · rename_i hr
    rw [if_neg hr] at hk
    split
    · rename_i h2
      rw [if_pos h2] at hk
      have hc : x.c = p.S := by
        have h2 := h2.1
        rcases hh with e | e | e | e
        · have := e.1; omega
        · exact e.2.1
        · have := e.1; omega
        · have := e.1; omega
      refine ⟨(show a.re ≤ wrap64 (a.re + 1) by rw [hw]; omega), fun e => noTF e, fun _ => ?_⟩
      have hre2 : 1 ≤ wrap64 (a.re + 1) ∧ wrap64 (a.re + 1) ≤ ((i + 1 : Nat) : Int) + 1 := by rw [hw]; omega
      refine ⟨h.ams, h.ano, h.agr, hre2, .inr ⟨.inl rfl, hc⟩, h.adn, hN.sms, hN.sno, hN.sre, hN.spn, hN.sin, hk.1, hN.sok, fun z hz => ?_⟩
      rcases List.mem_append.1 hz with hz | hz
      · exact hN.all z hz
      · rw [List.mem_singleton] at hz
        subst hz
        exact ⟨honest_third h.ams h.ano hc h.agr, (show 0 ≤ wrap64 (a.re + 1) by omega), hre2.2, hk.2⟩
    · rename_i h2
      rw [if_neg h2] at hk
      split
      · rename_i h4
        rw [if_pos h4] at hk
        refine ⟨Int.le_refl _, fun _ => ?_, fun e => noFT e⟩
        have hi1 : s.ins = 1 := by
          have h4 := h4.1
          rcases hh with e | e | e | e
          · have := e.1; omega
          · have := e.1; omega
          · have := e.1; omega
          · exact e.2.2
        have hpe : a.pe = p.S := by
          rcases h.awa with e | e
          · have := h4.2.1; omega
          · exact e.2
        exact ⟨h.ams, h.ano, h.agr, hN.are, .inr ⟨.inr rfl, hpe⟩, fun _ => hi1, hN.sms, hN.sno, hN.sre, hN.spn, hN.sin, hk.1, hN.sok, hN.all⟩
      · exact ⟨Int.le_refl _, fun _ => h.next, fun e => noFT e⟩
theorem inv_end {p : Par} {i : Nat} {a : Aut} {s : Sup} {l : List Msg} (h : Inv p i a s l) :
    keyM s.ms [41, a.no, s.no] = kk p ∧ s.ins ≤ 1 ∧ (s.ins = 0 ↔ s.pw = 0) ∧ (s.ins = 0 ∨ (s.pw = kk p ∧ s.gk = a.gr)) ∧ (a.dn = false ∨ s.ins = 1) := by
  have hkb := keyM_bd p.K [41, p.A, p.S]
  refine ⟨by rw [h.sms, h.ano, h.sno]; rfl, ?_, ?_, ?_, ?_⟩
  · rcases h.sin with e | e <;> (have := e.1; omega)
  · rcases h.sin with e | e
    · exact ⟨fun _ => e.2, fun _ => e.1⟩
    · have h1 := e.1
      have h2 := e.2.1
      unfold kk at h2
      exact ⟨fun _ => by omega, fun _ => by omega⟩
  · rcases h.sin with e | e
    · exact .inl e.1
    · exact .inr ⟨e.2.1, by rw [e.2.2, h.agr]⟩
  · cases hd : a.dn
    · exact .inl rfl
    · exact .inr (h.adn hd)
end Go.Proofs.Ytmhcbiipbilakaa.Hs
