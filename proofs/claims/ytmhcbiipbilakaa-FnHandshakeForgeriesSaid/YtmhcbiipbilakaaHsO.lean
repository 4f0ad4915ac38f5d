/- The reference's side of the handshake: what is handed back is well formed. -/
import Derived.Test.YtmhcbiipbilakaaHsM
import Derived.Test.YtmhcbiipbilakaaHsN
namespace Go.Proofs.Ytmhcbiipbilakaa.Hs
open Go.RowKit
open Go.Proofs.Ytmhcbiipbilakaa.Num Go.Proofs.Ytmhcbiipbilakaa.Mem Go.Proofs.Ytmhcbiipbilakaa.Hsh Go.Proofs.Ytmhcbiipbilakaa.Keys Go.Proofs.Ytmhcbiipbilakaa.Hand Go.Proofs.Ytmhcbiipbilakaa.Auth
/-- SupplicantReceive of the reference is what the plain words say -/
theorem sup_spec (s : Sup) (m : Msg) (w : World) (hs : s.Ok) (hm : m.Ok) :
    Calls Try.prog 61 #[.agg #[.int .i64 s.ms, .int .i64 s.no, .int .i64 s.pn, .int .i64 s.re, .int .i64 s.pw, .int .i64 s.gk, .int .i64 s.ins], .agg #[.int .i64 m.n, .int .i64 m.r, .int .i64 m.c, .int .i64 m.g, .int .i64 m.m]] w fun x w' => x = .returned (.agg #[.int .i64 (supR s m).s.ms, .int .i64 (supR s m).s.no, .int .i64 (supR s m).s.pn, .int .i64 (supR s m).s.re, .int .i64 (supR s m).s.pw, .int .i64 (supR s m).s.gk, .int .i64 (supR s m).s.ins, .int .i64 (supR s m).m.n, .int .i64 (supR s m).m.r, .int .i64 (supR s m).m.c, .int .i64 (supR s m).m.g, .int .i64 (supR s m).m.m, .bool (supR s m).rp, .bool (supR s m).it]) ∧ Below w.heap.size w w' := by
  by_cases hr : m.r ≤ s.re
  · have e : supR s m = ⟨s, noMsg, false, false⟩ := by unfold supR; rw [if_pos hr]
    rw [e]
    exact sups_old s m w hs hm hr
  · have hr' : s.re < m.r := by omega
    by_cases h1 : m.n = 1
    · have e : supR s m = ⟨heard1 s m, sgn (sKey (heard1 s m)) ⟨2, m.r, s.no, 0, 0⟩, true, false⟩ := by unfold supR; rw [if_neg hr, if_pos h1]
      rw [e]
      exact sups_one s m w hs hm hr' (by simpa using h1)
    · have h1' : (m.n == 1) = false := by simpa using h1
      by_cases h3 : m.n = 3
      · have h3' : (m.n == 3) = true := by simpa using h3
        by_cases hg : good3 s m
        · have hc : (m.c == s.pn) = true := by simpa using hg.1
          have hv : (m.m == macM (keyM s.ms [41, s.pn, s.no]) [43, m.n, m.r, m.c, m.g]) = true := by simpa [macOf, sKey] using hg.2
          by_cases hp : s.pw = sKey s
          · have e : supR s m = ⟨heard3 s m, sgn (sKey s) ⟨4, m.r, 0, 0, 0⟩, true, false⟩ := by unfold supR inst3; rw [if_neg hr, if_neg h1, if_pos ⟨h3, hg⟩, if_pos hp]
            rw [e]
            exact sups_again s m w hs hm hr' h1' h3' hc hv (by simpa [sKey] using hp)
          · have e : supR s m = ⟨took3 s m (sKey s), sgn (sKey s) ⟨4, m.r, 0, 0, 0⟩, true, true⟩ := by unfold supR inst3; rw [if_neg hr, if_neg h1, if_pos ⟨h3, hg⟩, if_neg hp]
            rw [e]
            exact sups_take s m w hs hm hr' h1' h3' hc hv (by simpa [sKey] using hp)
        · have e : supR s m = ⟨s, noMsg, false, false⟩ := by unfold supR; rw [if_neg hr, if_neg h1, if_neg (fun h => hg h.2)]
          rw [e]
          by_cases hc : m.c = s.pn
          · exact sups_bad s m w hs hm hr' h1' h3' (by simpa using hc) (by simpa [macOf, sKey] using fun hv => hg ⟨hc, hv⟩)
          · exact sups_nonce s m w hs hm hr' h1' h3' (by simpa using hc)
      · have e : supR s m = ⟨s, noMsg, false, false⟩ := by unfold supR; rw [if_neg hr, if_neg h1, if_neg (fun h => h3 h.1)]
        rw [e]
        exact sups_other s m w hs hm hr' h1' (by simpa using h3)
/-- AuthenticatorReceive of the reference is what the plain words say -/
theorem aut_spec (a : Aut) (m : Msg) (w : World) (ha : a.Ok) (hm : m.Ok) :
    Calls Try.prog 62 #[.agg #[.int .i64 a.ms, .int .i64 a.no, .int .i64 a.pe, .int .i64 a.re, .int .i64 a.gr, .int .i64 a.wa, .bool a.dn], .agg #[.int .i64 m.n, .int .i64 m.r, .int .i64 m.c, .int .i64 m.g, .int .i64 m.m]] w fun x w' => x = .returned (.tuple #[.agg #[.int .i64 (autR a m).a.ms, .int .i64 (autR a m).a.no, .int .i64 (autR a m).a.pe, .int .i64 (autR a m).a.re, .int .i64 (autR a m).a.gr, .int .i64 (autR a m).a.wa, .bool (autR a m).a.dn], .agg #[.int .i64 (autR a m).m.n, .int .i64 (autR a m).m.r, .int .i64 (autR a m).m.c, .int .i64 (autR a m).m.g, .int .i64 (autR a m).m.m], .bool (autR a m).ok]) ∧ Below w.heap.size w w' := by
  by_cases hr : m.r ≠ a.re
  · have e : autR a m = ⟨a, noMsg, false⟩ := by unfold autR; rw [if_pos hr]
    rw [e]
    exact auts_old a m w ha hm (by simpa using hr)
  · have hr' : (m.r != a.re) = false := by simpa using hr
    by_cases h2 : m.n = 2
    · have h2' : (m.n == 2) = true := by simpa using h2
      have h4' : (m.n == 4) = false := by simpa using (show ¬ m.n = 4 by omega)
      have n4 : ¬ good4 a m := fun h => by have := h.1; omega
      by_cases hw : a.wa = 2
      · by_cases hv : m.m = macOf (keyM a.ms [41, a.no, m.c]) m
        · have e : autR a m = ⟨took2 a m, third (took2 a m), true⟩ := by unfold autR; rw [if_neg hr, if_pos ⟨h2, hw, hv⟩]
          rw [e]
          exact auts_g a m w ha hm hr' h2' (by simpa using hw) (by simpa [macOf] using hv)
        · have e : autR a m = ⟨a, noMsg, false⟩ := by unfold autR; rw [if_neg hr, if_neg (fun h => hv h.2.2), if_neg n4]
          rw [e]
          exact auts_f a m w ha hm hr' h2' h4' (by simpa using hw) (by simpa [macOf] using hv)
      · have e : autR a m = ⟨a, noMsg, false⟩ := by unfold autR; rw [if_neg hr, if_neg (fun h => hw h.2.1), if_neg n4]
        rw [e]
        exact auts_e a m w ha hm hr' h2' h4' (by simpa using hw)
    · have h2' : (m.n == 2) = false := by simpa using h2
      have n2 : ¬ good2 a m := fun h => h2 h.1
      by_cases h4 : m.n = 4
      · have h4' : (m.n == 4) = true := by simpa using h4
        by_cases hw : a.wa = 4
        · by_cases hv : m.m = macOf (keyM a.ms [41, a.no, a.pe]) m
          · have e : autR a m = ⟨took4 a, noMsg, false⟩ := by unfold autR; rw [if_neg hr, if_neg n2, if_pos ⟨h4, hw, hv⟩]
            rw [e]
            exact auts_d a m w ha hm hr' h2' h4' (by simpa using hw) (by simpa [macOf] using hv)
          · have e : autR a m = ⟨a, noMsg, false⟩ := by unfold autR; rw [if_neg hr, if_neg n2, if_neg (fun h => hv h.2.2)]
            rw [e]
            exact auts_c a m w ha hm hr' h2' h4' (by simpa using hw) (by simpa [macOf] using hv)
        · have e : autR a m = ⟨a, noMsg, false⟩ := by unfold autR; rw [if_neg hr, if_neg n2, if_neg (fun h => hw h.2.1)]
          rw [e]
          exact auts_b a m w ha hm hr' h2' h4' (by simpa using hw)
      · have e : autR a m = ⟨a, noMsg, false⟩ := by unfold autR; rw [if_neg hr, if_neg n2, if_neg (fun h => h4 h.1)]
        rw [e]
        exact auts_a a m w ha hm hr' h2' (by simpa using h4)
def RetA (w : World) (x : Ending) (w' : World) : Prop := ∃ (a : Aut) (m : Msg), a.Ok ∧ m.Ok ∧ x = .returned (.tuple #[.agg #[.int .i64 a.ms, .int .i64 a.no, .int .i64 a.pe, .int .i64 a.re, .int .i64 a.gr, .int .i64 a.wa, .bool a.dn], .agg #[.int .i64 m.n, .int .i64 m.r, .int .i64 m.c, .int .i64 m.g, .int .i64 m.m]]) ∧ Below w.heap.size w w'
def RetB (w : World) (x : Ending) (w' : World) : Prop := ∃ (a : Aut) (m : Msg) (b : Bool), a.Ok ∧ m.Ok ∧ x = .returned (.tuple #[.agg #[.int .i64 a.ms, .int .i64 a.no, .int .i64 a.pe, .int .i64 a.re, .int .i64 a.gr, .int .i64 a.wa, .bool a.dn], .agg #[.int .i64 m.n, .int .i64 m.r, .int .i64 m.c, .int .i64 m.g, .int .i64 m.m], .bool b]) ∧ Below w.heap.size w w'
def RetS (w : World) (x : Ending) (w' : World) : Prop := ∃ (s : Sup) (m : Msg) (b d : Bool), s.Ok ∧ m.Ok ∧ x = .returned (.agg #[.int .i64 s.ms, .int .i64 s.no, .int .i64 s.pn, .int .i64 s.re, .int .i64 s.pw, .int .i64 s.gk, .int .i64 s.ins, .int .i64 m.n, .int .i64 m.r, .int .i64 m.c, .int .i64 m.g, .int .i64 m.m, .bool b, .bool d]) ∧ Below w.heap.size w w'
theorem send_any (a : Aut) (w : World) (h : a.Ok) : Calls Try.prog 25 #[.agg #[.int .i64 a.ms, .int .i64 a.no, .int .i64 a.pe, .int .i64 a.re, .int .i64 a.gr, .int .i64 a.wa, .bool a.dn]] w (RetA w) := by
  by_cases hr : 0 ≤ a.re ∧ a.re ≤ 999999999999
  · refine (first_yes_spec a.ms a.no a.pe a.re a.gr a.wa a.dn w hr.1 hr.2).mono fun x w' hx => ?_
    have h4 : I64 (a.re + 1) := by unfold I64; omega
    exact ⟨⟨a.ms, a.no, a.pe, a.re + 1, a.gr, 2, false⟩, ⟨1, a.re + 1, a.no, 0, 0⟩, ⟨h.1, h.2.1, h.2.2.1, h4, h.2.2.2.2.1, small_i64 2 (by omega)⟩, ⟨small_i64 1 (by omega), h4, h.2.1, zero_i64, zero_i64⟩, hx.1, hx.2⟩
  · refine (first_no_spec a.ms a.no a.pe a.re a.gr a.wa a.dn w (by omega)).mono fun x w' hx => ?_
    exact ⟨a, noMsg, h, noMsg_ok, hx.1, hx.2⟩
theorem resendS_any (a : Aut) (w : World) (h : a.Ok) : Calls Try.prog 29 #[.agg #[.int .i64 a.ms, .int .i64 a.no, .int .i64 a.pe, .int .i64 a.re, .int .i64 a.gr, .int .i64 a.wa, .bool a.dn]] w (RetB w) := by
  obtain ⟨h1, h2, h3, h4, h5, h6⟩ := h
  have h0 : a.Ok := ⟨h1, h2, h3, h4, h5, h6⟩
  have hk := resend_ok h0
  have key : Calls Try.prog 29 #[.agg #[.int .i64 a.ms, .int .i64 a.no, .int .i64 a.pe, .int .i64 a.re, .int .i64 a.gr, .int .i64 a.wa, .bool a.dn]] w fun x w' => x = .returned (.tuple #[.agg #[.int .i64 (resend a).a.ms, .int .i64 (resend a).a.no, .int .i64 (resend a).a.pe, .int .i64 (resend a).a.re, .int .i64 (resend a).a.gr, .int .i64 (resend a).a.wa, .bool (resend a).a.dn], .agg #[.int .i64 (resend a).m.n, .int .i64 (resend a).m.r, .int .i64 (resend a).m.c, .int .i64 (resend a).m.g, .int .i64 (resend a).m.m], .bool (resend a).ok]) ∧ Below w.heap.size w w' := by
    clear hk h0
    by_cases hc : canSend a
    · rw [resend_on hc]
      obtain ⟨ms, no, pe, re, gr, wa, dn⟩ := a
      obtain ⟨e1, e2, e3⟩ := hc
      dsimp only at e1 e2 e3 h1 h2 h3 h5
      subst e1
      have h := resend_on_spec ms no pe re gr dn w h1 h2 h3 h5 e2 e3
      rw [← wrap1 e2 e3] at h
      exact h
    · rw [resend_off hc]
      obtain ⟨ms, no, pe, re, gr, wa, dn⟩ := a
      by_cases h4 : wa = 4
      · subst h4
        exact resend_off2_spec ms no pe re gr dn w (by by_cases h : 0 ≤ re ∧ re ≤ 999999999999; exact absurd ⟨rfl, h.1, h.2⟩ hc; omega)
      · exact resend_off1_spec ms no pe re gr wa dn w (by simpa using h4)
  exact key.mono fun x w' hx => ⟨_, _, _, hk.1, hk.2, hx.1, hx.2⟩
theorem supS_any (s : Sup) (m : Msg) (w : World) (hs : s.Ok) (hm : m.Ok) : Calls Try.prog 61 #[.agg #[.int .i64 s.ms, .int .i64 s.no, .int .i64 s.pn, .int .i64 s.re, .int .i64 s.pw, .int .i64 s.gk, .int .i64 s.ins], .agg #[.int .i64 m.n, .int .i64 m.r, .int .i64 m.c, .int .i64 m.g, .int .i64 m.m]] w (RetS w) := by
  have hk := supR_ok hs hm
  exact (sup_spec s m w hs hm).mono fun x w' hx => ⟨_, _, _, _, hk.1, hk.2, hx.1, hx.2⟩
theorem autS_any (a : Aut) (m : Msg) (w : World) (ha : a.Ok) (hm : m.Ok) : Calls Try.prog 62 #[.agg #[.int .i64 a.ms, .int .i64 a.no, .int .i64 a.pe, .int .i64 a.re, .int .i64 a.gr, .int .i64 a.wa, .bool a.dn], .agg #[.int .i64 m.n, .int .i64 m.r, .int .i64 m.c, .int .i64 m.g, .int .i64 m.m]] w (RetB w) := by
  have hk := autR_ok ha hm
  exact (aut_spec a m w ha hm).mono fun x w' hx => ⟨_, _, _, hk.1, hk.2, hx.1, hx.2⟩
end Go.Proofs.Ytmhcbiipbilakaa.Hs
