/- The handshake in plain words: what each side does with a message. No program in sight. -/
import Derived.Test.YtmhcbiipbilakaaThird
namespace Go.Proofs.Ytmhcbiipbilakaa.Hs
open Go.RowKit
open Go.Proofs.Ytmhcbiipbilakaa.Num Go.Proofs.Ytmhcbiipbilakaa.Hsh Go.Proofs.Ytmhcbiipbilakaa.Keys Go.Proofs.Ytmhcbiipbilakaa.Auth

/-- a message of the handshake -/
structure Msg where
  n : Int
  r : Int
  c : Int
  g : Int
  m : Int
/-- the authenticator -/
structure Aut where
  ms : Int
  no : Int
  pe : Int
  re : Int
  gr : Int
  wa : Int
  dn : Bool
/-- the supplicant -/
structure Sup where
  ms : Int
  no : Int
  pn : Int
  re : Int
  pw : Int
  gk : Int
  ins : Int
/-- what the supplicant answers -/
structure Ans where
  s : Sup
  m : Msg
  rp : Bool
  it : Bool
/-- what the authenticator answers -/
structure Rep where
  a : Aut
  m : Msg
  ok : Bool

def Msg.Ok (m : Msg) : Prop := I64 m.n ∧ I64 m.r ∧ I64 m.c ∧ I64 m.g ∧ I64 m.m
def Aut.Ok (a : Aut) : Prop := I64 a.ms ∧ I64 a.no ∧ I64 a.pe ∧ I64 a.re ∧ I64 a.gr ∧ I64 a.wa
def Sup.Ok (s : Sup) : Prop := I64 s.ms ∧ I64 s.no ∧ I64 s.pn ∧ I64 s.re ∧ I64 s.pw ∧ I64 s.gk ∧ I64 s.ins

def noMsg : Msg := ⟨0, 0, 0, 0, 0⟩
def macOf (k : Int) (m : Msg) : Int := macM k [43, m.n, m.r, m.c, m.g]
def sgn (k : Int) (m : Msg) : Msg := ⟨m.n, m.r, m.c, m.g, macOf k m⟩
/-- the group key out of a hidden one -/
def unhM (k re g : Int) : Int := modI (IntKind.i64.wrap (g - macM k [47, re])) 2147483647
def aKey (a : Aut) : Int := keyM a.ms [41, a.no, a.pe]
def sKey (s : Sup) : Int := keyM s.ms [41, s.pn, s.no]
def third (a : Aut) : Msg := sgn (aKey a) ⟨3, a.re, a.no, hidM (aKey a) a.re a.gr, 0⟩
def plus (a : Aut) : Aut := ⟨a.ms, a.no, a.pe, wrap64 (a.re + 1), a.gr, a.wa, a.dn⟩
def canSend (a : Aut) : Prop := a.wa = 4 ∧ 0 ≤ a.re ∧ a.re ≤ 999999999999
instance (a : Aut) : Decidable (canSend a) := by unfold canSend; infer_instance
def resend (a : Aut) : Rep := if canSend a then ⟨plus a, third (plus a), true⟩ else ⟨a, noMsg, false⟩
def heard1 (s : Sup) (m : Msg) : Sup := ⟨s.ms, s.no, m.c, m.r, s.pw, s.gk, s.ins⟩
def heard3 (s : Sup) (m : Msg) : Sup := ⟨s.ms, s.no, s.pn, m.r, s.pw, s.gk, s.ins⟩
def took3 (s : Sup) (m : Msg) (k : Int) : Sup := ⟨s.ms, s.no, s.pn, m.r, k, unhM k m.r m.g, wrap64 (s.ins + 1)⟩
def good3 (s : Sup) (m : Msg) : Prop := m.c = s.pn ∧ m.m = macOf (sKey s) m
instance (s : Sup) (m : Msg) : Decidable (good3 s m) := by unfold good3; infer_instance
def inst3 (s : Sup) (m : Msg) (k : Int) : Ans := if s.pw = k then ⟨heard3 s m, sgn k ⟨4, m.r, 0, 0, 0⟩, true, false⟩ else ⟨took3 s m k, sgn k ⟨4, m.r, 0, 0, 0⟩, true, true⟩
def supR (s : Sup) (m : Msg) : Ans :=
  if m.r ≤ s.re then ⟨s, noMsg, false, false⟩
  else if m.n = 1 then ⟨heard1 s m, sgn (sKey (heard1 s m)) ⟨2, m.r, s.no, 0, 0⟩, true, false⟩
  else if m.n = 3 ∧ good3 s m then inst3 s m (sKey s)
  else ⟨s, noMsg, false, false⟩
def took2 (a : Aut) (m : Msg) : Aut := ⟨a.ms, a.no, m.c, wrap64 (a.re + 1), a.gr, 4, a.dn⟩
def took4 (a : Aut) : Aut := ⟨a.ms, a.no, a.pe, a.re, a.gr, 0, true⟩
def good2 (a : Aut) (m : Msg) : Prop := m.n = 2 ∧ a.wa = 2 ∧ m.m = macOf (keyM a.ms [41, a.no, m.c]) m
instance (a : Aut) (m : Msg) : Decidable (good2 a m) := by unfold good2; infer_instance
def good4 (a : Aut) (m : Msg) : Prop := m.n = 4 ∧ a.wa = 4 ∧ m.m = macOf (aKey a) m
instance (a : Aut) (m : Msg) : Decidable (good4 a m) := by unfold good4; infer_instance
def autR (a : Aut) (m : Msg) : Rep :=
  if m.r ≠ a.re then ⟨a, noMsg, false⟩
  else if good2 a m then ⟨took2 a m, third (took2 a m), true⟩
  else if good4 a m then ⟨took4 a, noMsg, false⟩
  else ⟨a, noMsg, false⟩
theorem wrap_i64 (x : Int) : I64 (wrap64 x) := wrapB x
theorem unhM_i64 (k re g : Int) : I64 (unhM k re g) := by have := Auth.modI_bd (IntKind.i64.wrap (g - macM k [47, re])); unfold unhM I64; omega
theorem zero_i64 : I64 0 := by unfold I64; omega
theorem noMsg_ok : noMsg.Ok := ⟨zero_i64, zero_i64, zero_i64, zero_i64, zero_i64⟩
theorem sgn_ok {k : Int} {m : Msg} (h : m.Ok) : (sgn k m).Ok := ⟨h.1, h.2.1, h.2.2.1, h.2.2.2.1, macM_i64 _ _⟩
theorem small_i64 (n : Int) (h : 0 ≤ n ∧ n ≤ 1000000) : I64 n := by unfold I64; omega
theorem third_ok {a : Aut} (h : a.Ok) : (third a).Ok := sgn_ok ⟨small_i64 3 (by omega), h.2.2.2.1, h.2.1, hidM_i64 _ _ _, zero_i64⟩
theorem plus_ok {a : Aut} (h : a.Ok) : (plus a).Ok := ⟨h.1, h.2.1, h.2.2.1, wrap_i64 _, h.2.2.2.2.1, h.2.2.2.2.2⟩
theorem resend_ok {a : Aut} (h : a.Ok) : (resend a).a.Ok ∧ (resend a).m.Ok := by
  unfold resend
  split
  · exact ⟨plus_ok h, third_ok (plus_ok h)⟩
  · exact ⟨h, noMsg_ok⟩
theorem supR_ok {s : Sup} {m : Msg} (h : s.Ok) (hm : m.Ok) : (supR s m).s.Ok ∧ (supR s m).m.Ok := by
  obtain ⟨h1, h2, h3, h4, h5, h6, h7⟩ := h
  obtain ⟨m1, m2, m3, m4, m5⟩ := hm
  have h0 : s.Ok := ⟨h1, h2, h3, h4, h5, h6, h7⟩
  unfold supR
  split
  · exact ⟨h0, noMsg_ok⟩
  · split
    · exact ⟨⟨h1, h2, m3, m2, h5, h6, h7⟩, sgn_ok ⟨small_i64 2 (by omega), m2, h2, zero_i64, zero_i64⟩⟩
    · split
      · unfold inst3
        split
        · exact ⟨⟨h1, h2, h3, m2, h5, h6, h7⟩, sgn_ok ⟨small_i64 4 (by omega), m2, zero_i64, zero_i64, zero_i64⟩⟩
        · exact ⟨⟨h1, h2, h3, m2, keyM_i64 _ _, unhM_i64 _ _ _, wrap_i64 _⟩, sgn_ok ⟨small_i64 4 (by omega), m2, zero_i64, zero_i64, zero_i64⟩⟩
      · exact ⟨h0, noMsg_ok⟩
theorem autR_ok {a : Aut} {m : Msg} (h : a.Ok) (hm : m.Ok) : (autR a m).a.Ok ∧ (autR a m).m.Ok := by
  obtain ⟨h1, h2, h3, h4, h5, h6⟩ := h
  obtain ⟨m1, m2, m3, m4, m5⟩ := hm
  have h0 : a.Ok := ⟨h1, h2, h3, h4, h5, h6⟩
  have ht : (took2 a m).Ok := ⟨h1, h2, m3, wrap_i64 _, h5, small_i64 4 (by omega)⟩
  unfold autR
  split
  · exact ⟨h0, noMsg_ok⟩
  · split
    · exact ⟨ht, third_ok ht⟩
    · split
      · exact ⟨⟨h1, h2, h3, h4, h5, zero_i64⟩, noMsg_ok⟩
      · exact ⟨h0, noMsg_ok⟩
end Go.Proofs.Ytmhcbiipbilakaa.Hs
