/- The walk of the law on RunExchange. -/
import Derived.Test.YtjmclnjpfmnkkaaRunImpl
import Derived.Test.YtjmclnjpfmnkkaaRunSpec
import Derived.Test.YtjmclnjpfmnkkaaSlices
namespace Go.Proofs.Ytjmclnjpfmnkkaa.LawRun
open Go.RowKit
open Go.Proofs.Ytjmclnjpfmnkkaa.Num Go.Proofs.Ytjmclnjpfmnkkaa.Mem Go.Proofs.Ytjmclnjpfmnkkaa.Hsh Go.Proofs.Ytjmclnjpfmnkkaa.Exch Go.Proofs.Ytjmclnjpfmnkkaa.Sls

def rA (pa pb : Int) (zs : List Int) : Int := if zs.length = 4 then runA pa pb (zs.getD 0 0) (zs.getD 1 0) (zs.getD 2 0) (zs.getD 3 0) else 0
def rB (pa pb : Int) (zs : List Int) : Int := if zs.length = 4 then runB pa pb (zs.getD 0 0) (zs.getD 1 0) (zs.getD 2 0) (zs.getD 3 0) else 0
theorem runAll_impl (A : Option Addr) (n c : Nat) (zs : List Int) (pa pb : Int) (w : World) (hr : Rd w 1 A n c (zs.map (Value.int .i64))) :
    Calls Try.prog 58 #[.int .i64 pa, .int .i64 pb, .slice A n c] w fun x w' => x = .returned (.tuple #[.int .i64 (rA pa pb zs), .int .i64 (rB pa pb zs)]) ∧ Below w.heap.size w w' := by
  have hl := len_ints hr
  unfold rA rB
  by_cases h : n = 4
  · subst h
    rw [if_pos hl, if_pos hl]
    obtain ⟨g, o, rfl, _, c0⟩ := hr.int_at (j := 0) (by omega)
    obtain ⟨g1, o1, e1, _, c1⟩ := hr.int_at (j := 1) (by omega)
    obtain ⟨g2, o2, e2, _, c2⟩ := hr.int_at (j := 2) (by omega)
    obtain ⟨g3, o3, e3, _, c3⟩ := hr.int_at (j := 3) (by omega)
    simp only [Option.some.injEq, Addr.mk.injEq, and_true] at e1 e2 e3
    obtain ⟨rfl, rfl⟩ := e1
    obtain ⟨rfl, rfl⟩ := e2
    obtain ⟨rfl, rfl⟩ := e3
    exact run_impl g o c pa pb _ _ _ _ w c0 c1 c2 c3
  · rw [if_neg (by omega), if_neg (by omega)]
    exact (runLen_impl A n c pa pb w h).mono fun x w' ⟨h1, h2⟩ => ⟨h1, by rw [← h2]; exact Below.refl _ _⟩
theorem runAll_spec (A : Option Addr) (n c : Nat) (zs : List Int) (pa pb : Int) (w : World) (hr : Rd w 1 A n c (zs.map (Value.int .i64))) :
    Calls Try.prog 56 #[.int .i64 pa, .int .i64 pb, .slice A n c] w fun x w' => x = .returned (.tuple #[.int .i64 (rA pa pb zs), .int .i64 (rB pa pb zs)]) ∧ Below w.heap.size w w' := by
  have hl := len_ints hr
  unfold rA rB
  by_cases h : n = 4
  · subst h
    rw [if_pos hl, if_pos hl]
    obtain ⟨g, o, rfl, _, c0⟩ := hr.int_at (j := 0) (by omega)
    obtain ⟨g1, o1, e1, _, c1⟩ := hr.int_at (j := 1) (by omega)
    obtain ⟨g2, o2, e2, _, c2⟩ := hr.int_at (j := 2) (by omega)
    obtain ⟨g3, o3, e3, _, c3⟩ := hr.int_at (j := 3) (by omega)
    simp only [Option.some.injEq, Addr.mk.injEq, and_true] at e1 e2 e3
    obtain ⟨rfl, rfl⟩ := e1
    obtain ⟨rfl, rfl⟩ := e2
    obtain ⟨rfl, rfl⟩ := e3
    exact run_spec g o c pa pb _ _ _ _ w c0 c1 c2 c3
  · rw [if_neg (by omega), if_neg (by omega)]
    exact (runLen_spec A n c pa pb w h).mono fun x w' ⟨h1, h2⟩ => ⟨h1, by rw [← h2]; exact Below.refl _ _⟩

set_option maxHeartbeats 1000000 in
theorem run_law (pa pb : Int) (A : Option Addr) (n c : Nat) (zs : List Int) (w : World) (_h0 : (Lit.int .i64 pa).wf = true) (_h1 : (Lit.int .i64 pb).wf = true) (hrow : RowIn .i64 w A n c zs) :
    Calls Try.prog 19 #[.int .i64 pa, .int .i64 pb, .slice A n c] w fun e w' => e = .returned (.bool true) ∧ Below w.heap.size w w' := by
  have HR := Lib.hid hrow.1
  clear hrow
  by_cases hbig : 1048576 < (n : Int)
  · go_enter Try.func19, Try.ntmps19
    go_wp2
    go_ret
    exact ⟨rfl, Below.refl _ _⟩
  · have hn : n ≤ 2097152 := by omega
    go_enter Try.func19, Try.ntmps19
    go_wp2_with fail
    refine (toIntS_any A n c zs _ HR.out hn).mono ?_
    rintro e w1 ⟨A1, c1, rfl, hown, B⟩
    have h1 := Lib.hid (Rd.of_own hown)
    clear hown
    go_wp2_with fail
    refine (runAll_spec _ _ _ zs _ _ _ h1.out).mono ?_
    rintro e w2 ⟨rfl, hb⟩
    replace B := stepW B hb
    clear hb h1
    go_wp2_with fail
    refine (toIntS_any A n c zs _ (HR.out.below B) hn).mono ?_
    rintro e w3 ⟨A2, c2, rfl, hown, hb⟩
    have h2 := Lib.hid (Rd.of_own hown)
    replace B := stepW B hb
    clear hown hb
    go_wp2_with fail
    refine (runAll_impl _ _ _ zs _ _ _ h2.out).mono ?_
    rintro e w4 ⟨rfl, hb⟩
    have h3 := Lib.hid (h2.out.below hb)
    replace B := stepW B hb
    clear hb h2
    go_wp2_with fail
    refine (toIntS_any A n c zs _ (HR.out.below B) hn).mono ?_
    rintro e w5 ⟨A3, c3, rfl, hown, hb⟩
    have h4 := Lib.hid (Rd.of_own hown)
    have h5 := Lib.hid (h3.out.below hb)
    replace B := stepW B hb
    clear hown hb h3
    go_wp2_with fail
    refine (eqIntS_laws _ _ _ zs _ _ _ zs _ h5.out h4.out).mono ?_
    rintro e w6 ⟨rfl, hb⟩
    replace B := stepW B hb
    clear hb h4 h5
    go_wp2
    go_ret
    exact ⟨rfl, B⟩
end Go.Proofs.Ytjmclnjpfmnkkaa.LawRun
