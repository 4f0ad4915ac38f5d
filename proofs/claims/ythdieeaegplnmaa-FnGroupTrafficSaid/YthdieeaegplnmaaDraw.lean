/- Contracts of the functions that draw numbers below a bound, or out of a list. -/
import Derived.Test.YthdieeaegplnmaaCur
namespace Go.Proofs.Ythdieeaegplnmaa.Cur
open Go.RowKit
open Go.Proofs.Ythdieeaegplnmaa.Num Go.Proofs.Ythdieeaegplnmaa.Mem Go.Proofs.Ythdieeaegplnmaa.Hsh

set_option maxHeartbeats 1000000 in
theorem l1Below_any (A : Option Addr) (n c : Nat) (bs : List Int) (g : Nat) (m : Int) (w : World) (hcur : Cur w g A n c bs) (m0 : 1 ≤ m) (m1 : m ≤ 16777216) :
    Calls Try.prog 88 #[.pointer (some ⟨g, 0, none⟩), .int .i64 m] w (Drew (fun x => 0 ≤ x ∧ x < m) w g A n c bs) := by
  have HC := Lib.hid hcur
  clear hcur
  by_cases hm : m ≤ 256
  · go_enter Try.func88, Try.ntmps88
    go_wp2_with (first | (go_at_call 106; refine (l1Byte_any A n c bs g _ HC.out).mono ?_; rintro e w1 ⟨x, ⟨x0, x1⟩, rfl, hc1, hg1⟩; have h1 := Int.emod_nonneg x (show m ≠ 0 by omega); have h2 := Int.emod_lt_of_pos x (show 0 < m by omega)))
    go_ret
    exact ⟨_, ⟨h1, h2⟩, rfl, hc1, hg1⟩
  · go_enter Try.func88, Try.ntmps88
    go_wp2_with fail
    refine (l1Byte_any A n c bs g _ HC.out).mono ?_
    rintro e w1 ⟨x, ⟨x0, x1⟩, rfl, hc1, hg1⟩
    have C1 := Lib.hid hc1
    have G1 := Lib.hid hg1
    clear hc1 hg1
    go_wp2_with fail
    refine (l1Byte_any A n c bs g _ C1.out).mono ?_
    rintro e w2 ⟨y, ⟨y0, y1⟩, rfl, hc2, hg2⟩
    have C2 := Lib.hid hc2
    have G2 := Lib.hid (G1.out.trans hg2)
    clear hc2 hg2 G1 C1
    go_wp2_with fail
    refine (l1Byte_any A n c bs g _ C2.out).mono ?_
    rintro e w3 ⟨z, ⟨z0, z1⟩, rfl, hc3, hg3⟩
    have C3 := Lib.hid hc3
    have G3 := Lib.hid (G2.out.trans hg3)
    clear hc3 hg3 G2 C2
    have h1 := Int.emod_nonneg (x * 65536 + y * 256 + z) (show m ≠ 0 by omega)
    have h2 := Int.emod_lt_of_pos (x * 65536 + y * 256 + z) (show 0 < m by omega)
    go_wp2
    go_ret
    exact ⟨_, ⟨h1, h2⟩, rfl, C3.out, G3.out⟩

/-- a draw has handed back a bool -/
def DrewB (w : World) (g : Nat) (A : Option Addr) (n c : Nat) (bs : List Int) (e : Ending) (w' : World) : Prop :=
  ∃ x : Bool, e = .returned (.bool x) ∧ Cur w' g A n c bs ∧ w.grownBy w' (some g)

set_option maxHeartbeats 1000000 in
theorem l1Once_any (A : Option Addr) (n c : Nat) (bs : List Int) (g : Nat) (m : Int) (w : World) (hcur : Cur w g A n c bs) (m0 : 1 ≤ m) (m1 : m ≤ 16777216) :
    Calls Try.prog 102 #[.pointer (some ⟨g, 0, none⟩), .int .i64 m] w (DrewB w g A n c bs) := by
  have HC := Lib.hid hcur
  clear hcur
  go_enter Try.func102, Try.ntmps102
  go_wp2_with (first | (go_at_call 88; refine (l1Below_any A n c bs g _ _ HC.out m0 m1).mono ?_; rintro e w1 ⟨x, ⟨x0, x1⟩, rfl, hc1, hg1⟩))
  go_ret
  exact ⟨_, rfl, hc1, hg1⟩

theorem mem_getD (zs : List Int) (k : Nat) (h : k < zs.length) : zs.getD k 0 ∈ zs := by
  rw [List.getD_eq_getElem?_getD, List.getElem?_eq_getElem h]
  exact List.getElem_mem _
set_option maxHeartbeats 1000000 in
theorem l1Int_any (A : Option Addr) (n c : Nat) (bs : List Int) (g : Nat) (L : Option Addr) (m d : Nat) (zs : List Int) (w : World) (hcur : Cur w g A n c bs) (hr : Rd w 1 L m d (zs.map (Value.int .i64))) (hne : blk L ≠ some g) (m0 : 1 ≤ m) (m1 : m ≤ 65536) :
    Calls Try.prog 68 #[.pointer (some ⟨g, 0, none⟩), .slice L m d] w (Drew (fun x => x ∈ zs) w g A n c bs) := by
  have HC := Lib.hid hcur
  have hl := Lib.hid (len_ints hr)
  have HR := Lib.hid hr
  have HN := Lib.hid hne
  clear hcur hr hne
  go_enter Try.func68, Try.ntmps68
  go_wp2_with fail
  refine (l1Below_any A n c bs g _ _ HC.out (by omega) (by omega)).mono ?_
  rintro e w1 ⟨x, ⟨x0, x1⟩, rfl, hc1, hg1⟩
  have C1 := Lib.hid hc1
  have R1 := Lib.hid (HR.out.grown hg1 (.inr (fun _ => HN.out)))
  have G1 := Lib.hid hg1
  clear hc1 hg1
  obtain ⟨k, rfl⟩ := Int.eq_ofNat_of_zero_le x0
  obtain ⟨g', o, rfl, hg', hc⟩ := R1.out.int_at (j := k) (by omega)
  have HM := Lib.hid (mem_getD zs k (by rw [hl.out]; omega))
  generalize zs.getD k 0 = z at hc HM
  go_wp2
  go_ret
  exact ⟨z, HM.out, rfl, C1.out, G1.out⟩

/-- a draw has handed back one of the strings -/
def DrewS (ss : List ByteArray) (w : World) (g : Nat) (A : Option Addr) (n c : Nat) (bs : List Int) (e : Ending) (w' : World) : Prop :=
  ∃ x : ByteArray, x ∈ ss ∧ e = .returned (.string x) ∧ Cur w' g A n c bs ∧ w.grownBy w' (some g)


theorem Cur.lt {w : World} {g : Nat} {A : Option Addr} {n c : Nat} {bs : List Int} (h : Cur w g A n c bs) : g < w.heap.size := by
  obtain ⟨⟨i, q, hg, _⟩, _⟩ := h
  rcases Nat.lt_or_ge g w.heap.size with h | h
  · exact h
  · rw [Array.getElem?_eq_none h] at hg; cases hg
theorem Cur.alloc {w : World} {g : Nat} {A : Option Addr} {n c : Nat} {bs : List Int} (h : Cur w g A n c bs) (o : Obj) : Cur (w.alloc o) g A n c bs := h.keep fun k hk => Below.heap_alloc w o k hk
theorem Cur.below {w w' : World} {g : Nat} {A : Option Addr} {n c : Nat} {bs : List Int} (h : Cur w g A n c bs) (hb : Below w.heap.size w w') : Cur w' g A n c bs := h.keep fun k hk => hb.block k hk
theorem grown_of_below {w w' : World} (hb : Below w.heap.size w w') (row : Option Nat) : w.grownBy w' row := ⟨hb.os, hb.tape, hb.output, hb.size, fun k hk _ => hb.block k hk⟩

theorem cur_new {w : World} {A : Option Addr} {n c : Nat} {bs : List Int} (hr : Rd w 1 A n c (bs.map (Value.int .u8))) (hb : AllBytes bs) (hn : n ≤ 2097152) (h : Int) :
    Cur (w.alloc (.cells #[.slice A n c, .int .i64 0, .int .i64 h] 104)) w.heap.size A n c bs := by
  refine ⟨⟨0, h, heap_alloc_new w _, by omega, by omega⟩, hr.alloc _, fun h0 e => ?_, hb, hn⟩
  obtain ⟨g, o, rfl, hg, _⟩ := hr.at_ (k := 0) (by rw [hr.1]; omega)
  simp [blk] at e
  omega

end Go.Proofs.Ythdieeaegplnmaa.Cur
