/- The cursor of the drawn inputs: what it is in memory; each function that draws from it hands back some number in its range, and turns nothing but the cursor. -/
import Derived.Test.YthdieeaegplnmaaBase
import Derived.BigQuiet
import Derived.Deep.QuietTactic
import Derived.WalkLawsBesides
namespace Go.Proofs.Ythdieeaegplnmaa.Cur
open Go.RowKit
open Go.Proofs.Ythdieeaegplnmaa.Num Go.Proofs.Ythdieeaegplnmaa.Mem Go.Proofs.Ythdieeaegplnmaa.Hsh

/-- block g is a cursor over the bytes bs at address A -/
def Cur (w : World) (g : Nat) (A : Option Addr) (n c : Nat) (bs : List Int) : Prop :=
  (∃ i h : Int, w.heap[g]? = some (.cells #[.slice A n c, .int .i64 i, .int .i64 h] 104 (0, 0)) ∧ 0 ≤ i ∧ i ≤ n) ∧
  Rd w 1 A n c (bs.map (Value.int .u8)) ∧ (0 < n → blk A ≠ some g) ∧ AllBytes bs ∧ n ≤ 2097152

/-- a new cursor over the code has been made -/
def NewCur (w : World) (A : Option Addr) (n c : Nat) (e : Ending) (w' : World) : Prop :=
  ∃ h : Int, e = .returned (.pointer (some ⟨w.heap.size, 0, none⟩)) ∧ w' = w.alloc (.cells #[.slice A n c, .int .i64 0, .int .i64 h] 104)

theorem and_bd (x : Int) (m : Nat) (hm : m < 2 ^ 62) : 0 ≤ bits .and .i64 x (m : Int) ∧ bits .and .i64 x (m : Int) ≤ (m : Int) := by
  have hb : ((m : Nat) : Int) < 4611686018427387904 := by omega
  simp only [bits, BitVec.ofInt_natCast, BitVec.toNat_and, BitVec.toNat_ofNat]
  have h1 : (BitVec.ofInt IntKind.i64.bits x).toNat &&& m % 2 ^ IntKind.i64.bits ≤ m % 2 ^ IntKind.i64.bits := Nat.and_le_right
  have h2 : m % 2 ^ IntKind.i64.bits ≤ m := Nat.mod_le _ _
  have h3 : (BitVec.ofInt IntKind.i64.bits x).toNat &&& m % 2 ^ IntKind.i64.bits ≤ m := Nat.le_trans h1 h2
  generalize (BitVec.ofInt IntKind.i64.bits x).toNat &&& m % 2 ^ IntKind.i64.bits = y at h3
  rw [IntWalk.i64_in _ ⟨by omega, by omega⟩]
  omega
theorem and_255 (x : Int) : 0 ≤ bits .and .i64 x 255 ∧ bits .and .i64 x 255 ≤ 255 := and_bd x 255 (by decide)

set_option maxRecDepth 100000 in
set_option maxHeartbeats 1000000 in
theorem l1New_any (A : Option Addr) (n c : Nat) (bs : List Int) (w : World) (hr : Rd w 1 A n c (bs.map (Value.int .u8))) (hb : AllBytes bs) (hn : n ≤ 2097152) :
    Calls Try.prog 65 #[.slice A n c] w (NewCur w A n c) := by
  have hl := Lib.hid (len_ints hr)
  have HR := Lib.hid hr
  have HB := Lib.hid hb
  clear hr hb
  go_enter Try.func65, Try.ntmps65
  go_wp2
  go_loop [3, 4] (fun v3 v4 => ∃ (h : Int) (k : Nat), k ≤ n ∧ v3 = .int .i64 h ∧ v4 = .int .i64 (k : Int)) (fun _ v4 => n - (intOf v4).toNat)
  case atStart => exact ⟨_, 0, Nat.zero_le _, rfl, rfl⟩
  case round =>
    obtain ⟨h, k, hk, rfl, rfl⟩ := hrel
    by_cases hlt : k < n
    · by_cases h4 : k < 4000
      · obtain ⟨g, o, rfl, hg, hc⟩ := HR.out.int_at hlt
        go_wp2
        go_round
        case rel => exact ⟨_, k + 1, by omega, rfl, by go_num⟩
        case measure => simp [intOf]; omega
      · go_wp2
        go_ret
        exact ⟨h, rfl, rfl⟩
    · go_wp2
      go_ret
      exact ⟨h, rfl, rfl⟩
/-- a draw has handed back a number of which P holds; the cursor alone has turned -/
def Drew (P : Int → Prop) (w : World) (g : Nat) (A : Option Addr) (n c : Nat) (bs : List Int) (e : Ending) (w' : World) : Prop :=
  ∃ x : Int, P x ∧ e = .returned (.int .i64 x) ∧ Cur w' g A n c bs ∧ w.grownBy w' (some g)

theorem Cur.keep {w w' : World} {g : Nat} {A : Option Addr} {n c : Nat} {bs : List Int} (h : Cur w g A n c bs) (hk : ∀ k, k < w.heap.size → w'.heap[k]? = w.heap[k]?) : Cur w' g A n c bs := by
  obtain ⟨⟨i, q, hg, h1, h2⟩, hr, hne, hb, hn⟩ := h
  have hlt : g < w.heap.size := by
    rcases Nat.lt_or_ge g w.heap.size with h | h
    · exact h
    · rw [Array.getElem?_eq_none h] at hg; cases hg
  exact ⟨⟨i, q, by rw [hk g hlt]; exact hg, h1, h2⟩, hr.keep fun _ k _ hlt => hk k hlt, hne, hb, hn⟩

theorem cur_end {w : World} {g : Nat} {A : Option Addr} {n c : Nat} {bs : List Int} {i h : Int} (hg : w.heap[g]? = some (.cells #[.slice A n c, .int .i64 i, .int .i64 h] 104 (0, 0))) (hr : Rd w 1 A n c (bs.map (Value.int .u8))) (hb : AllBytes bs) (hne : 0 < n → blk A ≠ some g) (hn : n ≤ 2097152)
    (h1 : Int) (m : Nat) : (i0 : 0 ≤ i) → (i1 : i ≤ n) → Cur ((w.setCell ⟨g, 2, none⟩ (.int .i64 h1)).drewN m) g A n c bs ∧ w.grownBy ((w.setCell ⟨g, 2, none⟩ (.int .i64 h1)).drewN m) (some g) := by
  intro i0 i1
  refine ⟨⟨⟨i, h1, ?_, i0, i1⟩, (hr.setCell (p := ⟨g, 2, none⟩) (fun h e => hne h e) _).drewN m, hne, hb, hn⟩, ⟨rfl, rfl, rfl, by simp [World.setCell, World.drewN], fun k hk hne => ?_⟩⟩
  · exact (heap_setCell_same w g 2 _ _ _ hg).trans rfl
  · exact heap_setCell_other w _ k _ (fun e => hne (by rw [e]))
theorem cur_end2 {w : World} {g : Nat} {A : Option Addr} {n c : Nat} {bs : List Int} {i h : Int} (hg : w.heap[g]? = some (.cells #[.slice A n c, .int .i64 i, .int .i64 h] 104 (0, 0))) (hr : Rd w 1 A n c (bs.map (Value.int .u8))) (hb : AllBytes bs) (hne : 0 < n → blk A ≠ some g) (hn : n ≤ 2097152)
    (h1 i2 : Int) (m : Nat) : (i0 : 0 ≤ i2) → (i1 : i2 ≤ n) → Cur (((w.setCell ⟨g, 2, none⟩ (.int .i64 h1)).drewN m).setCell ⟨g, 1, none⟩ (.int .i64 i2)) g A n c bs ∧ w.grownBy (((w.setCell ⟨g, 2, none⟩ (.int .i64 h1)).drewN m).setCell ⟨g, 1, none⟩ (.int .i64 i2)) (some g) := by
  intro i0 i1
  have hg1 : ((w.setCell ⟨g, 2, none⟩ (.int .i64 h1)).drewN m).heap[g]? = some (.cells #[.slice A n c, .int .i64 i, .int .i64 h1] 104 (0, 0)) := (heap_setCell_same w g 2 _ _ _ hg).trans rfl
  refine ⟨⟨⟨i2, h1, ?_, i0, i1⟩, (((hr.setCell (p := ⟨g, 2, none⟩) (fun h e => hne h e) _).drewN m).setCell (p := ⟨g, 1, none⟩) (fun h e => hne h e) _), hne, hb, hn⟩, ⟨rfl, rfl, rfl, by simp [World.setCell, World.drewN], fun k hk hne => ?_⟩⟩
  · exact (heap_setCell_same _ g 1 _ _ _ hg1).trans rfl
  · exact (heap_setCell_other _ _ k _ (fun e => hne (by rw [e]))).trans (heap_setCell_other w _ k _ (fun e => hne (by rw [e])))

set_option maxHeartbeats 1000000 in
theorem l1Byte_any (A : Option Addr) (n c : Nat) (bs : List Int) (g : Nat) (w : World) (hcur : Cur w g A n c bs) :
    Calls Try.prog 106 #[.pointer (some ⟨g, 0, none⟩)] w (Drew (fun x => 0 ≤ x ∧ x ≤ 255) w g A n c bs) := by
  obtain ⟨⟨i, h, hg, i0, i1⟩, hr, hne, hb, hn⟩ := hcur
  have c0 : w.cell? ⟨g, 0, none⟩ = some (.slice A n c) := by rw [cell_of_row w g 0 _ _ _ hg]; rfl
  have c1 : w.cell? ⟨g, 1, none⟩ = some (.int .i64 i) := by rw [cell_of_row w g 1 _ _ _ hg]; rfl
  have c2 : w.cell? ⟨g, 2, none⟩ = some (.int .i64 h) := by rw [cell_of_row w g 2 _ _ _ hg]; rfl
  have f0 := frozen_of_row w g 0 _ _ hg
  have f1 := frozen_of_row w g 1 _ _ hg
  have f2 := frozen_of_row w g 2 _ _ hg
  have HE := Lib.hid (fun h1 m => cur_end hg hr hb hne hn h1 m i0 i1)
  have HE2 := Lib.hid (fun h1 i2 m => cur_end2 hg hr hb hne hn h1 i2 m)
  have HB := Lib.hid hb
  clear hg hb
  by_cases hlt : i < n
  · obtain ⟨k, rfl⟩ := Int.eq_ofNat_of_zero_le i0
    have hl := len_ints hr
    obtain ⟨g', o, rfl, hg', hc⟩ := hr.int_at (j := k) (by omega)
    have hgg : g' ≠ g := fun e => hne (by omega) (by rw [e]; rfl)
    have hz := HB.out.at_ (k := k) (by omega)
    generalize bs.getD k 0 = z at hc hz
    obtain ⟨z0, z1⟩ := hz
    clear hne hr hl
    go_enter Try.func106, Try.ntmps106
    go_wp2
    generalize wrap64 (wrap64 (h * 6364136223846793005) + 1442695040888963407) = h1
    go_quiet (fail)
    have hx := and_255 (bits BinOp.xor IntKind.i64 (h1 / 8589934592) (h1 / 140737488355328))
    generalize bits BinOp.and IntKind.i64 (bits BinOp.xor IntKind.i64 (h1 / 8589934592) (h1 / 140737488355328)) 255 = x at hx ⊢
    obtain ⟨x0, x1⟩ := hx
    go_wp2
    go_quiet (fail)
    go_wp2
    go_quiet (fail)
    have hy := and_255 (x + z)
    generalize bits BinOp.and IntKind.i64 (x + z) 255 = y at hy ⊢
    go_wp2
    go_ret
    exact ⟨y, hy, rfl, HE2.out _ _ _ (by omega) (by omega)⟩
  · go_enter Try.func106, Try.ntmps106
    go_wp2
    generalize wrap64 (wrap64 (h * 6364136223846793005) + 1442695040888963407) = h1
    go_quiet (fail)
    have hx := and_255 (bits BinOp.xor IntKind.i64 (h1 / 8589934592) (h1 / 140737488355328))
    generalize bits BinOp.and IntKind.i64 (bits BinOp.xor IntKind.i64 (h1 / 8589934592) (h1 / 140737488355328)) 255 = x at hx ⊢
    go_wp2
    go_quiet (fail)
    go_wp2
    go_ret
    exact ⟨x, hx, rfl, by rw [World.drewN_drewN]; exact HE.out _ _⟩
end Go.Proofs.Ythdieeaegplnmaa.Cur
