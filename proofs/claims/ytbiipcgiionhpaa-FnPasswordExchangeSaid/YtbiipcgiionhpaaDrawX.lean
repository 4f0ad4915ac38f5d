/- Contracts of the draws of commits and of the exchange's secrets. -/
import Derived.Test.YtbiipcgiionhpaaDrawG
import Derived.Test.YtbiipcgiionhpaaExch5
namespace Go.Proofs.Ytbiipcgiionhpaa.Cur
open Go.RowKit
open Go.Proofs.Ytbiipcgiionhpaa.Num Go.Proofs.Ytbiipcgiionhpaa.Mem Go.Proofs.Ytbiipcgiionhpaa.Hsh Go.Proofs.Ytbiipcgiionhpaa.Exch

/-- a drawn commit: two small numbers -/
def DrewC (w : World) (g : Nat) (A : Option Addr) (n c : Nat) (bs : List Int) (e : Ending) (w' : World) : Prop :=
  ∃ x y : Int, (-1 ≤ x ∧ x ≤ 2039) ∧ (-1 ≤ y ∧ y ≤ 2039) ∧ e = .returned (.agg #[.int .i64 x, .int .i64 y]) ∧ Cur w' g A n c bs ∧ w.grownBy w' (some g)

theorem keepG {W w1 : World} {g b : Nat} {o : Obj} (hg : W.grownBy w1 (some g)) (hne : b ≠ g) (h : W.heap[b]? = some o) : w1.heap[b]? = some o :=
  (hg.block b (Array.getElem?_eq_some_iff.1 h).1 (fun e => hne (by injection e))).trans h
theorem grown_set {a w : World} {g : Nat} (h : a.grownBy w (some g)) {p : Addr} (hp : a.heap.size ≤ p.block) (u : Value) : a.grownBy (w.setCell p u) (some g) :=
  ⟨h.os, h.tape, h.output, by simpa [World.setCell] using h.size, fun k hk hne => (Below.heap_setCell w p u k (by omega)).trans (h.block k hk hne)⟩
theorem grown_alloc {a w : World} {g : Nat} (h : a.grownBy w (some g)) (o : Obj) : a.grownBy (w.alloc o) (some g) := h.trans (World.grownBy_alloc _ _ _)

theorem smallList : ∀ x ∈ ([0, 1, 2, 1018, 1019] : List Int), -1 ≤ x ∧ x ≤ 2039 := by decide
theorem nc_small (pe r m : Int) : -1 ≤ ncS pe r m ∧ ncS pe r m ≤ 2039 := by have := ncS_bd pe r m; omega
theorem nc_small2 (pe r m : Int) : -1 ≤ ncE pe r m ∧ ncE pe r m ≤ 2039 := by have := ncE_bd pe r m; omega
theorem cur_set {w : World} {g : Nat} {A : Option Addr} {n c : Nat} {bs : List Int} (h : Cur w g A n c bs) {p : Addr} (hp : g ≠ p.block) (ha : 0 < n → blk A ≠ some p.block) (u : Value) : Cur (w.setCell p u) g A n c bs := by
  obtain ⟨⟨i, q, hg, h1, h2⟩, hr, hne, hb, hn⟩ := h
  exact ⟨⟨i, q, (Below.heap_setCell w p u g hp).trans hg, h1, h2⟩, hr.setCell ha u, hne, hb, hn⟩
theorem cur_blk {w : World} {g : Nat} {A : Option Addr} {n c : Nat} {bs : List Int} (h : Cur w g A n c bs) : 0 < n → blk A ≠ some w.heap.size := by
  intro h0 e
  obtain ⟨_, hr, _⟩ := h
  obtain ⟨g', o, rfl, hg, _⟩ := hr.at_ (k := 0) (by rw [hr.1]; omega)
  simp [blk] at e
  omega
theorem set_same {w : World} {b o : Nat} {u v : Value} (h : w.cell? ⟨b, o, none⟩ = some u) : (w.setCell ⟨b, o, none⟩ v).cell? ⟨b, o, none⟩ = some v := World.cell?_setCell_same _ _ _ h
theorem set_next {w : World} {b o p : Nat} {u v : Value} (hne : o ≠ p) (h : w.cell? ⟨b, p, none⟩ = some u) : (w.setCell ⟨b, o, none⟩ v).cell? ⟨b, p, none⟩ = some u := (World.cell?_setCell_other w _ _ v (fun e => hne (by injection e))).trans h
set_option maxHeartbeats 1000000 in
theorem l29Commit_any (A : Option Addr) (n c : Nat) (bs : List Int) (g : Nat) (w : World) (hcur : Cur w g A n c bs) :
    Calls Try.prog 25 #[.pointer (some ⟨g, 0, none⟩)] w (DrewC w g A n c bs) := by
  have hgl := hcur.lt
  have HBK := Lib.hid (cur_blk hcur)
  have HC := Lib.hid (hcur.alloc (.cells #[.int .i64 0, .int .i64 0] 25))
  have HG := Lib.hid (World.grownBy_alloc w (.cells #[.int .i64 0, .int .i64 0] 25) (some g))
  have HRB := Lib.hid (heap_alloc_new w (.cells #[.int .i64 0, .int .i64 0] 25))
  clear hcur
  go_enter Try.func25, Try.ntmps25
  go_wp2_with fail
  refine (l28Element_any A n c bs g _ HC.out).mono ?_
  rintro e w1 ⟨pe, hpe, rfl, hc1, hg1⟩
  have C1 := Lib.hid hc1
  have G1 := Lib.hid (HG.out.trans hg1)
  have R1 := Lib.hid (keepG hg1 (by omega) HRB.out)
  clear hc1 hg1 HC HG HRB
  go_wp2_with fail
  refine (l1Below_any A n c bs g _ _ C1.out (by omega) (by omega)).mono ?_
  rintro e w2 ⟨r, hr, rfl, hc1, hg1⟩
  have C2 := Lib.hid hc1
  have G2 := Lib.hid (G1.out.trans hg1)
  have R2 := Lib.hid (keepG hg1 (by omega) R1.out)
  clear hc1 hg1 C1 G1 R1
  go_wp2_with fail
  refine (l1Below_any A n c bs g _ _ C2.out (by omega) (by omega)).mono ?_
  rintro e w3 ⟨m, hm, rfl, hc1, hg1⟩
  have C3 := Lib.hid hc1
  have G3 := Lib.hid (G2.out.trans hg1)
  have R3 := Lib.hid (keepG hg1 (by omega) R2.out)
  clear hc1 hg1 C2 G2 R2
  go_wp2_with fail
  refine (newCommit_spec _ _ _ _).mono ?_
  rintro e w4 ⟨rfl, hb⟩
  have C4 := Lib.hid ((C3.out.below hb).alloc (.cells #[.int .i64 (ncS pe (1 + r) (1 + m)), .int .i64 (ncE pe (1 + r) (1 + m))] 25))
  have G4 := Lib.hid (grown_alloc (G3.out.trans (grown_of_below hb _)) (.cells #[.int .i64 (ncS pe (1 + r) (1 + m)), .int .i64 (ncE pe (1 + r) (1 + m))] 25))
  have X4 := Lib.hid (heap_alloc_new w4 (.cells #[.int .i64 (ncS pe (1 + r) (1 + m)), .int .i64 (ncE pe (1 + r) (1 + m))] 25))
  have R3' := keepG (grown_of_below hb (some g)) (by omega) R3.out
  have z4 : w.heap.size < w4.heap.size := (Array.getElem?_eq_some_iff.1 R3').1
  have R4 := Lib.hid ((Below.heap_alloc w4 (.cells #[.int .i64 (ncS pe (1 + r) (1 + m)), .int .i64 (ncE pe (1 + r) (1 + m))] 25) _ z4).trans R3')
  clear hb C3 G3 R3 R3'
  cases hok : ncB pe (1 + r) (1 + m)
  · go_wp2_with fail
    refine (l1Int_any A n c bs g _ 5 5 [0, 1, 2, 1018, 1019] _ (C4.out.alloc _) (by exact Rd.litAt _ (([0, 1, 2, 1018, 1019] : List Int).map (Value.int .i64)) _ 5 _ (by simp) rfl (by unfold maxLen; omega)) (fun e => by have := C4.out.lt; simp [blk] at e this; omega) (by omega) (by omega)).mono ?_
    rintro e wa ⟨x, hx, rfl, hc1, hg1⟩
    have Ca := Lib.hid hc1
    have Ga := Lib.hid ((grown_alloc G4.out _).trans hg1)
    have Ra := Lib.hid (keepG hg1 (by omega) ((Below.heap_alloc _ _ _ (Array.getElem?_eq_some_iff.1 R4.out).1).trans R4.out))
    have HX := Lib.hid (smallList x hx)
    clear hc1 hg1 hx
    go_wp2_with fail
    refine (l28Any_any A n c bs g _ Ca.out).mono ?_
    rintro e wb ⟨y, hy, rfl, hc1, hg1⟩
    have Cb := Lib.hid hc1
    have Gb := Lib.hid (Ga.out.trans hg1)
    have rb := keepG hg1 (by omega) Ra.out
    clear hc1 hg1
    have b0 : wb.cell? ⟨w.heap.size, 0, none⟩ = some (.int .i64 0) := by rw [cell_of_row _ _ 0 _ _ _ rb]; rfl
    have b1 : wb.cell? ⟨w.heap.size, 1, none⟩ = some (.int .i64 0) := by rw [cell_of_row _ _ 1 _ _ _ rb]; rfl
    have p0 := frozen_of_row _ _ 0 _ _ rb
    have p1 := frozen_of_row _ _ 1 _ _ rb
    have k0 := set_same (v := .int .i64 x) b0
    have k1 := set_same (v := .int .i64 y) (set_next (o := 0) (p := 1) (v := .int .i64 x) (by omega) b1)
    clear rb
    go_wp2
    refine bodyPost_ret (v := .agg #[.int .i64 x, .int .i64 y]) (by simp [results, Try.results25, go_sem, k0, k1]) rfl ?_
    exact ⟨x, y, HX.out, hy, rfl, cur_set (cur_set Cb.out (by dsimp only; omega) HBK.out _) (by dsimp only; omega) HBK.out _, grown_set (grown_set Gb.out (Nat.le_refl _) _) (Nat.le_refl _) _⟩
  · go_wp2_with fail
    refine (l1Once_any A n c bs g _ _ C4.out (by omega) (by omega)).mono ?_
    rintro e w5 ⟨b, rfl, hc1, hg1⟩
    have C5 := Lib.hid hc1
    have G5 := Lib.hid (G4.out.trans hg1)
    have R5 := Lib.hid (keepG hg1 (by omega) R4.out)
    have X5 := Lib.hid (keepG hg1 (by omega) X4.out)
    clear hc1 hg1
    cases b
    · have rb := R5.out
      have xb := X5.out
      have b0 : w5.cell? ⟨w.heap.size, 0, none⟩ = some (.int .i64 0) := by rw [cell_of_row _ _ 0 _ _ _ rb]; rfl
      have b1 : w5.cell? ⟨w.heap.size, 1, none⟩ = some (.int .i64 0) := by rw [cell_of_row _ _ 1 _ _ _ rb]; rfl
      have x0 : w5.cell? ⟨w4.heap.size, 0, none⟩ = some (.int .i64 (ncS pe (1 + r) (1 + m))) := by rw [cell_of_row _ _ 0 _ _ _ xb]; rfl
      have x1 : w5.cell? ⟨w4.heap.size, 1, none⟩ = some (.int .i64 (ncE pe (1 + r) (1 + m))) := by rw [cell_of_row _ _ 1 _ _ _ xb]; rfl
      have p0 := frozen_of_row _ _ 0 _ _ rb
      have p1 := frozen_of_row _ _ 1 _ _ rb
      have k0 := set_same (v := .int .i64 (ncS pe (1 + r) (1 + m))) b0
      have k1 := set_same (v := .int .i64 (ncE pe (1 + r) (1 + m))) (set_next (o := 0) (p := 1) (v := .int .i64 (ncS pe (1 + r) (1 + m))) (by omega) b1)
      clear rb xb
      go_wp2
      refine bodyPost_ret (v := .agg #[.int .i64 (ncS pe (1 + r) (1 + m)), .int .i64 (ncE pe (1 + r) (1 + m))]) (by simp [results, Try.results25, go_sem, k0, k1]) rfl ?_
      exact ⟨_, _, nc_small _ _ _, nc_small2 _ _ _, rfl, cur_set (cur_set C5.out (by dsimp only; omega) HBK.out _) (by dsimp only; omega) HBK.out _, grown_set (grown_set G5.out (Nat.le_refl _) _) (Nat.le_refl _) _⟩
    · go_wp2_with fail
      refine (l1Int_any A n c bs g _ 5 5 [0, 1, 2, 1018, 1019] _ (C5.out.alloc _) (by exact Rd.litAt _ (([0, 1, 2, 1018, 1019] : List Int).map (Value.int .i64)) _ 5 _ (by simp) rfl (by unfold maxLen; omega)) (fun e => by have := C5.out.lt; simp [blk] at e this; omega) (by omega) (by omega)).mono ?_
      rintro e wa ⟨x, hx, rfl, hc1, hg1⟩
      have Ca := Lib.hid hc1
      have Ga := Lib.hid ((grown_alloc G5.out _).trans hg1)
      have Ra := Lib.hid (keepG hg1 (by omega) ((Below.heap_alloc _ _ _ (Array.getElem?_eq_some_iff.1 R5.out).1).trans R5.out))
      have HX := Lib.hid (smallList x hx)
      clear hc1 hg1 hx
      go_wp2_with fail
      refine (l28Any_any A n c bs g _ Ca.out).mono ?_
      rintro e wb ⟨y, hy, rfl, hc1, hg1⟩
      have Cb := Lib.hid hc1
      have Gb := Lib.hid (Ga.out.trans hg1)
      have rb := keepG hg1 (by omega) Ra.out
      clear hc1 hg1
      have b0 : wb.cell? ⟨w.heap.size, 0, none⟩ = some (.int .i64 0) := by rw [cell_of_row _ _ 0 _ _ _ rb]; rfl
      have b1 : wb.cell? ⟨w.heap.size, 1, none⟩ = some (.int .i64 0) := by rw [cell_of_row _ _ 1 _ _ _ rb]; rfl
      have p0 := frozen_of_row _ _ 0 _ _ rb
      have p1 := frozen_of_row _ _ 1 _ _ rb
      have k0 := set_same (v := .int .i64 x) b0
      have k1 := set_same (v := .int .i64 y) (set_next (o := 0) (p := 1) (v := .int .i64 x) (by omega) b1)
      clear rb
      go_wp2
      refine bodyPost_ret (v := .agg #[.int .i64 x, .int .i64 y]) (by simp [results, Try.results25, go_sem, k0, k1]) rfl ?_
      exact ⟨x, y, HX.out, hy, rfl, cur_set (cur_set Cb.out (by dsimp only; omega) HBK.out _) (by dsimp only; omega) HBK.out _, grown_set (grown_set Gb.out (Nat.le_refl _) _) (Nat.le_refl _) _⟩
end Go.Proofs.Ytbiipcgiionhpaa.Cur
