/- Contracts of the functions on clients: copies, TickClient. -/
import Derived.Test.YtikolopdkjocgaaScanL
import Derived.Test.YtikolopdkjocgaaOwn
import Derived.Deep.Onto
namespace Go.Proofs.Ytikolopdkjocgaa.Cl
open Go.RowKit
open Go.Proofs.Ytikolopdkjocgaa.Num Go.Proofs.Ytikolopdkjocgaa.Mem Go.Proofs.Ytikolopdkjocgaa.Sls Go.Proofs.Ytikolopdkjocgaa.Scn Go.Proofs.Ytikolopdkjocgaa.Own
set_option linter.unusedSimpArgs false

/-- the call hands back a client in new memory -/
def RetCl (w : World) (st ap si : Int) (n : Nat) (zs : List Int) (x : Ending) (w' : World) : Prop :=
  ∃ A c, x = .returned (.agg #[.int .i64 st, .int .i64 ap, .int .i64 si, .slice A n c]) ∧ w'.ownsRow w.heap.size 30 4 (.slice A n c) n (zs.map (Value.int .i64)) ∧ Below w.heap.size w w'
theorem set_same {w : World} {b o : Nat} {u v : Value} (h : w.cell? ⟨b, o, none⟩ = some u) : (w.setCell ⟨b, o, none⟩ v).cell? ⟨b, o, none⟩ = some v := World.cell?_setCell_same _ _ _ h
theorem set_next {w : World} {b o p : Nat} {u v : Value} (hne : o ≠ p) (h : w.cell? ⟨b, p, none⟩ = some u) : (w.setCell ⟨b, o, none⟩ v).cell? ⟨b, p, none⟩ = some u := (World.cell?_setCell_other w _ _ v (fun e => hne (by injection e))).trans h
theorem set_blk {w : World} {b d o p : Nat} {u v : Value} (hne : d ≠ b) (h : w.cell? ⟨b, p, none⟩ = some u) : (w.setCell ⟨d, o, none⟩ v).cell? ⟨b, p, none⟩ = some u := (World.cell?_setCell_other w _ _ v (fun e => hne (by injection e))).trans h
theorem same4 {w : World} {b : Nat} {u0 u1 u2 u3 : Value} (v0 v1 v2 v3 : Value) (h0 : w.cell? ⟨b, 0, none⟩ = some u0) (h1 : w.cell? ⟨b, 1, none⟩ = some u1) (h2 : w.cell? ⟨b, 2, none⟩ = some u2) (h3 : w.cell? ⟨b, 3, none⟩ = some u3) :
    (w.setCell ⟨b, 0, none⟩ v0).cell? ⟨b, 0, none⟩ = some v0 ∧ ((w.setCell ⟨b, 0, none⟩ v0).setCell ⟨b, 1, none⟩ v1).cell? ⟨b, 1, none⟩ = some v1 ∧ (((w.setCell ⟨b, 0, none⟩ v0).setCell ⟨b, 1, none⟩ v1).setCell ⟨b, 2, none⟩ v2).cell? ⟨b, 2, none⟩ = some v2 ∧
    ((((w.setCell ⟨b, 0, none⟩ v0).setCell ⟨b, 1, none⟩ v1).setCell ⟨b, 2, none⟩ v2).setCell ⟨b, 3, none⟩ v3).cell? ⟨b, 3, none⟩ = some v3 :=
  ⟨set_same h0, set_same (set_next (by omega) h1), set_same (set_next (by omega) (set_next (by omega) h2)), set_same (set_next (by omega) (set_next (by omega) (set_next (by omega) h3)))⟩
theorem ownsRow_mono {w : World} {base base' : Nat} {e : TypeId} {size : Nat} {v : Value} {n : Nat} {xs : List Value} (h : w.ownsRow base e size v n xs) (hb : base' ≤ base) : w.ownsRow base' e size v n xs := World.ownsRow.mono h hb
theorem all4 {w : World} {b : Nat} {u0 u1 u2 u3 : Value} (v0 v1 v2 v3 : Value) (h0 : w.cell? ⟨b, 0, none⟩ = some u0) (h1 : w.cell? ⟨b, 1, none⟩ = some u1) (h2 : w.cell? ⟨b, 2, none⟩ = some u2) (h3 : w.cell? ⟨b, 3, none⟩ = some u3) :
    ((((w.setCell ⟨b, 0, none⟩ v0).setCell ⟨b, 1, none⟩ v1).setCell ⟨b, 2, none⟩ v2).setCell ⟨b, 3, none⟩ v3).cell? ⟨b, 0, none⟩ = some v0 ∧ ((((w.setCell ⟨b, 0, none⟩ v0).setCell ⟨b, 1, none⟩ v1).setCell ⟨b, 2, none⟩ v2).setCell ⟨b, 3, none⟩ v3).cell? ⟨b, 1, none⟩ = some v1 ∧
    ((((w.setCell ⟨b, 0, none⟩ v0).setCell ⟨b, 1, none⟩ v1).setCell ⟨b, 2, none⟩ v2).setCell ⟨b, 3, none⟩ v3).cell? ⟨b, 2, none⟩ = some v2 ∧ ((((w.setCell ⟨b, 0, none⟩ v0).setCell ⟨b, 1, none⟩ v1).setCell ⟨b, 2, none⟩ v2).setCell ⟨b, 3, none⟩ v3).cell? ⟨b, 3, none⟩ = some v3 := by
  obtain ⟨k0, k1, k2, k3⟩ := same4 v0 v1 v2 v3 h0 h1 h2 h3
  exact ⟨set_next (by omega) (set_next (by omega) (set_next (by omega) k0)), set_next (by omega) (set_next (by omega) k1), set_next (by omega) k2, k3⟩
theorem size_set4 (w : World) (b : Nat) (v0 v1 v2 v3 : Value) : ((((w.setCell ⟨b, 0, none⟩ v0).setCell ⟨b, 1, none⟩ v1).setCell ⟨b, 2, none⟩ v2).setCell ⟨b, 3, none⟩ v3).heap.size = w.heap.size := by simp [World.setCell]
/-- a row of one's own, kept by stores below it -/
theorem own_set {w : World} {base : Nat} {e : TypeId} {sz : Nat} {v : Value} {n : Nat} {xs : List Value} (h : w.ownsRow base e sz v n xs) {a : Addr} (ha : a.block < base) (u : Value) : (w.setCell a u).ownsRow base e sz v n xs := ownsRow_setCell_below h ha u
theorem own_set4 {w : World} {base b : Nat} {e : TypeId} {sz : Nat} {v : Value} {n : Nat} {xs : List Value} (h : w.ownsRow base e sz v n xs) (hb : b < base) (v0 v1 v2 v3 : Value) : ((((w.setCell ⟨b, 0, none⟩ v0).setCell ⟨b, 1, none⟩ v1).setCell ⟨b, 2, none⟩ v2).setCell ⟨b, 3, none⟩ v3).ownsRow base e sz v n xs :=
  own_set (own_set (own_set (own_set h hb v0) hb v1) hb v2) hb v3
theorem below_set4 {B : Nat} {a w : World} (h : Below B a w) {b : Nat} (hb : B ≤ b) (v0 v1 v2 v3 : Value) : Below B a ((((w.setCell ⟨b, 0, none⟩ v0).setCell ⟨b, 1, none⟩ v1).setCell ⟨b, 2, none⟩ v2).setCell ⟨b, 3, none⟩ v3) :=
  (((h.setCell hb v0).setCell hb v1).setCell hb v2).setCell hb v3
set_option maxHeartbeats 1000000 in
theorem copyScan_any (A : Option Addr) (n c : Nat) (zs : List Int) (w : World) (hr : Rd w 4 A n c (zs.map (Value.int .i64))) (hn : n ≤ 2097152) :
    Calls Try.prog 29 #[.slice A n c] w (RetOwn w 30 4 n (zs.map (Value.int .i64))) := by
  obtain ⟨i0, hi, hz0, hz1, hz2⟩ := info_parts scanInfo
  have HR := Lib.hid hr
  clear hr
  go_enter Try.func29, Try.ntmps29
  go_wp2_with (at_make; refine wpList_make_full _ rfl _ _ 24 rfl w.heap.size 30 i0 (.agg #[.int .i64 0, .int .i64 0, .int .i64 0, .int .i64 0]) 4 Try.underlying24 hi hz0 hz1 _ _ _ _ n rfl rfl rfl rfl ?b2 ?b3 (Nat.le_refl _) ?_)
  case b2 => rw [hz2]; omega
  case b3 => unfold maxLen; omega
  intro w0 hown0 hgrow0
  have hb0 : Below w.heap.size w w0 := (Below.refl _ _).grown hgrow0 (Nat.le_refl _) (fun k h => by cases h)
  clear hgrow0
  generalize (madeCells #[Value.int IntKind.i64 0, Value.int IntKind.i64 0, Value.int IntKind.i64 0, Value.int IntKind.i64 0] (n * 4)).toList = Z at hown0
  have HO := Lib.hid hown0
  clear hown0
  go_wp2_with (with_reducible refine wpl_copy (o := ⟨some 9, _, _, _, _, _⟩) _ rfl _ _ 24 24 rfl 30 i0 4 Try.underlying24 hi hz1 w.heap.size 30 w.heap.size n n Z rfl HO.out A c _ rfl (HR.out.below hb0) (one_ints .i64 zs) ?_)
  intro w1 hown1 hgrow1
  have HB := Lib.hid (hb0.grown hgrow1 hb0.size (fun k h => by injection h with h; omega))
  have HO1 := Lib.hid hown1
  clear hgrow1 hown1 hb0
  go_wp2
  go_ret
  exact ⟨_, _, rfl, HO1.out, HB.out⟩
set_option maxHeartbeats 1000000 in
theorem copyCl_any (st ap si : Int) (A : Option Addr) (n c : Nat) (zs : List Int) (w : World) (hr : Rd w 4 A n c (zs.map (Value.int .i64))) (hn : n ≤ 2097152) :
    Calls Try.prog 35 #[.agg #[.int .i64 st, .int .i64 ap, .int .i64 si, .slice A n c]] w (RetCl w st ap si n zs) := by
  have HR := Lib.hid hr
  clear hr
  go_enter Try.func35, Try.ntmps35
  go_wp2_with fail
  refine (copyScan_any A n c zs _ ((HR.out.alloc _).alloc _) hn).mono ?_
  rintro x w1 ⟨A1, c1, rfl, hown, hb⟩
  obtain ⟨hc, hf⟩ := bcells hb
  have q0 := (hc (w.heap.size) 0 (by simp <;> omega)).trans (show _ = some (.int .i64 st) from by first | (simp; done) | (simp [World.cell?_alloc_at]; done) | (rw [World.cell?_alloc_old _ _ _ (by simp <;> omega)]; first | (simp; done) | (simp [World.cell?_alloc_at]; done))); have q1 := (hc (w.heap.size) 1 (by simp <;> omega)).trans (show _ = some (.int .i64 ap) from by first | (simp; done) | (simp [World.cell?_alloc_at]; done) | (rw [World.cell?_alloc_old _ _ _ (by simp <;> omega)]; first | (simp; done) | (simp [World.cell?_alloc_at]; done))); have q2 := (hc (w.heap.size) 2 (by simp <;> omega)).trans (show _ = some (.int .i64 si) from by first | (simp; done) | (simp [World.cell?_alloc_at]; done) | (rw [World.cell?_alloc_old _ _ _ (by simp <;> omega)]; first | (simp; done) | (simp [World.cell?_alloc_at]; done))); have q3 := (hc (w.heap.size) 3 (by simp <;> omega)).trans (show _ = some (.slice A n c) from by first | (simp; done) | (simp [World.cell?_alloc_at]; done) | (rw [World.cell?_alloc_old _ _ _ (by simp <;> omega)]; first | (simp; done) | (simp [World.cell?_alloc_at]; done)))
  have p0 := (hc (w.heap.size + 1) 0 (by simp <;> omega)).trans (show _ = some (.int .i64 0) from by first | (simp; done) | (simp [World.cell?_alloc_at]; done) | (rw [World.cell?_alloc_old _ _ _ (by simp <;> omega)]; first | (simp; done) | (simp [World.cell?_alloc_at]; done))); have p1 := (hc (w.heap.size + 1) 1 (by simp <;> omega)).trans (show _ = some (.int .i64 0) from by first | (simp; done) | (simp [World.cell?_alloc_at]; done) | (rw [World.cell?_alloc_old _ _ _ (by simp <;> omega)]; first | (simp; done) | (simp [World.cell?_alloc_at]; done))); have p2 := (hc (w.heap.size + 1) 2 (by simp <;> omega)).trans (show _ = some (.int .i64 0) from by first | (simp; done) | (simp [World.cell?_alloc_at]; done) | (rw [World.cell?_alloc_old _ _ _ (by simp <;> omega)]; first | (simp; done) | (simp [World.cell?_alloc_at]; done))); have p3 := (hc (w.heap.size + 1) 3 (by simp <;> omega)).trans (show _ = some (.slice none 0 0) from by first | (simp; done) | (simp [World.cell?_alloc_at]; done) | (rw [World.cell?_alloc_old _ _ _ (by simp <;> omega)]; first | (simp; done) | (simp [World.cell?_alloc_at]; done)))
  have f0 := (hf (w.heap.size) 0 (by simp <;> omega)).trans (show _ = false from by first | (simp; done) | (simp [World.frozen?_alloc_at]; done) | (rw [World.frozen?_alloc_old _ _ _ (by simp <;> omega)]; first | (simp [World.frozen?_alloc_at]; done) | (rw [World.frozen?_alloc_old _ _ _ (by simp <;> omega)]; simp [World.frozen?_alloc_at]; done))); have f1 := (hf (w.heap.size) 1 (by simp <;> omega)).trans (show _ = false from by first | (simp; done) | (simp [World.frozen?_alloc_at]; done) | (rw [World.frozen?_alloc_old _ _ _ (by simp <;> omega)]; first | (simp [World.frozen?_alloc_at]; done) | (rw [World.frozen?_alloc_old _ _ _ (by simp <;> omega)]; simp [World.frozen?_alloc_at]; done))); have f2 := (hf (w.heap.size) 2 (by simp <;> omega)).trans (show _ = false from by first | (simp; done) | (simp [World.frozen?_alloc_at]; done) | (rw [World.frozen?_alloc_old _ _ _ (by simp <;> omega)]; first | (simp [World.frozen?_alloc_at]; done) | (rw [World.frozen?_alloc_old _ _ _ (by simp <;> omega)]; simp [World.frozen?_alloc_at]; done))); have f3 := (hf (w.heap.size) 3 (by simp <;> omega)).trans (show _ = false from by first | (simp; done) | (simp [World.frozen?_alloc_at]; done) | (rw [World.frozen?_alloc_old _ _ _ (by simp <;> omega)]; first | (simp [World.frozen?_alloc_at]; done) | (rw [World.frozen?_alloc_old _ _ _ (by simp <;> omega)]; simp [World.frozen?_alloc_at]; done)))
  have r0 := (hf (w.heap.size + 1) 0 (by simp <;> omega)).trans (show _ = false from by first | (simp; done) | (simp [World.frozen?_alloc_at]; done) | (rw [World.frozen?_alloc_old _ _ _ (by simp <;> omega)]; first | (simp [World.frozen?_alloc_at]; done) | (rw [World.frozen?_alloc_old _ _ _ (by simp <;> omega)]; simp [World.frozen?_alloc_at]; done))); have r1 := (hf (w.heap.size + 1) 1 (by simp <;> omega)).trans (show _ = false from by first | (simp; done) | (simp [World.frozen?_alloc_at]; done) | (rw [World.frozen?_alloc_old _ _ _ (by simp <;> omega)]; first | (simp [World.frozen?_alloc_at]; done) | (rw [World.frozen?_alloc_old _ _ _ (by simp <;> omega)]; simp [World.frozen?_alloc_at]; done))); have r2 := (hf (w.heap.size + 1) 2 (by simp <;> omega)).trans (show _ = false from by first | (simp; done) | (simp [World.frozen?_alloc_at]; done) | (rw [World.frozen?_alloc_old _ _ _ (by simp <;> omega)]; first | (simp [World.frozen?_alloc_at]; done) | (rw [World.frozen?_alloc_old _ _ _ (by simp <;> omega)]; simp [World.frozen?_alloc_at]; done))); have r3 := (hf (w.heap.size + 1) 3 (by simp <;> omega)).trans (show _ = false from by first | (simp; done) | (simp [World.frozen?_alloc_at]; done) | (rw [World.frozen?_alloc_old _ _ _ (by simp <;> omega)]; first | (simp [World.frozen?_alloc_at]; done) | (rw [World.frozen?_alloc_old _ _ _ (by simp <;> omega)]; simp [World.frozen?_alloc_at]; done)))
  have k3 := set_same (v := .slice A1 n c1) q3
  obtain ⟨m0, m1, m2, m3⟩ := same4 (.int .i64 st) (.int .i64 ap) (.int .i64 si) (.slice A1 n c1) (set_blk (d := w.heap.size) (o := 3) (v := .slice A1 n c1) (by omega) p0) (set_blk (d := w.heap.size) (o := 3) (v := .slice A1 n c1) (by omega) p1) (set_blk (d := w.heap.size) (o := 3) (v := .slice A1 n c1) (by omega) p2) (set_blk (d := w.heap.size) (o := 3) (v := .slice A1 n c1) (by omega) p3)
  have HO := Lib.hid (own_set4 (b := w.heap.size + 1) (own_set hown (a := ⟨w.heap.size, 3, none⟩) (by simp <;> omega) (.slice A1 n c1)) (by simp <;> omega) (.int .i64 st) (.int .i64 ap) (.int .i64 si) (.slice A1 n c1))
  have HB := Lib.hid (below_set4 (b := w.heap.size + 1) ((show Below w.heap.size w w1 from Below.trans (by go_grown) (hb.mono (by simp <;> omega))).setCell (p := ⟨w.heap.size, 3, none⟩) (Nat.le_refl _) (.slice A1 n c1)) (by omega) (.int .i64 st) (.int .i64 ap) (.int .i64 si) (.slice A1 n c1))
  clear hown hb hc hf
  go_wp2
  refine bodyPost_ret (v := .agg #[.int .i64 st, .int .i64 ap, .int .i64 si, .slice A1 n c1]) (by simp [results, Try.results35, go_sem, m0, m1, m2, m3]) rfl ?_
  exact ⟨_, _, rfl, ownsRow_mono HO.out (by simp <;> omega), HB.out⟩
theorem cells_one (zs : List Int) : ∀ u ∈ zs.map (Value.int .i64), u.oneCell' = true := one_ints .i64 zs
set_option maxHeartbeats 1000000 in
theorem reset_any (st ap si : Int) (S : Value) (w : World) (hS : S.oneCell' = true) (hS2 : ∃ A n c, S = .slice A n c) :
    Calls Try.prog 36 #[.agg #[.int .i64 st, .int .i64 ap, .int .i64 si, S]] w fun x w' => x = .returned (.agg #[.int .i64 0, .int .i64 0, .int .i64 0, S]) ∧ Below w.heap.size w w' := by
  obtain ⟨A, n, c, rfl⟩ := hS2
  clear hS
  go_enter Try.func36, Try.ntmps36
  go_wp2
  refine bodyPost_ret (v := .agg #[.int .i64 0, .int .i64 0, .int .i64 0, .slice A n c]) (by simp [results, Try.results36, go_sem]) rfl ?_
  exact ⟨rfl, by go_grown⟩
end Go.Proofs.Ytikolopdkjocgaa.Cl
