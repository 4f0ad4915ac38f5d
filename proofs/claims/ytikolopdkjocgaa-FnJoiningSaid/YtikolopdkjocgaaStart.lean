/- Contracts of StartJoining. -/
import Derived.Test.YtikolopdkjocgaaClient
import Derived.Test.YtikolopdkjocgaaBestS
import Derived.Test.YtikolopdkjocgaaBestI
import Derived.OneCell
namespace Go.Proofs.Ytikolopdkjocgaa.Cl
open Go.RowKit
open Go.Proofs.Ytikolopdkjocgaa.Num Go.Proofs.Ytikolopdkjocgaa.Mem Go.Proofs.Ytikolopdkjocgaa.Sls Go.Proofs.Ytikolopdkjocgaa.Scn Go.Proofs.Ytikolopdkjocgaa.Own
set_option linter.unusedSimpArgs false

/-- the call hands back a client in new memory, and a bool -/
def RetCl2 (w : World) (st ap si : Int) (ok : Bool) (n : Nat) (zs : List Int) (x : Ending) (w' : World) : Prop :=
  ∃ A c, x = .returned (.tuple #[.agg #[.int .i64 st, .int .i64 ap, .int .i64 si, .slice A n c], .bool ok]) ∧ w'.ownsRow w.heap.size 30 4 (.slice A n c) n (zs.map (Value.int .i64)) ∧ Below w.heap.size w w'
theorem all3 {w : World} {b : Nat} {u0 u1 u2 u3 : Value} (v0 v1 v2 : Value) (h0 : w.cell? ⟨b, 0, none⟩ = some u0) (h1 : w.cell? ⟨b, 1, none⟩ = some u1) (h2 : w.cell? ⟨b, 2, none⟩ = some u2) (h3 : w.cell? ⟨b, 3, none⟩ = some u3) :
    (((w.setCell ⟨b, 0, none⟩ v0).setCell ⟨b, 1, none⟩ v1).setCell ⟨b, 2, none⟩ v2).cell? ⟨b, 0, none⟩ = some v0 ∧ (((w.setCell ⟨b, 0, none⟩ v0).setCell ⟨b, 1, none⟩ v1).setCell ⟨b, 2, none⟩ v2).cell? ⟨b, 1, none⟩ = some v1 ∧
    (((w.setCell ⟨b, 0, none⟩ v0).setCell ⟨b, 1, none⟩ v1).setCell ⟨b, 2, none⟩ v2).cell? ⟨b, 2, none⟩ = some v2 ∧ (((w.setCell ⟨b, 0, none⟩ v0).setCell ⟨b, 1, none⟩ v1).setCell ⟨b, 2, none⟩ v2).cell? ⟨b, 3, none⟩ = some u3 :=
  ⟨set_next (by omega) (set_next (by omega) (set_same h0)), set_next (by omega) (set_same (set_next (by omega) h1)), set_same (set_next (by omega) (set_next (by omega) h2)), set_next (by omega) (set_next (by omega) (set_next (by omega) h3))⟩
theorem set3_blk {w : World} {b d o : Nat} {u : Value} (v0 v1 v2 : Value) (hne : d ≠ b) (h : w.cell? ⟨b, o, none⟩ = some u) : (((w.setCell ⟨d, 0, none⟩ v0).setCell ⟨d, 1, none⟩ v1).setCell ⟨d, 2, none⟩ v2).cell? ⟨b, o, none⟩ = some u :=
  set_blk hne (set_blk hne (set_blk hne h))
theorem own_far {w : World} {base : Nat} {e : TypeId} {sz n c : Nat} {A : Option Addr} {xs : List Value} (h : w.ownsRow base e sz (.slice A n c) n xs) {b o : Nat} (hne : ¬ blk A = some b) (u : Value) : (w.setCell ⟨b, o, none⟩ u).ownsRow base e sz (.slice A n c) n xs := by
  refine ownsRow_setCell_other h ?_ u
  intro e
  apply hne
  cases A with
  | none => simp [Value.ownBlock] at e
  | some a => simpa [Value.ownBlock, blk] using e
set_option maxHeartbeats 2000000 in
theorem start_impl_yes (st ap si now win : Int) (A : Option Addr) (n c : Nat) (zs : List Int) (w : World) (hr : Rd w 4 A n c (zs.map (Value.int .i64))) (hn : n ≤ 2097152) (h1 : st = 0) (h2 : 0 ≤ chooseM zs (wrap64 (now - win)) n) :
    Calls Try.prog 17 #[.agg #[.int .i64 st, .int .i64 ap, .int .i64 si, .slice A n c], .int .i64 now, .int .i64 win] w (RetCl2 w 1 (chooseM zs (wrap64 (now - win)) n) now true n zs) := by
  have HR := Lib.hid hr
  have HC := Lib.hid (best_impl A n c zs now win)
  have hbd := bestM_bd zs (wrap64 (now - win)) n
  unfold chooseM at *
  generalize bestM zs (wrap64 (now - win)) n = m at *
  have e1 : (st == 0) = true := by simpa using h1
  have e2 : (st != 0) = false := by simpa using h1
  have hm : ¬ m < 0 := fun h => by rw [if_pos h] at h2; omega
  rw [if_neg hm] at *
  obtain ⟨b, rfl⟩ := Int.eq_ofNat_of_zero_le (show 0 ≤ m by omega)
  rw [Int.toNat_natCast] at *
  obtain ⟨g, o, rfl, hg, d0, _, _, _⟩ := ent_at hr (k := b) (by omega)
  generalize fld zs b 0 = fa at *
  have hbn : b < n := by omega
  clear h1 hr hbd
  go_enter Try.func17, Try.ntmps17
  go_wp2_with fail
  refine (copyCl_any st ap si _ n c zs _ ((HR.out.alloc _).alloc _) hn).mono ?_
  rintro x w1 ⟨A1, c1, rfl, hown, hb⟩
  obtain ⟨hc, hf⟩ := bcells hb
  have hz := hb.size
  have q0 := (hc (w.heap.size) 0 (by simp <;> omega)).trans (show _ = some (.int .i64 st) from by first | (simp; done) | (simp [World.cell?_alloc_at]; done) | (rw [World.cell?_alloc_old _ _ _ (by simp <;> omega)]; first | (simp; done) | (simp [World.cell?_alloc_at]; done))); have q1 := (hc (w.heap.size) 1 (by simp <;> omega)).trans (show _ = some (.int .i64 ap) from by first | (simp; done) | (simp [World.cell?_alloc_at]; done) | (rw [World.cell?_alloc_old _ _ _ (by simp <;> omega)]; first | (simp; done) | (simp [World.cell?_alloc_at]; done))); have q2 := (hc (w.heap.size) 2 (by simp <;> omega)).trans (show _ = some (.int .i64 si) from by first | (simp; done) | (simp [World.cell?_alloc_at]; done) | (rw [World.cell?_alloc_old _ _ _ (by simp <;> omega)]; first | (simp; done) | (simp [World.cell?_alloc_at]; done))); have q3 := (hc (w.heap.size) 3 (by simp <;> omega)).trans (show _ = some (.slice (some ⟨g, o, none⟩) n c) from by first | (simp; done) | (simp [World.cell?_alloc_at]; done) | (rw [World.cell?_alloc_old _ _ _ (by simp <;> omega)]; first | (simp; done) | (simp [World.cell?_alloc_at]; done)))
  have p0 := (hc (w.heap.size + 1) 0 (by simp <;> omega)).trans (show _ = some (.int .i64 0) from by first | (simp; done) | (simp [World.cell?_alloc_at]; done) | (rw [World.cell?_alloc_old _ _ _ (by simp <;> omega)]; first | (simp; done) | (simp [World.cell?_alloc_at]; done))); have p1 := (hc (w.heap.size + 1) 1 (by simp <;> omega)).trans (show _ = some (.int .i64 0) from by first | (simp; done) | (simp [World.cell?_alloc_at]; done) | (rw [World.cell?_alloc_old _ _ _ (by simp <;> omega)]; first | (simp; done) | (simp [World.cell?_alloc_at]; done))); have p2 := (hc (w.heap.size + 1) 2 (by simp <;> omega)).trans (show _ = some (.int .i64 0) from by first | (simp; done) | (simp [World.cell?_alloc_at]; done) | (rw [World.cell?_alloc_old _ _ _ (by simp <;> omega)]; first | (simp; done) | (simp [World.cell?_alloc_at]; done))); have p3 := (hc (w.heap.size + 1) 3 (by simp <;> omega)).trans (show _ = some (.slice none 0 0) from by first | (simp; done) | (simp [World.cell?_alloc_at]; done) | (rw [World.cell?_alloc_old _ _ _ (by simp <;> omega)]; first | (simp; done) | (simp [World.cell?_alloc_at]; done)))
  have r0 := (hf (w.heap.size + 1) 0 (by simp <;> omega)).trans (show _ = false from by first | (simp; done) | (simp [World.frozen?_alloc_at]; done) | (rw [World.frozen?_alloc_old _ _ _ (by simp <;> omega)]; first | (simp [World.frozen?_alloc_at]; done) | (rw [World.frozen?_alloc_old _ _ _ (by simp <;> omega)]; simp [World.frozen?_alloc_at]; done))); have r1 := (hf (w.heap.size + 1) 1 (by simp <;> omega)).trans (show _ = false from by first | (simp; done) | (simp [World.frozen?_alloc_at]; done) | (rw [World.frozen?_alloc_old _ _ _ (by simp <;> omega)]; first | (simp [World.frozen?_alloc_at]; done) | (rw [World.frozen?_alloc_old _ _ _ (by simp <;> omega)]; simp [World.frozen?_alloc_at]; done))); have r2 := (hf (w.heap.size + 1) 2 (by simp <;> omega)).trans (show _ = false from by first | (simp; done) | (simp [World.frozen?_alloc_at]; done) | (rw [World.frozen?_alloc_old _ _ _ (by simp <;> omega)]; first | (simp [World.frozen?_alloc_at]; done) | (rw [World.frozen?_alloc_old _ _ _ (by simp <;> omega)]; simp [World.frozen?_alloc_at]; done))); have r3 := (hf (w.heap.size + 1) 3 (by simp <;> omega)).trans (show _ = false from by first | (simp; done) | (simp [World.frozen?_alloc_at]; done) | (rw [World.frozen?_alloc_old _ _ _ (by simp <;> omega)]; first | (simp [World.frozen?_alloc_at]; done) | (rw [World.frozen?_alloc_old _ _ _ (by simp <;> omega)]; simp [World.frozen?_alloc_at]; done)))
  replace d0 := (hc _ _ (by simp <;> omega)).trans ((World.cell?_alloc_old _ _ _ (by simp <;> omega)).trans ((World.cell?_alloc_old _ _ _ (by simp <;> omega)).trans d0))
  have hg3 : g < w1.heap.size := by have := hz; simp at this; omega
  have hg5 : ¬ g = w1.heap.size := by omega
  have hg6 : ¬ w1.heap.size = g := by omega
  have hz2 : w.heap.size + 2 ≤ w1.heap.size := by simpa using hz
  have hz3 : w.heap.size < w1.heap.size := by omega
  have hz4 : w.heap.size + 1 < w1.heap.size := by omega
  have hz5 : ¬ w.heap.size = w1.heap.size := by omega
  have hz6 : ¬ w1.heap.size = w.heap.size := by omega
  have hz7 : ¬ w.heap.size + 1 = w1.heap.size := by omega
  have hz8 : ¬ w1.heap.size = w.heap.size + 1 := by omega
  have HO := Lib.hid hown
  have HA := Lib.hid (fun (e : blk A1 = some w1.heap.size) => Nat.lt_irrefl _ (blk_of_own hown _ e).2)
  have HB := Lib.hid (show Below w.heap.size w w1 from Below.trans (by go_grown) (hb.mono (by simp <;> omega)))
  clear hown hb hc hf hz
  go_wp2_with fail
  refine (HC.out _ (HR.out.below (HB.out.alloc (by omega) _))).mono ?_
  rintro x w2 ⟨rfl, hb⟩
  obtain ⟨hc, hf⟩ := bcells hb
  have o0 := (hc (w1.heap.size) 0 (by simp <;> omega)).trans (show _ = some (.int .i64 st) from by first | (simp; done) | (simp [World.cell?_alloc_at]; done) | (rw [World.cell?_alloc_old _ _ _ (by simp <;> omega)]; first | (simp; done) | (simp [World.cell?_alloc_at]; done))); have o1 := (hc (w1.heap.size) 1 (by simp <;> omega)).trans (show _ = some (.int .i64 ap) from by first | (simp; done) | (simp [World.cell?_alloc_at]; done) | (rw [World.cell?_alloc_old _ _ _ (by simp <;> omega)]; first | (simp; done) | (simp [World.cell?_alloc_at]; done))); have o2 := (hc (w1.heap.size) 2 (by simp <;> omega)).trans (show _ = some (.int .i64 si) from by first | (simp; done) | (simp [World.cell?_alloc_at]; done) | (rw [World.cell?_alloc_old _ _ _ (by simp <;> omega)]; first | (simp; done) | (simp [World.cell?_alloc_at]; done))); have o3 := (hc (w1.heap.size) 3 (by simp <;> omega)).trans (show _ = some (.slice A1 n c1) from by first | (simp; done) | (simp [World.cell?_alloc_at]; done) | (rw [World.cell?_alloc_old _ _ _ (by simp <;> omega)]; first | (simp; done) | (simp [World.cell?_alloc_at]; done)))
  have f0 := (hf (w1.heap.size) 0 (by simp <;> omega)).trans (show _ = false from by first | (simp; done) | (simp [World.frozen?_alloc_at]; done) | (rw [World.frozen?_alloc_old _ _ _ (by simp <;> omega)]; first | (simp [World.frozen?_alloc_at]; done) | (rw [World.frozen?_alloc_old _ _ _ (by simp <;> omega)]; simp [World.frozen?_alloc_at]; done))); have f1 := (hf (w1.heap.size) 1 (by simp <;> omega)).trans (show _ = false from by first | (simp; done) | (simp [World.frozen?_alloc_at]; done) | (rw [World.frozen?_alloc_old _ _ _ (by simp <;> omega)]; first | (simp [World.frozen?_alloc_at]; done) | (rw [World.frozen?_alloc_old _ _ _ (by simp <;> omega)]; simp [World.frozen?_alloc_at]; done))); have f2 := (hf (w1.heap.size) 2 (by simp <;> omega)).trans (show _ = false from by first | (simp; done) | (simp [World.frozen?_alloc_at]; done) | (rw [World.frozen?_alloc_old _ _ _ (by simp <;> omega)]; first | (simp [World.frozen?_alloc_at]; done) | (rw [World.frozen?_alloc_old _ _ _ (by simp <;> omega)]; simp [World.frozen?_alloc_at]; done))); have f3 := (hf (w1.heap.size) 3 (by simp <;> omega)).trans (show _ = false from by first | (simp; done) | (simp [World.frozen?_alloc_at]; done) | (rw [World.frozen?_alloc_old _ _ _ (by simp <;> omega)]; first | (simp [World.frozen?_alloc_at]; done) | (rw [World.frozen?_alloc_old _ _ _ (by simp <;> omega)]; simp [World.frozen?_alloc_at]; done)))
  replace q0 := (hc _ _ (by simp <;> omega)).trans ((World.cell?_alloc_old _ _ _ (by simp <;> omega)).trans q0); replace q1 := (hc _ _ (by simp <;> omega)).trans ((World.cell?_alloc_old _ _ _ (by simp <;> omega)).trans q1); replace q2 := (hc _ _ (by simp <;> omega)).trans ((World.cell?_alloc_old _ _ _ (by simp <;> omega)).trans q2); replace q3 := (hc _ _ (by simp <;> omega)).trans ((World.cell?_alloc_old _ _ _ (by simp <;> omega)).trans q3); replace p0 := (hc _ _ (by simp <;> omega)).trans ((World.cell?_alloc_old _ _ _ (by simp <;> omega)).trans p0); replace p1 := (hc _ _ (by simp <;> omega)).trans ((World.cell?_alloc_old _ _ _ (by simp <;> omega)).trans p1); replace p2 := (hc _ _ (by simp <;> omega)).trans ((World.cell?_alloc_old _ _ _ (by simp <;> omega)).trans p2); replace p3 := (hc _ _ (by simp <;> omega)).trans ((World.cell?_alloc_old _ _ _ (by simp <;> omega)).trans p3); replace d0 := (hc _ _ (by simp <;> omega)).trans ((World.cell?_alloc_old _ _ _ (by simp <;> omega)).trans d0)
  replace r0 := (hf _ _ (by simp <;> omega)).trans ((World.frozen?_alloc_old _ _ _ (by simp <;> omega)).trans r0); replace r1 := (hf _ _ (by simp <;> omega)).trans ((World.frozen?_alloc_old _ _ _ (by simp <;> omega)).trans r1); replace r2 := (hf _ _ (by simp <;> omega)).trans ((World.frozen?_alloc_old _ _ _ (by simp <;> omega)).trans r2); replace r3 := (hf _ _ (by simp <;> omega)).trans ((World.frozen?_alloc_old _ _ _ (by simp <;> omega)).trans r3)
  have HO2 := Lib.hid (own_below (HO.out.alloc _) hb)
  have HB2 := Lib.hid (show Below w.heap.size w w2 from Below.trans (HB.out.alloc (by omega) _) (hb.mono (by simp; omega)))
  clear HO HB hb hc hf
  have HM := Lib.hid (same4 (.int .i64 1) (.int .i64 fa) (.int .i64 now) (.slice A1 n c1) (set3_blk (.int .i64 1) (.int .i64 fa) (.int .i64 now) hz8 p0) (set3_blk (.int .i64 1) (.int .i64 fa) (.int .i64 now) hz8 p1) (set3_blk (.int .i64 1) (.int .i64 fa) (.int .i64 now) hz8 p2) (set3_blk (.int .i64 1) (.int .i64 fa) (.int .i64 now) hz8 p3))
  have HO3 := Lib.hid (own_set4 (b := w.heap.size + 1) (own_far (o := 2) (own_far (o := 1) (own_far (o := 0) HO2.out HA.out (.int .i64 1)) HA.out (.int .i64 fa)) HA.out (.int .i64 now)) (by simp) (.int .i64 1) (.int .i64 fa) (.int .i64 now) (.slice A1 n c1))
  have HB3 := Lib.hid (below_set4 (b := w.heap.size + 1) (((HB2.out.setCell (p := ⟨w1.heap.size, 0, none⟩) (Nat.le_of_lt hz3) (.int .i64 1)).setCell (p := ⟨w1.heap.size, 1, none⟩) (Nat.le_of_lt hz3) (.int .i64 fa)).setCell (p := ⟨w1.heap.size, 2, none⟩) (Nat.le_of_lt hz3) (.int .i64 now)) (by omega) (.int .i64 1) (.int .i64 fa) (.int .i64 now) (.slice A1 n c1))
  clear HO2 HB2 HA
  go_wp2
  obtain ⟨m0, m1, m2, m3⟩ := HM.out
  refine bodyPost_ret (v := .tuple #[.agg #[.int .i64 1, .int .i64 fa, .int .i64 now, .slice A1 n c1], .bool true]) (by simp [results, Try.results17, go_sem, m0, m1, m2, m3]) rfl ?_
  exact ⟨_, _, rfl, ownsRow_mono HO3.out (by simp <;> omega), HB3.out⟩
set_option maxHeartbeats 2000000 in
theorem start_impl_no (st ap si now win : Int) (A : Option Addr) (n c : Nat) (zs : List Int) (w : World) (hr : Rd w 4 A n c (zs.map (Value.int .i64))) (hn : n ≤ 2097152) (h1 : st ≠ 0 ∨ chooseM zs (wrap64 (now - win)) n < 0) :
    Calls Try.prog 17 #[.agg #[.int .i64 st, .int .i64 ap, .int .i64 si, .slice A n c], .int .i64 now, .int .i64 win] w (RetCl2 w st ap si false n zs) := by
  have HR := Lib.hid hr
  have HC := Lib.hid (best_impl A n c zs now win)
  have hbd := bestM_bd zs (wrap64 (now - win)) n
  unfold chooseM at *
  generalize bestM zs (wrap64 (now - win)) n = m at *
  have hE : ((st == 0) = false ∧ (st != 0) = true) ∨ ((st == 0) = true ∧ (st != 0) = false ∧ m < 0) ∨ ((st == 0) = true ∧ (st != 0) = false ∧ ¬ m < 0 ∧ fld zs m.toNat 0 < 0) := by
    by_cases h : st = 0
    · by_cases h3 : m < 0
      · exact .inr (.inl ⟨by simpa using h, by simpa using h, h3⟩)
      · rw [if_neg h3] at h1
        exact .inr (.inr ⟨by simpa using h, by simpa using h, h3, by omega⟩)
    · exact .inl ⟨by simpa using h, by simpa using h⟩
  clear h1
  rcases hE with ⟨e1, e2⟩ | ⟨e1, e2, e3⟩ | ⟨e1, e2, e3, e4⟩
  · clear hr hbd
    go_enter Try.func17, Try.ntmps17
    go_wp2_with fail
    refine (copyCl_any st ap si _ n c zs _ ((HR.out.alloc _).alloc _) hn).mono ?_
    rintro x w1 ⟨A1, c1, rfl, hown, hb⟩
    obtain ⟨hc, hf⟩ := bcells hb
    have hz := hb.size
    have q0 := (hc (w.heap.size) 0 (by simp <;> omega)).trans (show _ = some (.int .i64 st) from by first | (simp; done) | (simp [World.cell?_alloc_at]; done) | (rw [World.cell?_alloc_old _ _ _ (by simp <;> omega)]; first | (simp; done) | (simp [World.cell?_alloc_at]; done))); have q1 := (hc (w.heap.size) 1 (by simp <;> omega)).trans (show _ = some (.int .i64 ap) from by first | (simp; done) | (simp [World.cell?_alloc_at]; done) | (rw [World.cell?_alloc_old _ _ _ (by simp <;> omega)]; first | (simp; done) | (simp [World.cell?_alloc_at]; done))); have q2 := (hc (w.heap.size) 2 (by simp <;> omega)).trans (show _ = some (.int .i64 si) from by first | (simp; done) | (simp [World.cell?_alloc_at]; done) | (rw [World.cell?_alloc_old _ _ _ (by simp <;> omega)]; first | (simp; done) | (simp [World.cell?_alloc_at]; done))); have q3 := (hc (w.heap.size) 3 (by simp <;> omega)).trans (show _ = some (.slice A n c) from by first | (simp; done) | (simp [World.cell?_alloc_at]; done) | (rw [World.cell?_alloc_old _ _ _ (by simp <;> omega)]; first | (simp; done) | (simp [World.cell?_alloc_at]; done)))
    have p0 := (hc (w.heap.size + 1) 0 (by simp <;> omega)).trans (show _ = some (.int .i64 0) from by first | (simp; done) | (simp [World.cell?_alloc_at]; done) | (rw [World.cell?_alloc_old _ _ _ (by simp <;> omega)]; first | (simp; done) | (simp [World.cell?_alloc_at]; done))); have p1 := (hc (w.heap.size + 1) 1 (by simp <;> omega)).trans (show _ = some (.int .i64 0) from by first | (simp; done) | (simp [World.cell?_alloc_at]; done) | (rw [World.cell?_alloc_old _ _ _ (by simp <;> omega)]; first | (simp; done) | (simp [World.cell?_alloc_at]; done))); have p2 := (hc (w.heap.size + 1) 2 (by simp <;> omega)).trans (show _ = some (.int .i64 0) from by first | (simp; done) | (simp [World.cell?_alloc_at]; done) | (rw [World.cell?_alloc_old _ _ _ (by simp <;> omega)]; first | (simp; done) | (simp [World.cell?_alloc_at]; done))); have p3 := (hc (w.heap.size + 1) 3 (by simp <;> omega)).trans (show _ = some (.slice none 0 0) from by first | (simp; done) | (simp [World.cell?_alloc_at]; done) | (rw [World.cell?_alloc_old _ _ _ (by simp <;> omega)]; first | (simp; done) | (simp [World.cell?_alloc_at]; done)))
    have r0 := (hf (w.heap.size + 1) 0 (by simp <;> omega)).trans (show _ = false from by first | (simp; done) | (simp [World.frozen?_alloc_at]; done) | (rw [World.frozen?_alloc_old _ _ _ (by simp <;> omega)]; first | (simp [World.frozen?_alloc_at]; done) | (rw [World.frozen?_alloc_old _ _ _ (by simp <;> omega)]; simp [World.frozen?_alloc_at]; done))); have r1 := (hf (w.heap.size + 1) 1 (by simp <;> omega)).trans (show _ = false from by first | (simp; done) | (simp [World.frozen?_alloc_at]; done) | (rw [World.frozen?_alloc_old _ _ _ (by simp <;> omega)]; first | (simp [World.frozen?_alloc_at]; done) | (rw [World.frozen?_alloc_old _ _ _ (by simp <;> omega)]; simp [World.frozen?_alloc_at]; done))); have r2 := (hf (w.heap.size + 1) 2 (by simp <;> omega)).trans (show _ = false from by first | (simp; done) | (simp [World.frozen?_alloc_at]; done) | (rw [World.frozen?_alloc_old _ _ _ (by simp <;> omega)]; first | (simp [World.frozen?_alloc_at]; done) | (rw [World.frozen?_alloc_old _ _ _ (by simp <;> omega)]; simp [World.frozen?_alloc_at]; done))); have r3 := (hf (w.heap.size + 1) 3 (by simp <;> omega)).trans (show _ = false from by first | (simp; done) | (simp [World.frozen?_alloc_at]; done) | (rw [World.frozen?_alloc_old _ _ _ (by simp <;> omega)]; first | (simp [World.frozen?_alloc_at]; done) | (rw [World.frozen?_alloc_old _ _ _ (by simp <;> omega)]; simp [World.frozen?_alloc_at]; done)))
    have hz2 : w.heap.size + 2 ≤ w1.heap.size := by simpa using hz
    have hz3 : w.heap.size < w1.heap.size := by omega
    have hz4 : w.heap.size + 1 < w1.heap.size := by omega
    have hz5 : ¬ w.heap.size = w1.heap.size := by omega
    have hz6 : ¬ w1.heap.size = w.heap.size := by omega
    have hz7 : ¬ w.heap.size + 1 = w1.heap.size := by omega
    have hz8 : ¬ w1.heap.size = w.heap.size + 1 := by omega
    have HO := Lib.hid hown
    have HB := Lib.hid (show Below w.heap.size w w1 from Below.trans (by go_grown) (hb.mono (by simp <;> omega)))
    clear hown hb hc hf hz
    go_wp2_with fail
    refine (HC.out _ (HR.out.below (HB.out.alloc (by omega) _))).mono ?_
    rintro x w2 ⟨rfl, hb⟩
    obtain ⟨hc, hf⟩ := bcells hb
    have o0 := (hc (w1.heap.size) 0 (by simp <;> omega)).trans (show _ = some (.int .i64 st) from by first | (simp; done) | (simp [World.cell?_alloc_at]; done) | (rw [World.cell?_alloc_old _ _ _ (by simp <;> omega)]; first | (simp; done) | (simp [World.cell?_alloc_at]; done))); have o1 := (hc (w1.heap.size) 1 (by simp <;> omega)).trans (show _ = some (.int .i64 ap) from by first | (simp; done) | (simp [World.cell?_alloc_at]; done) | (rw [World.cell?_alloc_old _ _ _ (by simp <;> omega)]; first | (simp; done) | (simp [World.cell?_alloc_at]; done))); have o2 := (hc (w1.heap.size) 2 (by simp <;> omega)).trans (show _ = some (.int .i64 si) from by first | (simp; done) | (simp [World.cell?_alloc_at]; done) | (rw [World.cell?_alloc_old _ _ _ (by simp <;> omega)]; first | (simp; done) | (simp [World.cell?_alloc_at]; done))); have o3 := (hc (w1.heap.size) 3 (by simp <;> omega)).trans (show _ = some (.slice A1 n c1) from by first | (simp; done) | (simp [World.cell?_alloc_at]; done) | (rw [World.cell?_alloc_old _ _ _ (by simp <;> omega)]; first | (simp; done) | (simp [World.cell?_alloc_at]; done)))
    have f0 := (hf (w1.heap.size) 0 (by simp <;> omega)).trans (show _ = false from by first | (simp; done) | (simp [World.frozen?_alloc_at]; done) | (rw [World.frozen?_alloc_old _ _ _ (by simp <;> omega)]; first | (simp [World.frozen?_alloc_at]; done) | (rw [World.frozen?_alloc_old _ _ _ (by simp <;> omega)]; simp [World.frozen?_alloc_at]; done))); have f1 := (hf (w1.heap.size) 1 (by simp <;> omega)).trans (show _ = false from by first | (simp; done) | (simp [World.frozen?_alloc_at]; done) | (rw [World.frozen?_alloc_old _ _ _ (by simp <;> omega)]; first | (simp [World.frozen?_alloc_at]; done) | (rw [World.frozen?_alloc_old _ _ _ (by simp <;> omega)]; simp [World.frozen?_alloc_at]; done))); have f2 := (hf (w1.heap.size) 2 (by simp <;> omega)).trans (show _ = false from by first | (simp; done) | (simp [World.frozen?_alloc_at]; done) | (rw [World.frozen?_alloc_old _ _ _ (by simp <;> omega)]; first | (simp [World.frozen?_alloc_at]; done) | (rw [World.frozen?_alloc_old _ _ _ (by simp <;> omega)]; simp [World.frozen?_alloc_at]; done))); have f3 := (hf (w1.heap.size) 3 (by simp <;> omega)).trans (show _ = false from by first | (simp; done) | (simp [World.frozen?_alloc_at]; done) | (rw [World.frozen?_alloc_old _ _ _ (by simp <;> omega)]; first | (simp [World.frozen?_alloc_at]; done) | (rw [World.frozen?_alloc_old _ _ _ (by simp <;> omega)]; simp [World.frozen?_alloc_at]; done)))
    replace q0 := (hc _ _ (by simp <;> omega)).trans ((World.cell?_alloc_old _ _ _ (by simp <;> omega)).trans q0); replace q1 := (hc _ _ (by simp <;> omega)).trans ((World.cell?_alloc_old _ _ _ (by simp <;> omega)).trans q1); replace q2 := (hc _ _ (by simp <;> omega)).trans ((World.cell?_alloc_old _ _ _ (by simp <;> omega)).trans q2); replace q3 := (hc _ _ (by simp <;> omega)).trans ((World.cell?_alloc_old _ _ _ (by simp <;> omega)).trans q3); replace p0 := (hc _ _ (by simp <;> omega)).trans ((World.cell?_alloc_old _ _ _ (by simp <;> omega)).trans p0); replace p1 := (hc _ _ (by simp <;> omega)).trans ((World.cell?_alloc_old _ _ _ (by simp <;> omega)).trans p1); replace p2 := (hc _ _ (by simp <;> omega)).trans ((World.cell?_alloc_old _ _ _ (by simp <;> omega)).trans p2); replace p3 := (hc _ _ (by simp <;> omega)).trans ((World.cell?_alloc_old _ _ _ (by simp <;> omega)).trans p3)
    replace r0 := (hf _ _ (by simp <;> omega)).trans ((World.frozen?_alloc_old _ _ _ (by simp <;> omega)).trans r0); replace r1 := (hf _ _ (by simp <;> omega)).trans ((World.frozen?_alloc_old _ _ _ (by simp <;> omega)).trans r1); replace r2 := (hf _ _ (by simp <;> omega)).trans ((World.frozen?_alloc_old _ _ _ (by simp <;> omega)).trans r2); replace r3 := (hf _ _ (by simp <;> omega)).trans ((World.frozen?_alloc_old _ _ _ (by simp <;> omega)).trans r3)
    have HO2 := Lib.hid (own_below (HO.out.alloc _) hb)
    have HB2 := Lib.hid (show Below w.heap.size w w2 from Below.trans (HB.out.alloc (by omega) _) (hb.mono (by simp; omega)))
    clear HO HB hb hc hf
    obtain ⟨m0, m1, m2, m3⟩ := same4 (.int .i64 st) (.int .i64 ap) (.int .i64 si) (.slice A1 n c1) p0 p1 p2 p3
    have HO3 := Lib.hid (own_set4 (b := w.heap.size + 1) HO2.out (by simp) (.int .i64 st) (.int .i64 ap) (.int .i64 si) (.slice A1 n c1))
    have HB3 := Lib.hid (below_set4 (b := w.heap.size + 1) HB2.out (by omega) (.int .i64 st) (.int .i64 ap) (.int .i64 si) (.slice A1 n c1))
    clear HO2 HB2
    go_wp2
    refine bodyPost_ret (v := .tuple #[.agg #[.int .i64 st, .int .i64 ap, .int .i64 si, .slice A1 n c1], .bool false]) (by simp [results, Try.results17, go_sem, m0, m1, m2, m3]) rfl ?_
    exact ⟨_, _, rfl, ownsRow_mono HO3.out (by simp <;> omega), HB3.out⟩
  · clear hr hbd
    go_enter Try.func17, Try.ntmps17
    go_wp2_with fail
    refine (copyCl_any st ap si _ n c zs _ ((HR.out.alloc _).alloc _) hn).mono ?_
    rintro x w1 ⟨A1, c1, rfl, hown, hb⟩
    obtain ⟨hc, hf⟩ := bcells hb
    have hz := hb.size
    have q0 := (hc (w.heap.size) 0 (by simp <;> omega)).trans (show _ = some (.int .i64 st) from by first | (simp; done) | (simp [World.cell?_alloc_at]; done) | (rw [World.cell?_alloc_old _ _ _ (by simp <;> omega)]; first | (simp; done) | (simp [World.cell?_alloc_at]; done))); have q1 := (hc (w.heap.size) 1 (by simp <;> omega)).trans (show _ = some (.int .i64 ap) from by first | (simp; done) | (simp [World.cell?_alloc_at]; done) | (rw [World.cell?_alloc_old _ _ _ (by simp <;> omega)]; first | (simp; done) | (simp [World.cell?_alloc_at]; done))); have q2 := (hc (w.heap.size) 2 (by simp <;> omega)).trans (show _ = some (.int .i64 si) from by first | (simp; done) | (simp [World.cell?_alloc_at]; done) | (rw [World.cell?_alloc_old _ _ _ (by simp <;> omega)]; first | (simp; done) | (simp [World.cell?_alloc_at]; done))); have q3 := (hc (w.heap.size) 3 (by simp <;> omega)).trans (show _ = some (.slice A n c) from by first | (simp; done) | (simp [World.cell?_alloc_at]; done) | (rw [World.cell?_alloc_old _ _ _ (by simp <;> omega)]; first | (simp; done) | (simp [World.cell?_alloc_at]; done)))
    have p0 := (hc (w.heap.size + 1) 0 (by simp <;> omega)).trans (show _ = some (.int .i64 0) from by first | (simp; done) | (simp [World.cell?_alloc_at]; done) | (rw [World.cell?_alloc_old _ _ _ (by simp <;> omega)]; first | (simp; done) | (simp [World.cell?_alloc_at]; done))); have p1 := (hc (w.heap.size + 1) 1 (by simp <;> omega)).trans (show _ = some (.int .i64 0) from by first | (simp; done) | (simp [World.cell?_alloc_at]; done) | (rw [World.cell?_alloc_old _ _ _ (by simp <;> omega)]; first | (simp; done) | (simp [World.cell?_alloc_at]; done))); have p2 := (hc (w.heap.size + 1) 2 (by simp <;> omega)).trans (show _ = some (.int .i64 0) from by first | (simp; done) | (simp [World.cell?_alloc_at]; done) | (rw [World.cell?_alloc_old _ _ _ (by simp <;> omega)]; first | (simp; done) | (simp [World.cell?_alloc_at]; done))); have p3 := (hc (w.heap.size + 1) 3 (by simp <;> omega)).trans (show _ = some (.slice none 0 0) from by first | (simp; done) | (simp [World.cell?_alloc_at]; done) | (rw [World.cell?_alloc_old _ _ _ (by simp <;> omega)]; first | (simp; done) | (simp [World.cell?_alloc_at]; done)))
    have r0 := (hf (w.heap.size + 1) 0 (by simp <;> omega)).trans (show _ = false from by first | (simp; done) | (simp [World.frozen?_alloc_at]; done) | (rw [World.frozen?_alloc_old _ _ _ (by simp <;> omega)]; first | (simp [World.frozen?_alloc_at]; done) | (rw [World.frozen?_alloc_old _ _ _ (by simp <;> omega)]; simp [World.frozen?_alloc_at]; done))); have r1 := (hf (w.heap.size + 1) 1 (by simp <;> omega)).trans (show _ = false from by first | (simp; done) | (simp [World.frozen?_alloc_at]; done) | (rw [World.frozen?_alloc_old _ _ _ (by simp <;> omega)]; first | (simp [World.frozen?_alloc_at]; done) | (rw [World.frozen?_alloc_old _ _ _ (by simp <;> omega)]; simp [World.frozen?_alloc_at]; done))); have r2 := (hf (w.heap.size + 1) 2 (by simp <;> omega)).trans (show _ = false from by first | (simp; done) | (simp [World.frozen?_alloc_at]; done) | (rw [World.frozen?_alloc_old _ _ _ (by simp <;> omega)]; first | (simp [World.frozen?_alloc_at]; done) | (rw [World.frozen?_alloc_old _ _ _ (by simp <;> omega)]; simp [World.frozen?_alloc_at]; done))); have r3 := (hf (w.heap.size + 1) 3 (by simp <;> omega)).trans (show _ = false from by first | (simp; done) | (simp [World.frozen?_alloc_at]; done) | (rw [World.frozen?_alloc_old _ _ _ (by simp <;> omega)]; first | (simp [World.frozen?_alloc_at]; done) | (rw [World.frozen?_alloc_old _ _ _ (by simp <;> omega)]; simp [World.frozen?_alloc_at]; done)))
    have hz2 : w.heap.size + 2 ≤ w1.heap.size := by simpa using hz
    have hz3 : w.heap.size < w1.heap.size := by omega
    have hz4 : w.heap.size + 1 < w1.heap.size := by omega
    have hz5 : ¬ w.heap.size = w1.heap.size := by omega
    have hz6 : ¬ w1.heap.size = w.heap.size := by omega
    have hz7 : ¬ w.heap.size + 1 = w1.heap.size := by omega
    have hz8 : ¬ w1.heap.size = w.heap.size + 1 := by omega
    have HO := Lib.hid hown
    have HB := Lib.hid (show Below w.heap.size w w1 from Below.trans (by go_grown) (hb.mono (by simp <;> omega)))
    clear hown hb hc hf hz
    go_wp2_with fail
    refine (HC.out _ (HR.out.below (HB.out.alloc (by omega) _))).mono ?_
    rintro x w2 ⟨rfl, hb⟩
    obtain ⟨hc, hf⟩ := bcells hb
    have o0 := (hc (w1.heap.size) 0 (by simp <;> omega)).trans (show _ = some (.int .i64 st) from by first | (simp; done) | (simp [World.cell?_alloc_at]; done) | (rw [World.cell?_alloc_old _ _ _ (by simp <;> omega)]; first | (simp; done) | (simp [World.cell?_alloc_at]; done))); have o1 := (hc (w1.heap.size) 1 (by simp <;> omega)).trans (show _ = some (.int .i64 ap) from by first | (simp; done) | (simp [World.cell?_alloc_at]; done) | (rw [World.cell?_alloc_old _ _ _ (by simp <;> omega)]; first | (simp; done) | (simp [World.cell?_alloc_at]; done))); have o2 := (hc (w1.heap.size) 2 (by simp <;> omega)).trans (show _ = some (.int .i64 si) from by first | (simp; done) | (simp [World.cell?_alloc_at]; done) | (rw [World.cell?_alloc_old _ _ _ (by simp <;> omega)]; first | (simp; done) | (simp [World.cell?_alloc_at]; done))); have o3 := (hc (w1.heap.size) 3 (by simp <;> omega)).trans (show _ = some (.slice A1 n c1) from by first | (simp; done) | (simp [World.cell?_alloc_at]; done) | (rw [World.cell?_alloc_old _ _ _ (by simp <;> omega)]; first | (simp; done) | (simp [World.cell?_alloc_at]; done)))
    have f0 := (hf (w1.heap.size) 0 (by simp <;> omega)).trans (show _ = false from by first | (simp; done) | (simp [World.frozen?_alloc_at]; done) | (rw [World.frozen?_alloc_old _ _ _ (by simp <;> omega)]; first | (simp [World.frozen?_alloc_at]; done) | (rw [World.frozen?_alloc_old _ _ _ (by simp <;> omega)]; simp [World.frozen?_alloc_at]; done))); have f1 := (hf (w1.heap.size) 1 (by simp <;> omega)).trans (show _ = false from by first | (simp; done) | (simp [World.frozen?_alloc_at]; done) | (rw [World.frozen?_alloc_old _ _ _ (by simp <;> omega)]; first | (simp [World.frozen?_alloc_at]; done) | (rw [World.frozen?_alloc_old _ _ _ (by simp <;> omega)]; simp [World.frozen?_alloc_at]; done))); have f2 := (hf (w1.heap.size) 2 (by simp <;> omega)).trans (show _ = false from by first | (simp; done) | (simp [World.frozen?_alloc_at]; done) | (rw [World.frozen?_alloc_old _ _ _ (by simp <;> omega)]; first | (simp [World.frozen?_alloc_at]; done) | (rw [World.frozen?_alloc_old _ _ _ (by simp <;> omega)]; simp [World.frozen?_alloc_at]; done))); have f3 := (hf (w1.heap.size) 3 (by simp <;> omega)).trans (show _ = false from by first | (simp; done) | (simp [World.frozen?_alloc_at]; done) | (rw [World.frozen?_alloc_old _ _ _ (by simp <;> omega)]; first | (simp [World.frozen?_alloc_at]; done) | (rw [World.frozen?_alloc_old _ _ _ (by simp <;> omega)]; simp [World.frozen?_alloc_at]; done)))
    replace q0 := (hc _ _ (by simp <;> omega)).trans ((World.cell?_alloc_old _ _ _ (by simp <;> omega)).trans q0); replace q1 := (hc _ _ (by simp <;> omega)).trans ((World.cell?_alloc_old _ _ _ (by simp <;> omega)).trans q1); replace q2 := (hc _ _ (by simp <;> omega)).trans ((World.cell?_alloc_old _ _ _ (by simp <;> omega)).trans q2); replace q3 := (hc _ _ (by simp <;> omega)).trans ((World.cell?_alloc_old _ _ _ (by simp <;> omega)).trans q3); replace p0 := (hc _ _ (by simp <;> omega)).trans ((World.cell?_alloc_old _ _ _ (by simp <;> omega)).trans p0); replace p1 := (hc _ _ (by simp <;> omega)).trans ((World.cell?_alloc_old _ _ _ (by simp <;> omega)).trans p1); replace p2 := (hc _ _ (by simp <;> omega)).trans ((World.cell?_alloc_old _ _ _ (by simp <;> omega)).trans p2); replace p3 := (hc _ _ (by simp <;> omega)).trans ((World.cell?_alloc_old _ _ _ (by simp <;> omega)).trans p3)
    replace r0 := (hf _ _ (by simp <;> omega)).trans ((World.frozen?_alloc_old _ _ _ (by simp <;> omega)).trans r0); replace r1 := (hf _ _ (by simp <;> omega)).trans ((World.frozen?_alloc_old _ _ _ (by simp <;> omega)).trans r1); replace r2 := (hf _ _ (by simp <;> omega)).trans ((World.frozen?_alloc_old _ _ _ (by simp <;> omega)).trans r2); replace r3 := (hf _ _ (by simp <;> omega)).trans ((World.frozen?_alloc_old _ _ _ (by simp <;> omega)).trans r3)
    have HO2 := Lib.hid (own_below (HO.out.alloc _) hb)
    have HB2 := Lib.hid (show Below w.heap.size w w2 from Below.trans (HB.out.alloc (by omega) _) (hb.mono (by simp; omega)))
    clear HO HB hb hc hf
    obtain ⟨m0, m1, m2, m3⟩ := same4 (.int .i64 st) (.int .i64 ap) (.int .i64 si) (.slice A1 n c1) p0 p1 p2 p3
    have HO3 := Lib.hid (own_set4 (b := w.heap.size + 1) HO2.out (by simp) (.int .i64 st) (.int .i64 ap) (.int .i64 si) (.slice A1 n c1))
    have HB3 := Lib.hid (below_set4 (b := w.heap.size + 1) HB2.out (by omega) (.int .i64 st) (.int .i64 ap) (.int .i64 si) (.slice A1 n c1))
    clear HO2 HB2
    go_wp2
    refine bodyPost_ret (v := .tuple #[.agg #[.int .i64 st, .int .i64 ap, .int .i64 si, .slice A1 n c1], .bool false]) (by simp [results, Try.results17, go_sem, m0, m1, m2, m3]) rfl ?_
    exact ⟨_, _, rfl, ownsRow_mono HO3.out (by simp <;> omega), HB3.out⟩
  · obtain ⟨b, rfl⟩ := Int.eq_ofNat_of_zero_le (show 0 ≤ m by omega)
    rw [Int.toNat_natCast] at e4
    obtain ⟨g, o, rfl, hg, d0, _, _, _⟩ := ent_at hr (k := b) (by omega)
    generalize fld zs b 0 = fa at *
    clear hr
    go_enter Try.func17, Try.ntmps17
    go_wp2_with fail
    refine (copyCl_any st ap si _ n c zs _ ((HR.out.alloc _).alloc _) hn).mono ?_
    rintro x w1 ⟨A1, c1, rfl, hown, hb⟩
    obtain ⟨hc, hf⟩ := bcells hb
    have hz := hb.size
    have q0 := (hc (w.heap.size) 0 (by simp <;> omega)).trans (show _ = some (.int .i64 st) from by first | (simp; done) | (simp [World.cell?_alloc_at]; done) | (rw [World.cell?_alloc_old _ _ _ (by simp <;> omega)]; first | (simp; done) | (simp [World.cell?_alloc_at]; done))); have q1 := (hc (w.heap.size) 1 (by simp <;> omega)).trans (show _ = some (.int .i64 ap) from by first | (simp; done) | (simp [World.cell?_alloc_at]; done) | (rw [World.cell?_alloc_old _ _ _ (by simp <;> omega)]; first | (simp; done) | (simp [World.cell?_alloc_at]; done))); have q2 := (hc (w.heap.size) 2 (by simp <;> omega)).trans (show _ = some (.int .i64 si) from by first | (simp; done) | (simp [World.cell?_alloc_at]; done) | (rw [World.cell?_alloc_old _ _ _ (by simp <;> omega)]; first | (simp; done) | (simp [World.cell?_alloc_at]; done))); have q3 := (hc (w.heap.size) 3 (by simp <;> omega)).trans (show _ = some (.slice (some ⟨g, o, none⟩) n c) from by first | (simp; done) | (simp [World.cell?_alloc_at]; done) | (rw [World.cell?_alloc_old _ _ _ (by simp <;> omega)]; first | (simp; done) | (simp [World.cell?_alloc_at]; done)))
    have p0 := (hc (w.heap.size + 1) 0 (by simp <;> omega)).trans (show _ = some (.int .i64 0) from by first | (simp; done) | (simp [World.cell?_alloc_at]; done) | (rw [World.cell?_alloc_old _ _ _ (by simp <;> omega)]; first | (simp; done) | (simp [World.cell?_alloc_at]; done))); have p1 := (hc (w.heap.size + 1) 1 (by simp <;> omega)).trans (show _ = some (.int .i64 0) from by first | (simp; done) | (simp [World.cell?_alloc_at]; done) | (rw [World.cell?_alloc_old _ _ _ (by simp <;> omega)]; first | (simp; done) | (simp [World.cell?_alloc_at]; done))); have p2 := (hc (w.heap.size + 1) 2 (by simp <;> omega)).trans (show _ = some (.int .i64 0) from by first | (simp; done) | (simp [World.cell?_alloc_at]; done) | (rw [World.cell?_alloc_old _ _ _ (by simp <;> omega)]; first | (simp; done) | (simp [World.cell?_alloc_at]; done))); have p3 := (hc (w.heap.size + 1) 3 (by simp <;> omega)).trans (show _ = some (.slice none 0 0) from by first | (simp; done) | (simp [World.cell?_alloc_at]; done) | (rw [World.cell?_alloc_old _ _ _ (by simp <;> omega)]; first | (simp; done) | (simp [World.cell?_alloc_at]; done)))
    have r0 := (hf (w.heap.size + 1) 0 (by simp <;> omega)).trans (show _ = false from by first | (simp; done) | (simp [World.frozen?_alloc_at]; done) | (rw [World.frozen?_alloc_old _ _ _ (by simp <;> omega)]; first | (simp [World.frozen?_alloc_at]; done) | (rw [World.frozen?_alloc_old _ _ _ (by simp <;> omega)]; simp [World.frozen?_alloc_at]; done))); have r1 := (hf (w.heap.size + 1) 1 (by simp <;> omega)).trans (show _ = false from by first | (simp; done) | (simp [World.frozen?_alloc_at]; done) | (rw [World.frozen?_alloc_old _ _ _ (by simp <;> omega)]; first | (simp [World.frozen?_alloc_at]; done) | (rw [World.frozen?_alloc_old _ _ _ (by simp <;> omega)]; simp [World.frozen?_alloc_at]; done))); have r2 := (hf (w.heap.size + 1) 2 (by simp <;> omega)).trans (show _ = false from by first | (simp; done) | (simp [World.frozen?_alloc_at]; done) | (rw [World.frozen?_alloc_old _ _ _ (by simp <;> omega)]; first | (simp [World.frozen?_alloc_at]; done) | (rw [World.frozen?_alloc_old _ _ _ (by simp <;> omega)]; simp [World.frozen?_alloc_at]; done))); have r3 := (hf (w.heap.size + 1) 3 (by simp <;> omega)).trans (show _ = false from by first | (simp; done) | (simp [World.frozen?_alloc_at]; done) | (rw [World.frozen?_alloc_old _ _ _ (by simp <;> omega)]; first | (simp [World.frozen?_alloc_at]; done) | (rw [World.frozen?_alloc_old _ _ _ (by simp <;> omega)]; simp [World.frozen?_alloc_at]; done)))
    replace d0 := (hc _ _ (by simp <;> omega)).trans ((World.cell?_alloc_old _ _ _ (by simp <;> omega)).trans ((World.cell?_alloc_old _ _ _ (by simp <;> omega)).trans d0))
    have hg3 : g < w1.heap.size := by have := hz; simp at this; omega
    have hz2 : w.heap.size + 2 ≤ w1.heap.size := by simpa using hz
    have hz3 : w.heap.size < w1.heap.size := by omega
    have hz4 : w.heap.size + 1 < w1.heap.size := by omega
    have hz5 : ¬ w.heap.size = w1.heap.size := by omega
    have hz6 : ¬ w1.heap.size = w.heap.size := by omega
    have hz7 : ¬ w.heap.size + 1 = w1.heap.size := by omega
    have hz8 : ¬ w1.heap.size = w.heap.size + 1 := by omega
    have HO := Lib.hid hown
    have HB := Lib.hid (show Below w.heap.size w w1 from Below.trans (by go_grown) (hb.mono (by simp <;> omega)))
    clear hown hb hc hf hz
    go_wp2_with fail
    refine (HC.out _ (HR.out.below (HB.out.alloc (by omega) _))).mono ?_
    rintro x w2 ⟨rfl, hb⟩
    obtain ⟨hc, hf⟩ := bcells hb
    have o0 := (hc (w1.heap.size) 0 (by simp <;> omega)).trans (show _ = some (.int .i64 st) from by first | (simp; done) | (simp [World.cell?_alloc_at]; done) | (rw [World.cell?_alloc_old _ _ _ (by simp <;> omega)]; first | (simp; done) | (simp [World.cell?_alloc_at]; done))); have o1 := (hc (w1.heap.size) 1 (by simp <;> omega)).trans (show _ = some (.int .i64 ap) from by first | (simp; done) | (simp [World.cell?_alloc_at]; done) | (rw [World.cell?_alloc_old _ _ _ (by simp <;> omega)]; first | (simp; done) | (simp [World.cell?_alloc_at]; done))); have o2 := (hc (w1.heap.size) 2 (by simp <;> omega)).trans (show _ = some (.int .i64 si) from by first | (simp; done) | (simp [World.cell?_alloc_at]; done) | (rw [World.cell?_alloc_old _ _ _ (by simp <;> omega)]; first | (simp; done) | (simp [World.cell?_alloc_at]; done))); have o3 := (hc (w1.heap.size) 3 (by simp <;> omega)).trans (show _ = some (.slice A1 n c1) from by first | (simp; done) | (simp [World.cell?_alloc_at]; done) | (rw [World.cell?_alloc_old _ _ _ (by simp <;> omega)]; first | (simp; done) | (simp [World.cell?_alloc_at]; done)))
    have f0 := (hf (w1.heap.size) 0 (by simp <;> omega)).trans (show _ = false from by first | (simp; done) | (simp [World.frozen?_alloc_at]; done) | (rw [World.frozen?_alloc_old _ _ _ (by simp <;> omega)]; first | (simp [World.frozen?_alloc_at]; done) | (rw [World.frozen?_alloc_old _ _ _ (by simp <;> omega)]; simp [World.frozen?_alloc_at]; done))); have f1 := (hf (w1.heap.size) 1 (by simp <;> omega)).trans (show _ = false from by first | (simp; done) | (simp [World.frozen?_alloc_at]; done) | (rw [World.frozen?_alloc_old _ _ _ (by simp <;> omega)]; first | (simp [World.frozen?_alloc_at]; done) | (rw [World.frozen?_alloc_old _ _ _ (by simp <;> omega)]; simp [World.frozen?_alloc_at]; done))); have f2 := (hf (w1.heap.size) 2 (by simp <;> omega)).trans (show _ = false from by first | (simp; done) | (simp [World.frozen?_alloc_at]; done) | (rw [World.frozen?_alloc_old _ _ _ (by simp <;> omega)]; first | (simp [World.frozen?_alloc_at]; done) | (rw [World.frozen?_alloc_old _ _ _ (by simp <;> omega)]; simp [World.frozen?_alloc_at]; done))); have f3 := (hf (w1.heap.size) 3 (by simp <;> omega)).trans (show _ = false from by first | (simp; done) | (simp [World.frozen?_alloc_at]; done) | (rw [World.frozen?_alloc_old _ _ _ (by simp <;> omega)]; first | (simp [World.frozen?_alloc_at]; done) | (rw [World.frozen?_alloc_old _ _ _ (by simp <;> omega)]; simp [World.frozen?_alloc_at]; done)))
    replace q0 := (hc _ _ (by simp <;> omega)).trans ((World.cell?_alloc_old _ _ _ (by simp <;> omega)).trans q0); replace q1 := (hc _ _ (by simp <;> omega)).trans ((World.cell?_alloc_old _ _ _ (by simp <;> omega)).trans q1); replace q2 := (hc _ _ (by simp <;> omega)).trans ((World.cell?_alloc_old _ _ _ (by simp <;> omega)).trans q2); replace q3 := (hc _ _ (by simp <;> omega)).trans ((World.cell?_alloc_old _ _ _ (by simp <;> omega)).trans q3); replace p0 := (hc _ _ (by simp <;> omega)).trans ((World.cell?_alloc_old _ _ _ (by simp <;> omega)).trans p0); replace p1 := (hc _ _ (by simp <;> omega)).trans ((World.cell?_alloc_old _ _ _ (by simp <;> omega)).trans p1); replace p2 := (hc _ _ (by simp <;> omega)).trans ((World.cell?_alloc_old _ _ _ (by simp <;> omega)).trans p2); replace p3 := (hc _ _ (by simp <;> omega)).trans ((World.cell?_alloc_old _ _ _ (by simp <;> omega)).trans p3); replace d0 := (hc _ _ (by simp <;> omega)).trans ((World.cell?_alloc_old _ _ _ (by simp <;> omega)).trans d0)
    replace r0 := (hf _ _ (by simp <;> omega)).trans ((World.frozen?_alloc_old _ _ _ (by simp <;> omega)).trans r0); replace r1 := (hf _ _ (by simp <;> omega)).trans ((World.frozen?_alloc_old _ _ _ (by simp <;> omega)).trans r1); replace r2 := (hf _ _ (by simp <;> omega)).trans ((World.frozen?_alloc_old _ _ _ (by simp <;> omega)).trans r2); replace r3 := (hf _ _ (by simp <;> omega)).trans ((World.frozen?_alloc_old _ _ _ (by simp <;> omega)).trans r3)
    have HO2 := Lib.hid (own_below (HO.out.alloc _) hb)
    have HB2 := Lib.hid (show Below w.heap.size w w2 from Below.trans (HB.out.alloc (by omega) _) (hb.mono (by simp; omega)))
    clear HO HB hb hc hf
    obtain ⟨m0, m1, m2, m3⟩ := same4 (.int .i64 st) (.int .i64 ap) (.int .i64 si) (.slice A1 n c1) p0 p1 p2 p3
    have HO3 := Lib.hid (own_set4 (b := w.heap.size + 1) HO2.out (by simp) (.int .i64 st) (.int .i64 ap) (.int .i64 si) (.slice A1 n c1))
    have HB3 := Lib.hid (below_set4 (b := w.heap.size + 1) HB2.out (by omega) (.int .i64 st) (.int .i64 ap) (.int .i64 si) (.slice A1 n c1))
    clear HO2 HB2
    go_wp2
    refine bodyPost_ret (v := .tuple #[.agg #[.int .i64 st, .int .i64 ap, .int .i64 si, .slice A1 n c1], .bool false]) (by simp [results, Try.results17, go_sem, m0, m1, m2, m3]) rfl ?_
    exact ⟨_, _, rfl, ownsRow_mono HO3.out (by simp <;> omega), HB3.out⟩
end Go.Proofs.Ytikolopdkjocgaa.Cl
