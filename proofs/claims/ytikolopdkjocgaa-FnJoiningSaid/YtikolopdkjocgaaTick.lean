/- Contracts of TickClient. -/
import Derived.Test.YtikolopdkjocgaaClient
namespace Go.Proofs.Ytikolopdkjocgaa.Cl
open Go.RowKit
open Go.Proofs.Ytikolopdkjocgaa.Num Go.Proofs.Ytikolopdkjocgaa.Mem Go.Proofs.Ytikolopdkjocgaa.Sls Go.Proofs.Ytikolopdkjocgaa.Scn Go.Proofs.Ytikolopdkjocgaa.Own
set_option linter.unusedSimpArgs false

/-- the client waits for an answer that has not come in time -/
def lateP (st si now : Int) : Prop := (st = 1 ∨ st = 2) ∧ wrap64 (si + 6) < now
set_option maxHeartbeats 1000000 in
theorem tick_impl_late (st ap si now : Int) (A : Option Addr) (n c : Nat) (zs : List Int) (w : World) (hr : Rd w 4 A n c (zs.map (Value.int .i64))) (hn : n ≤ 2097152) (hl : lateP st si now) :
    Calls Try.prog 20 #[.agg #[.int .i64 st, .int .i64 ap, .int .i64 si, .slice A n c], .int .i64 now] w (RetCl w 0 0 0 n zs) := by
  obtain ⟨h1, h2⟩ := hl
  have HR := Lib.hid hr
  clear hr
  have hE : (st == 1) = true ∨ ((st == 1) = false ∧ (st == 2) = true) := by
    rcases h1 with rfl | rfl
    · exact .inl rfl
    · exact .inr ⟨rfl, rfl⟩
  clear h1
  rcases hE with e1 | ⟨e1, e2⟩
  all_goals
    go_enter Try.func20, Try.ntmps20
    go_wp2_with fail
    refine (copyCl_any st ap si A n c zs _ ((HR.out.alloc _).alloc _) hn).mono ?_
    rintro x w1 ⟨A1, c1, rfl, hown, hb⟩
    obtain ⟨hc, hf⟩ := bcells hb
    have hz := hb.size
    have q0 := (hc (w.heap.size) 0 (by simp <;> omega)).trans (show _ = some (.int .i64 st) from by first | (simp; done) | (simp [World.cell?_alloc_at]; done) | (rw [World.cell?_alloc_old _ _ _ (by simp <;> omega)]; first | (simp; done) | (simp [World.cell?_alloc_at]; done))); have q1 := (hc (w.heap.size) 1 (by simp <;> omega)).trans (show _ = some (.int .i64 ap) from by first | (simp; done) | (simp [World.cell?_alloc_at]; done) | (rw [World.cell?_alloc_old _ _ _ (by simp <;> omega)]; first | (simp; done) | (simp [World.cell?_alloc_at]; done))); have q2 := (hc (w.heap.size) 2 (by simp <;> omega)).trans (show _ = some (.int .i64 si) from by first | (simp; done) | (simp [World.cell?_alloc_at]; done) | (rw [World.cell?_alloc_old _ _ _ (by simp <;> omega)]; first | (simp; done) | (simp [World.cell?_alloc_at]; done))); have q3 := (hc (w.heap.size) 3 (by simp <;> omega)).trans (show _ = some (.slice A n c) from by first | (simp; done) | (simp [World.cell?_alloc_at]; done) | (rw [World.cell?_alloc_old _ _ _ (by simp <;> omega)]; first | (simp; done) | (simp [World.cell?_alloc_at]; done)))
    have p0 := (hc (w.heap.size + 1) 0 (by simp <;> omega)).trans (show _ = some (.int .i64 0) from by first | (simp; done) | (simp [World.cell?_alloc_at]; done) | (rw [World.cell?_alloc_old _ _ _ (by simp <;> omega)]; first | (simp; done) | (simp [World.cell?_alloc_at]; done))); have p1 := (hc (w.heap.size + 1) 1 (by simp <;> omega)).trans (show _ = some (.int .i64 0) from by first | (simp; done) | (simp [World.cell?_alloc_at]; done) | (rw [World.cell?_alloc_old _ _ _ (by simp <;> omega)]; first | (simp; done) | (simp [World.cell?_alloc_at]; done))); have p2 := (hc (w.heap.size + 1) 2 (by simp <;> omega)).trans (show _ = some (.int .i64 0) from by first | (simp; done) | (simp [World.cell?_alloc_at]; done) | (rw [World.cell?_alloc_old _ _ _ (by simp <;> omega)]; first | (simp; done) | (simp [World.cell?_alloc_at]; done))); have p3 := (hc (w.heap.size + 1) 3 (by simp <;> omega)).trans (show _ = some (.slice none 0 0) from by first | (simp; done) | (simp [World.cell?_alloc_at]; done) | (rw [World.cell?_alloc_old _ _ _ (by simp <;> omega)]; first | (simp; done) | (simp [World.cell?_alloc_at]; done)))
    have r0 := (hf (w.heap.size + 1) 0 (by simp <;> omega)).trans (show _ = false from by first | (simp; done) | (simp [World.frozen?_alloc_at]; done) | (rw [World.frozen?_alloc_old _ _ _ (by simp <;> omega)]; first | (simp [World.frozen?_alloc_at]; done) | (rw [World.frozen?_alloc_old _ _ _ (by simp <;> omega)]; simp [World.frozen?_alloc_at]; done))); have r1 := (hf (w.heap.size + 1) 1 (by simp <;> omega)).trans (show _ = false from by first | (simp; done) | (simp [World.frozen?_alloc_at]; done) | (rw [World.frozen?_alloc_old _ _ _ (by simp <;> omega)]; first | (simp [World.frozen?_alloc_at]; done) | (rw [World.frozen?_alloc_old _ _ _ (by simp <;> omega)]; simp [World.frozen?_alloc_at]; done))); have r2 := (hf (w.heap.size + 1) 2 (by simp <;> omega)).trans (show _ = false from by first | (simp; done) | (simp [World.frozen?_alloc_at]; done) | (rw [World.frozen?_alloc_old _ _ _ (by simp <;> omega)]; first | (simp [World.frozen?_alloc_at]; done) | (rw [World.frozen?_alloc_old _ _ _ (by simp <;> omega)]; simp [World.frozen?_alloc_at]; done))); have r3 := (hf (w.heap.size + 1) 3 (by simp <;> omega)).trans (show _ = false from by first | (simp; done) | (simp [World.frozen?_alloc_at]; done) | (rw [World.frozen?_alloc_old _ _ _ (by simp <;> omega)]; first | (simp [World.frozen?_alloc_at]; done) | (rw [World.frozen?_alloc_old _ _ _ (by simp <;> omega)]; simp [World.frozen?_alloc_at]; done)))
    have hz2 : w.heap.size + 2 ≤ w1.heap.size := by simpa using hz
    have hz3 : w.heap.size < w1.heap.size := by omega
    have hz4 : w.heap.size + 1 < w1.heap.size := by omega
    have HO := Lib.hid hown
    have HB := Lib.hid (show Below w.heap.size w w1 from Below.trans (by go_grown) (hb.mono (by simp <;> omega)))
    clear hown hb hc hf hz
    go_wp2_with fail
    refine (reset_any st ap si (.slice A1 n c1) _ rfl ⟨_, _, _, rfl⟩).mono ?_
    rintro x w2 ⟨rfl, hb⟩
    obtain ⟨hc, hf⟩ := bcells hb
    replace p0 := (hc _ _ (by simp <;> omega)).trans ((World.cell?_alloc_old _ _ _ (by simp <;> omega)).trans p0)
    replace p1 := (hc _ _ (by simp <;> omega)).trans ((World.cell?_alloc_old _ _ _ (by simp <;> omega)).trans p1)
    replace p2 := (hc _ _ (by simp <;> omega)).trans ((World.cell?_alloc_old _ _ _ (by simp <;> omega)).trans p2)
    replace p3 := (hc _ _ (by simp <;> omega)).trans ((World.cell?_alloc_old _ _ _ (by simp <;> omega)).trans p3)
    replace r0 := (hf _ _ (by simp <;> omega)).trans ((World.frozen?_alloc_old _ _ _ (by simp <;> omega)).trans r0)
    replace r1 := (hf _ _ (by simp <;> omega)).trans ((World.frozen?_alloc_old _ _ _ (by simp <;> omega)).trans r1)
    replace r2 := (hf _ _ (by simp <;> omega)).trans ((World.frozen?_alloc_old _ _ _ (by simp <;> omega)).trans r2)
    replace r3 := (hf _ _ (by simp <;> omega)).trans ((World.frozen?_alloc_old _ _ _ (by simp <;> omega)).trans r3)
    clear q0 q1 q2 q3
    obtain ⟨m0, m1, m2, m3⟩ := same4 (.int .i64 0) (.int .i64 0) (.int .i64 0) (.slice A1 n c1) p0 p1 p2 p3
    replace HO := Lib.hid (own_set4 (b := w.heap.size + 1) (own_below (HO.out.alloc _) hb) (by simp <;> omega) (.int .i64 0) (.int .i64 0) (.int .i64 0) (.slice A1 n c1))
    replace HB := Lib.hid (below_set4 (b := w.heap.size + 1) (show Below w.heap.size w w2 from Below.trans (HB.out.alloc (by omega) _) (hb.mono (by simp <;> omega))) (by omega) (.int .i64 0) (.int .i64 0) (.int .i64 0) (.slice A1 n c1))
    clear hb hc hf
    go_wp2
    refine bodyPost_ret (v := .agg #[.int .i64 0, .int .i64 0, .int .i64 0, .slice A1 n c1]) (by simp [results, Try.results20, go_sem, m0, m1, m2, m3]) rfl ?_
    exact ⟨_, _, rfl, ownsRow_mono HO.out (by simp <;> omega), HB.out⟩
set_option maxHeartbeats 1000000 in
theorem tick_impl_not (st ap si now : Int) (A : Option Addr) (n c : Nat) (zs : List Int) (w : World) (hr : Rd w 4 A n c (zs.map (Value.int .i64))) (hn : n ≤ 2097152) (hl : ¬ lateP st si now) :
    Calls Try.prog 20 #[.agg #[.int .i64 st, .int .i64 ap, .int .i64 si, .slice A n c], .int .i64 now] w (RetCl w st ap si n zs) := by
  have HR := Lib.hid hr
  clear hr
  have hE : ((st == 1) = false ∧ (st == 2) = false) ∨ ((st == 1) = true ∧ now ≤ wrap64 (si + 6)) ∨ ((st == 1) = false ∧ (st == 2) = true ∧ now ≤ wrap64 (si + 6)) := by
    unfold lateP at hl
    by_cases h1 : st = 1
    · refine .inr (.inl ⟨by simpa using h1, ?_⟩)
      rcases Int.lt_or_le (wrap64 (si + 6)) now with h2 | h2
      · exact absurd ⟨.inl h1, h2⟩ hl
      · exact h2
    · by_cases h3 : st = 2
      · refine .inr (.inr ⟨by simpa using h1, by simpa using h3, ?_⟩)
        rcases Int.lt_or_le (wrap64 (si + 6)) now with h2 | h2
        · exact absurd ⟨.inr h3, h2⟩ hl
        · exact h2
      · exact .inl ⟨by simpa using h1, by simpa using h3⟩
  clear hl
  rcases hE with ⟨e1, e2⟩ | ⟨e1, e2⟩ | ⟨e1, e2, e3⟩
  all_goals
    go_enter Try.func20, Try.ntmps20
    go_wp2_with fail
    refine (copyCl_any st ap si A n c zs _ ((HR.out.alloc _).alloc _) hn).mono ?_
    rintro x w1 ⟨A1, c1, rfl, hown, hb⟩
    obtain ⟨hc, hf⟩ := bcells hb
    have hz := hb.size
    have q0 := (hc (w.heap.size) 0 (by simp <;> omega)).trans (show _ = some (.int .i64 st) from by first | (simp; done) | (simp [World.cell?_alloc_at]; done) | (rw [World.cell?_alloc_old _ _ _ (by simp <;> omega)]; first | (simp; done) | (simp [World.cell?_alloc_at]; done))); have q1 := (hc (w.heap.size) 1 (by simp <;> omega)).trans (show _ = some (.int .i64 ap) from by first | (simp; done) | (simp [World.cell?_alloc_at]; done) | (rw [World.cell?_alloc_old _ _ _ (by simp <;> omega)]; first | (simp; done) | (simp [World.cell?_alloc_at]; done))); have q2 := (hc (w.heap.size) 2 (by simp <;> omega)).trans (show _ = some (.int .i64 si) from by first | (simp; done) | (simp [World.cell?_alloc_at]; done) | (rw [World.cell?_alloc_old _ _ _ (by simp <;> omega)]; first | (simp; done) | (simp [World.cell?_alloc_at]; done))); have q3 := (hc (w.heap.size) 3 (by simp <;> omega)).trans (show _ = some (.slice A n c) from by first | (simp; done) | (simp [World.cell?_alloc_at]; done) | (rw [World.cell?_alloc_old _ _ _ (by simp <;> omega)]; first | (simp; done) | (simp [World.cell?_alloc_at]; done)))
    have p0 := (hc (w.heap.size + 1) 0 (by simp <;> omega)).trans (show _ = some (.int .i64 0) from by first | (simp; done) | (simp [World.cell?_alloc_at]; done) | (rw [World.cell?_alloc_old _ _ _ (by simp <;> omega)]; first | (simp; done) | (simp [World.cell?_alloc_at]; done))); have p1 := (hc (w.heap.size + 1) 1 (by simp <;> omega)).trans (show _ = some (.int .i64 0) from by first | (simp; done) | (simp [World.cell?_alloc_at]; done) | (rw [World.cell?_alloc_old _ _ _ (by simp <;> omega)]; first | (simp; done) | (simp [World.cell?_alloc_at]; done))); have p2 := (hc (w.heap.size + 1) 2 (by simp <;> omega)).trans (show _ = some (.int .i64 0) from by first | (simp; done) | (simp [World.cell?_alloc_at]; done) | (rw [World.cell?_alloc_old _ _ _ (by simp <;> omega)]; first | (simp; done) | (simp [World.cell?_alloc_at]; done))); have p3 := (hc (w.heap.size + 1) 3 (by simp <;> omega)).trans (show _ = some (.slice none 0 0) from by first | (simp; done) | (simp [World.cell?_alloc_at]; done) | (rw [World.cell?_alloc_old _ _ _ (by simp <;> omega)]; first | (simp; done) | (simp [World.cell?_alloc_at]; done)))
    have r0 := (hf (w.heap.size + 1) 0 (by simp <;> omega)).trans (show _ = false from by first | (simp; done) | (simp [World.frozen?_alloc_at]; done) | (rw [World.frozen?_alloc_old _ _ _ (by simp <;> omega)]; first | (simp [World.frozen?_alloc_at]; done) | (rw [World.frozen?_alloc_old _ _ _ (by simp <;> omega)]; simp [World.frozen?_alloc_at]; done))); have r1 := (hf (w.heap.size + 1) 1 (by simp <;> omega)).trans (show _ = false from by first | (simp; done) | (simp [World.frozen?_alloc_at]; done) | (rw [World.frozen?_alloc_old _ _ _ (by simp <;> omega)]; first | (simp [World.frozen?_alloc_at]; done) | (rw [World.frozen?_alloc_old _ _ _ (by simp <;> omega)]; simp [World.frozen?_alloc_at]; done))); have r2 := (hf (w.heap.size + 1) 2 (by simp <;> omega)).trans (show _ = false from by first | (simp; done) | (simp [World.frozen?_alloc_at]; done) | (rw [World.frozen?_alloc_old _ _ _ (by simp <;> omega)]; first | (simp [World.frozen?_alloc_at]; done) | (rw [World.frozen?_alloc_old _ _ _ (by simp <;> omega)]; simp [World.frozen?_alloc_at]; done))); have r3 := (hf (w.heap.size + 1) 3 (by simp <;> omega)).trans (show _ = false from by first | (simp; done) | (simp [World.frozen?_alloc_at]; done) | (rw [World.frozen?_alloc_old _ _ _ (by simp <;> omega)]; first | (simp [World.frozen?_alloc_at]; done) | (rw [World.frozen?_alloc_old _ _ _ (by simp <;> omega)]; simp [World.frozen?_alloc_at]; done)))
    have hz2 : w.heap.size + 2 ≤ w1.heap.size := by simpa using hz
    have hz3 : w.heap.size < w1.heap.size := by omega
    have hz4 : w.heap.size + 1 < w1.heap.size := by omega
    obtain ⟨y0, y1, y2, y3⟩ := all4 (.int .i64 st) (.int .i64 ap) (.int .i64 si) (.slice A1 n c1) p0 p1 p2 p3
    have hs4 := size_set4 w1 (w.heap.size + 1) (.int .i64 st) (.int .i64 ap) (.int .i64 si) (.slice A1 n c1)
    have m0 := (World.cell?_alloc_old _ (.cells #[.int .i64 st, .int .i64 ap, .int .i64 si, .slice A1 n c1] 38) ⟨w.heap.size + 1, 0, none⟩ (by rw [hs4]; exact Nat.ne_of_lt hz4)).trans y0
    have m1 := (World.cell?_alloc_old _ (.cells #[.int .i64 st, .int .i64 ap, .int .i64 si, .slice A1 n c1] 38) ⟨w.heap.size + 1, 1, none⟩ (by rw [hs4]; exact Nat.ne_of_lt hz4)).trans y1
    have m2 := (World.cell?_alloc_old _ (.cells #[.int .i64 st, .int .i64 ap, .int .i64 si, .slice A1 n c1] 38) ⟨w.heap.size + 1, 2, none⟩ (by rw [hs4]; exact Nat.ne_of_lt hz4)).trans y2
    have m3 := (World.cell?_alloc_old _ (.cells #[.int .i64 st, .int .i64 ap, .int .i64 si, .slice A1 n c1] 38) ⟨w.heap.size + 1, 3, none⟩ (by rw [hs4]; exact Nat.ne_of_lt hz4)).trans y3
    have HO := Lib.hid ((own_set4 (b := w.heap.size + 1) hown (by simp <;> omega) (.int .i64 st) (.int .i64 ap) (.int .i64 si) (.slice A1 n c1)).alloc (.cells #[.int .i64 st, .int .i64 ap, .int .i64 si, .slice A1 n c1] 38))
    have HB := Lib.hid ((below_set4 (b := w.heap.size + 1) (show Below w.heap.size w w1 from Below.trans (by go_grown) (hb.mono (by simp <;> omega))) (by omega) (.int .i64 st) (.int .i64 ap) (.int .i64 si) (.slice A1 n c1)).alloc (by rw [hs4]; omega) (.cells #[.int .i64 st, .int .i64 ap, .int .i64 si, .slice A1 n c1] 38))
    clear hs4
    clear hown hb hc hf hz y0 y1 y2 y3
    go_wp2
    refine bodyPost_ret (v := .agg #[.int .i64 st, .int .i64 ap, .int .i64 si, .slice A1 n c1]) (by simp [results, Try.results20, go_sem, m0, m1, m2, m3]) rfl ?_
    exact ⟨_, _, rfl, ownsRow_mono HO.out (by simp <;> omega), HB.out⟩
end Go.Proofs.Ytikolopdkjocgaa.Cl
