/- Power buffers: a station dropped. -/
import Derived.Test.YthdieeaegplnmaaPbR
import Derived.Test.YthdieeaegplnmaaPbG
import Derived.Test.YthdieeaegplnmaaPbS
namespace Go.Proofs.Ythdieeaegplnmaa.Pb
open Go.RowKit
open Go.Proofs.Ythdieeaegplnmaa.Num Go.Proofs.Ythdieeaegplnmaa.Mem Go.Proofs.Ythdieeaegplnmaa.Hsh Go.Proofs.Ythdieeaegplnmaa.Sls Go.Proofs.Ythdieeaegplnmaa.Own Go.Proofs.Ythdieeaegplnmaa.SS Go.Proofs.Ythdieeaegplnmaa.Gb
set_option linter.unusedSimpArgs false
set_option linter.unusedVariables false
/-- the first k entries without the station's -/
def dropK (ks : List Kt) (st : Int) : Nat → List Kt
  | 0 => []
  | k + 1 => if (nthK ks k).st = st then dropK ks st k else dropK ks st k ++ [nthK ks k]
theorem nthK_old {l : List Kt} {e : Kt} {i : Nat} (h : i < l.length) : nthK (l ++ [e]) i = nthK l i := by
  unfold nthK
  rw [List.getD_eq_getElem?_getD, List.getD_eq_getElem?_getD, List.getElem?_append_left h]
theorem nthK_new {l : List Kt} {e : Kt} {i : Nat} (h : l.length = i) : nthK (l ++ [e]) i = e := by
  subst h
  unfold nthK
  rw [List.getD_eq_getElem?_getD, List.getElem?_append_right (Nat.le_refl _)]
  simp
theorem drop_le (ks : List Kt) (st : Int) (k : Nat) : (dropK ks st k).length ≤ k := by
  induction k with
  | zero => exact Nat.le_refl _
  | succ k ih =>
    unfold dropK
    split
    · omega
    · simp; omega
section
variable {w w' : World} {lo hi h2 k : Nat} {ls : List Kt} {es : List Sl} {r : Nat → Nat × Nat} {cs : List Value}
theorem cells_snoc (h : CellsK cs ls es k) (hk : ls.length = k) (hl : es.length = k) (e : Kt) (s : Sl) : CellsK (cs ++ [.int .i64 e.st, .bool e.ap, sl s, .int .i64 e.lo]) (ls ++ [e]) (es ++ [s]) (k + 1) := by
  have h3 : CellsK cs (ls ++ [e]) es k := ⟨h.1, fun i hi => by rw [nthK_old (by omega)]; exact h.2 i hi⟩
  have h4 := cells_step h3 hl s
  rw [nthK_new hk] at h4
  exact h4
theorem in_snoc (h : InPB w lo hi es ls r k) (hk : ls.length = k) (hl : es.length = k) (e : Kt) (s : Sl) (hs : OwnSS w hi h2 s.1 s.2.1 s.2.2 e.fs) (hlo : lo ≤ hi) (hh : hi ≤ h2) : InPB w lo h2 (es ++ [s]) (ls ++ [e]) (ext r k (hi, h2)) (k + 1) := by
  have h3 : InPB w lo hi es (ls ++ [e]) r k := ⟨fun i hi => by rw [nthK_old (by omega)]; exact h.1 i hi, h.2⟩
  exact in_stepK h3 hl s (by rw [nthK_new hk]; exact hs) hlo hh
end
theorem valid_snoc {ls : List Kt} {m : Nat} {e : Kt} (h : validP ls m) (hl : ls.length = m) (he : okE (bef ls m) e) : validP (ls ++ [e]) (m + 1) := fun i hi => by
  have hb : bef (ls ++ [e]) i = bef ls i := by
    cases i with
    | zero => rfl
    | succ i => show (nthK (ls ++ [e]) i).st = (nthK ls i).st
                rw [nthK_old (by omega)]
  rw [hb]
  rcases Nat.lt_or_ge i m with h1 | h1
  · rw [nthK_old (by omega)]; exact h i h1
  · obtain rfl : i = m := by omega
    rw [nthK_new hl]; exact he
/-- what stands of the first k entries -/
theorem drop_good {ks : List Kt} {n b : Nat} (st : Int) (h : GoodP ks n b) : ∀ k, k ≤ n → GoodP (dropK ks st k) (dropK ks st k).length b ∧ bef (dropK ks st k) (dropK ks st k).length ≤ bef ks k ∧ ∀ i, i < (dropK ks st k).length → (nthK (dropK ks st k) i).st ≠ st := by
  intro k
  induction k with
  | zero => exact fun _ => ⟨⟨fun i hi => absurd hi (Nat.not_lt_zero _), rfl, fun i hi => absurd hi (Nat.not_lt_zero _)⟩, Int.le_refl _, fun i hi => absurd hi (Nat.not_lt_zero _)⟩
  | succ k ih =>
    intro hk
    obtain ⟨⟨i1, i2, i3⟩, i4, i5⟩ := ih (by omega)
    have hok := h.1 k (by omega)
    by_cases he : (nthK ks k).st = st
    · have e : dropK ks st (k + 1) = dropK ks st k := by show (if _ then _ else _) = _; rw [if_pos he]
      rw [e]
      refine ⟨⟨i1, i2, i3⟩, Int.le_trans i4 ?_, i5⟩
      show _ ≤ (nthK ks k).st
      have := hok.1.2.1
      omega
    · have e : dropK ks st (k + 1) = dropK ks st k ++ [nthK ks k] := by show (if _ then _ else _) = _; rw [if_neg he]
      rw [e]
      have el : (dropK ks st k ++ [nthK ks k]).length = (dropK ks st k).length + 1 := by simp
      rw [el]
      refine ⟨⟨valid_snoc i1 rfl ⟨⟨hok.1.1, by have := hok.1.2.1; omega, hok.1.2.2⟩, hok.2⟩, el, fun i hi => ?_⟩, ?_, fun i hi => ?_⟩
      · rcases Nat.lt_or_ge i (dropK ks st k).length with h1 | h1
        · rw [nthK_old h1]; exact i3 i h1
        · rw [nthK_new (by omega)]; exact h.2.2 k (by omega)
      · show (nthK (dropK ks st k ++ [nthK ks k]) (dropK ks st k).length).st ≤ (nthK ks k).st
        rw [nthK_new rfl]; exact Int.le_refl _
      · rcases Nat.lt_or_ge i (dropK ks st k).length with h1 | h1
        · rw [nthK_old h1]; exact i5 i h1
        · rw [nthK_new (by omega)]; exact he
theorem own_blk0 {w : World} {lo q sz : Nat} {e : TypeId} (h : Bk.Blk w q e #[]) (hl : lo ≤ q) : w.ownsRow lo e sz (.slice (some ⟨q, 0, none⟩) 0 0) 0 [] :=
  ⟨by simp, .inr ⟨q, 0, #[], rfl, hl, h, Nat.le_refl _, by unfold maxLen; omega, by simp, by simp⟩⟩
theorem own_offT {w : World} {base n c b : Nat} {e t : TypeId} {sz : Nat} {A : Option Addr} {xs : List Value} {cs : Array Value} (h : w.ownsRow base e sz (.slice A n c) n xs) (hb : Bk.Blk w b t cs) (ht : t ≠ e) (o : Nat) (u : Value) : (w.setCell ⟨b, o, none⟩ u).ownsRow base e sz (.slice A n c) n xs := by
  obtain ⟨h1, h2⟩ := h
  rcases h2 with h2 | ⟨q, cap, cur, hv, h3, h4, h5⟩
  · exact ⟨h1, .inl h2⟩
  · have hne : q ≠ b := by
      rintro rfl
      unfold Bk.Blk at hb
      rw [hb] at h4
      simp only [Option.some.injEq, Obj.cells.injEq] at h4
      exact ht h4.2.1
    exact ⟨h1, .inr ⟨q, cap, cur, hv, h3, (Below.heap_setCell w ⟨b, o, none⟩ u q hne).trans h4, h5⟩⟩
set_option maxRecDepth 100000 in
set_option maxHeartbeats 8000000 in
theorem drop_impl (A : Option Addr) (n c : Nat) (ks : List Kt) (sn : Int) (w : World) (hr : RdPB w A n c ks) (hn : n ≤ 1048577) (hs : AllFew ks) :
    Calls Try.prog 43 #[.agg #[.slice A n c], .int .i64 sn] w (RetPb w (dropK ks sn n).length (dropK ks sn n)) := by
  obtain ⟨i0, hi, hz0, hz1, hz2⟩ := info_parts ktInfo
  have hl := Lib.hid hr.1
  have hn64 := hr.n64
  have HR := Lib.hid hr
  have HS := Lib.hid hs
  have B : Below w.heap.size w w := Below.refl _ _
  clear hr hs
  go_enter Try.func43, Try.ntmps43
  go_wp2_with fail
  generalize hW : World.alloc _ _ = w1
  have bp : Bk.Blk w1 (w.heap.size) 39 #[.slice A n c] := (by rw [← hW]; apply Bk.Blk.to; (focus (exact Bk.sv)); rfl)
  have r0 : Bk.Blk w1 (w.heap.size + 1) 39 #[.slice none 0 0] := (by rw [← hW]; apply Bk.Blk.to; (focus (exact Bk.sv)); rfl)
  have be : Bk.Blk w1 (w.heap.size + 1 + 1) 95 #[] := (by rw [← hW]; apply Bk.Blk.to; (focus exact Bk.sv); rfl)
  have bo : Bk.Blk w1 (w.heap.size + 1 + 1 + 1) 39 #[.slice (some ⟨w.heap.size + 1 + 1, 0, none⟩) 0 0] := (by rw [← hW]; apply Bk.Blk.to; (focus (exact Bk.sv)); rfl)
  replace B : Below w.heap.size w w1 := (by rw [← hW]; go_grown)
  have z1 : w1.heap.size = _ := congrArg (fun W : World => W.heap.size) hW.symm
  (try simp only [World.size_alloc, Bk.size_set, World.size_drew, World.drewN] at z1)
  clear hW
  have HE := Lib.hid (own_blk0 (lo := w.heap.size + 1 + 1) (sz := 4) be (Nat.le_refl _))
  clear be
  go_loopw [13] (fun v4 wr => ∃ (k m : Nat) (ls : List Kt) (A1 : Option Addr) (c1 : Nat) (cs : List Value) (es : List Sl) (r : Nat → Nat × Nat), k ≤ n ∧ v4 = .int .i64 (k : Int) ∧ m ≤ k ∧ ls = dropK ks sn k ∧ ls.length = m ∧ es.length = m ∧ CellsK cs ls es m ∧ wr.ownsRow (w.heap.size + 1 + 1) 95 4 (.slice A1 m c1) m cs ∧ InPB wr w1.heap.size wr.heap.size es ls r m ∧ Bk.Blk wr w.heap.size 39 #[.slice A n c] ∧ Bk.Blk wr (w.heap.size + 1) 39 #[.slice none 0 0] ∧ Bk.Blk wr (w.heap.size + 1 + 1 + 1) 39 #[.slice A1 m c1] ∧ w1.heap.size ≤ wr.heap.size ∧ Below w.heap.size w wr) (fun v4 _ => n - (intOf v4).toNat)
  case atStart => exact ⟨0, 0, [], _, 0, [], [], fun _ => (0, 0), Nat.zero_le _, rfl, Nat.le_refl _, rfl, rfl, rfl, cells_zero _, HE.out, in_zero _ _ _ _ _ _, bp, r0, bo, Nat.le_refl _, B⟩
  case round =>
    clear bo r0 bp B HE
    obtain ⟨k, m, ls, A1, c1, cs, es, r, hk, rfl, hmk, hdk, hlm, hls, hcs, hown, hin, bp, r0, bo, z3, B⟩ := hrel
    obtain ⟨w3, hw3⟩ : ∃ W, W = wr := ⟨_, rfl⟩
    subst hw3
    by_cases hlt : k < n
    · obtain ⟨g, o, A', n', c', rfl, hg, d0, d1, d2, d3, hrd⟩ := (HR.out.below B).at_ hlt
      have hn' : n' ≤ 2097152 := by have h1 := (HS.out k).1; have h2 := hrd.1; omega
      have HSH := Lib.hid (HS.out k).2
      have HRD := Lib.hid hrd
      have HO := Lib.hid (Own.of hown)
      have HI := Lib.hid hin
      have HL := Lib.hid hls
      have HM := Lib.hid hlm
      have HDK := Lib.hid (show dropK ks sn (k + 1) = if (nthK ks k).st = sn then ls else ls ++ [nthK ks k] by rw [hdk]; rfl)
      have HCC := Lib.hid hcs
      have HCS := Lib.hid (fun s => cells_snoc hcs hlm hls (nthK ks k) s)
      have HST := Lib.hid (fun (W : World) (H1 H2 : Nat) (hw : H1 ≤ H2) (hl : w1.heap.size ≤ H1) (h : InPB W w1.heap.size H1 es ls r m) (s : Sl) hs => in_snoc (h2 := H2) h hlm hls (nthK ks k) s hs hl hw)
      have HNE := Lib.hid (nthK_eta ks k)
      generalize nthK ks k = ek at *
      generalize ek.st = st at *
      generalize ek.ap = ap at *
      generalize ek.lo = lo at *
      generalize ek.fs = fs at *
      clear hown hin hls hlm hcs hrd hdk
      by_cases hst : st = sn
      · have e0 : (st != sn) = false := by simpa using hst
        have HD2 := Lib.hid (show ls = dropK ks sn (k + 1) from by rw [HDK.out, if_pos hst])
        clear hst
        go_wp2_with fail
        generalize hW : World.alloc _ _ = w4
        replace HO := Lib.hid (HO.out.keep (w' := w4) fun q _ h2 => by rw [← hW]; exact Below.heap_alloc _ _ q h2)
        replace HI := Lib.hid ((inPB_toC HI.out hW (Nat.le_refl _)).wider (h2 := w4.heap.size) (Nat.le_refl _) (by rw [← hW]; simp))
        replace bp : Bk.Blk w4 (w.heap.size) 39 #[.slice (some ⟨g, o, none⟩) n c] := (by rw [← hW]; exact Bk.sv)
        replace r0 : Bk.Blk w4 (w.heap.size + 1) 39 #[.slice none 0 0] := (by rw [← hW]; exact Bk.sv)
        replace bo : Bk.Blk w4 (w.heap.size + 1 + 1 + 1) 39 #[.slice A1 m c1] := (by rw [← hW]; exact Bk.sv)
        replace B : Below w.heap.size w w4 := (by rw [← hW]; go_grown)
        have z4 : w4.heap.size = _ := congrArg (fun W : World => W.heap.size) hW.symm
        (try simp only [World.size_alloc, Bk.size_set, World.size_drew, World.drewN] at z4)
        clear hW
        clear d0 d1 d2 d3
        go_roundw
        case rel => exact ⟨k + 1, m, ls, A1, c1, cs, es, r, by omega, by go_num, by omega, HD2.out, HM.out, HL.out, HCC.out, HO.out.1, HI.out, bp, r0, bo, by omega, B⟩
        case measure => simp [intOf]; omega
      · have e0 : (st != sn) = true := by simpa using hst
        have HD2 := Lib.hid (show ls ++ [ek] = dropK ks sn (k + 1) from by rw [HDK.out, if_neg hst])
        clear hst
        go_wp2_with fail
        generalize hW : World.alloc _ _ = w4
        replace HO := Lib.hid (HO.out.keep (w' := w4) fun q _ h2 => by rw [← hW]; exact Below.heap_alloc _ _ q h2)
        replace HI := Lib.hid (inPB_toC HI.out hW (Nat.le_refl _))
        replace HRD := Lib.hid (HRD.out.below (show Below w3.heap.size w3 w4 from by rw [← hW]; go_grown))
        have bx : Bk.Blk w4 (w3.heap.size) 95 #[.int .i64 st, .bool ap, .slice A' n' c', .int .i64 lo] := (by rw [← hW]; apply Bk.Blk.to; (focus (exact Bk.sv)); rfl)
        replace bp : Bk.Blk w4 (w.heap.size) 39 #[.slice (some ⟨g, o, none⟩) n c] := (by rw [← hW]; exact Bk.sv)
        replace r0 : Bk.Blk w4 (w.heap.size + 1) 39 #[.slice none 0 0] := (by rw [← hW]; exact Bk.sv)
        replace bo : Bk.Blk w4 (w.heap.size + 1 + 1 + 1) 39 #[.slice A1 m c1] := (by rw [← hW]; exact Bk.sv)
        replace B : Below w.heap.size w w4 := (by rw [← hW]; go_grown)
        have z4 : w4.heap.size = _ := congrArg (fun W : World => W.heap.size) hW.symm
        (try simp only [World.size_alloc, Bk.size_set, World.size_drew, World.drewN] at z4)
        clear hW
        clear d0 d1 d2 d3
        refine (copyFr_any A' n' c' fs _ HRD.out hn' HSH.out).mono ?_
        rintro x w5 ⟨A2, c2, rfl, hown1, hb0⟩
        replace HO := Lib.hid (HO.out.below hb0 (by omega))
        replace HI := Lib.hid (HI.out.keep (w' := w5) fun q _ h2 => hb0.block q (by omega))
        have HN := Lib.hid hown1
        clear hown1
        replace bp : Bk.Blk w5 (w.heap.size) 39 #[.slice (some ⟨g, o, none⟩) n c] := Bk.Blk.under hb0 (by exact Bk.sv)
        replace r0 : Bk.Blk w5 (w.heap.size + 1) 39 #[.slice none 0 0] := Bk.Blk.under hb0 (by exact Bk.sv)
        replace bo : Bk.Blk w5 (w.heap.size + 1 + 1 + 1) 39 #[.slice A1 m c1] := Bk.Blk.under hb0 (by exact Bk.sv)
        replace bx : Bk.Blk w5 (w3.heap.size) 95 #[.int .i64 st, .bool ap, .slice A' n' c', .int .i64 lo] := Bk.Blk.under hb0 (by exact Bk.sv)
        replace B : Below w.heap.size w w5 := Below.trans (by go_grown) (hb0.mono (by first | omega | (simp [Bk.size_set]; done) | (simp [Bk.size_set]; omega)))
        have z5 := hb0.size
        (try simp only [World.size_alloc, Bk.size_set, World.size_drew, World.drewN] at z5)
        clear hb0
        have l_bo : w.heap.size + 1 + 1 + 1 < w5.heap.size := Bk.Blk.lt bo
        have c_bo0 : w5.cell? ⟨w.heap.size + 1 + 1 + 1, 0, none⟩ = some (.slice A1 m c1) := Bk.Blk.cell bo 0
        have f_bo0 : w5.frozen? ⟨w.heap.size + 1 + 1 + 1, 0, none⟩ = false := Bk.Blk.fro bo 0
        have l_bx : w3.heap.size < w5.heap.size := Bk.Blk.lt bx
        have c_bx0 : w5.cell? ⟨w3.heap.size, 0, none⟩ = some (.int .i64 st) := Bk.Blk.cell bx 0
        have f_bx0 : w5.frozen? ⟨w3.heap.size, 0, none⟩ = false := Bk.Blk.fro bx 0
        have c_bx1 : w5.cell? ⟨w3.heap.size, 1, none⟩ = some (.bool ap) := Bk.Blk.cell bx 1
        have f_bx1 : w5.frozen? ⟨w3.heap.size, 1, none⟩ = false := Bk.Blk.fro bx 1
        have c_bx2 : w5.cell? ⟨w3.heap.size, 2, none⟩ = some (.slice A' n' c') := Bk.Blk.cell bx 2
        have f_bx2 : w5.frozen? ⟨w3.heap.size, 2, none⟩ = false := Bk.Blk.fro bx 2
        have c_bx3 : w5.cell? ⟨w3.heap.size, 3, none⟩ = some (.int .i64 lo) := Bk.Blk.cell bx 3
        have f_bx3 : w5.frozen? ⟨w3.heap.size, 3, none⟩ = false := Bk.Blk.fro bx 3
        go_wp2_with (at_builtin; refine Bk.stopHere ?_)
        show wpList _ _ _ _ _ _
        clear l_bo c_bo0 f_bo0 l_bx c_bx0 f_bx0 c_bx1 f_bx1 c_bx2 f_bx2 c_bx3 f_bx3
        generalize hWs : World.setCell w5 _ _ = w6
        generalize hWa : World.alloc w6 _ = w7
        have zs : w6.heap.size = w5.heap.size := by rw [← hWs]; exact Bk.size_set _ _ _
        have za : w7.heap.size = w6.heap.size + 1 := by rw [← hWa]; simp
        have hb7 : Below w6.heap.size w6 w7 := by rw [← hWa]; go_grown
        have hk7 : ∀ q, q ≠ w3.heap.size → q < w5.heap.size → w7.heap[q]? = w5.heap[q]? := fun q hq hlt => (hb7.block q (by omega)).trans (by rw [← hWs]; exact Below.heap_setCell _ _ _ q (by simpa using hq))
        replace HO := Lib.hid (HO.out.keep (w' := w7) fun q _ h2 => hk7 q (by omega) (by omega))
        replace HI := Lib.hid (HI.out.keep (w' := w7) fun q _ h2 => hk7 q (by omega) (by omega))
        replace HN := Lib.hid (HN.out.keep (w' := w7) fun q h1 h2 => hk7 q (by omega) h2)
        replace bp : Bk.Blk w7 w.heap.size 39 #[.slice (some ⟨g, o, none⟩) n c] := ((by rw [← hWs]; exact Bk.sv : Bk.Blk w6 w.heap.size 39 #[.slice (some ⟨g, o, none⟩) n c])).under hb7
        replace r0 : Bk.Blk w7 (w.heap.size + 1) 39 #[.slice none 0 0] := ((by rw [← hWs]; exact Bk.sv : Bk.Blk w6 (w.heap.size + 1) 39 #[.slice none 0 0])).under hb7
        replace bo : Bk.Blk w7 (w.heap.size + 1 + 1 + 1) 39 #[.slice A1 m c1] := ((by rw [← hWs]; exact Bk.sv : Bk.Blk w6 (w.heap.size + 1 + 1 + 1) 39 #[.slice A1 m c1])).under hb7
        replace B : Below w.heap.size w w7 := Below.trans (by rw [← hWs]; go_grown) (hb7.mono (by omega))
        have re := (show Rd w7 4 (some ⟨w6.heap.size, 0, none⟩) 1 1 (cellsK ⟨st, ap, fs, lo⟩ (A2, n', c2)) from hWa ▸ rd_litK w6 ⟨st, ap, fs, lo⟩ (A2, n', c2) _)
        rw [zs] at re
        clear hWs hWa hb7 hk7
        refine wpl_app _ rfl _ _ 37 rfl (w.heap.size + 1 + 1) 95 i0 (.agg #[.int .i64 0, .bool false, .slice none 0 0, .int .i64 0]) 4 48 Try.underlying37 hi hz0 hz1 hz2 rfl (by decide) _ _ _ _ rfl HO.out.1 _ _ _ _ rfl re (one_cellsK _ _) (by unfold maxLen; omega) (by omega) (by omega) ?_
        intro A8 c8 w8 hown8 hg8 _
        have hP := own_lo HO.out.1
        have z8 := hg8.size
        have HI8 := in_grownT HI.out HO.out.1 (by decide) (by decide) hg8
        have HN8 := ownSS_grownT HN.out HO.out.1 rfl (by decide) (by decide) hg8
        have HJ8 := Lib.hid ((HST.out w8 w4.heap.size w5.heap.size (by omega) (by omega) (HI8.wider (Nat.le_refl _) (by omega)) (A2, n', c2) HN8).wider (h2 := w8.heap.size) (Nat.le_refl _) (by omega))
        have HC8 := Lib.hid (HCS.out (A2, n', c2))
        have HL8 := Lib.hid (show (es ++ [(A2, n', c2)]).length = m + 1 by simp [HL.out])
        have HM8 := Lib.hid (show (ls ++ [ek]).length = m + 1 by simp [HM.out])
        have HO8 := Lib.hid (Own.of hown8)
        replace bp : Bk.Blk w8 w.heap.size 39 #[.slice (some ⟨g, o, none⟩) n c] := blk_grownA hg8 (own_ne HO.out.1 bp (by decide)) bp
        replace r0 : Bk.Blk w8 (w.heap.size + 1) 39 #[.slice none 0 0] := blk_grownA hg8 (own_ne HO.out.1 r0 (by decide)) r0
        replace bo : Bk.Blk w8 (w.heap.size + 1 + 1 + 1) 39 #[.slice A1 m c1] := blk_grownA hg8 (own_ne HO.out.1 bo (by decide)) bo
        replace B : Below w.heap.size w w8 := Mem.below_app B hg8 (by omega) (fun q hq => by have := hP q hq; omega)
        clear HI8 HN8 hown8 hg8 hP HO HI HN re bx
        have l_bo : w.heap.size + 1 + 1 + 1 < w8.heap.size := Bk.Blk.lt bo
        have c_bo0 : w8.cell? ⟨w.heap.size + 1 + 1 + 1, 0, none⟩ = some (.slice A1 m c1) := Bk.Blk.cell bo 0
        have f_bo0 : w8.frozen? ⟨w.heap.size + 1 + 1 + 1, 0, none⟩ = false := Bk.Blk.fro bo 0
        go_wp2_with fail
        clear l_bo c_bo0 f_bo0
        generalize hW : World.setCell _ _ _ = w9
        have hk9 : ∀ q, q ≠ w.heap.size + 1 + 1 + 1 → w9.heap[q]? = w8.heap[q]? := fun q hq => by rw [← hW]; exact Below.heap_setCell _ _ _ q (by simpa using hq)
        have hs9 : w9.heap.size = w8.heap.size := by rw [← hW]; exact Bk.size_set _ _ _
        have HO9 := Lib.hid (show w9.ownsRow (w.heap.size + 1 + 1) 95 4 (.slice A8 (m + 1) c8) (m + 1) _ from hW ▸ own_offT HO8.out.1 bo (by decide) _ _)
        have HJ9 := Lib.hid ((HJ8.out.keep (w' := w9) fun q h1 _ => hk9 q (by omega)).wider (h2 := w9.heap.size) (Nat.le_refl _) (by omega))
        replace bo : Bk.Blk w9 (w.heap.size + 1 + 1 + 1) 39 #[.slice A8 (m + 1) c8] := (by rw [← hW]; apply Bk.Blk.to; (focus (exact Bk.sv)); rfl)
        replace bp : Bk.Blk w9 (w.heap.size) 39 #[.slice (some ⟨g, o, none⟩) n c] := (by rw [← hW]; exact Bk.sv)
        replace r0 : Bk.Blk w9 (w.heap.size + 1) 39 #[.slice none 0 0] := (by rw [← hW]; exact Bk.sv)
        replace B : Below w.heap.size w w9 := (by rw [← hW]; go_grown)
        have z9 : w9.heap.size = _ := congrArg (fun W : World => W.heap.size) hW.symm
        (try simp only [World.size_alloc, Bk.size_set, World.size_drew, World.drewN] at z9)
        clear hW
        clear hk9 hs9
        go_roundw
        case rel => exact ⟨k + 1, m + 1, _, A8, c8, _, es ++ [(A2, n', c2)], _, by omega, by go_num, by omega, HD2.out, HM8.out, HL8.out, HC8.out, HO9.out, HJ9.out, bp, r0, bo, by omega, B⟩
        case measure => simp [intOf]; omega
    · obtain rfl : k = n := by omega
      subst hdk
      subst hlm
      have HPB := Lib.hid (show OwnPB w3 (w.heap.size + 1 + 1) w3.heap.size A1 _ c1 (dropK ks sn k) from ⟨rfl, cs, es, r, hls, hcs, Own.of hown, hin.wider (by omega) (Nat.le_refl _)⟩)
      clear hls hcs hown hin
      generalize hdl : dropK ks sn k = ls at *
      generalize hm2 : ls.length = m at *
      have l_bo : w.heap.size + 1 + 1 + 1 < w3.heap.size := Bk.Blk.lt bo
      have c_bo0 : w3.cell? ⟨w.heap.size + 1 + 1 + 1, 0, none⟩ = some (.slice A1 m c1) := Bk.Blk.cell bo 0
      have f_bo0 : w3.frozen? ⟨w.heap.size + 1 + 1 + 1, 0, none⟩ = false := Bk.Blk.fro bo 0
      have l_r0 : w.heap.size + 1 < w3.heap.size := Bk.Blk.lt r0
      have c_r00 : w3.cell? ⟨w.heap.size + 1, 0, none⟩ = some (.slice none 0 0) := Bk.Blk.cell r0 0
      have f_r00 : w3.frozen? ⟨w.heap.size + 1, 0, none⟩ = false := Bk.Blk.fro r0 0
      have l_bp : w.heap.size < w3.heap.size := Bk.Blk.lt bp
      have c_bp0 : w3.cell? ⟨w.heap.size, 0, none⟩ = some (.slice A k c) := Bk.Blk.cell bp 0
      have f_bp0 : w3.frozen? ⟨w.heap.size, 0, none⟩ = false := Bk.Blk.fro bp 0
      go_wp2_with fail
      clear l_bo c_bo0 f_bo0 l_r0 c_r00 f_r00 l_bp c_bp0 f_bp0
      generalize hW : World.setCell _ _ _ = w16
      have HPB2 := Lib.hid (show OwnPB w16 (w.heap.size + 1 + 1) w3.heap.size A1 m c1 ls from by rw [← hW]; exact rd_set_far2 HPB.out (by omega) _)
      replace r0 : Bk.Blk w16 (w.heap.size + 1) 39 #[.slice A1 m c1] := (by rw [← hW]; apply Bk.Blk.to; (focus (exact Bk.sv)); rfl)
      replace B : Below w.heap.size w w16 := (by rw [← hW]; go_grown)
      have z16 : w16.heap.size = _ := congrArg (fun W : World => W.heap.size) hW.symm
      (try simp only [World.size_alloc, Bk.size_set, World.size_drew, World.drewN] at z16)
      clear hW
      have l_r0 : w.heap.size + 1 < w16.heap.size := Bk.Blk.lt r0
      have c_r00 : w16.cell? ⟨w.heap.size + 1, 0, none⟩ = some (.slice A1 m c1) := Bk.Blk.cell r0 0
      go_wp2
      refine bodyPost_ret (v := .agg #[.slice A1 m c1]) (by simp [results, Try.results43, go_sem, c_r00]) rfl (⟨_, _, rfl, HPB2.out.wider (by omega) (by omega), B⟩)
end Go.Proofs.Ythdieeaegplnmaa.Pb
