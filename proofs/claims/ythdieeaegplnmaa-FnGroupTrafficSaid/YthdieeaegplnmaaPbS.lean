/- Power buffers: the reference's copy. -/
import Derived.Test.YthdieeaegplnmaaPbP
import Derived.Test.YthdieeaegplnmaaBaseG
import Derived.Test.YthdieeaegplnmaaKeepA
namespace Go.Proofs.Ythdieeaegplnmaa.Pb
open Go.RowKit
open Go.Proofs.Ythdieeaegplnmaa.Num Go.Proofs.Ythdieeaegplnmaa.Mem Go.Proofs.Ythdieeaegplnmaa.Hsh Go.Proofs.Ythdieeaegplnmaa.Sls Go.Proofs.Ythdieeaegplnmaa.Own Go.Proofs.Ythdieeaegplnmaa.SS Go.Proofs.Ythdieeaegplnmaa.Gb
set_option linter.unusedSimpArgs false
set_option linter.unusedVariables false
section
variable {w w' : World} {lo hi n c b m d k sz : Nat} {A B : Option Addr} {e : TypeId} {xs : List Value} {xss : List (List Int)} {es : List Sl} {ks : List Kt} {r : Nat → Nat × Nat}
theorem blk_grownT {A2 : Option Addr} {q : Nat} (hq : ∀ g, blk A2 = some g → g < q) (h : q ≤ q) : ∀ g, blk A2 = some g → g < q := hq
theorem ownSS_grownT (h : OwnSS w lo hi A n c xss) (h' : w.ownsRow b e sz (.slice B m d) k xs) (hk : k = m) (he : e ≠ 25) (he2 : e ≠ 5) (hg : w.grownBy w' (blk B)) : OwnSS w' lo hi A n c xss := by
  subst hk
  obtain ⟨h0, ss, h1, h2, h3⟩ := h
  exact ⟨h0, ss, h1, ⟨own_grownK h2.1 h' he.symm hg, h2.2⟩, ⟨fun i hi' => ⟨own_grownK (h3.1 i hi').1 h' he2.symm hg, (h3.1 i hi').2⟩, h3.2⟩⟩
theorem in_grownT (h : InPB w lo hi es ks r k) (h' : w.ownsRow b e sz (.slice B m d) m xs) (he : e ≠ 25) (he2 : e ≠ 5) (hg : w.grownBy w' (blk B)) : InPB w' lo hi es ks r k :=
  ⟨fun i hi' => ⟨(h.1 i hi').1, ownSS_grownT (h.1 i hi').2 h' rfl he he2 hg⟩, h.2⟩
theorem ownSS_toC {o : Obj} (h : OwnSS w lo hi A n c xss) (hW : w.alloc o = w') (hh : hi ≤ w.heap.size) : OwnSS w' lo hi A n c xss := hW ▸ h.keep fun g _ hg => Below.heap_alloc w o g (by omega)
theorem inPB_toC {o : Obj} (h : InPB w lo hi es ks r k) (hW : w.alloc o = w') (hh : hi ≤ w.heap.size) : InPB w' lo hi es ks r k := hW ▸ h.keep fun g _ hg => Below.heap_alloc w o g (by omega)
end
theorem rd_set_far2 {w : World} {A : Option Addr} {n c lo b o : Nat} {ks : List Kt} {hi : Nat} (h : OwnPB w lo hi A n c ks) (hb : b < lo) (u : Value) : OwnPB (w.setCell ⟨b, o, none⟩ u) lo hi A n c ks := h.keep fun g h1 _ => Below.heap_setCell _ _ _ g (by simp; omega)
theorem nthK_eta (ks : List Kt) (k : Nat) : (⟨(nthK ks k).st, (nthK ks k).ap, (nthK ks k).fs, (nthK ks k).lo⟩ : Kt) = nthK ks k := rfl
set_option maxRecDepth 100000 in
set_option maxHeartbeats 8000000 in
theorem copyPb_spec (A : Option Addr) (n c : Nat) (ks : List Kt) (w : World) (hr : RdPB w A n c ks) (hn : n ≤ 1048577) (hs : AllFew ks) :
    Calls Try.prog 81 #[.agg #[.slice A n c]] w (RetPb w n ks) := by
  obtain ⟨i0, hi, hz0, hz1, hz2⟩ := info_parts ktInfo
  have hl := Lib.hid hr.1
  have hn64 := hr.n64
  have HR := Lib.hid hr
  have HS := Lib.hid hs
  have B : Below w.heap.size w w := Below.refl _ _
  clear hr hs
  go_enter Try.func81, Try.ntmps81
  go_wp2_with fail
  generalize hW : World.alloc _ _ = w1
  have bp : Bk.Blk w1 (w.heap.size) 39 #[.slice A n c] := (by rw [← hW]; apply Bk.Blk.to; (focus (exact Bk.sv)); rfl)
  have r0 : Bk.Blk w1 (w.heap.size + 1) 39 #[.slice none 0 0] := (by rw [← hW]; apply Bk.Blk.to; (focus (exact Bk.sv)); rfl)
  have bo : Bk.Blk w1 (w.heap.size + 1 + 1) 39 #[.slice none 0 0] := (by rw [← hW]; apply Bk.Blk.to; (focus (exact Bk.sv)); rfl)
  replace B : Below w.heap.size w w1 := (by rw [← hW]; go_grown)
  have z1 : w1.heap.size = _ := congrArg (fun W : World => W.heap.size) hW.symm
  (try simp only [World.size_alloc, Bk.size_set, World.size_drew, World.drewN] at z1)
  clear hW
  go_loopw [4] (fun v4 wr => ∃ (k : Nat) (A1 : Option Addr) (c1 : Nat) (cs : List Value) (es : List Sl) (r : Nat → Nat × Nat), k ≤ n ∧ v4 = .int .i64 (k : Int) ∧ es.length = k ∧ CellsK cs ks es k ∧ wr.ownsRow w1.heap.size 95 4 (.slice A1 k c1) k cs ∧ InPB wr w1.heap.size wr.heap.size es ks r k ∧ Bk.Blk wr w.heap.size 39 #[.slice A n c] ∧ Bk.Blk wr (w.heap.size + 1) 39 #[.slice none 0 0] ∧ Bk.Blk wr (w.heap.size + 1 + 1) 39 #[.slice A1 k c1] ∧ w1.heap.size ≤ wr.heap.size ∧ Below w.heap.size w wr) (fun v4 _ => n - (intOf v4).toNat)
  case atStart => exact ⟨0, none, 0, [], [], fun _ => (0, 0), Nat.zero_le _, rfl, rfl, cells_zero _, ⟨rfl, .inl ⟨rfl, rfl⟩⟩, in_zero _ _ _ _ _ _, bp, r0, bo, Nat.le_refl _, B⟩
  case round =>
    clear bo r0 bp B
    obtain ⟨k, A1, c1, cs, es, r, hk, rfl, hls, hcs, hown, hin, bp, r0, bo, z3, B⟩ := hrel
    obtain ⟨w3, hw3⟩ : ∃ W, W = wr := ⟨_, rfl⟩
    subst hw3
    by_cases hlt : k < n
    · obtain ⟨g, o, A', n', c', rfl, hg, d0, d1, d2, d3, hrd⟩ := (HR.out.below B).at_ hlt
      have hn' : n' ≤ 2097152 := by have h1 := (HS.out k).1; have h2 := hrd.1; omega
      have HSH := Lib.hid (HS.out k).2
      have HRD := Lib.hid hrd
      have HO := Lib.hid (Own.of hown)
      have HI := Lib.hid hin
      have HL := Lib.hid hls
      have HCS := Lib.hid (fun s => cells_step hcs hls s)
      have HST := Lib.hid (fun (W : World) (H1 H2 : Nat) (hw : H1 ≤ H2) (hl : w1.heap.size ≤ H1) (h : InPB W w1.heap.size H1 es ks r k) (s : Sl) hs => in_stepK (h2 := H2) h hls s hs hl hw)
      generalize (nthK ks k).st = st at *
      generalize (nthK ks k).ap = ap at *
      generalize (nthK ks k).lo = lo at *
      generalize (nthK ks k).fs = fs at *
      clear hown hin hls hcs hrd
      have l_bp : w.heap.size < w3.heap.size := Bk.Blk.lt bp
      have c_bp0 : w3.cell? ⟨w.heap.size, 0, none⟩ = some (.slice (some ⟨g, o, none⟩) n c) := Bk.Blk.cell bp 0
      have f_bp0 : w3.frozen? ⟨w.heap.size, 0, none⟩ = false := Bk.Blk.fro bp 0
      go_wp2_with fail
      clear l_bp c_bp0 f_bp0
      generalize hW : World.alloc _ _ = w4
      replace HO := Lib.hid (HO.out.keep (w' := w4) fun q _ h2 => by rw [← hW]; exact Below.heap_alloc _ _ q h2)
      replace HI := Lib.hid (inPB_toC HI.out hW (Nat.le_refl _))
      replace HRD := Lib.hid (HRD.out.below (show Below w3.heap.size w3 w4 from by rw [← hW]; go_grown))
      have bx : Bk.Blk w4 (w3.heap.size) 95 #[.int .i64 st, .bool ap, .slice A' n' c', .int .i64 lo] := (by rw [← hW]; apply Bk.Blk.to; (focus (exact Bk.sv)); rfl)
      replace bp : Bk.Blk w4 (w.heap.size) 39 #[.slice (some ⟨g, o, none⟩) n c] := (by rw [← hW]; exact Bk.sv)
      replace r0 : Bk.Blk w4 (w.heap.size + 1) 39 #[.slice none 0 0] := (by rw [← hW]; exact Bk.sv)
      replace bo : Bk.Blk w4 (w.heap.size + 1 + 1) 39 #[.slice A1 k c1] := (by rw [← hW]; exact Bk.sv)
      replace B : Below w.heap.size w w4 := (by rw [← hW]; go_grown)
      have z4 : w4.heap.size = _ := congrArg (fun W : World => W.heap.size) hW.symm
      (try simp only [World.size_alloc, Bk.size_set, World.size_drew, World.drewN] at z4)
      clear hW
      clear d0 d1 d2 d3
      refine (frames_spec A' n' c' fs _ HRD.out hn' HSH.out).mono ?_
      rintro x w5 ⟨A2, c2, rfl, hown1, hb0⟩
      replace HO := Lib.hid (HO.out.below hb0 (by omega))
      replace HI := Lib.hid (HI.out.keep (w' := w5) fun q _ h2 => hb0.block q (by omega))
      have HN := Lib.hid hown1
      clear hown1
      replace bp : Bk.Blk w5 (w.heap.size) 39 #[.slice (some ⟨g, o, none⟩) n c] := Bk.Blk.under hb0 (by exact Bk.sv)
      replace r0 : Bk.Blk w5 (w.heap.size + 1) 39 #[.slice none 0 0] := Bk.Blk.under hb0 (by exact Bk.sv)
      replace bo : Bk.Blk w5 (w.heap.size + 1 + 1) 39 #[.slice A1 k c1] := Bk.Blk.under hb0 (by exact Bk.sv)
      replace bx : Bk.Blk w5 (w3.heap.size) 95 #[.int .i64 st, .bool ap, .slice A' n' c', .int .i64 lo] := Bk.Blk.under hb0 (by exact Bk.sv)
      replace B : Below w.heap.size w w5 := Below.trans (by go_grown) (hb0.mono (by first | omega | (simp [Bk.size_set]; done) | (simp [Bk.size_set]; omega)))
      have z5 := hb0.size
      (try simp only [World.size_alloc, Bk.size_set, World.size_drew, World.drewN] at z5)
      clear hb0
      have l_bo : w.heap.size + 1 + 1 < w5.heap.size := Bk.Blk.lt bo
      have c_bo0 : w5.cell? ⟨w.heap.size + 1 + 1, 0, none⟩ = some (.slice A1 k c1) := Bk.Blk.cell bo 0
      have f_bo0 : w5.frozen? ⟨w.heap.size + 1 + 1, 0, none⟩ = false := Bk.Blk.fro bo 0
      have l_bx : w3.heap.size < w5.heap.size := Bk.Blk.lt bx
      have c_bx0 : w5.cell? ⟨w3.heap.size, 0, none⟩ = some (.int .i64 st) := Bk.Blk.cell bx 0
      have f_bx0 : w5.frozen? ⟨w3.heap.size, 0, none⟩ = false := Bk.Blk.fro bx 0
      have c_bx1 : w5.cell? ⟨w3.heap.size, 1, none⟩ = some (.bool ap) := Bk.Blk.cell bx 1
      have f_bx1 : w5.frozen? ⟨w3.heap.size, 1, none⟩ = false := Bk.Blk.fro bx 1
      have c_bx2 : w5.cell? ⟨w3.heap.size, 2, none⟩ = some (.slice A' n' c') := Bk.Blk.cell bx 2
      have f_bx2 : w5.frozen? ⟨w3.heap.size, 2, none⟩ = false := Bk.Blk.fro bx 2
      have c_bx3 : w5.cell? ⟨w3.heap.size, 3, none⟩ = some (.int .i64 lo) := Bk.Blk.cell bx 3
      have f_bx3 : w5.frozen? ⟨w3.heap.size, 3, none⟩ = false := Bk.Blk.fro bx 3
      go_wp2_with (at_builtin; refine Bk.stopHere ?_)
      show wpList _ _ _ _ _ _
      clear l_bo c_bo0 f_bo0 l_bx c_bx0 f_bx0 c_bx1 f_bx1 c_bx2 f_bx2 c_bx3 f_bx3
      generalize hWs : World.setCell w5 _ _ = w6
      generalize hWa : World.alloc w6 _ = w7
      have zs : w6.heap.size = w5.heap.size := by rw [← hWs]; exact Bk.size_set _ _ _
      have za : w7.heap.size = w6.heap.size + 1 := by rw [← hWa]; simp
      have hb7 : Below w6.heap.size w6 w7 := by rw [← hWa]; go_grown
      have hk7 : ∀ q, q ≠ w3.heap.size → q < w5.heap.size → w7.heap[q]? = w5.heap[q]? := fun q hq hlt => (hb7.block q (by omega)).trans (by rw [← hWs]; exact Below.heap_setCell _ _ _ q (by simpa using hq))
      replace HO := Lib.hid (HO.out.keep (w' := w7) fun q _ h2 => hk7 q (by omega) (by omega))
      replace HI := Lib.hid (HI.out.keep (w' := w7) fun q _ h2 => hk7 q (by omega) (by omega))
      replace HN := Lib.hid (HN.out.keep (w' := w7) fun q h1 h2 => hk7 q (by omega) h2)
      replace bp : Bk.Blk w7 w.heap.size 39 #[.slice (some ⟨g, o, none⟩) n c] := ((by rw [← hWs]; exact Bk.sv : Bk.Blk w6 w.heap.size 39 #[.slice (some ⟨g, o, none⟩) n c])).under hb7
      replace r0 : Bk.Blk w7 (w.heap.size + 1) 39 #[.slice none 0 0] := ((by rw [← hWs]; exact Bk.sv : Bk.Blk w6 (w.heap.size + 1) 39 #[.slice none 0 0])).under hb7
      replace bo : Bk.Blk w7 (w.heap.size + 1 + 1) 39 #[.slice A1 k c1] := ((by rw [← hWs]; exact Bk.sv : Bk.Blk w6 (w.heap.size + 1 + 1) 39 #[.slice A1 k c1])).under hb7
      replace B : Below w.heap.size w w7 := Below.trans (by rw [← hWs]; go_grown) (hb7.mono (by omega))
      have re := (show Rd w7 4 (some ⟨w6.heap.size, 0, none⟩) 1 1 (cellsK ⟨st, ap, fs, lo⟩ (A2, n', c2)) from hWa ▸ rd_litK w6 ⟨st, ap, fs, lo⟩ (A2, n', c2) _)
      rw [zs] at re
      clear hWs hWa hb7 hk7
      refine wpl_app _ rfl _ _ 37 rfl w1.heap.size 95 i0 (.agg #[.int .i64 0, .bool false, .slice none 0 0, .int .i64 0]) 4 48 Try.underlying37 hi hz0 hz1 hz2 rfl (by decide) _ _ _ _ rfl HO.out.1 _ _ _ _ rfl re (one_cellsK _ _) (by unfold maxLen; omega) (by omega) (by omega) ?_
      intro A8 c8 w8 hown8 hg8 _
      have hP := own_lo HO.out.1
      have z8 := hg8.size
      have HI8 := in_grownT HI.out HO.out.1 (by decide) (by decide) hg8
      have HN8 := ownSS_grownT HN.out HO.out.1 rfl (by decide) (by decide) hg8
      have HJ8 := Lib.hid ((HST.out w8 w4.heap.size w5.heap.size (by omega) (by omega) (HI8.wider (Nat.le_refl _) (by omega)) (A2, n', c2) HN8).wider (h2 := w8.heap.size) (Nat.le_refl _) (by omega))
      have HC8 := Lib.hid (HCS.out (A2, n', c2))
      have HL8 := Lib.hid (show (es ++ [(A2, n', c2)]).length = k + 1 by simp [HL.out])
      have HO8 := Lib.hid (Own.of hown8)
      replace bp : Bk.Blk w8 w.heap.size 39 #[.slice (some ⟨g, o, none⟩) n c] := blk_grownA hg8 (own_ne HO.out.1 bp (by decide)) bp
      replace r0 : Bk.Blk w8 (w.heap.size + 1) 39 #[.slice none 0 0] := blk_grownA hg8 (own_ne HO.out.1 r0 (by decide)) r0
      replace bo : Bk.Blk w8 (w.heap.size + 1 + 1) 39 #[.slice A1 k c1] := blk_grownA hg8 (own_ne HO.out.1 bo (by decide)) bo
      replace B : Below w.heap.size w w8 := Mem.below_app B hg8 (by omega) (fun q hq => by have := hP q hq; omega)
      clear HI8 HN8 hown8 hg8 hP HO HI HN re bx
      have l_bo : w.heap.size + 1 + 1 < w8.heap.size := Bk.Blk.lt bo
      have c_bo0 : w8.cell? ⟨w.heap.size + 1 + 1, 0, none⟩ = some (.slice A1 k c1) := Bk.Blk.cell bo 0
      have f_bo0 : w8.frozen? ⟨w.heap.size + 1 + 1, 0, none⟩ = false := Bk.Blk.fro bo 0
      go_wp2_with fail
      clear l_bo c_bo0 f_bo0
      generalize hW : World.setCell _ _ _ = w9
      have hk9 : ∀ q, w1.heap.size ≤ q → w9.heap[q]? = w8.heap[q]? := fun q hq => by rw [← hW]; exact Below.heap_setCell _ _ _ q (by simp; omega)
      have hs9 : w9.heap.size = w8.heap.size := by rw [← hW]; exact Bk.size_set _ _ _
      have HO9 := Lib.hid (HO8.out.keep (w' := w9) fun q h1 _ => hk9 q h1)
      have HJ9 := Lib.hid ((HJ8.out.keep (w' := w9) fun q h1 _ => hk9 q h1).wider (h2 := w9.heap.size) (Nat.le_refl _) (by omega))
      replace bo : Bk.Blk w9 (w.heap.size + 1 + 1) 39 #[.slice A8 (k + 1) c8] := (by rw [← hW]; apply Bk.Blk.to; (focus (exact Bk.sv)); rfl)
      replace bp : Bk.Blk w9 (w.heap.size) 39 #[.slice (some ⟨g, o, none⟩) n c] := (by rw [← hW]; exact Bk.sv)
      replace r0 : Bk.Blk w9 (w.heap.size + 1) 39 #[.slice none 0 0] := (by rw [← hW]; exact Bk.sv)
      replace B : Below w.heap.size w w9 := (by rw [← hW]; go_grown)
      have z9 : w9.heap.size = _ := congrArg (fun W : World => W.heap.size) hW.symm
      (try simp only [World.size_alloc, Bk.size_set, World.size_drew, World.drewN] at z9)
      clear hW
      clear hk9 hs9
      go_roundw
      case rel => exact ⟨k + 1, A8, c8, _, es ++ [(A2, n', c2)], _, by omega, by go_num, HL8.out, HC8.out, HO9.out.1, HJ9.out, bp, r0, bo, by omega, B⟩
      case measure => simp [intOf]; omega
    · obtain rfl : k = n := by omega
      have HPB := Lib.hid (show OwnPB w3 w1.heap.size w3.heap.size A1 k c1 ks from ⟨hl.out, cs, es, r, hls, hcs, Own.of hown, hin⟩)
      clear hls hcs hown hin
      have l_bo : w.heap.size + 1 + 1 < w3.heap.size := Bk.Blk.lt bo
      have c_bo0 : w3.cell? ⟨w.heap.size + 1 + 1, 0, none⟩ = some (.slice A1 k c1) := Bk.Blk.cell bo 0
      have f_bo0 : w3.frozen? ⟨w.heap.size + 1 + 1, 0, none⟩ = false := Bk.Blk.fro bo 0
      have l_r0 : w.heap.size + 1 < w3.heap.size := Bk.Blk.lt r0
      have c_r00 : w3.cell? ⟨w.heap.size + 1, 0, none⟩ = some (.slice none 0 0) := Bk.Blk.cell r0 0
      have f_r00 : w3.frozen? ⟨w.heap.size + 1, 0, none⟩ = false := Bk.Blk.fro r0 0
      have l_bp : w.heap.size < w3.heap.size := Bk.Blk.lt bp
      have c_bp0 : w3.cell? ⟨w.heap.size, 0, none⟩ = some (.slice A k c) := Bk.Blk.cell bp 0
      have f_bp0 : w3.frozen? ⟨w.heap.size, 0, none⟩ = false := Bk.Blk.fro bp 0
      go_wp2_with fail
      clear l_bo c_bo0 f_bo0 l_r0 c_r00 f_r00 l_bp c_bp0 f_bp0
      generalize hW : World.setCell _ _ _ = w16
      have HPB2 := Lib.hid (show OwnPB w16 w1.heap.size w3.heap.size A1 k c1 ks from by rw [← hW]; exact rd_set_far2 HPB.out (by omega) _)
      replace r0 : Bk.Blk w16 (w.heap.size + 1) 39 #[.slice A1 k c1] := (by rw [← hW]; apply Bk.Blk.to; (focus (exact Bk.sv)); rfl)
      replace B : Below w.heap.size w w16 := (by rw [← hW]; go_grown)
      have z16 : w16.heap.size = _ := congrArg (fun W : World => W.heap.size) hW.symm
      (try simp only [World.size_alloc, Bk.size_set, World.size_drew, World.drewN] at z16)
      clear hW
      have l_r0 : w.heap.size + 1 < w16.heap.size := Bk.Blk.lt r0
      have c_r00 : w16.cell? ⟨w.heap.size + 1, 0, none⟩ = some (.slice A1 k c1) := Bk.Blk.cell r0 0
      go_wp2
      refine bodyPost_ret (v := .agg #[.slice A1 k c1]) (by simp [results, Try.results81, go_sem, c_r00]) rfl (⟨_, _, rfl, HPB2.out.wider (by omega) (by omega), B⟩)
end Go.Proofs.Ythdieeaegplnmaa.Pb
