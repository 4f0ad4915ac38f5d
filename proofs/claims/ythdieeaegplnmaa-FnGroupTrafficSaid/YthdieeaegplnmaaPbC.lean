/- Power buffers: the program's copy, and its search for a station. -/
import Derived.Test.YthdieeaegplnmaaPbE
import Derived.Test.YthdieeaegplnmaaBaseG
namespace Go.Proofs.Ythdieeaegplnmaa.Pb
open Go.RowKit
open Go.Proofs.Ythdieeaegplnmaa.Num Go.Proofs.Ythdieeaegplnmaa.Mem Go.Proofs.Ythdieeaegplnmaa.Hsh Go.Proofs.Ythdieeaegplnmaa.Sls Go.Proofs.Ythdieeaegplnmaa.Own Go.Proofs.Ythdieeaegplnmaa.SS Go.Proofs.Ythdieeaegplnmaa.Gb
set_option linter.unusedSimpArgs false
set_option linter.unusedVariables false
theorem own_off {w : World} {base g n c b o : Nat} {e : TypeId} {sz : Nat} {xs : List Value} (h : w.ownsRow base e sz (.slice (some ⟨g, 0, none⟩) n c) n xs) (hne : b ≠ g) (u : Value) : (w.setCell ⟨b, o, none⟩ u).ownsRow base e sz (.slice (some ⟨g, 0, none⟩) n c) n xs := by
  obtain ⟨h1, h2⟩ := h
  rcases h2 with h2 | ⟨q, cap, cur, hv, h3, h4, h5⟩
  · exact ⟨h1, .inl h2⟩
  · have hq : q = g := by injection hv with hv; injection hv with hv; injection hv with hv; exact hv.symm
    subst hq
    exact ⟨h1, .inr ⟨q, cap, cur, hv, h3, (Below.heap_setCell w ⟨b, o, none⟩ u q (fun e => hne e.symm)).trans h4, h5⟩⟩
theorem own_toC {W w' : World} {o : Obj} {base n : Nat} {e : TypeId} {sz : Nat} {v : Value} {xs : List Value} (h : W.ownsRow base e sz v n xs) (hW : W.alloc o = w') : w'.ownsRow base e sz v n xs := hW ▸ own_below h (Below.alloc (Below.refl _ _) (Nat.le_refl _) _)
/-- a power buffer in a new row of its own -/
def RetPbS (w : World) (n : Nat) (ks : List Kt) (x : Ending) (w' : World) : Prop :=
  ∃ g, x = .returned (.agg #[.slice (some ⟨g, 0, none⟩) n n]) ∧ OwnPB w' w.heap.size w'.heap.size (some ⟨g, 0, none⟩) n n ks ∧ Below w.heap.size w w'
set_option maxRecDepth 100000 in
set_option maxHeartbeats 4000000 in
theorem copyPb_some (A : Option Addr) (n c : Nat) (ks : List Kt) (w : World) (hr : RdPB w A n c ks) (hn : n ≤ 1048577) (hs : AllFew ks) :
    Calls Try.prog 83 #[.agg #[.slice A n c]] w (RetPbS w n ks) := by
  obtain ⟨i0, hi, hz0, hz1, hz2⟩ := info_parts ktInfo
  have hl := Lib.hid hr.1
  have HR := Lib.hid hr
  have HS := Lib.hid hs
  have B : Below w.heap.size w w := Below.refl _ _
  clear hr hs
  go_enter Try.func83, Try.ntmps83
  go_wp2_with (at_make; generalize hW : World.alloc _ _ = w1; refine wpList_make_full _ rfl _ _ 37 rfl w1.heap.size 95 i0 (.agg #[.int .i64 0, .bool false, .slice none 0 0, .int .i64 0]) 4 Try.underlying37 hi hz0 hz1 _ _ _ _ n rfl rfl rfl rfl ?b2 ?b3 (Nat.le_refl _) ?_)
  case b2 => rw [hz2]; omega
  case b3 => unfold maxLen; omega
  have bp : Bk.Blk w1 w.heap.size 39 #[.slice A n c] := by rw [← hW]; exact Bk.sv
  have r0 : Bk.Blk w1 (w.heap.size + 1) 39 #[.slice none 0 0] := by rw [← hW]; exact Bk.sv
  replace B : Below w.heap.size w w1 := by rw [← hW]; go_grown
  have zz1 : w1.heap.size ≤ w.heap.size + 1 + 1 := by rw [← hW]; simp
  have zz2 : w.heap.size + 1 + 1 ≤ w1.heap.size := by rw [← hW]; simp
  clear hW
  intro w2 hown0 hgrow0
  have hb0 : Below w1.heap.size w1 w2 := (Below.refl _ _).grown hgrow0 (Nat.le_refl _) (fun k h => by cases h)
  clear hgrow0
  have hz' : ((madeCells #[Value.int IntKind.i64 0, Value.bool false, Value.slice none 0 0, Value.int IntKind.i64 0] (n * 4)).toList).length = n * 4 := by simp [size_madeCells]
  generalize (madeCells #[Value.int IntKind.i64 0, Value.bool false, Value.slice none 0 0, Value.int IntKind.i64 0] (n * 4)).toList = Z at hown0 hz'
  have HZ := Lib.hid hz'
  have HO := hown0
  have zo2 := (HO.lt w1.heap.size rfl).2
  clear hz' hown0
  replace bp : Bk.Blk w2 (w.heap.size) 39 #[.slice A n c] := Bk.Blk.under hb0 (by exact Bk.sv)
  replace r0 : Bk.Blk w2 (w.heap.size + 1) 39 #[.slice none 0 0] := Bk.Blk.under hb0 (by exact Bk.sv)
  replace B : Below w.heap.size w w2 := Below.trans (by go_grown) (hb0.mono (by first | omega | (simp [Bk.size_set]; done) | (simp [Bk.size_set]; omega)))
  have z2 := hb0.size
  (try simp only [World.size_alloc, Bk.size_set, World.size_drew, World.drewN] at z2)
  clear hb0
  have l_bp : w.heap.size < w2.heap.size := Bk.Blk.lt bp
  have c_bp0 : w2.cell? ⟨w.heap.size, 0, none⟩ = some (.slice A n c) := Bk.Blk.cell bp 0
  have f_bp0 : w2.frozen? ⟨w.heap.size, 0, none⟩ = false := Bk.Blk.fro bp 0
  go_wp2_with fail
  clear l_bp c_bp0 f_bp0
  generalize hW : World.alloc _ _ = w3
  replace HO := own_toC HO hW
  have bo : Bk.Blk w3 (w2.heap.size) 39 #[.slice (some ⟨w1.heap.size, 0, none⟩) n n] := (by rw [← hW]; apply Bk.Blk.to; (focus (exact Bk.sv)); rfl)
  replace bp : Bk.Blk w3 (w.heap.size) 39 #[.slice A n c] := (by rw [← hW]; exact Bk.sv)
  replace r0 : Bk.Blk w3 (w.heap.size + 1) 39 #[.slice none 0 0] := (by rw [← hW]; exact Bk.sv)
  replace B : Below w.heap.size w w3 := (by rw [← hW]; go_grown)
  have z3 : w3.heap.size = _ := congrArg (fun W : World => W.heap.size) hW.symm
  (try simp only [World.size_alloc, Bk.size_set, World.size_drew, World.drewN] at z3)
  clear hW
  have zo := (HO.lt w1.heap.size rfl).2
  go_loopw [14] (fun v14 wr => ∃ (k : Nat) (cs : List Value) (es : List Sl) (r : Nat → Nat × Nat), k ≤ n ∧ v14 = .int .i64 (k : Int) ∧ es.length = k ∧ CellsK cs ks es k ∧ wr.ownsRow w1.heap.size 95 4 (.slice (some ⟨w1.heap.size, 0, none⟩) n n) n (cs ++ Z.drop (k * 4)) ∧ InPB wr (w1.heap.size + 1) wr.heap.size es ks r k ∧ Bk.Blk wr w2.heap.size 39 #[.slice (some ⟨w1.heap.size, 0, none⟩) n n] ∧ Bk.Blk wr (w.heap.size + 1) 39 #[.slice none 0 0] ∧ Below w.heap.size w wr) (fun v14 _ => n - (intOf v14).toNat)
  case atStart => exact ⟨0, [], [], fun _ => (0, 0), Nat.zero_le _, rfl, rfl, cells_zero _, HO, in_zero _ _ _ _ _ _, bo, r0, B⟩
  case round =>
    clear HO bo r0 bp B z3
    obtain ⟨k, cs, es, r, hk, rfl, hls, hcs, hown, hin, bo, r0, B⟩ := hrel
    obtain ⟨w13, hw13⟩ : ∃ W, W = wr := ⟨_, rfl⟩
    subst hw13
    have zb := bo.lt
    have z13 := B.size
    by_cases hlt : k < n
    · obtain ⟨g, o, A', n', c', rfl, hg, c0, c1, c2, c3, hrd⟩ := (HR.out.below B).at_ hlt
      have hw0 := (hown.lt w1.heap.size rfl).2
      have HO := Lib.hid hown
      have HI := Lib.hid hin
      have HL := Lib.hid hls
      have HCS := Lib.hid (fun s => cells_step hcs hls s)
      have HST := Lib.hid (fun (W : World) (H1 H2 : Nat) (hw : H1 ≤ H2) (hl : w1.heap.size + 1 ≤ H1) (h : InPB W (w1.heap.size + 1) H1 es ks r k) (s : Sl) hs => in_stepK (h2 := H2) h hls s hs hl hw)
      have HF := Lib.hid (fun v0 v1 v2 v3 => fillK (cs := cs) (Z := Z) (k := k) hcs.1 (by rw [HZ.out]; omega) v0 v1 v2 v3)
      have HRD := Lib.hid hrd
      have hn' : n' ≤ 2097152 := by have h1 := (HS.out k).1; have h2 := hrd.1; omega
      have HSH := Lib.hid (HS.out k).2
      generalize (nthK ks k).st = st at *
      generalize (nthK ks k).ap = ap at *
      generalize (nthK ks k).lo = lo at *
      generalize (nthK ks k).fs = fs at *
      clear hown hin hls hcs hrd
      go_wp2_with fail
      generalize hW : World.alloc _ _ = w14
      have HO4 := Lib.hid (own_toC HO.out hW)
      have HI4 := Lib.hid (HI.out.keep (w' := w14) fun g _ hg => by rw [← hW]; exact Below.heap_alloc _ _ g hg)
      have HRD4 := Lib.hid (HRD.out.below (show Below w13.heap.size w13 w14 from by rw [← hW]; go_grown))
      have bx : Bk.Blk w14 (w13.heap.size) 95 #[.int .i64 st, .bool ap, .slice A' n' c', .int .i64 lo] := (by rw [← hW]; apply Bk.Blk.to; (focus (exact Bk.sv)); rfl)
      replace bo : Bk.Blk w14 (w2.heap.size) 39 #[.slice (some ⟨w1.heap.size, 0, none⟩) n n] := (by rw [← hW]; exact Bk.sv)
      replace r0 : Bk.Blk w14 (w.heap.size + 1) 39 #[.slice none 0 0] := (by rw [← hW]; exact Bk.sv)
      replace B : Below w.heap.size w w14 := (by rw [← hW]; go_grown)
      have z14 : w14.heap.size = _ := congrArg (fun W : World => W.heap.size) hW.symm
      (try simp only [World.size_alloc, Bk.size_set, World.size_drew, World.drewN] at z14)
      clear hW
      clear HO HI HRD
      refine (copyFr_any A' n' c' fs _ HRD4.out hn' HSH.out).mono ?_
      rintro x w15 ⟨A1, e1, rfl, hown1, hb0⟩
      have h1 := own_below HO4.out hb0
      have HI5 := Lib.hid (HI4.out.keep (w' := w15) fun g _ hg => hb0.block g (by omega))
      replace bo : Bk.Blk w15 (w2.heap.size) 39 #[.slice (some ⟨w1.heap.size, 0, none⟩) n n] := Bk.Blk.under hb0 (by exact Bk.sv)
      replace r0 : Bk.Blk w15 (w.heap.size + 1) 39 #[.slice none 0 0] := Bk.Blk.under hb0 (by exact Bk.sv)
      replace bx : Bk.Blk w15 (w13.heap.size) 95 #[.int .i64 st, .bool ap, .slice A' n' c', .int .i64 lo] := Bk.Blk.under hb0 (by exact Bk.sv)
      replace B : Below w.heap.size w w15 := Below.trans (by go_grown) (hb0.mono (by first | omega | (simp [Bk.size_set]; done) | (simp [Bk.size_set]; omega)))
      have z15 := hb0.size
      (try simp only [World.size_alloc, Bk.size_set, World.size_drew, World.drewN] at z15)
      clear hb0
      have h2 := own_off (o := 2) (b := w13.heap.size) h1 (by omega) (sl (A1, n', e1))
      obtain ⟨_, _, _, _, hst⟩ := four_storesK h2 hlt (.int .i64 st) (.bool ap) (sl (A1, n', e1)) (.int .i64 lo)
      obtain ⟨⟨u0, d0⟩, ⟨u1, d1⟩, ⟨u2, d2⟩, ⟨u3, d3⟩, _⟩ := four_storesK h1 hlt (.int .i64 st) (.bool ap) (sl (A1, n', e1)) (.int .i64 lo)
      have hfr := h1.frozenAt
      have HT := Lib.hid hst
      have hI6 := HST.out (w15.setCell ⟨w13.heap.size, 2, none⟩ (sl (A1, n', e1))) w14.heap.size w15.heap.size z15 (by omega) ((HI5.out.keep fun g _ hg => Below.heap_setCell _ _ _ g (by simp; omega)).wider (Nat.le_refl _) (by omega)) (A1, n', e1) (hown1.keep fun g h1 _ => Below.heap_setCell _ _ _ g (by simp; omega))
      have HN := Lib.hid ((hI6.keep (w' := ((((w15.setCell ⟨w13.heap.size, 2, none⟩ (sl (A1, n', e1))).setCell ⟨w1.heap.size, k * 4, none⟩ (.int .i64 st)).setCell ⟨w1.heap.size, k * 4 + 1, none⟩ (.bool ap)).setCell ⟨w1.heap.size, k * 4 + 2, none⟩ (sl (A1, n', e1))).setCell ⟨w1.heap.size, k * 4 + 3, none⟩ (.int .i64 lo)) fun g h1 _ => set4_heap _ _ _ _ _ _ _ _ _ _ g (by omega)).wider (h2 := (((((w15.setCell ⟨w13.heap.size, 2, none⟩ (sl (A1, n', e1))).setCell ⟨w1.heap.size, k * 4, none⟩ (.int .i64 st)).setCell ⟨w1.heap.size, k * 4 + 1, none⟩ (.bool ap)).setCell ⟨w1.heap.size, k * 4 + 2, none⟩ (sl (A1, n', e1))).setCell ⟨w1.heap.size, k * 4 + 3, none⟩ (.int .i64 lo)).heap.size) (Nat.le_refl _) (by simp [World.setCell]))
      have HC2 := Lib.hid (HCS.out (A1, n', e1))
      have HX2 := Lib.hid (HF.out (.int .i64 st) (.bool ap) (sl (A1, n', e1)) (.int .i64 lo))
      have HL2 := Lib.hid (show (es ++ [(A1, n', e1)]).length = k + 1 by simp [HL.out])
      clear h1 h2 hst hown1 hI6 c0 c1 c2 c3
      have l_bo : w2.heap.size < w15.heap.size := Bk.Blk.lt bo
      have c_bo0 : w15.cell? ⟨w2.heap.size, 0, none⟩ = some (.slice (some ⟨w1.heap.size, 0, none⟩) n n) := Bk.Blk.cell bo 0
      have f_bo0 : w15.frozen? ⟨w2.heap.size, 0, none⟩ = false := Bk.Blk.fro bo 0
      have L_bx := Lay.f4 bx
      go_wp2_with fail
      go_roundw
      case rel => exact ⟨k + 1, _, es ++ [(A1, n', e1)], _, by omega, by go_num, HL2.out, HC2.out, by rw [← HX2.out]; exact HT.out, HN.out, by exact Bk.sv, by exact Bk.sv, by go_grown⟩
      case measure => simp [intOf]; omega
    · obtain rfl : k = n := by omega
      have HA := Lib.hid (show cs ++ Z.drop (k * 4) = cs by rw [List.drop_of_length_le (by rw [HZ.out]; exact Nat.le_refl _), List.append_nil])
      have HPB := Lib.hid (show OwnPB w13 w1.heap.size w13.heap.size (some ⟨w1.heap.size, 0, none⟩) k k ks from ⟨hl.out, cs, es, r, hls, hcs, by have h := hown; rw [HA.out] at h; exact Own.of h, hin.wider (by omega) (Nat.le_refl _)⟩)
      clear hls hcs hown hin
      have l_bo : w2.heap.size < w13.heap.size := Bk.Blk.lt bo
      have c_bo0 : w13.cell? ⟨w2.heap.size, 0, none⟩ = some (.slice (some ⟨w1.heap.size, 0, none⟩) k k) := Bk.Blk.cell bo 0
      have f_bo0 : w13.frozen? ⟨w2.heap.size, 0, none⟩ = false := Bk.Blk.fro bo 0
      have l_r0 : w.heap.size + 1 < w13.heap.size := Bk.Blk.lt r0
      have c_r00 : w13.cell? ⟨w.heap.size + 1, 0, none⟩ = some (.slice none 0 0) := Bk.Blk.cell r0 0
      have f_r00 : w13.frozen? ⟨w.heap.size + 1, 0, none⟩ = false := Bk.Blk.fro r0 0
      go_wp2_with fail
      clear l_bo c_bo0 f_bo0 l_r0 c_r00 f_r00
      generalize hW : World.setCell _ _ _ = w16
      have HPB2 := Lib.hid (show OwnPB w16 w1.heap.size w13.heap.size (some ⟨w1.heap.size, 0, none⟩) k k ks from by rw [← hW]; exact HPB.out.keep fun g h1 _ => Below.heap_setCell _ _ _ g (by simp; omega))
      have hz := congrArg (fun W : World => W.heap.size) hW
      (try simp only [Bk.size_set] at hz)
      replace r0 : Bk.Blk w16 (w.heap.size + 1) 39 #[.slice (some ⟨w1.heap.size, 0, none⟩) k k] := (by rw [← hW]; apply Bk.Blk.to; (focus (exact Bk.sv)); rfl)
      replace B : Below w.heap.size w w16 := (by rw [← hW]; go_grown)
      have z16 : w16.heap.size = _ := congrArg (fun W : World => W.heap.size) hW.symm
      (try simp only [World.size_alloc, Bk.size_set, World.size_drew, World.drewN] at z16)
      clear hW
      have l_r0 : w.heap.size + 1 < w16.heap.size := Bk.Blk.lt r0
      have c_r00 : w16.cell? ⟨w.heap.size + 1, 0, none⟩ = some (.slice (some ⟨w1.heap.size, 0, none⟩) k k) := Bk.Blk.cell r0 0
      go_wp2
      refine bodyPost_ret (v := .agg #[.slice (some ⟨w1.heap.size, 0, none⟩) k k]) (by simp [results, Try.results83, go_sem, c_r00]) rfl (⟨_, rfl, HPB2.out.wider (by omega) (by omega), B⟩)
theorem copyPb_any (A : Option Addr) (n c : Nat) (ks : List Kt) (w : World) (hr : RdPB w A n c ks) (hn : n ≤ 1048577) (hs : AllFew ks) :
    Calls Try.prog 83 #[.agg #[.slice A n c]] w (RetPb w n ks) := by
  refine (copyPb_some A n c ks w hr hn hs).mono ?_
  rintro x w' ⟨g, h⟩
  exact ⟨_, _, h⟩
/-- the index of a station's entry, or -1 -/
def FindR (ks : List Kt) (st : Int) (n : Nat) (i : Int) : Prop :=
  (i = -1 ∧ ∀ j, j < n → (nthK ks j).st ≠ st) ∨ (∃ j, j < n ∧ i = (j : Int) ∧ (nthK ks j).st = st ∧ ∀ l, l < j → (nthK ks l).st ≠ st)
set_option maxHeartbeats 4000000 in
theorem find_impl (A : Option Addr) (n c : Nat) (ks : List Kt) (st : Int) (w : World) (hr : RdPB w A n c ks) :
    Calls Try.prog 84 #[.agg #[.slice A n c], .int .i64 st] w fun x w' => ∃ i, FindR ks st n i ∧ x = .returned (.int .i64 i) ∧ Below w.heap.size w w' := by
  have hn := hr.n64
  have HR := Lib.hid hr
  clear hr
  go_enter Try.func84, Try.ntmps84
  go_wp2_with fail
  go_loopw [10] (fun v10 wr => ∃ k : Nat, k ≤ n ∧ v10 = .int .i64 (k : Int) ∧ (∀ j, j < k → (nthK ks j).st ≠ st) ∧ Below w.heap.size w wr) (fun v10 _ => n - (intOf v10).toNat)
  case atStart => exact ⟨0, Nat.zero_le _, rfl, fun j h => absurd h (by omega), by go_grown⟩
  case round =>
    obtain ⟨k, hk, rfl, hno, hbr⟩ := hrel
    have HB := Lib.hid hbr
    have HNO := Lib.hid hno
    by_cases hlt : k < n
    · obtain ⟨g, o, A', n', c', rfl, hg, c0, c1, c2, c3, hrd⟩ := (HR.out.below hbr).at_ hlt
      clear hrd hbr hno
      by_cases he : (nthK ks k).st = st
      · have HF := Lib.hid (show FindR ks st n (k : Int) from .inr ⟨k, hlt, rfl, he, HNO.out⟩)
        have e0 : ((nthK ks k).st == st) = true := by simpa using he
        clear he
        generalize (nthK ks k).st = s0 at *
        generalize (nthK ks k).ap = ap at *
        generalize (nthK ks k).lo = lo at *
        go_wp2
        go_ret
        exact ⟨k, HF.out, rfl, HB.out.alloc HB.out.size _⟩
      · have HF := Lib.hid (show ∀ j, j < k + 1 → (nthK ks j).st ≠ st from fun j hj => by
          rcases Nat.lt_or_ge j k with h3 | h3
          · exact HNO.out j h3
          · obtain rfl : j = k := by omega
            exact he)
        have e0 : ((nthK ks k).st == st) = false := by simpa using he
        clear he
        generalize (nthK ks k).st = s0 at c0 e0
        generalize (nthK ks k).ap = ap at *
        generalize (nthK ks k).lo = lo at *
        go_wp2
        go_roundw
        case rel => exact ⟨k + 1, by omega, by go_num, HF.out, HB.out.alloc HB.out.size _⟩
        case measure => simp [intOf]; omega
    · obtain rfl : k = n := by omega
      have HF := Lib.hid (show FindR ks st k (-1) from .inl ⟨rfl, hno⟩)
      clear hno hbr
      go_wp2
      go_ret
      exact ⟨-1, HF.out, rfl, HB.out⟩
end Go.Proofs.Ythdieeaegplnmaa.Pb
