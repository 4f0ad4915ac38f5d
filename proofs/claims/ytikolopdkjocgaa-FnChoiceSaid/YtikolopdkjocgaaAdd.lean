/- AddScanEntry of the reference: what it hands back is a scan in the ranges of the draws, at most one entry longer. -/
import Derived.Test.YtikolopdkjocgaaEntL
import Derived.Test.YtikolopdkjocgaaFind
import Derived.Test.YtikolopdkjocgaaValidS
import Derived.Test.YtikolopdkjocgaaAdv
import Derived.Deep.AppendLies
import Derived.Outline
import Derived.Deep.DeepCutAuto
import Derived.Deep.CutBlock
import Derived.Test.YtikolopdkjocgaaApp
import Derived.BigQuiet
import Derived.Deep.QuietTactic
namespace Go.Proofs.Ytikolopdkjocgaa.Cl
open Go.RowKit
open Go.Proofs.Ytikolopdkjocgaa.Num Go.Proofs.Ytikolopdkjocgaa.Mem Go.Proofs.Ytikolopdkjocgaa.Sls Go.Proofs.Ytikolopdkjocgaa.Scn Go.Proofs.Ytikolopdkjocgaa.Own Go.Proofs.Ytikolopdkjocgaa.Cur
set_option linter.unusedSimpArgs false
set_option linter.unusedVariables false
def RetAdd (w : World) (n : Nat) (x : Ending) (w' : World) : Prop :=
  ∃ (m : Nat) (ys : List Int) (A : Option Addr) (c : Nat), m ≤ n + 1 ∧ EntsIn ys m ∧ x = .returned (.slice A m c) ∧ w'.ownsRow w.heap.size 30 4 (.slice A m c) m (ys.map (Value.int .i64)) ∧ Below w.heap.size w w'
theorem own_form {w : World} {base n c : Nat} {e : TypeId} {sz : Nat} {A : Option Addr} {xs : List Value} (h : w.ownsRow base e sz (.slice A n c) n xs) (hn : 0 < n) : ∃ g, A = some ⟨g, 0, none⟩ ∧ base ≤ g ∧ g < w.heap.size := by
  obtain ⟨g, cap, hv, h1, h2⟩ := h.form hn
  simp only [Value.slice.injEq, true_and] at hv
  exact ⟨g, hv.1, h1, h2⟩
/-- an entry stored over entry j of a row of one's own -/
theorem own_set4at {w : World} {base e n c g j : Nat} {zs : List Int} (h : w.ownsRow base e 4 (.slice (some ⟨g, 0, none⟩) n c) n (zs.map (Value.int .i64))) (x0 x1 x2 x3 : Int) :
    ((((w.setCell ⟨g, j * 4, none⟩ (.int .i64 x0)).setCell ⟨g, j * 4 + 1, none⟩ (.int .i64 x1)).setCell ⟨g, j * 4 + 2, none⟩ (.int .i64 x2)).setCell ⟨g, j * 4 + 3, none⟩ (.int .i64 x3)).ownsRow base e 4 (.slice (some ⟨g, 0, none⟩) n c) n ((set4 zs j x0 x1 x2 x3).map (Value.int .i64)) := by
  have h4 := ((((h.stored (j * 4) (.int .i64 x0)).1.stored (j * 4 + 1) (.int .i64 x1)).1.stored (j * 4 + 2) (.int .i64 x2)).1.stored (j * 4 + 3) (.int .i64 x3)).1
  simpa [set4, List.map_set] using h4
theorem own_cell4 {w : World} {base e n c g j : Nat} {zs : List Int} (h : w.ownsRow base e 4 (.slice (some ⟨g, 0, none⟩) n c) n (zs.map (Value.int .i64))) (hj : j < n) (q : Nat) (hq : q < 4) : w.cell? ⟨g, j * 4 + q, none⟩ = some (.int .i64 (fld zs j q)) := by
  have hl : zs.length = n * 4 := by have := h.1; simpa using this
  rw [h.cellAt _ (by omega), List.getElem?_map, List.getElem?_eq_getElem (by omega)]
  simp [fld, List.getD, show j * 4 + q < zs.length by omega]
theorem rd_take {w : World} {A : Option Addr} {n c j : Nat} {zs : List Int} (h : Mem.Rd w 4 A n c (zs.map (Value.int .i64))) (hj : j ≤ n) : Mem.Rd w 4 A j c ((zs.take (j * 4)).map (Value.int .i64)) := by
  obtain ⟨h1, h2, h3, h4, h5⟩ := h
  have h1' : zs.length = n * 4 := by simpa using h1
  refine ⟨by simp; omega, by omega, h3, h4, fun hp => ?_⟩
  obtain ⟨g, o, e, hc⟩ := h5 (by simp at hp ⊢; omega)
  refine ⟨g, o, e, fun i hi => ?_⟩
  simp only [List.length_map, List.length_take] at hi
  rw [hc i (by simp; omega), List.map_take, List.getElem?_take, if_pos (by omega)]
theorem rd_drop {w : World} {g n c j : Nat} {zs : List Int} (h : Mem.Rd w 4 (some ⟨g, 0, none⟩) n c (zs.map (Value.int .i64))) (hj : j ≤ n) : Mem.Rd w 4 (if c = j then some ⟨g, 0, none⟩ else some ⟨g, j * 4, none⟩) (n - j) (c - j) ((zs.drop (j * 4)).map (Value.int .i64)) := by
  obtain ⟨h1, h2, h3, h4, h5⟩ := h
  have h1' : zs.length = n * 4 := by simpa using h1
  refine ⟨by simp; omega, by omega, by omega, (fun h => by split at h <;> cases h), fun hp => ?_⟩
  simp only [List.length_map, List.length_drop] at hp
  obtain ⟨g', o', e, hc⟩ := h5 (by simp; omega)
  simp only [Option.some.injEq, Addr.mk.injEq, and_true] at e
  obtain ⟨rfl, rfl⟩ := e
  rw [if_neg (by omega)]
  refine ⟨g, j * 4, rfl, fun i hi => ?_⟩
  simp only [List.length_map, List.length_drop] at hi
  have := hc (j * 4 + i) (by simp; omega)
  rw [Nat.zero_add] at this
  rw [this, List.map_drop, List.getElem?_drop]
theorem rd_lit4 (w : World) (a b d e : Int) (t : TypeId) : Mem.Rd (w.alloc (.cells #[.int .i64 a, .int .i64 b, .int .i64 d, .int .i64 e] t)) 4 (some ⟨w.heap.size, 0, none⟩) 1 1 (([a, b, d, e] : List Int).map (Value.int .i64)) :=
  ⟨rfl, Nat.le_refl _, (by unfold maxLen; omega), (fun e => by cases e), fun _ => ⟨_, _, rfl, fun j hj => by
    have h4 : j < 4 := by simpa using hj
    rw [Nat.zero_add, (Bk.Blk.newAt (w := w) rfl t _).cell j]
    simp⟩⟩
theorem blk_if {c j g o p : Nat} : Mem.blk (if c = j then some ⟨g, o, none⟩ else some ⟨g, p, none⟩) = some g := by split <;> rfl
theorem blk_grown {w w' : World} {g : Nat} {t : TypeId} {cs : Array Value} {row : Option Nat} (hb : w.grownBy w' row) (hr : some g ≠ row) (h : Bk.Blk w g t cs) : Bk.Blk w' g t cs := (hb.block g h.lt (fun e => hr e)).trans h
theorem own_ge {w : World} {base n c : Nat} {e : TypeId} {sz : Nat} {A : Option Addr} {xs : List Value} (h : w.ownsRow base e sz (.slice A n c) n xs) : ∀ q, Mem.blk A = some q → base ≤ q := by
  intro q hq
  obtain ⟨_, h2⟩ := h
  rcases h2 with ⟨hv, _⟩ | ⟨g', cap, cur, hv, h3, h4, _⟩
  · simp only [Value.slice.injEq] at hv
    obtain ⟨rfl, _⟩ := hv
    cases hq
  · simp only [Value.slice.injEq, true_and] at hv
    obtain ⟨rfl, _⟩ := hv
    cases hq
    exact h3
theorem rd_to {W w' : World} {o : Obj} {sz n c : Nat} {A : Option Addr} {xs : List Value} (h : Mem.Rd W sz A n c xs) (hW : W.alloc o = w') : Mem.Rd w' sz A n c xs := hW ▸ h.alloc o
theorem rd_fresh {W w' : World} {a b d e : Int} {t : TypeId} (hW : W.alloc (.cells #[.int .i64 a, .int .i64 b, .int .i64 d, .int .i64 e] t) = w') : Mem.Rd w' 4 (some ⟨W.heap.size, 0, none⟩) 1 1 (([a, b, d, e] : List Int).map (Value.int .i64)) := hW ▸ rd_lit4 W a b d e t
theorem own_fresh {W w' : World} {lo sz : Nat} {e : TypeId} (hW : W.alloc (.cells #[] e) = w') (h : lo ≤ W.heap.size) : w'.ownsRow lo e sz (.slice (some ⟨W.heap.size, 0, none⟩) 0 0) 0 [] := hW ▸ own_empty W lo _ e sz rfl h
theorem rd_grown {W w' : World} {sz n c q p o o' : Nat} {xs : List Value} (h : Mem.Rd W sz (some ⟨q, o, none⟩) n c xs) (hg : W.grownBy w' (Mem.blk (some ⟨p, o', none⟩))) (hne : q ≠ p) : Mem.Rd w' sz (some ⟨q, o, none⟩) n c xs := h.grown hg (.inr fun _ e => hne (by simpa [Mem.blk] using e))
theorem size_to {W w' : World} {o : Obj} (hW : W.alloc o = w') : W.heap.size < w'.heap.size := by rw [← hW]; simp
theorem own_drew {w : World} {base n : Nat} {e : TypeId} {sz : Nat} {v : Value} {xs : List Value} (h : w.ownsRow base e sz v n xs) : w.drew.ownsRow base e sz v n xs := h
theorem own_alloc {w : World} {base n : Nat} {e : TypeId} {sz : Nat} {v : Value} {xs : List Value} (h : w.ownsRow base e sz v n xs) (o : Obj) : (w.alloc o).ownsRow base e sz v n xs := own_below h (Below.alloc (Below.refl _ _) (Nat.le_refl _) _)
theorem own_to {W w' : World} {o : Obj} {base n : Nat} {e : TypeId} {sz : Nat} {v : Value} {xs : List Value} (h : W.ownsRow base e sz v n xs) (hW : W.alloc o = w') : w'.ownsRow base e sz v n xs := hW ▸ own_alloc h o
theorem own_blk {w : World} {base n c g : Nat} {e : TypeId} {sz : Nat} {xs : List Value} (h : w.ownsRow base e sz (.slice (some ⟨g, 0, none⟩) n c) n xs) : base ≤ g ∧ g < w.heap.size := by
  obtain ⟨_, h2⟩ := h
  rcases h2 with ⟨hv, _⟩ | ⟨g', cap, cur, hv, h3, h4, _⟩
  · simp at hv
  · simp only [Value.slice.injEq, Option.some.injEq, Addr.mk.injEq, and_true, true_and] at hv
    obtain ⟨rfl, _⟩ := hv
    exact ⟨h3, by rcases Nat.lt_or_ge g w.heap.size with h | h; exact h; rw [Array.getElem?_eq_none h] at h4; cases h4⟩
theorem own_some {w : World} {base n c : Nat} {e : TypeId} {sz : Nat} {A : Option Addr} {xs : List Value} (h : w.ownsRow base e sz (.slice A n c) n xs) (hA : ∃ g, blk A = some g) : ∃ g, A = some ⟨g, 0, none⟩ := by
  obtain ⟨_, h2⟩ := h
  rcases h2 with ⟨hv, _⟩ | ⟨g, cap, cur, hv, _⟩
  · simp only [Value.slice.injEq] at hv
    obtain ⟨rfl, _⟩ := hv
    obtain ⟨g, hg⟩ := hA
    cases hg
  · simp only [Value.slice.injEq, true_and] at hv
    exact ⟨g, hv.1⟩
set_option maxHeartbeats 4000000 in
theorem addS_any (A : Option Addr) (n c : Nat) (zs : List Int) (x0 x1 x2 x3 : Int) (w : World) (hr : Rd w 4 A n c (zs.map (Value.int .i64))) (hz : EntsIn zs n) (hn : n ≤ 100) (he : EntIn x0 x1 x2 x3) :
    Calls Try.prog 39 #[.slice A n c, .agg #[.int .i64 x0, .int .i64 x1, .int .i64 x2, .int .i64 x3]] w (RetAdd w n) := by
  obtain ⟨i0, hi, hz0, hz1, hz2⟩ := info_parts scanInfo
  have HR := Lib.hid hr
  have HZ := Lib.hid hz
  have HE := Lib.hid he
  have hemp := own_empty (w.alloc (.cells #[.int .i64 x0, .int .i64 x1, .int .i64 x2, .int .i64 x3] 30)) (w.heap.size + 1) (w.heap.size + 1) 30 4 (by simp) (Nat.le_refl _)
  have hb0 : Below w.heap.size w ((w.alloc (.cells #[.int .i64 x0, .int .i64 x1, .int .i64 x2, .int .i64 x3] 30)).alloc (.cells #[] 30)) := by go_grown
  clear hr hz he
  go_enter Try.func39, Try.ntmps39
  go_wp2_with (at_builtin; refine wpl_app _ rfl _ _ 24 rfl (w.heap.size + 1) 30 i0 (.agg #[.int .i64 0, .int .i64 0, .int .i64 0, .int .i64 0]) 4 32 Try.underlying24 hi hz0 hz1 hz2 rfl (by decide) _ _ _ _ rfl hemp A n c _ rfl (HR.out.below hb0) (cells_one zs) (by unfold maxLen; omega) (by omega) (by simp) ?_)
  intro A1 c1 w1 hown hg hat
  (try simp only [Nat.zero_add, List.nil_append] at hown)
  replace hg : ((w.alloc (.cells #[.int .i64 x0, .int .i64 x1, .int .i64 x2, .int .i64 x3] 30)).alloc (.cells #[] 30)).grownBy w1 (some (w.heap.size + 1)) := hg
  have be : Bk.Blk w1 (w.heap.size) 30 #[.int .i64 x0, .int .i64 x1, .int .i64 x2, .int .i64 x3] := Bk.Blk.grown hg (by omega) (by apply Bk.Blk.to; (focus (repeat (first | with_reducible assumption | (with_reducible apply Bk.Blk.newAt; focus (first | (simp [Bk.size_set]; done) | (simp [Bk.size_set]; omega))) | with_reducible apply Bk.Blk.drewN | with_reducible apply Bk.Blk.drew | with_reducible apply Bk.Blk.set_ | (with_reducible apply Bk.Blk.far; focus (dsimp only; first | omega | (simp; omega) | (simp; done))) | with_reducible apply Bk.Blk.alloc))); rfl)
  have B : Below w.heap.size w w1 := Bk.below_grown hb0 hg (by omega) (by simp; omega)
  have z1 := hg.size
  (try simp only [World.size_alloc] at z1)
  have HO := Lib.hid hown
  have HA := Lib.hid hat
  clear hown hg hat hemp hb0
  have L_be := Lay.f4 be
  go_wp2_with fail
  refine (find_any A n c zs x0 _ (HR.out.below B)).mono ?_
  rintro x w2 ⟨k, hk, rfl, rfl⟩
  by_cases hp : 0 ≤ k
  · obtain ⟨j, rfl⟩ := Int.eq_ofNat_of_zero_le hp
    have hj : j < n := by omega
    obtain ⟨g, rfl, hg1, hg2⟩ := own_form HO.out (by omega)
    have d0 := own_cell4 HO.out hj 0 (by omega)
    have d1 := own_cell4 HO.out hj 1 (by omega)
    have d2 := own_cell4 HO.out hj 2 (by omega)
    have d3 := own_cell4 HO.out hj 3 (by omega)
    rw [Nat.add_zero] at d0
    have p0 := HO.out.frozenAt (j * 4)
    have p1 := HO.out.frozenAt (j * 4 + 1)
    have p2 := HO.out.frozenAt (j * 4 + 2)
    have p3 := HO.out.frozenAt (j * 4 + 3)
    have HJ := Lib.hid hj
    go_wp2_with fail
    clear L_be
    generalize hW : World.setCell _ _ _ = w2
    have own2 : w2.ownsRow (w.heap.size + 1) 30 4 (.slice (some ⟨g, 0, none⟩) n c1) n ((set4 zs j x0 x1 x2 x3).map (Value.int .i64)) := by rw [← hW]; exact own_set4at HO.out x0 x1 x2 x3
    replace B : Below w.heap.size w w2 := (by rw [← hW]; go_grown)
    have z2 : w2.heap.size = _ := congrArg (fun W : World => W.heap.size) hW.symm
    (try simp only [World.size_alloc, Bk.size_set, World.size_drew, World.drewN] at z2)
    clear hW
    clear d0 d1 d2 d3 p0 p1 p2 p3 be
    refine (valid_spec _ n _ (set4 zs j x0 x1 x2 x3) _ (Rd.of_own own2)).mono ?_
    rintro x w3 ⟨b, hbv, rfl, hb0⟩
    have own3 := own_below own2 hb0
    replace B : Below w.heap.size w w3 := Below.trans B (hb0.mono (by omega))
    have z3 := hb0.size
    have HO3 := Lib.hid own3
    clear hb0 hbv own2 own3
    cases b
    · have hemp3 := own_empty w3 w3.heap.size w3.heap.size 30 4 rfl (Nat.le_refl _)
      have hb3 : Below w.heap.size w (w3.alloc (.cells #[] 30)) := B.alloc (by omega) _
      go_wp2_with (at_builtin; refine wpl_app _ rfl _ _ 24 rfl w3.heap.size 30 i0 (.agg #[.int .i64 0, .int .i64 0, .int .i64 0, .int .i64 0]) 4 32 Try.underlying24 hi hz0 hz1 hz2 rfl (by decide) _ _ _ _ rfl hemp3 A n c _ rfl (HR.out.below hb3) (cells_one zs) (by unfold maxLen; omega) (by omega) (by simp) ?_)
      intro A4 c4 w4 hown4 hg4 hat4
      (try simp only [Nat.zero_add, List.nil_append] at hown4)
      replace hg4 : (w3.alloc (.cells #[] 30)).grownBy w4 (some w3.heap.size) := hg4
      have HB4 := Lib.hid (Bk.below_grown hb3 hg4 (by omega) (by simp; omega))
      have HO4 := Lib.hid hown4
      clear hown4 hg4 hat4 hemp3 hb3
      go_wp2
      go_ret
      exact ⟨n, zs, A4, c4, by omega, HZ.out, rfl, ownsRow_mono HO4.out (by omega), HB4.out⟩
    · go_wp2
      go_ret
      exact ⟨n, (set4 zs j x0 x1 x2 x3), _, _, by omega, ents_set HZ.out HJ.out HE.out, rfl, ownsRow_mono HO3.out (by omega), B⟩
  · have hkm : k = -1 := by omega
    subst hkm
    have ha1 := HA.out
    clear HA
    obtain ⟨g, rfl⟩ : ∃ g, A1 = some ⟨g, 0, none⟩ := own_some HO.out (by rcases ha1 with h | h <;> exact ⟨_, h⟩)
    clear ha1
    go_upto_block 0 with fail
    go_cut [6] (fun v6 wr => ∃ j : Nat, j ≤ n ∧ v6 = .int .i64 (j : Int) ∧ ∃ N : Nat, wr = w1.drewN N)
    case first =>
      go_wp2_with fail
      go_loopw [6] (fun v6 wr => ∃ j : Nat, j ≤ n ∧ v6 = .int .i64 (j : Int) ∧ ∃ N : Nat, wr = w1.drewN N) (fun v6 _ => n - (intOf v6).toNat)
      case atStart => exact ⟨0, Nat.zero_le _, rfl, 0, rfl⟩
      case round =>
        obtain ⟨j, hj, rfl, N, rfl⟩ := hrel
        by_cases hgo : j < n ∧ fld zs j 0 < x0
        · obtain ⟨hlt, hcmp⟩ := hgo
          have d0 := own_cell4 HO.out hlt 0 (by omega)
          rw [Nat.add_zero] at d0
          generalize fld zs j 0 = f0 at *
          have i1 : (j : Int) < (n : Int) := by omega
          have i2 : (0 : Int) ≤ (j : Int) := by omega
          go_wp2_with fail
          go_quiet (fail)
          go_wp2_with fail
          go_roundw
          case rel => exact ⟨j + 1, by omega, by go_num, _, rfl⟩
          case measure => simp [intOf]; omega
        · have hx : j = n ∨ (j < n ∧ x0 ≤ fld zs j 0) := by omega
          clear hgo
          rcases hx with rfl | ⟨hlt, hcmp⟩
          · have i3 : decide ((j : Int) < (j : Int)) = false := by simp
            go_wp2_with fail
            go_quiet (fail)
            go_wp2_with fail
            go_meet
            exact ⟨j, Nat.le_refl _, rfl, _, World.drewN_drewN _ _ _⟩
          · have d0 := own_cell4 HO.out hlt 0 (by omega)
            rw [Nat.add_zero] at d0
            generalize fld zs j 0 = f0 at *
            have i1 : (j : Int) < (n : Int) := by omega
            have i2 : (0 : Int) ≤ (j : Int) := by omega
            go_wp2_with fail
            go_quiet (fail)
            go_wp2_with fail
            go_meet
            exact ⟨j, by omega, rfl, _, World.drewN_drewN _ _ _⟩
    case rest =>
      obtain ⟨j, hj, rfl, N, rfl⟩ := hcut
      have hown := HO.out
      have hrow := Lib.hid (HR.out.below B)
      have be2 : Bk.Blk (w1.drewN N) (w.heap.size) 30 #[.int .i64 x0, .int .i64 x1, .int .i64 x2, .int .i64 x3] := be.drewN N
      have B2 : Below w.heap.size w (w1.drewN N) := Sls.below_drewN B N
      have R0 : Rd (w1.drewN N) 4 A n c (zs.map (Value.int .i64)) := hrow.out
      have hnc0 := (Rd.of_own hown).2.1
      have R1 : Mem.Rd (w1.drewN N) 4 (some ⟨g, 0, none⟩) j c1 ((zs.take (j * 4)).map (Value.int .i64)) := rd_take ((Rd.of_own hown).drewN N) hj
      have R2 : Mem.Rd (w1.drewN N) 4 (if c1 = j then some ⟨g, 0, none⟩ else some ⟨g, j * 4, none⟩) (n - j) (c1 - j) ((zs.drop (j * 4)).map (Value.int .i64)) := rd_drop ((Rd.of_own hown).drewN N) hj
      obtain ⟨gl, gh⟩ := own_blk hown
      have z2 : w.heap.size + 1 ≤ (w1.drewN N).heap.size := by simp only [World.drewN]; omega
      have gh2 : g < (w1.drewN N).heap.size := gh
      have HN := Lib.hid hn
      clear hown hrow B HO be gh z1 R0
      generalize w1.drewN N = w2 at *
      clear L_be
      have B := B2
      have be := be2
      clear B2 be2
      have i1 : (j : Int) ≤ (n : Int) := by omega
      have i2 : (0 : Int) ≤ (j : Int) := by omega
      have i3 : (j : Int) ≤ (c1 : Int) := by omega
      go_wp2_with fail
      refine wp_region_held_drew (S := (fun w' => Bk.Blk w' (w.heap.size) 30 #[.int .i64 x0, .int .i64 x1, .int .i64 x2, .int .i64 x3])) (by kernel_rfl) ?_ (fun hHeld => ?_)
      · (try dsimp only); (repeat (first | with_reducible assumption | (with_reducible apply Bk.Blk.newAt; focus (first | (simp [Bk.size_set]; done) | (simp [Bk.size_set]; omega))) | with_reducible apply Bk.Blk.drewN | with_reducible apply Bk.Blk.drew | with_reducible apply Bk.Blk.set_ | (with_reducible apply Bk.Blk.far; focus (dsimp only; first | omega | (simp; omega) | (simp; done))) | with_reducible apply Bk.Blk.alloc))
      first | (refine wpAnyH_take (i := 1) (v := ?_) (Reg.get rfl) (by kernel_rfl) (by kernel_rfl) (by kernel_rfl) (fun _ _ _ h => h) (Or.inl ⟨by rfl, ?_⟩) hHeld ?_; rotate_left 1; (focus (intro wq hSw; (try dsimp only at hSw); have s_be := hSw; have L_be := Lay.c4 s_be;  go_simp <;> with_reducible rfl))) | (refine wpAnyH_take (i := 1) (v := undef) (Reg.get rfl) (by kernel_rfl) (by kernel_rfl) (by kernel_rfl) (fun _ _ _ h => h) (Or.inr ⟨by rfl, rfl⟩) hHeld ?_)
      try simp only [Act.put, List.setIfInBounds_toArray, List.set_cons_zero, List.set_cons_succ]
      first | (refine wpAnyH_take (i := 2) (v := ?_) (Reg.get rfl) (by kernel_rfl) (by kernel_rfl) (by kernel_rfl) (fun _ _ _ h => h) (Or.inl ⟨by rfl, ?_⟩) hHeld ?_; rotate_left 1; (focus (intro wq hSw; (try dsimp only at hSw); have s_be := hSw; have L_be := Lay.c4 s_be;  go_simp <;> with_reducible rfl))) | (refine wpAnyH_take (i := 2) (v := undef) (Reg.get rfl) (by kernel_rfl) (by kernel_rfl) (by kernel_rfl) (fun _ _ _ h => h) (Or.inr ⟨by rfl, rfl⟩) hHeld ?_)
      try simp only [Act.put, List.setIfInBounds_toArray, List.set_cons_zero, List.set_cons_succ]
      first | (refine wpAnyH_take (i := 3) (v := ?_) (Reg.get rfl) (by kernel_rfl) (by kernel_rfl) (by kernel_rfl) (fun _ _ _ h => h) (Or.inl ⟨by rfl, ?_⟩) hHeld ?_; rotate_left 1; (focus (intro wq hSw; (try dsimp only at hSw); have s_be := hSw; have L_be := Lay.c4 s_be;  go_simp <;> with_reducible rfl))) | (refine wpAnyH_take (i := 3) (v := undef) (Reg.get rfl) (by kernel_rfl) (by kernel_rfl) (by kernel_rfl) (fun _ _ _ h => h) (Or.inr ⟨by rfl, rfl⟩) hHeld ?_)
      try simp only [Act.put, List.setIfInBounds_toArray, List.set_cons_zero, List.set_cons_succ]
      first | (refine wpAnyH_take (i := 5) (v := ?_) (Reg.get rfl) (by kernel_rfl) (by kernel_rfl) (by kernel_rfl) (fun _ _ _ h => h) (Or.inl ⟨by rfl, ?_⟩) hHeld ?_; rotate_left 1; (focus (intro wq hSw; (try dsimp only at hSw); have s_be := hSw; have L_be := Lay.c4 s_be;  go_simp <;> with_reducible rfl))) | (refine wpAnyH_take (i := 5) (v := undef) (Reg.get rfl) (by kernel_rfl) (by kernel_rfl) (by kernel_rfl) (fun _ _ _ h => h) (Or.inr ⟨by rfl, rfl⟩) hHeld ?_)
      try simp only [Act.put, List.setIfInBounds_toArray, List.set_cons_zero, List.set_cons_succ]
      first | (refine wpAnyH_take (i := 8) (v := ?_) (Reg.get rfl) (by kernel_rfl) (by kernel_rfl) (by kernel_rfl) (fun _ _ _ h => h) (Or.inl ⟨by rfl, ?_⟩) hHeld ?_; rotate_left 1; (focus (intro wq hSw; (try dsimp only at hSw); have s_be := hSw; have L_be := Lay.c4 s_be;  go_simp <;> with_reducible rfl))) | (refine wpAnyH_take (i := 8) (v := undef) (Reg.get rfl) (by kernel_rfl) (by kernel_rfl) (by kernel_rfl) (fun _ _ _ h => h) (Or.inr ⟨by rfl, rfl⟩) hHeld ?_)
      try simp only [Act.put, List.setIfInBounds_toArray, List.set_cons_zero, List.set_cons_succ]
      first | (refine wpAnyH_take (i := 9) (v := ?_) (Reg.get rfl) (by kernel_rfl) (by kernel_rfl) (by kernel_rfl) (fun _ _ _ h => h) (Or.inl ⟨by rfl, ?_⟩) hHeld ?_; rotate_left 1; (focus (intro wq hSw; (try dsimp only at hSw); have s_be := hSw; have L_be := Lay.c4 s_be;  go_simp <;> with_reducible rfl))) | (refine wpAnyH_take (i := 9) (v := undef) (Reg.get rfl) (by kernel_rfl) (by kernel_rfl) (by kernel_rfl) (fun _ _ _ h => h) (Or.inr ⟨by rfl, rfl⟩) hHeld ?_)
      try simp only [Act.put, List.setIfInBounds_toArray, List.set_cons_zero, List.set_cons_succ]
      first | (refine wpAnyH_take (i := 10) (v := ?_) (Reg.get rfl) (by kernel_rfl) (by kernel_rfl) (by kernel_rfl) (fun _ _ _ h => h) (Or.inl ⟨by rfl, ?_⟩) hHeld ?_; rotate_left 1; (focus (intro wq hSw; (try dsimp only at hSw); have s_be := hSw; have L_be := Lay.c4 s_be;  go_simp <;> with_reducible rfl))) | (refine wpAnyH_take (i := 10) (v := undef) (Reg.get rfl) (by kernel_rfl) (by kernel_rfl) (by kernel_rfl) (fun _ _ _ h => h) (Or.inr ⟨by rfl, rfl⟩) hHeld ?_)
      try simp only [Act.put, List.setIfInBounds_toArray, List.set_cons_zero, List.set_cons_succ]
      refine wpAnyH_ready (rs := [0, 6]) (by kernel_rfl) (by simp) ?_
      refine (AllReadyH.cons (Reg.get rfl) (fun K hK => ?_) (AllReadyH.cons (Reg.get rfl) (fun K hK => ?_) AllReadyH.nil))
      
      · skip
        clear hHeld; go_simp; (generalize hW : World.alloc _ _ = w3; replace be : Bk.Blk w3 (w.heap.size) 30 #[.int .i64 x0, .int .i64 x1, .int .i64 x2, .int .i64 x3] := (by rw [← hW]; (repeat (first | with_reducible assumption | (with_reducible apply Bk.Blk.newAt; focus (first | (simp [Bk.size_set]; done) | (simp [Bk.size_set]; omega))) | with_reducible apply Bk.Blk.drewN | with_reducible apply Bk.Blk.drew | with_reducible apply Bk.Blk.set_ | (with_reducible apply Bk.Blk.far; focus (dsimp only; first | omega | (simp; omega) | (simp; done))) | with_reducible apply Bk.Blk.alloc))); replace B : Below w.heap.size w w3 := (by rw [← hW]; go_grown); have z3 := size_to hW; (try simp only [World.size_drew, World.drewN] at z3); (try (first | replace R1 := rd_to R1 hW | replace R1 := rd_to (R1).drew hW)); (try (first | replace R2 := rd_to R2 hW | replace R2 := rd_to (R2).drew hW)); (try (first | replace re := rd_to re hW | replace re := rd_to (re).drew hW)); (try (first | replace own := own_to own hW | replace own := own_to (own_drew own) hW)); (try (first | replace own5 := own_to own5 hW | replace own5 := own_to (own_drew own5) hW)); have own := own_fresh (lo := w2.heap.size) (sz := 4) hW (by first | omega | (simp only [World.size_drew]; omega)); clear hW); refine hK.out _ _ ?_ (fun hHeld => ?_); ((try dsimp only); (repeat (first | with_reducible assumption | (with_reducible apply Bk.Blk.newAt; focus (first | (simp [Bk.size_set]; done) | (simp [Bk.size_set]; omega))) | with_reducible apply Bk.Blk.drewN | with_reducible apply Bk.Blk.drew | with_reducible apply Bk.Blk.set_ | (with_reducible apply Bk.Blk.far; focus (dsimp only; first | omega | (simp; omega) | (simp; done))) | with_reducible apply Bk.Blk.alloc))); clear hK K
        try simp only [Act.put, List.setIfInBounds_toArray, List.set_cons_zero, List.set_cons_succ]
        refine wpAnyH_ready (rs := [4, 6]) (by kernel_rfl) (by simp) ?_
        refine (AllReadyH.cons (Reg.get rfl) (fun K hK => ?_) (AllReadyH.cons (Reg.get rfl) (fun K hK => ?_) AllReadyH.nil))
      
        · skip
          clear hHeld; (refine App.wp_app _ _ _ 24 rfl w2.heap.size 30 i0 (.agg #[.int .i64 0, .int .i64 0, .int .i64 0, .int .i64 0]) 4 32 Try.underlying24 hi hz0 hz1 hz2 rfl (by decide) _ _ _ _ rfl (by first | exact own | exact own_drew own) _ _ _ _ rfl (by first | exact R1 | exact R1.drew) (cells_one _) (by have := HN.out; unfold maxLen; omega) (by have := HN.out; omega) (by first | omega | (simp; done) | (simp; omega)) ?_; intro A5 c5 w5 own5 hg0 _; (try simp only [Nat.zero_add, List.nil_append] at own5 ⊢); have hP := own_ge own; replace be : Bk.Blk w5 (w.heap.size) 30 #[.int .i64 x0, .int .i64 x1, .int .i64 x2, .int .i64 x3] := blk_grown hg0 (by intro h; have := hP _ h.symm; omega) (by (repeat (first | with_reducible assumption | (with_reducible apply Bk.Blk.newAt; focus (first | (simp [Bk.size_set]; done) | (simp [Bk.size_set]; omega))) | with_reducible apply Bk.Blk.drewN | with_reducible apply Bk.Blk.drew | with_reducible apply Bk.Blk.set_ | (with_reducible apply Bk.Blk.far; focus (dsimp only; first | omega | (simp; omega) | (simp; done))) | with_reducible apply Bk.Blk.alloc))); replace B : Below w.heap.size w w5 := Mem.below_app (by go_grown) hg0 (by first | omega | (simp; done) | (simp; omega)) (by intro q h; have := hP _ h; omega); replace R2 : Mem.Rd w5 4 (if c1 = j then some ⟨g, 0, none⟩ else some ⟨g, j * 4, none⟩) (n - j) (c1 - j) ((zs.drop (j * 4)).map (Value.int .i64)) := Mem.Rd.grown (by (repeat (first | with_reducible assumption | with_reducible apply Mem.Rd.alloc | with_reducible apply Mem.Rd.drewN | with_reducible apply Mem.Rd.drew))) hg0 (.inr fun _ h => by rw [blk_if] at h; have := hP _ h.symm; omega); (try (first | replace re := rd_grown re hg0 (by first | omega | (simp; done) | (simp; omega)) | replace re := rd_grown re.drew hg0 (by first | omega | (simp; done) | (simp; omega)))); have z5 := hg0.size; (try simp only [World.size_alloc, World.size_drew, World.drewN] at z5); clear hg0 own R1 hP); refine hK.out _ _ ?_ (fun hHeld => ?_); ((try dsimp only); (repeat (first | with_reducible assumption | (with_reducible apply Bk.Blk.newAt; focus (first | (simp [Bk.size_set]; done) | (simp [Bk.size_set]; omega))) | with_reducible apply Bk.Blk.drewN | with_reducible apply Bk.Blk.drew | with_reducible apply Bk.Blk.set_ | (with_reducible apply Bk.Blk.far; focus (dsimp only; first | omega | (simp; omega) | (simp; done))) | with_reducible apply Bk.Blk.alloc))); clear hK K
          try simp only [Act.put, List.setIfInBounds_toArray, List.set_cons_zero, List.set_cons_succ]
          first | ((refine wpAnyH_take (i := 6) (v := undef) (Reg.get rfl) (by kernel_rfl) (by kernel_rfl) (by kernel_rfl) (fun _ _ _ h => h) (Or.inr ⟨by rfl, rfl⟩) hHeld ?_)) | (refine wpAnyH_ready (rs := [6]) (by kernel_rfl) (by simp) ?_; refine AllReadyH.cons (Reg.get rfl) (fun K hK => ?_) AllReadyH.nil; clear hHeld; go_simp; (generalize hW : World.alloc _ _ = w4; replace be : Bk.Blk w4 (w.heap.size) 30 #[.int .i64 x0, .int .i64 x1, .int .i64 x2, .int .i64 x3] := (by rw [← hW]; (repeat (first | with_reducible assumption | (with_reducible apply Bk.Blk.newAt; focus (first | (simp [Bk.size_set]; done) | (simp [Bk.size_set]; omega))) | with_reducible apply Bk.Blk.drewN | with_reducible apply Bk.Blk.drew | with_reducible apply Bk.Blk.set_ | (with_reducible apply Bk.Blk.far; focus (dsimp only; first | omega | (simp; omega) | (simp; done))) | with_reducible apply Bk.Blk.alloc))); replace B : Below w.heap.size w w4 := (by rw [← hW]; go_grown); have z4 := size_to hW; (try simp only [World.size_drew, World.drewN] at z4); (try (first | replace R1 := rd_to R1 hW | replace R1 := rd_to (R1).drew hW)); (try (first | replace R2 := rd_to R2 hW | replace R2 := rd_to (R2).drew hW)); (try (first | replace re := rd_to re hW | replace re := rd_to (re).drew hW)); (try (first | replace own := own_to own hW | replace own := own_to (own_drew own) hW)); (try (first | replace own5 := own_to own5 hW | replace own5 := own_to (own_drew own5) hW)); have re := rd_fresh hW; clear hW); refine hK.out _ _ ?_ (fun hHeld => ?_); ((try dsimp only); (repeat (first | with_reducible assumption | (with_reducible apply Bk.Blk.newAt; focus (first | (simp [Bk.size_set]; done) | (simp [Bk.size_set]; omega))) | with_reducible apply Bk.Blk.drewN | with_reducible apply Bk.Blk.drew | with_reducible apply Bk.Blk.set_ | (with_reducible apply Bk.Blk.far; focus (dsimp only; first | omega | (simp; omega) | (simp; done))) | with_reducible apply Bk.Blk.alloc))); clear hK K)
          try simp only [Act.put, List.setIfInBounds_toArray, List.set_cons_zero, List.set_cons_succ]
          first | ((refine wpAnyH_take (i := 7) (v := undef) (Reg.get rfl) (by kernel_rfl) (by kernel_rfl) (by kernel_rfl) (fun _ _ _ h => h) (Or.inr ⟨by rfl, rfl⟩) hHeld ?_)) | (refine wpAnyH_ready (rs := [7]) (by kernel_rfl) (by simp) ?_; refine AllReadyH.cons (Reg.get rfl) (fun K hK => ?_) AllReadyH.nil; clear hHeld; (refine App.wp_app _ _ _ 24 rfl w2.heap.size 30 i0 (.agg #[.int .i64 0, .int .i64 0, .int .i64 0, .int .i64 0]) 4 32 Try.underlying24 hi hz0 hz1 hz2 rfl (by decide) _ _ _ _ rfl (by first | exact own5 | exact own_drew own5) _ _ _ _ rfl (by first | exact re | exact re.drew) (cells_one _) (by have := HN.out; unfold maxLen; omega) (by have := HN.out; omega) (by first | omega | (simp; done) | (simp; omega)) ?_; intro A7 c7 w7 own7 hg0 _; have hP := own_ge own5; replace be : Bk.Blk w7 (w.heap.size) 30 #[.int .i64 x0, .int .i64 x1, .int .i64 x2, .int .i64 x3] := blk_grown hg0 (by intro h; have := hP _ h.symm; omega) (by (repeat (first | with_reducible assumption | (with_reducible apply Bk.Blk.newAt; focus (first | (simp [Bk.size_set]; done) | (simp [Bk.size_set]; omega))) | with_reducible apply Bk.Blk.drewN | with_reducible apply Bk.Blk.drew | with_reducible apply Bk.Blk.set_ | (with_reducible apply Bk.Blk.far; focus (dsimp only; first | omega | (simp; omega) | (simp; done))) | with_reducible apply Bk.Blk.alloc))); replace B : Below w.heap.size w w7 := Mem.below_app (by go_grown) hg0 (by first | omega | (simp; done) | (simp; omega)) (by intro q h; have := hP _ h; omega); replace R2 : Mem.Rd w7 4 (if c1 = j then some ⟨g, 0, none⟩ else some ⟨g, j * 4, none⟩) (n - j) (c1 - j) ((zs.drop (j * 4)).map (Value.int .i64)) := Mem.Rd.grown (by (repeat (first | with_reducible assumption | with_reducible apply Mem.Rd.alloc | with_reducible apply Mem.Rd.drewN | with_reducible apply Mem.Rd.drew))) hg0 (.inr fun _ h => by rw [blk_if] at h; have := hP _ h.symm; omega); have z7 := hg0.size; (try simp only [World.size_alloc, World.size_drew, World.drewN] at z7); clear hg0 own5 re hP); refine hK.out _ _ ?_ (fun hHeld => ?_); ((try dsimp only); (repeat (first | with_reducible assumption | (with_reducible apply Bk.Blk.newAt; focus (first | (simp [Bk.size_set]; done) | (simp [Bk.size_set]; omega))) | with_reducible apply Bk.Blk.drewN | with_reducible apply Bk.Blk.drew | with_reducible apply Bk.Blk.set_ | (with_reducible apply Bk.Blk.far; focus (dsimp only; first | omega | (simp; omega) | (simp; done))) | with_reducible apply Bk.Blk.alloc))); clear hK K)
          try simp only [Act.put, List.setIfInBounds_toArray, List.set_cons_zero, List.set_cons_succ]
          first | ((refine wpAnyH_take (i := 11) (v := undef) (Reg.get rfl) (by kernel_rfl) (by kernel_rfl) (by kernel_rfl) (fun _ _ _ h => h) (Or.inr ⟨by rfl, rfl⟩) hHeld ?_)) | (refine wpAnyH_ready (rs := [11]) (by kernel_rfl) (by simp) ?_; refine AllReadyH.cons (Reg.get rfl) (fun K hK => ?_) AllReadyH.nil; clear hHeld; (refine App.wp_app _ _ _ 24 rfl w2.heap.size 30 i0 (.agg #[.int .i64 0, .int .i64 0, .int .i64 0, .int .i64 0]) 4 32 Try.underlying24 hi hz0 hz1 hz2 rfl (by decide) _ _ _ _ rfl (by first | exact own7 | exact own_drew own7) _ _ _ _ rfl (by first | exact R2 | exact R2.drew) (cells_one _) (by have := HN.out; unfold maxLen; omega) (by have := HN.out; omega) (by first | omega | (simp; done) | (simp; omega)) ?_; intro A9 c9 w9 own9 hg0 _; have hP := own_ge own7; have e9 : j + 1 + (n - j) = n + 1 := (by omega); simp only [e9] at own9 ⊢; replace be : Bk.Blk w9 (w.heap.size) 30 #[.int .i64 x0, .int .i64 x1, .int .i64 x2, .int .i64 x3] := blk_grown hg0 (by intro h; have := hP _ h.symm; omega) (by (repeat (first | with_reducible assumption | (with_reducible apply Bk.Blk.newAt; focus (first | (simp [Bk.size_set]; done) | (simp [Bk.size_set]; omega))) | with_reducible apply Bk.Blk.drewN | with_reducible apply Bk.Blk.drew | with_reducible apply Bk.Blk.set_ | (with_reducible apply Bk.Blk.far; focus (dsimp only; first | omega | (simp; omega) | (simp; done))) | with_reducible apply Bk.Blk.alloc))); replace B : Below w.heap.size w w9 := Mem.below_app (by go_grown) hg0 (by first | omega | (simp; done) | (simp; omega)) (by intro q h; have := hP _ h; omega); have z9 := hg0.size; (try simp only [World.size_alloc, World.size_drew, World.drewN] at z9); clear hg0 own7 R2 hP e9); refine hK.out _ _ ?_ (fun hHeld => ?_); ((try dsimp only); (repeat (first | with_reducible assumption | (with_reducible apply Bk.Blk.newAt; focus (first | (simp [Bk.size_set]; done) | (simp [Bk.size_set]; omega))) | with_reducible apply Bk.Blk.drewN | with_reducible apply Bk.Blk.drew | with_reducible apply Bk.Blk.set_ | (with_reducible apply Bk.Blk.far; focus (dsimp only; first | omega | (simp; omega) | (simp; done))) | with_reducible apply Bk.Blk.alloc))); clear hK K)
          try simp only [Act.put, List.setIfInBounds_toArray, List.set_cons_zero, List.set_cons_succ]
          first | (refine wpAnyH_take (i := 12) (v := ?_) (Reg.get rfl) (by kernel_rfl) (by kernel_rfl) (by kernel_rfl) (fun _ _ _ h => h) (Or.inl ⟨by rfl, ?_⟩) hHeld ?_; rotate_left 1; (focus (intro wq hSw; (try dsimp only at hSw); have s_be := hSw; have L_be := Lay.c4 s_be;  go_simp <;> with_reducible rfl))) | (refine wpAnyH_take (i := 12) (v := undef) (Reg.get rfl) (by kernel_rfl) (by kernel_rfl) (by kernel_rfl) (fun _ _ _ h => h) (Or.inr ⟨by rfl, rfl⟩) hHeld ?_)
          try simp only [Act.put, List.setIfInBounds_toArray, List.set_cons_zero, List.set_cons_succ]
          refine wpAnyH_done (by kernel_rfl) ?_ _
          generalize (if c1 = j then some (⟨g, 0, none⟩ : Addr) else some ⟨g, j * 4, none⟩) = AX at *
          go_wp2_with fail
          have own9' : w9.ownsRow w2.heap.size 30 4 (.slice A9 (n + 1) c9) (n + 1) ((ins4 zs j x0 x1 x2 x3).map (Value.int .i64)) := (by simpa [ins4] using own9)
          refine (valid_spec _ (n + 1) _ (ins4 zs j x0 x1 x2 x3) _ (Rd.of_own own9')).mono ?_
          rintro x wv ⟨b, hbv, rfl, hb0⟩
          have HO3 := Lib.hid (own_below own9' hb0)
          replace B : Below w.heap.size w wv := Below.trans B (hb0.mono (by omega))
          have zv := hb0.size
          clear hb0 hbv own9 own9' be
          cases b
          · have hemp3 := own_empty wv wv.heap.size wv.heap.size 30 4 rfl (Nat.le_refl _)
            have hb3 : Below w.heap.size w (wv.alloc (.cells #[] 30)) := B.alloc (by omega) _
            go_wp2_with (at_builtin; refine wpl_app _ rfl _ _ 24 rfl wv.heap.size 30 i0 (.agg #[.int .i64 0, .int .i64 0, .int .i64 0, .int .i64 0]) 4 32 Try.underlying24 hi hz0 hz1 hz2 rfl (by decide) _ _ _ _ rfl hemp3 A n c _ rfl (HR.out.below hb3) (cells_one zs) (by have := HN.out; unfold maxLen; omega) (by have := HN.out; omega) (by simp) ?_)
            intro A4 c4 w4' hown4 hg4 hat4
            (try simp only [Nat.zero_add, List.nil_append] at hown4)
            replace hg4 : (wv.alloc (.cells #[] 30)).grownBy w4' (some wv.heap.size) := hg4
            have HB4 := Lib.hid (Bk.below_grown hb3 hg4 (by omega) (by simp; omega))
            have HO4 := Lib.hid hown4
            clear hown4 hg4 hat4 hemp3 hb3
            go_wp2
            go_ret
            exact ⟨n, zs, A4, c4, by omega, HZ.out, rfl, ownsRow_mono HO4.out (by omega), HB4.out⟩
          · go_wp2
            go_ret
            exact ⟨n + 1, ins4 zs j x0 x1 x2 x3, _, _, by omega, ents_ins HZ.out hj HE.out, rfl, ownsRow_mono HO3.out (by omega), B⟩
      
        · skip
          clear hHeld; go_simp; (generalize hW : World.alloc _ _ = w4; replace be : Bk.Blk w4 (w.heap.size) 30 #[.int .i64 x0, .int .i64 x1, .int .i64 x2, .int .i64 x3] := (by rw [← hW]; (repeat (first | with_reducible assumption | (with_reducible apply Bk.Blk.newAt; focus (first | (simp [Bk.size_set]; done) | (simp [Bk.size_set]; omega))) | with_reducible apply Bk.Blk.drewN | with_reducible apply Bk.Blk.drew | with_reducible apply Bk.Blk.set_ | (with_reducible apply Bk.Blk.far; focus (dsimp only; first | omega | (simp; omega) | (simp; done))) | with_reducible apply Bk.Blk.alloc))); replace B : Below w.heap.size w w4 := (by rw [← hW]; go_grown); have z4 := size_to hW; (try simp only [World.size_drew, World.drewN] at z4); (try (first | replace R1 := rd_to R1 hW | replace R1 := rd_to (R1).drew hW)); (try (first | replace R2 := rd_to R2 hW | replace R2 := rd_to (R2).drew hW)); (try (first | replace re := rd_to re hW | replace re := rd_to (re).drew hW)); (try (first | replace own := own_to own hW | replace own := own_to (own_drew own) hW)); (try (first | replace own5 := own_to own5 hW | replace own5 := own_to (own_drew own5) hW)); have re := rd_fresh hW; clear hW); refine hK.out _ _ ?_ (fun hHeld => ?_); ((try dsimp only); (repeat (first | with_reducible assumption | (with_reducible apply Bk.Blk.newAt; focus (first | (simp [Bk.size_set]; done) | (simp [Bk.size_set]; omega))) | with_reducible apply Bk.Blk.drewN | with_reducible apply Bk.Blk.drew | with_reducible apply Bk.Blk.set_ | (with_reducible apply Bk.Blk.far; focus (dsimp only; first | omega | (simp; omega) | (simp; done))) | with_reducible apply Bk.Blk.alloc))); clear hK K
          try simp only [Act.put, List.setIfInBounds_toArray, List.set_cons_zero, List.set_cons_succ]
          first | ((refine wpAnyH_take (i := 4) (v := undef) (Reg.get rfl) (by kernel_rfl) (by kernel_rfl) (by kernel_rfl) (fun _ _ _ h => h) (Or.inr ⟨by rfl, rfl⟩) hHeld ?_)) | (refine wpAnyH_ready (rs := [4]) (by kernel_rfl) (by simp) ?_; refine AllReadyH.cons (Reg.get rfl) (fun K hK => ?_) AllReadyH.nil; clear hHeld; (refine App.wp_app _ _ _ 24 rfl w2.heap.size 30 i0 (.agg #[.int .i64 0, .int .i64 0, .int .i64 0, .int .i64 0]) 4 32 Try.underlying24 hi hz0 hz1 hz2 rfl (by decide) _ _ _ _ rfl (by first | exact own | exact own_drew own) _ _ _ _ rfl (by first | exact R1 | exact R1.drew) (cells_one _) (by have := HN.out; unfold maxLen; omega) (by have := HN.out; omega) (by first | omega | (simp; done) | (simp; omega)) ?_; intro A5 c5 w5 own5 hg0 _; (try simp only [Nat.zero_add, List.nil_append] at own5 ⊢); have hP := own_ge own; replace be : Bk.Blk w5 (w.heap.size) 30 #[.int .i64 x0, .int .i64 x1, .int .i64 x2, .int .i64 x3] := blk_grown hg0 (by intro h; have := hP _ h.symm; omega) (by (repeat (first | with_reducible assumption | (with_reducible apply Bk.Blk.newAt; focus (first | (simp [Bk.size_set]; done) | (simp [Bk.size_set]; omega))) | with_reducible apply Bk.Blk.drewN | with_reducible apply Bk.Blk.drew | with_reducible apply Bk.Blk.set_ | (with_reducible apply Bk.Blk.far; focus (dsimp only; first | omega | (simp; omega) | (simp; done))) | with_reducible apply Bk.Blk.alloc))); replace B : Below w.heap.size w w5 := Mem.below_app (by go_grown) hg0 (by first | omega | (simp; done) | (simp; omega)) (by intro q h; have := hP _ h; omega); replace R2 : Mem.Rd w5 4 (if c1 = j then some ⟨g, 0, none⟩ else some ⟨g, j * 4, none⟩) (n - j) (c1 - j) ((zs.drop (j * 4)).map (Value.int .i64)) := Mem.Rd.grown (by (repeat (first | with_reducible assumption | with_reducible apply Mem.Rd.alloc | with_reducible apply Mem.Rd.drewN | with_reducible apply Mem.Rd.drew))) hg0 (.inr fun _ h => by rw [blk_if] at h; have := hP _ h.symm; omega); (try (first | replace re := rd_grown re hg0 (by first | omega | (simp; done) | (simp; omega)) | replace re := rd_grown re.drew hg0 (by first | omega | (simp; done) | (simp; omega)))); have z5 := hg0.size; (try simp only [World.size_alloc, World.size_drew, World.drewN] at z5); clear hg0 own R1 hP); refine hK.out _ _ ?_ (fun hHeld => ?_); ((try dsimp only); (repeat (first | with_reducible assumption | (with_reducible apply Bk.Blk.newAt; focus (first | (simp [Bk.size_set]; done) | (simp [Bk.size_set]; omega))) | with_reducible apply Bk.Blk.drewN | with_reducible apply Bk.Blk.drew | with_reducible apply Bk.Blk.set_ | (with_reducible apply Bk.Blk.far; focus (dsimp only; first | omega | (simp; omega) | (simp; done))) | with_reducible apply Bk.Blk.alloc))); clear hK K)
          try simp only [Act.put, List.setIfInBounds_toArray, List.set_cons_zero, List.set_cons_succ]
          first | ((refine wpAnyH_take (i := 7) (v := undef) (Reg.get rfl) (by kernel_rfl) (by kernel_rfl) (by kernel_rfl) (fun _ _ _ h => h) (Or.inr ⟨by rfl, rfl⟩) hHeld ?_)) | (refine wpAnyH_ready (rs := [7]) (by kernel_rfl) (by simp) ?_; refine AllReadyH.cons (Reg.get rfl) (fun K hK => ?_) AllReadyH.nil; clear hHeld; (refine App.wp_app _ _ _ 24 rfl w2.heap.size 30 i0 (.agg #[.int .i64 0, .int .i64 0, .int .i64 0, .int .i64 0]) 4 32 Try.underlying24 hi hz0 hz1 hz2 rfl (by decide) _ _ _ _ rfl (by first | exact own5 | exact own_drew own5) _ _ _ _ rfl (by first | exact re | exact re.drew) (cells_one _) (by have := HN.out; unfold maxLen; omega) (by have := HN.out; omega) (by first | omega | (simp; done) | (simp; omega)) ?_; intro A7 c7 w7 own7 hg0 _; have hP := own_ge own5; replace be : Bk.Blk w7 (w.heap.size) 30 #[.int .i64 x0, .int .i64 x1, .int .i64 x2, .int .i64 x3] := blk_grown hg0 (by intro h; have := hP _ h.symm; omega) (by (repeat (first | with_reducible assumption | (with_reducible apply Bk.Blk.newAt; focus (first | (simp [Bk.size_set]; done) | (simp [Bk.size_set]; omega))) | with_reducible apply Bk.Blk.drewN | with_reducible apply Bk.Blk.drew | with_reducible apply Bk.Blk.set_ | (with_reducible apply Bk.Blk.far; focus (dsimp only; first | omega | (simp; omega) | (simp; done))) | with_reducible apply Bk.Blk.alloc))); replace B : Below w.heap.size w w7 := Mem.below_app (by go_grown) hg0 (by first | omega | (simp; done) | (simp; omega)) (by intro q h; have := hP _ h; omega); replace R2 : Mem.Rd w7 4 (if c1 = j then some ⟨g, 0, none⟩ else some ⟨g, j * 4, none⟩) (n - j) (c1 - j) ((zs.drop (j * 4)).map (Value.int .i64)) := Mem.Rd.grown (by (repeat (first | with_reducible assumption | with_reducible apply Mem.Rd.alloc | with_reducible apply Mem.Rd.drewN | with_reducible apply Mem.Rd.drew))) hg0 (.inr fun _ h => by rw [blk_if] at h; have := hP _ h.symm; omega); have z7 := hg0.size; (try simp only [World.size_alloc, World.size_drew, World.drewN] at z7); clear hg0 own5 re hP); refine hK.out _ _ ?_ (fun hHeld => ?_); ((try dsimp only); (repeat (first | with_reducible assumption | (with_reducible apply Bk.Blk.newAt; focus (first | (simp [Bk.size_set]; done) | (simp [Bk.size_set]; omega))) | with_reducible apply Bk.Blk.drewN | with_reducible apply Bk.Blk.drew | with_reducible apply Bk.Blk.set_ | (with_reducible apply Bk.Blk.far; focus (dsimp only; first | omega | (simp; omega) | (simp; done))) | with_reducible apply Bk.Blk.alloc))); clear hK K)
          try simp only [Act.put, List.setIfInBounds_toArray, List.set_cons_zero, List.set_cons_succ]
          first | ((refine wpAnyH_take (i := 11) (v := undef) (Reg.get rfl) (by kernel_rfl) (by kernel_rfl) (by kernel_rfl) (fun _ _ _ h => h) (Or.inr ⟨by rfl, rfl⟩) hHeld ?_)) | (refine wpAnyH_ready (rs := [11]) (by kernel_rfl) (by simp) ?_; refine AllReadyH.cons (Reg.get rfl) (fun K hK => ?_) AllReadyH.nil; clear hHeld; (refine App.wp_app _ _ _ 24 rfl w2.heap.size 30 i0 (.agg #[.int .i64 0, .int .i64 0, .int .i64 0, .int .i64 0]) 4 32 Try.underlying24 hi hz0 hz1 hz2 rfl (by decide) _ _ _ _ rfl (by first | exact own7 | exact own_drew own7) _ _ _ _ rfl (by first | exact R2 | exact R2.drew) (cells_one _) (by have := HN.out; unfold maxLen; omega) (by have := HN.out; omega) (by first | omega | (simp; done) | (simp; omega)) ?_; intro A9 c9 w9 own9 hg0 _; have hP := own_ge own7; have e9 : j + 1 + (n - j) = n + 1 := (by omega); simp only [e9] at own9 ⊢; replace be : Bk.Blk w9 (w.heap.size) 30 #[.int .i64 x0, .int .i64 x1, .int .i64 x2, .int .i64 x3] := blk_grown hg0 (by intro h; have := hP _ h.symm; omega) (by (repeat (first | with_reducible assumption | (with_reducible apply Bk.Blk.newAt; focus (first | (simp [Bk.size_set]; done) | (simp [Bk.size_set]; omega))) | with_reducible apply Bk.Blk.drewN | with_reducible apply Bk.Blk.drew | with_reducible apply Bk.Blk.set_ | (with_reducible apply Bk.Blk.far; focus (dsimp only; first | omega | (simp; omega) | (simp; done))) | with_reducible apply Bk.Blk.alloc))); replace B : Below w.heap.size w w9 := Mem.below_app (by go_grown) hg0 (by first | omega | (simp; done) | (simp; omega)) (by intro q h; have := hP _ h; omega); have z9 := hg0.size; (try simp only [World.size_alloc, World.size_drew, World.drewN] at z9); clear hg0 own7 R2 hP e9); refine hK.out _ _ ?_ (fun hHeld => ?_); ((try dsimp only); (repeat (first | with_reducible assumption | (with_reducible apply Bk.Blk.newAt; focus (first | (simp [Bk.size_set]; done) | (simp [Bk.size_set]; omega))) | with_reducible apply Bk.Blk.drewN | with_reducible apply Bk.Blk.drew | with_reducible apply Bk.Blk.set_ | (with_reducible apply Bk.Blk.far; focus (dsimp only; first | omega | (simp; omega) | (simp; done))) | with_reducible apply Bk.Blk.alloc))); clear hK K)
          try simp only [Act.put, List.setIfInBounds_toArray, List.set_cons_zero, List.set_cons_succ]
          first | (refine wpAnyH_take (i := 12) (v := ?_) (Reg.get rfl) (by kernel_rfl) (by kernel_rfl) (by kernel_rfl) (fun _ _ _ h => h) (Or.inl ⟨by rfl, ?_⟩) hHeld ?_; rotate_left 1; (focus (intro wq hSw; (try dsimp only at hSw); have s_be := hSw; have L_be := Lay.c4 s_be;  go_simp <;> with_reducible rfl))) | (refine wpAnyH_take (i := 12) (v := undef) (Reg.get rfl) (by kernel_rfl) (by kernel_rfl) (by kernel_rfl) (fun _ _ _ h => h) (Or.inr ⟨by rfl, rfl⟩) hHeld ?_)
          try simp only [Act.put, List.setIfInBounds_toArray, List.set_cons_zero, List.set_cons_succ]
          refine wpAnyH_done (by kernel_rfl) ?_ _
          generalize (if c1 = j then some (⟨g, 0, none⟩ : Addr) else some ⟨g, j * 4, none⟩) = AX at *
          go_wp2_with fail
          have own9' : w9.ownsRow w2.heap.size 30 4 (.slice A9 (n + 1) c9) (n + 1) ((ins4 zs j x0 x1 x2 x3).map (Value.int .i64)) := (by simpa [ins4] using own9)
          refine (valid_spec _ (n + 1) _ (ins4 zs j x0 x1 x2 x3) _ (Rd.of_own own9')).mono ?_
          rintro x wv ⟨b, hbv, rfl, hb0⟩
          have HO3 := Lib.hid (own_below own9' hb0)
          replace B : Below w.heap.size w wv := Below.trans B (hb0.mono (by omega))
          have zv := hb0.size
          clear hb0 hbv own9 own9' be
          cases b
          · have hemp3 := own_empty wv wv.heap.size wv.heap.size 30 4 rfl (Nat.le_refl _)
            have hb3 : Below w.heap.size w (wv.alloc (.cells #[] 30)) := B.alloc (by omega) _
            go_wp2_with (at_builtin; refine wpl_app _ rfl _ _ 24 rfl wv.heap.size 30 i0 (.agg #[.int .i64 0, .int .i64 0, .int .i64 0, .int .i64 0]) 4 32 Try.underlying24 hi hz0 hz1 hz2 rfl (by decide) _ _ _ _ rfl hemp3 A n c _ rfl (HR.out.below hb3) (cells_one zs) (by have := HN.out; unfold maxLen; omega) (by have := HN.out; omega) (by simp) ?_)
            intro A4 c4 w4' hown4 hg4 hat4
            (try simp only [Nat.zero_add, List.nil_append] at hown4)
            replace hg4 : (wv.alloc (.cells #[] 30)).grownBy w4' (some wv.heap.size) := hg4
            have HB4 := Lib.hid (Bk.below_grown hb3 hg4 (by omega) (by simp; omega))
            have HO4 := Lib.hid hown4
            clear hown4 hg4 hat4 hemp3 hb3
            go_wp2
            go_ret
            exact ⟨n, zs, A4, c4, by omega, HZ.out, rfl, ownsRow_mono HO4.out (by omega), HB4.out⟩
          · go_wp2
            go_ret
            exact ⟨n + 1, ins4 zs j x0 x1 x2 x3, _, _, by omega, ents_ins HZ.out hj HE.out, rfl, ownsRow_mono HO3.out (by omega), B⟩
      
      · skip
        clear hHeld; go_simp; (generalize hW : World.alloc _ _ = w4; replace be : Bk.Blk w4 (w.heap.size) 30 #[.int .i64 x0, .int .i64 x1, .int .i64 x2, .int .i64 x3] := (by rw [← hW]; (repeat (first | with_reducible assumption | (with_reducible apply Bk.Blk.newAt; focus (first | (simp [Bk.size_set]; done) | (simp [Bk.size_set]; omega))) | with_reducible apply Bk.Blk.drewN | with_reducible apply Bk.Blk.drew | with_reducible apply Bk.Blk.set_ | (with_reducible apply Bk.Blk.far; focus (dsimp only; first | omega | (simp; omega) | (simp; done))) | with_reducible apply Bk.Blk.alloc))); replace B : Below w.heap.size w w4 := (by rw [← hW]; go_grown); have z4 := size_to hW; (try simp only [World.size_drew, World.drewN] at z4); (try (first | replace R1 := rd_to R1 hW | replace R1 := rd_to (R1).drew hW)); (try (first | replace R2 := rd_to R2 hW | replace R2 := rd_to (R2).drew hW)); (try (first | replace re := rd_to re hW | replace re := rd_to (re).drew hW)); (try (first | replace own := own_to own hW | replace own := own_to (own_drew own) hW)); (try (first | replace own5 := own_to own5 hW | replace own5 := own_to (own_drew own5) hW)); have re := rd_fresh hW; clear hW); refine hK.out _ _ ?_ (fun hHeld => ?_); ((try dsimp only); (repeat (first | with_reducible assumption | (with_reducible apply Bk.Blk.newAt; focus (first | (simp [Bk.size_set]; done) | (simp [Bk.size_set]; omega))) | with_reducible apply Bk.Blk.drewN | with_reducible apply Bk.Blk.drew | with_reducible apply Bk.Blk.set_ | (with_reducible apply Bk.Blk.far; focus (dsimp only; first | omega | (simp; omega) | (simp; done))) | with_reducible apply Bk.Blk.alloc))); clear hK K
        try simp only [Act.put, List.setIfInBounds_toArray, List.set_cons_zero, List.set_cons_succ]
        first | ((refine wpAnyH_take (i := 0) (v := undef) (Reg.get rfl) (by kernel_rfl) (by kernel_rfl) (by kernel_rfl) (fun _ _ _ h => h) (Or.inr ⟨by rfl, rfl⟩) hHeld ?_)) | (refine wpAnyH_ready (rs := [0]) (by kernel_rfl) (by simp) ?_; refine AllReadyH.cons (Reg.get rfl) (fun K hK => ?_) AllReadyH.nil; clear hHeld; go_simp; (generalize hW : World.alloc _ _ = w3; replace be : Bk.Blk w3 (w.heap.size) 30 #[.int .i64 x0, .int .i64 x1, .int .i64 x2, .int .i64 x3] := (by rw [← hW]; (repeat (first | with_reducible assumption | (with_reducible apply Bk.Blk.newAt; focus (first | (simp [Bk.size_set]; done) | (simp [Bk.size_set]; omega))) | with_reducible apply Bk.Blk.drewN | with_reducible apply Bk.Blk.drew | with_reducible apply Bk.Blk.set_ | (with_reducible apply Bk.Blk.far; focus (dsimp only; first | omega | (simp; omega) | (simp; done))) | with_reducible apply Bk.Blk.alloc))); replace B : Below w.heap.size w w3 := (by rw [← hW]; go_grown); have z3 := size_to hW; (try simp only [World.size_drew, World.drewN] at z3); (try (first | replace R1 := rd_to R1 hW | replace R1 := rd_to (R1).drew hW)); (try (first | replace R2 := rd_to R2 hW | replace R2 := rd_to (R2).drew hW)); (try (first | replace re := rd_to re hW | replace re := rd_to (re).drew hW)); (try (first | replace own := own_to own hW | replace own := own_to (own_drew own) hW)); (try (first | replace own5 := own_to own5 hW | replace own5 := own_to (own_drew own5) hW)); have own := own_fresh (lo := w2.heap.size) (sz := 4) hW (by first | omega | (simp only [World.size_drew]; omega)); clear hW); refine hK.out _ _ ?_ (fun hHeld => ?_); ((try dsimp only); (repeat (first | with_reducible assumption | (with_reducible apply Bk.Blk.newAt; focus (first | (simp [Bk.size_set]; done) | (simp [Bk.size_set]; omega))) | with_reducible apply Bk.Blk.drewN | with_reducible apply Bk.Blk.drew | with_reducible apply Bk.Blk.set_ | (with_reducible apply Bk.Blk.far; focus (dsimp only; first | omega | (simp; omega) | (simp; done))) | with_reducible apply Bk.Blk.alloc))); clear hK K)
        try simp only [Act.put, List.setIfInBounds_toArray, List.set_cons_zero, List.set_cons_succ]
        first | ((refine wpAnyH_take (i := 4) (v := undef) (Reg.get rfl) (by kernel_rfl) (by kernel_rfl) (by kernel_rfl) (fun _ _ _ h => h) (Or.inr ⟨by rfl, rfl⟩) hHeld ?_)) | (refine wpAnyH_ready (rs := [4]) (by kernel_rfl) (by simp) ?_; refine AllReadyH.cons (Reg.get rfl) (fun K hK => ?_) AllReadyH.nil; clear hHeld; (refine App.wp_app _ _ _ 24 rfl w2.heap.size 30 i0 (.agg #[.int .i64 0, .int .i64 0, .int .i64 0, .int .i64 0]) 4 32 Try.underlying24 hi hz0 hz1 hz2 rfl (by decide) _ _ _ _ rfl (by first | exact own | exact own_drew own) _ _ _ _ rfl (by first | exact R1 | exact R1.drew) (cells_one _) (by have := HN.out; unfold maxLen; omega) (by have := HN.out; omega) (by first | omega | (simp; done) | (simp; omega)) ?_; intro A5 c5 w5 own5 hg0 _; (try simp only [Nat.zero_add, List.nil_append] at own5 ⊢); have hP := own_ge own; replace be : Bk.Blk w5 (w.heap.size) 30 #[.int .i64 x0, .int .i64 x1, .int .i64 x2, .int .i64 x3] := blk_grown hg0 (by intro h; have := hP _ h.symm; omega) (by (repeat (first | with_reducible assumption | (with_reducible apply Bk.Blk.newAt; focus (first | (simp [Bk.size_set]; done) | (simp [Bk.size_set]; omega))) | with_reducible apply Bk.Blk.drewN | with_reducible apply Bk.Blk.drew | with_reducible apply Bk.Blk.set_ | (with_reducible apply Bk.Blk.far; focus (dsimp only; first | omega | (simp; omega) | (simp; done))) | with_reducible apply Bk.Blk.alloc))); replace B : Below w.heap.size w w5 := Mem.below_app (by go_grown) hg0 (by first | omega | (simp; done) | (simp; omega)) (by intro q h; have := hP _ h; omega); replace R2 : Mem.Rd w5 4 (if c1 = j then some ⟨g, 0, none⟩ else some ⟨g, j * 4, none⟩) (n - j) (c1 - j) ((zs.drop (j * 4)).map (Value.int .i64)) := Mem.Rd.grown (by (repeat (first | with_reducible assumption | with_reducible apply Mem.Rd.alloc | with_reducible apply Mem.Rd.drewN | with_reducible apply Mem.Rd.drew))) hg0 (.inr fun _ h => by rw [blk_if] at h; have := hP _ h.symm; omega); (try (first | replace re := rd_grown re hg0 (by first | omega | (simp; done) | (simp; omega)) | replace re := rd_grown re.drew hg0 (by first | omega | (simp; done) | (simp; omega)))); have z5 := hg0.size; (try simp only [World.size_alloc, World.size_drew, World.drewN] at z5); clear hg0 own R1 hP); refine hK.out _ _ ?_ (fun hHeld => ?_); ((try dsimp only); (repeat (first | with_reducible assumption | (with_reducible apply Bk.Blk.newAt; focus (first | (simp [Bk.size_set]; done) | (simp [Bk.size_set]; omega))) | with_reducible apply Bk.Blk.drewN | with_reducible apply Bk.Blk.drew | with_reducible apply Bk.Blk.set_ | (with_reducible apply Bk.Blk.far; focus (dsimp only; first | omega | (simp; omega) | (simp; done))) | with_reducible apply Bk.Blk.alloc))); clear hK K)
        try simp only [Act.put, List.setIfInBounds_toArray, List.set_cons_zero, List.set_cons_succ]
        first | ((refine wpAnyH_take (i := 7) (v := undef) (Reg.get rfl) (by kernel_rfl) (by kernel_rfl) (by kernel_rfl) (fun _ _ _ h => h) (Or.inr ⟨by rfl, rfl⟩) hHeld ?_)) | (refine wpAnyH_ready (rs := [7]) (by kernel_rfl) (by simp) ?_; refine AllReadyH.cons (Reg.get rfl) (fun K hK => ?_) AllReadyH.nil; clear hHeld; (refine App.wp_app _ _ _ 24 rfl w2.heap.size 30 i0 (.agg #[.int .i64 0, .int .i64 0, .int .i64 0, .int .i64 0]) 4 32 Try.underlying24 hi hz0 hz1 hz2 rfl (by decide) _ _ _ _ rfl (by first | exact own5 | exact own_drew own5) _ _ _ _ rfl (by first | exact re | exact re.drew) (cells_one _) (by have := HN.out; unfold maxLen; omega) (by have := HN.out; omega) (by first | omega | (simp; done) | (simp; omega)) ?_; intro A7 c7 w7 own7 hg0 _; have hP := own_ge own5; replace be : Bk.Blk w7 (w.heap.size) 30 #[.int .i64 x0, .int .i64 x1, .int .i64 x2, .int .i64 x3] := blk_grown hg0 (by intro h; have := hP _ h.symm; omega) (by (repeat (first | with_reducible assumption | (with_reducible apply Bk.Blk.newAt; focus (first | (simp [Bk.size_set]; done) | (simp [Bk.size_set]; omega))) | with_reducible apply Bk.Blk.drewN | with_reducible apply Bk.Blk.drew | with_reducible apply Bk.Blk.set_ | (with_reducible apply Bk.Blk.far; focus (dsimp only; first | omega | (simp; omega) | (simp; done))) | with_reducible apply Bk.Blk.alloc))); replace B : Below w.heap.size w w7 := Mem.below_app (by go_grown) hg0 (by first | omega | (simp; done) | (simp; omega)) (by intro q h; have := hP _ h; omega); replace R2 : Mem.Rd w7 4 (if c1 = j then some ⟨g, 0, none⟩ else some ⟨g, j * 4, none⟩) (n - j) (c1 - j) ((zs.drop (j * 4)).map (Value.int .i64)) := Mem.Rd.grown (by (repeat (first | with_reducible assumption | with_reducible apply Mem.Rd.alloc | with_reducible apply Mem.Rd.drewN | with_reducible apply Mem.Rd.drew))) hg0 (.inr fun _ h => by rw [blk_if] at h; have := hP _ h.symm; omega); have z7 := hg0.size; (try simp only [World.size_alloc, World.size_drew, World.drewN] at z7); clear hg0 own5 re hP); refine hK.out _ _ ?_ (fun hHeld => ?_); ((try dsimp only); (repeat (first | with_reducible assumption | (with_reducible apply Bk.Blk.newAt; focus (first | (simp [Bk.size_set]; done) | (simp [Bk.size_set]; omega))) | with_reducible apply Bk.Blk.drewN | with_reducible apply Bk.Blk.drew | with_reducible apply Bk.Blk.set_ | (with_reducible apply Bk.Blk.far; focus (dsimp only; first | omega | (simp; omega) | (simp; done))) | with_reducible apply Bk.Blk.alloc))); clear hK K)
        try simp only [Act.put, List.setIfInBounds_toArray, List.set_cons_zero, List.set_cons_succ]
        first | ((refine wpAnyH_take (i := 11) (v := undef) (Reg.get rfl) (by kernel_rfl) (by kernel_rfl) (by kernel_rfl) (fun _ _ _ h => h) (Or.inr ⟨by rfl, rfl⟩) hHeld ?_)) | (refine wpAnyH_ready (rs := [11]) (by kernel_rfl) (by simp) ?_; refine AllReadyH.cons (Reg.get rfl) (fun K hK => ?_) AllReadyH.nil; clear hHeld; (refine App.wp_app _ _ _ 24 rfl w2.heap.size 30 i0 (.agg #[.int .i64 0, .int .i64 0, .int .i64 0, .int .i64 0]) 4 32 Try.underlying24 hi hz0 hz1 hz2 rfl (by decide) _ _ _ _ rfl (by first | exact own7 | exact own_drew own7) _ _ _ _ rfl (by first | exact R2 | exact R2.drew) (cells_one _) (by have := HN.out; unfold maxLen; omega) (by have := HN.out; omega) (by first | omega | (simp; done) | (simp; omega)) ?_; intro A9 c9 w9 own9 hg0 _; have hP := own_ge own7; have e9 : j + 1 + (n - j) = n + 1 := (by omega); simp only [e9] at own9 ⊢; replace be : Bk.Blk w9 (w.heap.size) 30 #[.int .i64 x0, .int .i64 x1, .int .i64 x2, .int .i64 x3] := blk_grown hg0 (by intro h; have := hP _ h.symm; omega) (by (repeat (first | with_reducible assumption | (with_reducible apply Bk.Blk.newAt; focus (first | (simp [Bk.size_set]; done) | (simp [Bk.size_set]; omega))) | with_reducible apply Bk.Blk.drewN | with_reducible apply Bk.Blk.drew | with_reducible apply Bk.Blk.set_ | (with_reducible apply Bk.Blk.far; focus (dsimp only; first | omega | (simp; omega) | (simp; done))) | with_reducible apply Bk.Blk.alloc))); replace B : Below w.heap.size w w9 := Mem.below_app (by go_grown) hg0 (by first | omega | (simp; done) | (simp; omega)) (by intro q h; have := hP _ h; omega); have z9 := hg0.size; (try simp only [World.size_alloc, World.size_drew, World.drewN] at z9); clear hg0 own7 R2 hP e9); refine hK.out _ _ ?_ (fun hHeld => ?_); ((try dsimp only); (repeat (first | with_reducible assumption | (with_reducible apply Bk.Blk.newAt; focus (first | (simp [Bk.size_set]; done) | (simp [Bk.size_set]; omega))) | with_reducible apply Bk.Blk.drewN | with_reducible apply Bk.Blk.drew | with_reducible apply Bk.Blk.set_ | (with_reducible apply Bk.Blk.far; focus (dsimp only; first | omega | (simp; omega) | (simp; done))) | with_reducible apply Bk.Blk.alloc))); clear hK K)
        try simp only [Act.put, List.setIfInBounds_toArray, List.set_cons_zero, List.set_cons_succ]
        first | (refine wpAnyH_take (i := 12) (v := ?_) (Reg.get rfl) (by kernel_rfl) (by kernel_rfl) (by kernel_rfl) (fun _ _ _ h => h) (Or.inl ⟨by rfl, ?_⟩) hHeld ?_; rotate_left 1; (focus (intro wq hSw; (try dsimp only at hSw); have s_be := hSw; have L_be := Lay.c4 s_be;  go_simp <;> with_reducible rfl))) | (refine wpAnyH_take (i := 12) (v := undef) (Reg.get rfl) (by kernel_rfl) (by kernel_rfl) (by kernel_rfl) (fun _ _ _ h => h) (Or.inr ⟨by rfl, rfl⟩) hHeld ?_)
        try simp only [Act.put, List.setIfInBounds_toArray, List.set_cons_zero, List.set_cons_succ]
        refine wpAnyH_done (by kernel_rfl) ?_ _
        generalize (if c1 = j then some (⟨g, 0, none⟩ : Addr) else some ⟨g, j * 4, none⟩) = AX at *
        go_wp2_with fail
        have own9' : w9.ownsRow w2.heap.size 30 4 (.slice A9 (n + 1) c9) (n + 1) ((ins4 zs j x0 x1 x2 x3).map (Value.int .i64)) := (by simpa [ins4] using own9)
        refine (valid_spec _ (n + 1) _ (ins4 zs j x0 x1 x2 x3) _ (Rd.of_own own9')).mono ?_
        rintro x wv ⟨b, hbv, rfl, hb0⟩
        have HO3 := Lib.hid (own_below own9' hb0)
        replace B : Below w.heap.size w wv := Below.trans B (hb0.mono (by omega))
        have zv := hb0.size
        clear hb0 hbv own9 own9' be
        cases b
        · have hemp3 := own_empty wv wv.heap.size wv.heap.size 30 4 rfl (Nat.le_refl _)
          have hb3 : Below w.heap.size w (wv.alloc (.cells #[] 30)) := B.alloc (by omega) _
          go_wp2_with (at_builtin; refine wpl_app _ rfl _ _ 24 rfl wv.heap.size 30 i0 (.agg #[.int .i64 0, .int .i64 0, .int .i64 0, .int .i64 0]) 4 32 Try.underlying24 hi hz0 hz1 hz2 rfl (by decide) _ _ _ _ rfl hemp3 A n c _ rfl (HR.out.below hb3) (cells_one zs) (by have := HN.out; unfold maxLen; omega) (by have := HN.out; omega) (by simp) ?_)
          intro A4 c4 w4' hown4 hg4 hat4
          (try simp only [Nat.zero_add, List.nil_append] at hown4)
          replace hg4 : (wv.alloc (.cells #[] 30)).grownBy w4' (some wv.heap.size) := hg4
          have HB4 := Lib.hid (Bk.below_grown hb3 hg4 (by omega) (by simp; omega))
          have HO4 := Lib.hid hown4
          clear hown4 hg4 hat4 hemp3 hb3
          go_wp2
          go_ret
          exact ⟨n, zs, A4, c4, by omega, HZ.out, rfl, ownsRow_mono HO4.out (by omega), HB4.out⟩
        · go_wp2
          go_ret
          exact ⟨n + 1, ins4 zs j x0 x1 x2 x3, _, _, by omega, ents_ins HZ.out hj HE.out, rfl, ownsRow_mono HO3.out (by omega), B⟩
end Go.Proofs.Ytikolopdkjocgaa.Cl
