/- AddScanEntry of the program: what it hands back is as long as the scan or one entry longer, and is valid if the scan is. -/
import Derived.Test.YtikolopdkjocgaaAdd
import Derived.Test.YtikolopdkjocgaaScans
import Derived.Test.YtikolopdkjocgaaValidI
namespace Go.Proofs.Ytikolopdkjocgaa.Cl
open Go.RowKit
open Go.Proofs.Ytikolopdkjocgaa.Num Go.Proofs.Ytikolopdkjocgaa.Mem Go.Proofs.Ytikolopdkjocgaa.Hsh Go.Proofs.Ytikolopdkjocgaa.Sls Go.Proofs.Ytikolopdkjocgaa.Scn Go.Proofs.Ytikolopdkjocgaa.Own Go.Proofs.Ytikolopdkjocgaa.Cur
set_option linter.unusedSimpArgs false
set_option linter.unusedVariables false
def RetAddI (w : World) (n : Nat) (zs : List Int) (x : Ending) (w' : World) : Prop :=
  ∃ (m : Nat) (ys : List Int) (A : Option Addr) (c : Nat), (m = n ∨ m = n + 1) ∧ (validS zs n → validS ys m) ∧ x = .returned (.slice A m c) ∧ w'.ownsRow w.heap.size 30 4 (.slice A m c) m (ys.map (Value.int .i64)) ∧ Below w.heap.size w w'
theorem own_drewN {w : World} {base n : Nat} {e : TypeId} {sz : Nat} {v : Value} {xs : List Value} (h : w.ownsRow base e sz v n xs) (k : Nat) : (w.drewN k).ownsRow base e sz v n xs := h
theorem rd_emp (w : World) (A : Option Addr) : Mem.Rd w 4 A 0 0 [] := ⟨rfl, Nat.le_refl _, by unfold maxLen; omega, fun _ => rfl, fun h => absurd h (by simp)⟩
theorem rd_drop_ne {w : World} {g n c j : Nat} {zs : List Int} (h : Mem.Rd w 4 (some ⟨g, 0, none⟩) n c (zs.map (Value.int .i64))) (hj : j ≤ n) (hc : ¬ c = j) : Mem.Rd w 4 (some ⟨g, j * 4, none⟩) (n - j) (c - j) ((zs.drop (j * 4)).map (Value.int .i64)) := by
  have := rd_drop h hj
  rw [if_neg hc] at this
  exact this
set_option maxHeartbeats 4000000 in
theorem addI_any (A : Option Addr) (n c : Nat) (zs : List Int) (x0 x1 x2 x3 : Int) (w : World) (hr : Rd w 4 A n c (zs.map (Value.int .i64))) (hn : n ≤ 100) (hA : (∃ g, A = some ⟨g, 0, none⟩) ∨ (A = none ∧ n = 0 ∧ c = 0)) :
    Calls Try.prog 13 #[.slice A n c, .agg #[.int .i64 x0, .int .i64 x1, .int .i64 x2, .int .i64 x3]] w (RetAddI w n zs) := by
  obtain ⟨i0, hi, hz0, hz1, hz2⟩ := info_parts scanInfo
  have HR := Lib.hid hr
  have HA := Lib.hid hA
  have hl := Lib.hid (show zs.length = n * 4 by have := hr.1; simpa using this)
  have B : Below w.heap.size w w := Below.refl _ _
  clear hr hA
  go_enter Try.func13, Try.ntmps13
  go_wp2_with fail
  generalize hW : World.alloc _ _ = w1
  have be : Bk.Blk w1 (w.heap.size) 30 #[.int .i64 x0, .int .i64 x1, .int .i64 x2, .int .i64 x3] := (by rw [← hW]; apply Bk.Blk.to; (focus ((repeat (first | with_reducible assumption | (with_reducible apply Bk.Blk.newAt; focus (first | (simp [Bk.size_set]; done) | (simp [Bk.size_set]; omega))) | with_reducible apply Bk.Blk.drewN | with_reducible apply Bk.Blk.drew | with_reducible apply Bk.Blk.set_ | (with_reducible apply Bk.Blk.far; focus (dsimp only; first | omega | (simp; omega) | (simp; done))) | with_reducible apply Bk.Blk.alloc)))); rfl)
  replace B : Below w.heap.size w w1 := (by rw [← hW]; go_grown)
  have z1 : w1.heap.size = _ := congrArg (fun W : World => W.heap.size) hW.symm
  (try simp only [World.size_alloc, Bk.size_set, World.size_drew, World.drewN] at z1)
  clear hW
  refine (copyScan_any A n c zs _ (HR.out.below B) (by omega)).mono ?_
  rintro x w2 ⟨A1, c1, rfl, ho, hb0⟩
  have HO := Lib.hid ho
  replace be : Bk.Blk w2 (w.heap.size) 30 #[.int .i64 x0, .int .i64 x1, .int .i64 x2, .int .i64 x3] := Bk.Blk.under hb0 (by (repeat (first | with_reducible assumption | (with_reducible apply Bk.Blk.newAt; focus (first | (simp [Bk.size_set]; done) | (simp [Bk.size_set]; omega))) | with_reducible apply Bk.Blk.drewN | with_reducible apply Bk.Blk.drew | with_reducible apply Bk.Blk.set_ | (with_reducible apply Bk.Blk.far; focus (dsimp only; first | omega | (simp; omega) | (simp; done))) | with_reducible apply Bk.Blk.alloc)))
  replace B : Below w.heap.size w w2 := Below.trans (by go_grown) (hb0.mono (by first | omega | (simp [Bk.size_set]; done) | (simp [Bk.size_set]; omega)))
  have z2 := hb0.size
  (try simp only [World.size_alloc, Bk.size_set, World.size_drew, World.drewN] at z2)
  clear hb0
  clear ho
  have L_be := Lay.f4 be
  go_upto_block 0 with fail
  go_cut [6] (fun v6 wr => ∃ (f : Bool) (ys : List Int), v6 = .bool f ∧ wr.ownsRow w1.heap.size 30 4 (.slice A1 n c1) n (ys.map (Value.int .i64)) ∧ Bk.Blk wr w.heap.size 30 #[.int .i64 x0, .int .i64 x1, .int .i64 x2, .int .i64 x3] ∧ Below w.heap.size w wr)
  case first =>
    go_wp2_with fail
    go_loopw [6, 13] (fun v6 v13 wr => ∃ k : Nat, k ≤ n ∧ v6 = .bool false ∧ v13 = .int .i64 (k : Int) ∧ ∃ N : Nat, wr = w2.drewN N) (fun _ v13 _ => n - (intOf v13).toNat)
    case atStart => exact ⟨0, Nat.zero_le _, rfl, rfl, 0, rfl⟩
    case round =>
      obtain ⟨k, hk, rfl, rfl, N, rfl⟩ := hrel
      by_cases hlt : k < n
      · obtain ⟨g, rfl, hg1, hg2⟩ := own_form HO.out (by omega)
        have d0 := own_cell4 HO.out hlt 0 (by omega)
        have d1 := own_cell4 HO.out hlt 1 (by omega)
        have d2 := own_cell4 HO.out hlt 2 (by omega)
        have d3 := own_cell4 HO.out hlt 3 (by omega)
        rw [Nat.add_zero] at d0
        have p0 := HO.out.frozenAt (k * 4)
        have p1 := HO.out.frozenAt (k * 4 + 1)
        have p2 := HO.out.frozenAt (k * 4 + 2)
        have p3 := HO.out.frozenAt (k * 4 + 3)
        have i1 : (k : Int) < (n : Int) := by omega
        have i2 : (0 : Int) ≤ (k : Int) := by omega
        by_cases h1 : fld zs k 0 = x0
        · have e1 : (fld zs k 0 == x0) = true := by simpa using h1
          clear h1
          generalize hf : fld zs k 0 = f0 at d0 e1
          clear hf
          go_wp2_with fail
          go_quiet (fail)
          go_wp2_with fail
          clear L_be
          generalize hW : World.setCell _ _ _ = w3
          have own3 : w3.ownsRow (w1.heap.size) 30 4 (.slice (some ⟨g, 0, none⟩) n c1) n ((set4 zs k x0 x1 x2 x3).map (Value.int .i64)) := by rw [← hW]; exact own_set4at (own_drewN HO.out _) x0 x1 x2 x3
          replace be : Bk.Blk w3 (w.heap.size) 30 #[.int .i64 x0, .int .i64 x1, .int .i64 x2, .int .i64 x3] := (by rw [← hW]; (repeat (first | with_reducible assumption | (with_reducible apply Bk.Blk.newAt; focus (first | (simp [Bk.size_set]; done) | (simp [Bk.size_set]; omega))) | with_reducible apply Bk.Blk.drewN | with_reducible apply Bk.Blk.drew | with_reducible apply Bk.Blk.set_ | (with_reducible apply Bk.Blk.far; focus (dsimp only; first | omega | (simp; omega) | (simp; done))) | with_reducible apply Bk.Blk.alloc)))
          replace B : Below w.heap.size w w3 := by rw [← hW]; exact ((((Sls.below_drewN B _).setCell (by first | omega | (dsimp only; omega)) _).setCell (by first | omega | (dsimp only; omega)) _).setCell (by first | omega | (dsimp only; omega)) _).setCell (by first | omega | (dsimp only; omega)) _
          clear hW d0 d1 d2 d3 p0 p1 p2 p3
          go_meet
          exact ⟨true, set4 zs k x0 x1 x2 x3, rfl, own3, be, B⟩
        · have e1 : (fld zs k 0 == x0) = false := by simpa using h1
          clear h1
          generalize hf : fld zs k 0 = f0 at d0 e1
          clear hf
          go_wp2_with fail
          go_quiet (fail)
          go_wp2_with fail
          go_roundw
          case rel => exact ⟨k + 1, by omega, rfl, by go_num, _, rfl⟩
          case measure => simp [intOf]; omega
      · obtain rfl : k = n := by omega
        go_wp2_with fail
        go_meet
        exact ⟨false, zs, rfl, own_drewN HO.out _, be.drewN _, Sls.below_drewN B _⟩
  case rest =>
    obtain ⟨w4, hw4⟩ : ∃ W, W = wc := ⟨_, rfl⟩
    subst hw4
    have z2 := B.size
    clear HO B be L_be
    obtain ⟨f, ys, rfl, ho, be, B⟩ := hcut
    have z4 := B.size
    have HO := Lib.hid ho
    have z5 : w.heap.size + 1 = w1.heap.size := z1.symm
    clear ho
    have L_be := Lay.f4 be
    go_upto_if 30 with fail
    go_cut [5] (fun v5 wr => ∃ (m : Nat) (ys : List Int) (A9 : Option Addr) (c9 : Nat), (m = n ∨ m = n + 1) ∧ v5 = .slice A9 m c9 ∧ wr.ownsRow w1.heap.size 30 4 (.slice A9 m c9) m (ys.map (Value.int .i64)) ∧ Below w.heap.size w wr)
    case first =>
      cases f
      · go_upto_block 2 with fail
        go_cut [8] (fun v8 wr => ∃ j : Nat, j ≤ n ∧ v8 = .int .i64 (j : Int) ∧ ∃ N : Nat, wr = w4.drewN N)
        case first =>
          go_wp2_with fail
          go_loopw [8] (fun v8 wr => ∃ j : Nat, j ≤ n ∧ v8 = .int .i64 (j : Int) ∧ ∃ N : Nat, wr = w4.drewN N) (fun v8 _ => n - (intOf v8).toNat)
          case atStart => exact ⟨0, Nat.zero_le _, rfl, 0, rfl⟩
          case round =>
            obtain ⟨j, hj, rfl, N, rfl⟩ := hrel
            by_cases hlt : j < n
            · obtain ⟨g, o, rfl, hg, d0, d1, d2, d3⟩ := ent_at (HR.out.below B) hlt
              clear HA
              have i1 : (j : Int) < (n : Int) := by omega
              have i2 : (0 : Int) ≤ (j : Int) := by omega
              by_cases hcmp : fld zs j 0 < x0
              · generalize fld zs j 0 = f0 at *
                go_wp2_with fail
                go_quiet (fail)
                go_wp2_with fail
                go_roundw
                case rel => exact ⟨j + 1, by omega, by go_num, _, rfl⟩
                case measure => simp [intOf]; omega
              · generalize fld zs j 0 = f0 at *
                have hc2 : decide (f0 < x0) = false := by simpa using hcmp
                go_wp2_with fail
                go_quiet (fail)
                go_wp2_with fail
                go_meet
                exact ⟨j, by omega, rfl, _, World.drewN_drewN _ _ _⟩
            · obtain rfl : j = n := by omega
              have i3 : decide ((j : Int) < (j : Int)) = false := by simp
              go_wp2_with fail
              go_quiet (fail)
              go_wp2_with fail
              go_meet
              exact ⟨j, Nat.le_refl _, rfl, _, World.drewN_drewN _ _ _⟩
        case rest =>
          obtain ⟨j, hj, rfl, N, rfl⟩ := hcut
          have be5 : Bk.Blk (w4.drewN N) w.heap.size 30 #[.int .i64 x0, .int .i64 x1, .int .i64 x2, .int .i64 x3] := be.drewN N
          have B5 : Below w.heap.size w (w4.drewN N) := Sls.below_drewN B N
          have z45 : w4.heap.size ≤ (w4.drewN N).heap.size := by simp only [World.drewN]; omega
          clear L_be be B HO
          generalize w4.drewN N = w5 at *
          have be := be5
          have B := B5
          clear be5 B5
          have i1 : (j : Int) ≤ (n : Int) := by omega
          have i2 : (0 : Int) ≤ (j : Int) := by omega
          have L_be := Lay.f4 be
          rcases HA.out with ⟨g, rfl⟩ | ⟨rfl, rfl, rfl⟩
          · have HR5 := Lib.hid (HR.out.below B)
            have zbe := be.lt
            have hcn : n ≤ c := HR5.out.2.1
            have i3 : (j : Int) ≤ (c : Int) := by omega
            clear HA
            by_cases hcj : c = j
            · obtain rfl : n = j := by omega
              subst hcj
              have hlz := hl.out
              have HZ2 := Lib.hid (show zs.take (c * 4) = zs from List.take_of_length_le (by omega))
              clear hlz
              go_wp2_with (at_make; refine wpList_make_own _ rfl _ _ 24 rfl w5.heap.size 30 i0 (.agg #[.int .i64 0, .int .i64 0, .int .i64 0, .int .i64 0]) 4 Try.underlying24 hi hz0 hz1 _ _ _ (c + 1) rfl rfl (by go_num) (by rw [hz2]; omega) (by unfold maxLen; omega) (Nat.le_refl _) ?_)
              intro w6 hown6 hgrow6
              have B6 : Below w5.heap.size w5 w6 := (Below.refl _ _).grown hgrow6 (Nat.le_refl _) (fun k h => by cases h)
              replace be : Bk.Blk w6 w.heap.size 30 #[.int .i64 x0, .int .i64 x1, .int .i64 x2, .int .i64 x3] := be.under B6
              have z6 := B6.size
              have HO6 := Lib.hid hown6
              clear hgrow6 hown6 L_be
              have L_be := Lay.f4 be
              go_wp2_with (at_builtin; refine wpl_app _ rfl _ _ 24 rfl w5.heap.size 30 i0 (.agg #[.int .i64 0, .int .i64 0, .int .i64 0, .int .i64 0]) 4 32 Try.underlying24 hi hz0 hz1 hz2 rfl (by decide) _ _ _ _ rfl HO6.out _ _ _ _ rfl ((rd_take HR5.out hj).below B6) (by first | exact cells_one _ | (simp; done)) (by unfold maxLen; omega) (by omega) (by first | omega | (simp; done) | (simp; omega)) ?_)
              intro A7 c7 w7 hown7 hg7 hat7
              (try simp only [Nat.zero_add, List.nil_append] at hown7)
              have hP := own_ge HO6.out
              have B7 : Below w5.heap.size w5 w7 := Mem.below_app B6 hg7 B6.size hP
              clear L_be
              replace be : Bk.Blk w7 w.heap.size 30 #[.int .i64 x0, .int .i64 x1, .int .i64 x2, .int .i64 x3] := blk_grown hg7 (by intro h; have := hP _ h.symm; omega) be
              have HO7 := Lib.hid hown7
              clear hg7 hown7 hat7 HO6 hP B6
              have L_be := Lay.f4 be
              have z7 := B7.size
              go_wp2_with (at_builtin; refine wpl_app _ rfl _ _ 24 rfl w5.heap.size 30 i0 (.agg #[.int .i64 0, .int .i64 0, .int .i64 0, .int .i64 0]) 4 32 Try.underlying24 hi hz0 hz1 hz2 rfl (by decide) _ _ _ _ rfl (own_alloc HO7.out _) _ _ _ _ rfl (rd_fresh rfl) (by first | exact cells_one _ | (simp; done)) (by unfold maxLen; omega) (by omega) (by first | omega | (simp; done) | (simp; omega)) ?_)
              intro A8 c8 w8 hown8 hg8 hat8
              have hP := own_ge HO7.out
              have B8 : Below w5.heap.size w5 w8 := Mem.below_app (B7.alloc B7.size _) hg8 (by simp; omega) hP
              clear L_be
              have HO8 := Lib.hid hown8
              clear hg8 hown8 hat8 HO7 hP B7 be
              have z8 := B8.size
              go_wp2_with (at_builtin; refine wpl_app _ rfl _ _ 24 rfl w5.heap.size 30 i0 (.agg #[.int .i64 0, .int .i64 0, .int .i64 0, .int .i64 0]) 4 32 Try.underlying24 hi hz0 hz1 hz2 rfl (by decide) _ _ _ _ rfl HO8.out _ _ _ _ rfl (by first | exact rd_emp _ _ | (simpa using rd_emp _ _)) (by first | exact cells_one _ | (simp; done)) (by unfold maxLen; omega) (by omega) (by first | omega | (simp; done) | (simp; omega)) ?_)
              intro A9 c9 w9 hown9 hg9 hat9
              have hP := own_ge HO8.out
              have B9 : Below w5.heap.size w5 w9 := Mem.below_app B8 hg9 B8.size hP
              have e9 : c + 1 + (c - c) = c + 1 := (by omega)
              (try simp only [Nat.add_zero, Nat.zero_add, Nat.sub_self, e9] at hown9 ⊢)
              have HO9 := Lib.hid hown9
              clear hg9 hown9 hat9 HO8 hP B8 e9
              go_wp2_with fail
              go_meet
              exact ⟨c + 1, zs ++ [x0, x1, x2, x3], A9, c9, .inr rfl, rfl, ownsRow_mono (by have := HO9.out; rw [← List.map_take, HZ2.out] at this; simpa using this) (by omega), B.trans (B9.mono (by omega))⟩
            · have hcj2 : ¬ c = j := hcj
              go_wp2_with (at_make; refine wpList_make_own _ rfl _ _ 24 rfl w5.heap.size 30 i0 (.agg #[.int .i64 0, .int .i64 0, .int .i64 0, .int .i64 0]) 4 Try.underlying24 hi hz0 hz1 _ _ _ (n + 1) rfl rfl (by go_num) (by rw [hz2]; omega) (by unfold maxLen; omega) (Nat.le_refl _) ?_)
              intro w6 hown6 hgrow6
              have B6 : Below w5.heap.size w5 w6 := (Below.refl _ _).grown hgrow6 (Nat.le_refl _) (fun k h => by cases h)
              replace be : Bk.Blk w6 w.heap.size 30 #[.int .i64 x0, .int .i64 x1, .int .i64 x2, .int .i64 x3] := be.under B6
              have z6 := B6.size
              have HO6 := Lib.hid hown6
              clear hgrow6 hown6 L_be
              have L_be := Lay.f4 be
              go_wp2_with (at_builtin; refine wpl_app _ rfl _ _ 24 rfl w5.heap.size 30 i0 (.agg #[.int .i64 0, .int .i64 0, .int .i64 0, .int .i64 0]) 4 32 Try.underlying24 hi hz0 hz1 hz2 rfl (by decide) _ _ _ _ rfl HO6.out _ _ _ _ rfl ((rd_take HR5.out hj).below B6) (by first | exact cells_one _ | (simp; done)) (by unfold maxLen; omega) (by omega) (by first | omega | (simp; done) | (simp; omega)) ?_)
              intro A7 c7 w7 hown7 hg7 hat7
              (try simp only [Nat.zero_add, List.nil_append] at hown7)
              have hP := own_ge HO6.out
              have B7 : Below w5.heap.size w5 w7 := Mem.below_app B6 hg7 B6.size hP
              clear L_be
              replace be : Bk.Blk w7 w.heap.size 30 #[.int .i64 x0, .int .i64 x1, .int .i64 x2, .int .i64 x3] := blk_grown hg7 (by intro h; have := hP _ h.symm; omega) be
              have HO7 := Lib.hid hown7
              clear hg7 hown7 hat7 HO6 hP B6
              have L_be := Lay.f4 be
              have z7 := B7.size
              go_wp2_with (at_builtin; refine wpl_app _ rfl _ _ 24 rfl w5.heap.size 30 i0 (.agg #[.int .i64 0, .int .i64 0, .int .i64 0, .int .i64 0]) 4 32 Try.underlying24 hi hz0 hz1 hz2 rfl (by decide) _ _ _ _ rfl (own_alloc HO7.out _) _ _ _ _ rfl (rd_fresh rfl) (by first | exact cells_one _ | (simp; done)) (by unfold maxLen; omega) (by omega) (by first | omega | (simp; done) | (simp; omega)) ?_)
              intro A8 c8 w8 hown8 hg8 hat8
              have hP := own_ge HO7.out
              have B8 : Below w5.heap.size w5 w8 := Mem.below_app (B7.alloc B7.size _) hg8 (by simp; omega) hP
              clear L_be
              have HO8 := Lib.hid hown8
              clear hg8 hown8 hat8 HO7 hP B7 be
              have z8 := B8.size
              go_wp2_with (at_builtin; refine wpl_app _ rfl _ _ 24 rfl w5.heap.size 30 i0 (.agg #[.int .i64 0, .int .i64 0, .int .i64 0, .int .i64 0]) 4 32 Try.underlying24 hi hz0 hz1 hz2 rfl (by decide) _ _ _ _ rfl HO8.out _ _ _ _ rfl ((rd_drop_ne HR5.out hj hcj).below B8) (by first | exact cells_one _ | (simp; done)) (by unfold maxLen; omega) (by omega) (by first | omega | (simp; done) | (simp; omega)) ?_)
              intro A9 c9 w9 hown9 hg9 hat9
              have hP := own_ge HO8.out
              have B9 : Below w5.heap.size w5 w9 := Mem.below_app B8 hg9 B8.size hP
              have e9 : j + 1 + (n - j) = n + 1 := (by omega)
              (try simp only [Nat.add_zero, Nat.zero_add, Nat.sub_self, e9] at hown9 ⊢)
              have HO9 := Lib.hid hown9
              clear hg9 hown9 hat9 HO8 hP B8 e9
              go_wp2_with fail
              go_meet
              exact ⟨n + 1, ins4 zs j x0 x1 x2 x3, A9, c9, .inr rfl, rfl, ownsRow_mono (by simpa [ins4] using HO9.out) (by omega), B.trans (B9.mono (by omega))⟩
          · obtain rfl : j = 0 := by omega
            have zbe := be.lt
            have HZ0 := Lib.hid (show zs = [] from List.eq_nil_of_length_eq_zero (by have := hl.out; omega))
            clear HA
            go_wp2_with (at_make; refine wpList_make_own _ rfl _ _ 24 rfl w5.heap.size 30 i0 (.agg #[.int .i64 0, .int .i64 0, .int .i64 0, .int .i64 0]) 4 Try.underlying24 hi hz0 hz1 _ _ _ (0 + 1) rfl rfl (by go_num) (by rw [hz2]; omega) (by unfold maxLen; omega) (Nat.le_refl _) ?_)
            intro w6 hown6 hgrow6
            have B6 : Below w5.heap.size w5 w6 := (Below.refl _ _).grown hgrow6 (Nat.le_refl _) (fun k h => by cases h)
            replace be : Bk.Blk w6 w.heap.size 30 #[.int .i64 x0, .int .i64 x1, .int .i64 x2, .int .i64 x3] := be.under B6
            have z6 := B6.size
            have HO6 := Lib.hid hown6
            clear hgrow6 hown6 L_be
            have L_be := Lay.f4 be
            go_wp2_with (at_builtin; refine wpl_app _ rfl _ _ 24 rfl w5.heap.size 30 i0 (.agg #[.int .i64 0, .int .i64 0, .int .i64 0, .int .i64 0]) 4 32 Try.underlying24 hi hz0 hz1 hz2 rfl (by decide) _ _ _ _ rfl HO6.out _ _ _ _ rfl (Mem.Rd.nil_ _ _) (by first | exact cells_one _ | (simp; done)) (by unfold maxLen; omega) (by omega) (by first | omega | (simp; done) | (simp; omega)) ?_)
            intro A7 c7 w7 hown7 hg7 hat7
            (try simp only [Nat.zero_add, List.nil_append] at hown7)
            have hP := own_ge HO6.out
            have B7 : Below w5.heap.size w5 w7 := Mem.below_app B6 hg7 B6.size hP
            clear L_be
            replace be : Bk.Blk w7 w.heap.size 30 #[.int .i64 x0, .int .i64 x1, .int .i64 x2, .int .i64 x3] := blk_grown hg7 (by intro h; have := hP _ h.symm; omega) be
            have HO7 := Lib.hid hown7
            clear hg7 hown7 hat7 HO6 hP B6
            have L_be := Lay.f4 be
            have z7 := B7.size
            go_wp2_with (at_builtin; refine wpl_app _ rfl _ _ 24 rfl w5.heap.size 30 i0 (.agg #[.int .i64 0, .int .i64 0, .int .i64 0, .int .i64 0]) 4 32 Try.underlying24 hi hz0 hz1 hz2 rfl (by decide) _ _ _ _ rfl (own_alloc HO7.out _) _ _ _ _ rfl (rd_fresh rfl) (by first | exact cells_one _ | (simp; done)) (by unfold maxLen; omega) (by omega) (by first | omega | (simp; done) | (simp; omega)) ?_)
            intro A8 c8 w8 hown8 hg8 hat8
            have hP := own_ge HO7.out
            have B8 : Below w5.heap.size w5 w8 := Mem.below_app (B7.alloc B7.size _) hg8 (by simp; omega) hP
            clear L_be
            have HO8 := Lib.hid hown8
            clear hg8 hown8 hat8 HO7 hP B7 be
            have z8 := B8.size
            go_wp2_with (at_builtin; refine wpl_app _ rfl _ _ 24 rfl w5.heap.size 30 i0 (.agg #[.int .i64 0, .int .i64 0, .int .i64 0, .int .i64 0]) 4 32 Try.underlying24 hi hz0 hz1 hz2 rfl (by decide) _ _ _ _ rfl HO8.out _ _ _ _ rfl (Mem.Rd.nil_ _ _) (by first | exact cells_one _ | (simp; done)) (by unfold maxLen; omega) (by omega) (by first | omega | (simp; done) | (simp; omega)) ?_)
            intro A9 c9 w9 hown9 hg9 hat9
            have hP := own_ge HO8.out
            have B9 : Below w5.heap.size w5 w9 := Mem.below_app B8 hg9 B8.size hP
            have e9 : 0 + 1 + (0 - 0) = 0 + 1 := (by omega)
            (try simp only [Nat.add_zero, Nat.zero_add, Nat.sub_self, e9] at hown9 ⊢)
            have HO9 := Lib.hid hown9
            clear hg9 hown9 hat9 HO8 hP B8 e9
            go_wp2_with fail
            go_meet
            exact ⟨0 + 1, [x0, x1, x2, x3], A9, c9, .inr rfl, rfl, ownsRow_mono (by have := HO9.out; simpa using this) (by omega), B.trans (B9.mono (by omega))⟩
      · go_wp2_with fail
        go_meet
        exact ⟨n, ys, A1, c1, .inl rfl, rfl, HO.out, B⟩
    case rest =>
      obtain ⟨w10, hw10⟩ : ∃ W, W = wc := ⟨_, rfl⟩
      subst hw10
      clear HO B be L_be z4
      obtain ⟨m, ys', A9, c9, hm, rfl, ho, B⟩ := hcut
      have zB := B.size
      have HO := Lib.hid ho
      clear ho
      go_wp2_with fail
      refine (valid_impl _ m _ ys' _ (Rd.of_own HO.out)).mono ?_
      rintro x wv ⟨b, hbv, rfl, hb0⟩
      have HO3 := Lib.hid (own_below HO.out hb0)
      replace B : Below w.heap.size w wv := Below.trans B (hb0.mono (by omega))
      have HV := Lib.hid hbv
      clear hb0 hbv HO
      cases b
      · have zv := B.size
        go_wp2_with fail
        refine (copyScan_any A n c zs _ (HR.out.below B) (by omega)).mono ?_
        rintro x w11 ⟨A2, c2, rfl, ho2, hb0⟩
        have HO4 := Lib.hid ho2
        replace B : Below w.heap.size w w11 := Below.trans B (hb0.mono (by omega))
        clear ho2 hb0
        go_wp2
        go_ret
        exact ⟨n, zs, A2, c2, .inl rfl, fun h => h, rfl, ownsRow_mono HO4.out (by omega), B⟩
      · go_wp2
        go_ret
        exact ⟨m, ys', A9, c9, hm, fun _ => (by have := HV.out; simpa using this), rfl, ownsRow_mono HO3.out (by omega), B⟩
end Go.Proofs.Ytikolopdkjocgaa.Cl
