/- The walk of the law on the choice of an access point: it has been heard recently and has the best score, and a change needs a clear advantage. -/
import Derived.Test.YtikolopdkjocgaaAddI
import Derived.Test.YtikolopdkjocgaaSwitch
import Derived.Test.YtikolopdkjocgaaValidS
import Derived.Test.YtikolopdkjocgaaAt
import Derived.Outline
import Derived.Deep.DeepCutAuto
namespace Go.Proofs.Ytikolopdkjocgaa.Cl
open Go.RowKit
open Go.Proofs.Ytikolopdkjocgaa.Num Go.Proofs.Ytikolopdkjocgaa.Mem Go.Proofs.Ytikolopdkjocgaa.Hsh Go.Proofs.Ytikolopdkjocgaa.Sls Go.Proofs.Ytikolopdkjocgaa.Scn Go.Proofs.Ytikolopdkjocgaa.Own Go.Proofs.Ytikolopdkjocgaa.Cur
set_option linter.unusedSimpArgs false
set_option linter.unusedVariables false
set_option maxHeartbeats 1000000 in
theorem contains_yes (A : Option Addr) (n c : Nat) (zs : List Int) (x : Int) (w : World) (hr : Rd w 1 A n c (zs.map (Value.int .i64))) (hx : x ∈ zs) :
    Calls Try.prog 14 #[.slice A n c, .int .i64 x] w fun e w' => e = .returned (.bool true) ∧ w = w' := by
  have HR := Lib.hid hr
  have hl := Lib.hid (len_ints hr)
  have HX := Lib.hid hx
  have hn : n ≤ 9223372036854775807 := by have h1 := hr.2.1; have h2 := hr.2.2.1; unfold maxLen at h2; omega
  clear hr hx
  go_enter Try.func14, Try.ntmps14
  go_wp2
  go_loop [5] (fun v5 => ∃ k : Nat, k ≤ n ∧ v5 = .int .i64 (k : Int) ∧ x ∈ zs.drop k) (fun v5 => n - (intOf v5).toNat)
  case atStart => exact ⟨0, Nat.zero_le _, rfl, HX.out⟩
  case round =>
    obtain ⟨k, hk, rfl, hx⟩ := hrel
    by_cases hlt : k < n
    · obtain ⟨g, o, rfl, hg, c0⟩ := HR.out.int_at (j := k) hlt
      have hd : zs.drop k = zs.getD k 0 :: zs.drop (k + 1) := by
        rw [List.drop_eq_getElem_cons (by rw [hl.out]; exact hlt), List.getD_eq_getElem?_getD, List.getElem?_eq_getElem (by rw [hl.out]; exact hlt)]
        rfl
      rw [hd] at hx
      generalize zs.getD k 0 = z at *
      have HH := Lib.hid hx
      clear hd hx
      by_cases h1 : z = x
      · have e1 : (z == x) = true := by simpa using h1
        clear h1
        go_wp2
        go_ret
        exact ⟨rfl, rfl⟩
      · have e1 : (z == x) = false := by simpa using h1
        have HM := Lib.hid ((List.mem_cons.1 HH.out).resolve_left (fun e => h1 e.symm))
        clear h1
        go_wp2
        go_round
        case rel => exact ⟨k + 1, by omega, by go_num, HM.out⟩
        case measure => simp [intOf]; omega
    · rw [List.drop_eq_nil_of_le (by rw [hl.out]; omega)] at hx
      cases hx
theorem own_or {w : World} {base n c : Nat} {e : TypeId} {sz : Nat} {A : Option Addr} {xs : List Value} (h : w.ownsRow base e sz (.slice A n c) n xs) : (∃ g, A = some ⟨g, 0, none⟩) ∨ (A = none ∧ n = 0 ∧ c = 0) := by
  obtain ⟨_, h2⟩ := h
  rcases h2 with ⟨hv, hn⟩ | ⟨g, cap, cur, hv, _⟩
  · simp only [Value.slice.injEq] at hv
    exact .inr ⟨hv.1, hn, hv.2.2⟩
  · simp only [Value.slice.injEq, true_and] at hv
    exact .inl ⟨g, hv.1⟩
theorem seen_yes {zs : List Int} {t : Int} {k : Nat} (h : t ≤ fld zs k 3) : scS zs (seenP zs t) (k + 1) = maxI (scS zs (seenP zs t) k) (scoreM (fld zs k 1) (fld zs k 2)) := scS_yes (by simp [seenP, h])
theorem seen_no {zs : List Int} {t : Int} {k : Nat} (h : ¬ t ≤ fld zs k 3) : scS zs (seenP zs t) (k + 1) = scS zs (seenP zs t) k := scS_no (by simp only [seenP, decide_eq_false_iff_not]; exact h)
/-- the two answers on validity, told as one number -/
theorem says_v {zs : List Int} {n : Nat} {f : FuncId} {args : Array Value} {w : World} (b : Bool) (hb : b = true ↔ validS zs n) (h : Calls Try.prog f args w (SaysV zs n w)) : Calls Try.prog f args w fun x w' => x = .returned (.bool b) ∧ Below w.heap.size w w' :=
  h.mono fun x w' ⟨b', h1, h2, h3⟩ => ⟨by rw [h2]; congr 2; cases b <;> cases b' <;> simp_all, h3⟩
set_option maxRecDepth 100000 in
set_option maxHeartbeats 16000000 in
theorem choice_law (A : Option Addr) (n c : Nat) (zs : List Int) (w : World) (hrow : RowIn .u8 w A n c zs) :
    Calls Try.prog 3 #[.slice A n c] w fun e w' => e = .returned (.bool true) ∧ Below w.heap.size w w' := by
  have HR := Lib.hid hrow.1
  have HB := Lib.hid (bytes_of_row hrow)
  have B : Below w.heap.size w w := Below.refl _ _
  clear hrow
  by_cases hbig : 1048576 < (n : Int)
  · go_enter Try.func3, Try.ntmps3
    go_wp2_with (first | (go_at_call 5; refine (big_any _ _ _ _).mono ?_; rintro e w' ⟨rfl, rfl⟩))
    go_ret
    exact ⟨rfl, B⟩
  · have hn : n ≤ 1048576 := by omega
    go_enter Try.func3, Try.ntmps3
    go_wp2_with (first | (go_at_call 5; refine (big_any _ _ _ _).mono ?_; rintro e w' ⟨rfl, rfl⟩))
    refine (drawSwitch_any A n c zs _ HR.out HB.out (by omega)).mono ?_
    rintro x w1 ⟨m, ys, L, d, cur, x, y, hm, hys, hcur, hx, hy, ho, rfl, hb0⟩
    have HRL := Lib.hid (Rd.of_own ho)
    have HA := Lib.hid (own_or ho)
    replace B : Below w.heap.size w w1 := Below.trans (by go_grown) (hb0.mono (by first | omega | (simp [Bk.size_set]; done) | (simp [Bk.size_set]; omega)))
    have z1 := hb0.size
    (try simp only [World.size_alloc, Bk.size_set, World.size_drew, World.drewN] at z1)
    clear hb0
    clear hys hcur hx hy ho HR HB hn hbig
    have HBW := Lib.hid B
    clear B
    go_wp2_with fail
    refine (choose_impl best_impl L m d ys x y _ HRL.out).mono ?_
    rintro x' w2 ⟨rfl, B1⟩
    go_wp2_with fail
    refine (switch_impl L m d ys cur x y _ (HRL.out.below B1)).mono ?_
    rintro x' w3 ⟨rfl, hb⟩
    replace B1 := stepB B1 hb B1.size
    clear hb
    have HY := Lib.hid (switch_law ys cur (wrap64 (x - y)) m)
    have HX := Lib.hid (choose_law ys (wrap64 (x - y)) m)
    have HSW := Lib.hid (switch_spec L m d ys cur x y)
    generalize switchM ys cur (wrap64 (x - y)) m = Y at *
    generalize chooseM ys (wrap64 (x - y)) m = X at *
    go_wp2_with fail
    go_loopw [9, 10, 11] (fun v9 v10 v11 wr => ∃ k : Nat, k ≤ m ∧ v9 = .int .i64 (scS ys (seenP ys (wrap64 (x - y))) k) ∧ v10 = .int .i64 (scS ys (mineP ys cur (wrap64 (x - y))) k) ∧ v11 = .int .i64 (k : Int) ∧ Below w1.heap.size w1 wr) (fun _ _ v11 _ => m - (intOf v11).toNat)
    case atStart => exact ⟨0, Nat.zero_le _, rfl, rfl, rfl, B1⟩
    case round =>
      clear B1
      obtain ⟨k, hk, rfl, rfl, rfl, B1⟩ := hrel
      by_cases hlt : k < m
      · obtain ⟨g, o, rfl, hg, c0, c1, c2, c3⟩ := ent_at (HRL.out.below B1) hlt
        have HSY := Lib.hid (@seen_yes ys (wrap64 (x - y)) k)
        have HSN := Lib.hid (@seen_no ys (wrap64 (x - y)) k)
        have HMY := Lib.hid (@mine_yes ys cur (wrap64 (x - y)) k)
        have HMN := Lib.hid (@mine_no ys cur (wrap64 (x - y)) k)
        have HS := Lib.hid (score_impl (fld ys k 0) (fld ys k 1) (fld ys k 2) (fld ys k 3))
        generalize scS ys (seenP ys (wrap64 (x - y))) k = sk at *
        generalize scS ys (mineP ys cur (wrap64 (x - y))) k = mk at *
        generalize fld ys k 0 = f0 at *
        generalize fld ys k 1 = f1 at *
        generalize fld ys k 2 = f2 at *
        generalize fld ys k 3 = f3 at *
        generalize scoreM f1 f2 = sc at *
        by_cases h2 : wrap64 (x - y) ≤ f3
        · have HF := Lib.hid (HSY.out h2)
          by_cases h1 : f0 = cur
          · have e1 : (f0 == cur) = true := by simpa using h1
            have HG := Lib.hid (HMY.out h1 h2)
            clear HSY HSN HMY HMN h1
            go_wp2_with fail
            refine (HS.out _).mono ?_
            rintro x' w4 ⟨rfl, hb⟩
            replace c0 := Mem.lift hb c0; replace c1 := Mem.lift hb c1; replace c2 := Mem.lift hb c2; replace c3 := Mem.lift hb c3
            replace B1 := stepB B1 hb B1.size
            clear hb
            go_wp2_with fail
            refine (max_spec _ _ _).mono ?_
            rintro x' w5 ⟨rfl, rfl⟩
            go_wp2_with fail
            refine (HS.out _).mono ?_
            rintro x' w6 ⟨rfl, hb⟩
            replace B1 := stepB B1 hb B1.size
            clear hb c0 c1 c2 c3
            go_wp2_with fail
            refine (max_spec _ _ _).mono ?_
            rintro x' w7 ⟨rfl, rfl⟩
            go_wp2
            go_roundw
            case rel => exact ⟨k + 1, by omega, by rw [HF.out], by rw [HG.out], by go_num, B1⟩
            case measure => simp [intOf]; omega
          · have e1 : (f0 == cur) = false := by simpa using h1
            have HG := Lib.hid (HMN.out (.inl h1))
            clear HSY HSN HMY HMN h1
            go_wp2_with fail
            refine (HS.out _).mono ?_
            rintro x' w4 ⟨rfl, hb⟩
            replace c0 := Mem.lift hb c0; replace c1 := Mem.lift hb c1; replace c2 := Mem.lift hb c2; replace c3 := Mem.lift hb c3
            replace B1 := stepB B1 hb B1.size
            clear hb
            go_wp2_with fail
            refine (max_spec _ _ _).mono ?_
            rintro x' w5 ⟨rfl, rfl⟩
            go_wp2
            go_roundw
            case rel => exact ⟨k + 1, by omega, by rw [HF.out], by rw [HG.out], by go_num, B1⟩
            case measure => simp [intOf]; omega
        · have HF := Lib.hid (HSN.out h2)
          have HG := Lib.hid (HMN.out (.inr (by omega)))
          clear HSY HSN HMY HMN
          go_wp2
          go_roundw
          case rel => exact ⟨k + 1, by omega, by rw [HF.out], by rw [HG.out], by go_num, B1⟩
          case measure => simp [intOf]; omega
      · obtain rfl : k = m := by omega
        generalize scS ys (seenP ys (wrap64 (x - y))) k = best at *
        generalize scS ys (mineP ys cur (wrap64 (x - y))) k = mine at *
        have HY2 : (Y == -1) = true ∨ ((Y == -1) = false ∧ (Y == X) = true ∧ (Y != cur) = true ∧ 0 ≤ best ∧ (mine < 0 ∨ (¬ mine < 0 ∧ wrap64 (mine + 10) ≤ best))) := by
          rcases HY.out with h | ⟨h1, h2, h3, h4, h5⟩
          · exact .inl (by simpa using h)
          · exact .inr ⟨by simpa using h1, by simpa using h2, by simpa using h3, h4, by by_cases h6 : mine < 0; exact .inl h6; exact .inr ⟨h6, by omega⟩⟩
        have HXX : validS ys k → ((X == -1) = true ∧ best < 0) ∨ ((X == -1) = false ∧ ¬ best < 0) := by
          intro hv
          have h := HX.out hv
          by_cases h1 : best < 0
          · exact .inl ⟨by simpa using h.2 h1, h1⟩
          · exact .inr ⟨by simpa using fun h2 => h1 (h.1 h2), h1⟩
        have HM := Lib.hid hm
        have HSC := Lib.hid (show (scoreM 50 1 == 48) = true by decide +kernel)
        have HSE := Lib.hid (score_impl 3 50 1 5)
        generalize scoreM 50 1 = s48 at *
        have e48 : (s48 == 48) = true := HSC.out
        have HYY := Lib.hid HY2
        have eYY : (Y == Y) = true := by simp
        have ek : IntKind.i64.wrap ((k : Int) + 1) = (k : Int) + 1 := IntWalk.i64_in _ ⟨by omega, by omega⟩
        have HXX2 := Lib.hid HXX
        clear HY HX HXX HY2 hlt hk hm
        have HBB : ∃ b : Bool, (b = true ↔ validS ys k) := by
          by_cases hv : validS ys k
          · exact ⟨true, by simp [hv]⟩
          · exact ⟨false, by simp [hv]⟩
        obtain ⟨b, hbv⟩ := HBB
        have VS := Lib.hid (fun w0 (hr : Rd w0 4 L k d (ys.map (Value.int .i64))) => says_v b hbv (valid_spec L k d ys w0 hr))
        have VI := Lib.hid (fun w0 (hr : Rd w0 4 L k d (ys.map (Value.int .i64))) => says_v b hbv (valid_impl L k d ys w0 hr))
        have HBV := Lib.hid hbv
        clear hbv
        go_upto_region 15 with fail
        go_cut [83] (fun v83 wx => v83 = .bool false ∧ Below w1.heap.size w1 wx)
        case first =>
          cases b
          · by_cases h1 : X = -1
            · have f1 : (X == -1) = true := by simpa using h1
              clear h1
              by_cases h2 : best < 0
              all_goals
                go_wp2_with (first | (go_at_call 11; refine (VS.out _ (HRL.out.below B1)).mono ?_; rintro x' wv ⟨rfl, hb⟩; replace B1 := stepB B1 hb B1.size; clear hb) | (go_at_call 12; refine (VI.out _ (HRL.out.below B1)).mono ?_; rintro x' wv ⟨rfl, hb⟩; replace B1 := stepB B1 hb B1.size; clear hb))
                go_meet
                exact ⟨rfl, B1⟩
            · have f1 : (X == -1) = false := by simpa using h1
              clear h1
              by_cases h2 : best < 0
              all_goals
                go_wp2_with (first | (go_at_call 11; refine (VS.out _ (HRL.out.below B1)).mono ?_; rintro x' wv ⟨rfl, hb⟩; replace B1 := stepB B1 hb B1.size; clear hb) | (go_at_call 12; refine (VI.out _ (HRL.out.below B1)).mono ?_; rintro x' wv ⟨rfl, hb⟩; replace B1 := stepB B1 hb B1.size; clear hb))
                go_meet
                exact ⟨rfl, B1⟩
          · rcases HXX2.out (HBV.out.1 rfl) with ⟨f1, h2⟩ | ⟨f1, h2⟩
            all_goals
              go_wp2_with (first | (go_at_call 11; refine (VS.out _ (HRL.out.below B1)).mono ?_; rintro x' wv ⟨rfl, hb⟩; replace B1 := stepB B1 hb B1.size; clear hb) | (go_at_call 12; refine (VI.out _ (HRL.out.below B1)).mono ?_; rintro x' wv ⟨rfl, hb⟩; replace B1 := stepB B1 hb B1.size; clear hb))
              go_meet
              exact ⟨rfl, B1⟩
        case rest =>
          obtain ⟨w2', hw2'⟩ : ∃ W, W = wc := ⟨_, rfl⟩
          subst hw2'
          clear B1 HXX2
          obtain ⟨rfl, B1⟩ := hcut
          have z1 := B1.size
          go_wp2_with fail
          refine (addI_any L k d ys 3 50 1 5 _ (HRL.out.below (B1.alloc B1.size _)) (by have := HM.out; omega) HA.out).mono ?_
          rintro x' w4 ⟨m', ys', A', d', hm', hv', rfl, ho', hb0⟩
          have be : Bk.Blk w4 (w2'.heap.size) 30 #[.int .i64 3, .int .i64 50, .int .i64 1, .int .i64 5] := (by apply Bk.Blk.to; (focus (apply Bk.Blk.under hb0; (repeat (first | with_reducible assumption | (with_reducible apply Bk.Blk.newAt; focus (first | (simp [Bk.size_set]; done) | (simp [Bk.size_set]; omega))) | with_reducible apply Bk.Blk.drewN | with_reducible apply Bk.Blk.drew | with_reducible apply Bk.Blk.set_ | (with_reducible apply Bk.Blk.far; focus (dsimp only; first | omega | (simp; omega) | (simp; done))) | with_reducible apply Bk.Blk.alloc)))); rfl)
          replace B1 := stepB (B1.alloc B1.size _) hb0 (by simp; omega)
          have HR9 := Lib.hid (Rd.of_own ho')
          have HVV := Lib.hid hv'
          clear hb0 ho' hv'
          have zw1 := B1.size
          have HMM := Lib.hid hm'
          clear hm'
          have L_be := Lay.f4 be
          go_upto_region 19 with fail
          go_cut [106] (fun v106 wx => v106 = .bool false ∧ Below w4.heap.size w4 wx)
          case first =>
            have B4 : Below w4.heap.size w4 w4 := Below.refl _ _
            cases b
            · go_wp2_with fail
              refine (VS.out _ (HRL.out.below B1)).mono ?_
              rintro x' w5 ⟨rfl, hb⟩
              go_wp2
              go_meet
              exact ⟨rfl, hb⟩
            · have VM := Lib.hid (fun w0 (hr : Rd w0 4 A' m' d' (ys'.map (Value.int .i64))) => says_v true (by simp [HVV.out (HBV.out.1 rfl)]) (valid_impl A' m' d' ys' w0 hr))
              go_wp2_with fail
              refine (VS.out _ (HRL.out.below B1)).mono ?_
              rintro x' w5 ⟨rfl, hb⟩
              replace B4 := stepB B4 hb B4.size
              clear hb L_be
              go_wp2_with fail
              refine (contains_yes _ 2 2 [(k : Int), (k : Int) + 1] (m' : Int) _ (by exact Rd.lit _ [.int .i64 (k : Int), .int .i64 ((k : Int) + 1)] _ 2 rfl (by unfold maxLen; omega)) (by have := HMM.out; simp; omega)).mono ?_
              rintro x' w6 ⟨rfl, rfl⟩
              have z4 := B4.size
              replace B4 := B4.alloc B4.size (.cells #[.int .i64 (k : Int), .int .i64 ((k : Int) + 1)] 3)
              go_wp2_with fail
              refine (VM.out _ (HR9.out.below B4)).mono ?_
              rintro x' w7 ⟨rfl, hb⟩
              replace B4 := stepB B4 hb B4.size
              go_wp2
              go_meet
              exact ⟨rfl, B4⟩
          case rest =>
            obtain ⟨w8, hw8⟩ : ∃ W, W = wc := ⟨_, rfl⟩
            subst hw8
            obtain ⟨rfl, hb0⟩ := hcut
            clear L_be
            replace be : Bk.Blk w8 (w2'.heap.size) 30 #[.int .i64 3, .int .i64 50, .int .i64 1, .int .i64 5] := Bk.Blk.under hb0 (by (repeat (first | with_reducible assumption | (with_reducible apply Bk.Blk.newAt; focus (first | (simp [Bk.size_set]; done) | (simp [Bk.size_set]; omega))) | with_reducible apply Bk.Blk.drewN | with_reducible apply Bk.Blk.drew | with_reducible apply Bk.Blk.set_ | (with_reducible apply Bk.Blk.far; focus (dsimp only; first | omega | (simp; omega) | (simp; done))) | with_reducible apply Bk.Blk.alloc)))
            replace B1 := stepB B1 hb0 B1.size
            clear hb0
            have L_be := Lay.f4 be
            rcases HYY.out with f1 | ⟨f1, f2, f3, f4, f5 | ⟨f5, f6⟩⟩
            all_goals
              go_wp2_with fail
              refine (HSE.out _).mono ?_
              rintro x' w9 ⟨rfl, hb⟩
              replace B1 := stepB B1 hb B1.size
              clear hb L_be
              go_wp2_with fail
              refine (HSW.out _ (HRL.out.below B1)).mono ?_
              rintro x' w10 ⟨rfl, hb⟩
              replace B1 := stepB B1 hb B1.size
              clear hb
              go_wp2
              go_ret
              exact ⟨rfl, HBW.out.trans (B1.mono HBW.out.size)⟩
end Go.Proofs.Ytikolopdkjocgaa.Cl
