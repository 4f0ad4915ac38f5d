/- Contract of the best entry of a scan (the reference). -/
import Derived.Test.YtikolopdkjocgaaScore
namespace Go.Proofs.Ytikolopdkjocgaa.Scn
open Go.RowKit
open Go.Proofs.Ytikolopdkjocgaa.Num Go.Proofs.Ytikolopdkjocgaa.Mem
set_option linter.unusedSimpArgs false
set_option maxHeartbeats 1000000 in
theorem best_spec (A : Option Addr) (n c : Nat) (zs : List Int) (now win : Int) (w : World) (hr : Rd w 4 A n c (zs.map (Value.int .i64))) :
    Calls Try.prog 30 #[.slice A n c, .int .i64 now, .int .i64 win] w fun x w' => x = .returned (.int .i64 (bestM zs (wrap64 (now - win)) n)) ∧ Below w.heap.size w w' := by
  have HR := Lib.hid hr
  have hn : n ≤ 9223372036854775807 := by have h1 := hr.2.1; have h2 := hr.2.2.1; unfold maxLen at h2; omega
  clear hr
  go_enter Try.func30, Try.ntmps30
  go_wp2
  go_loopw [7, 8] (fun v7 v8 wr => ∃ k : Nat, k ≤ n ∧ v7 = .int .i64 (bestM zs (wrap64 (now - win)) k) ∧ v8 = .int .i64 (k : Int) ∧ Below w.heap.size w wr) (fun _ v8 _ => n - (intOf v8).toNat)
  case atStart => exact ⟨0, Nat.zero_le _, rfl, rfl, Below.refl _ _⟩
  case round =>
    obtain ⟨k, hk, rfl, rfl, hbr⟩ := hrel
    by_cases hlt : k < n
    · obtain ⟨g, o, rfl, hg, c0, c1, c2, c3⟩ := ent_at (HR.out.below hbr) hlt
      have HL := Lib.hid (HR.out.below hbr)
      have HS := Lib.hid (score_spec (fld zs k 0) (fld zs k 1) (fld zs k 2) (fld zs k 3))
      have hbd := bestM_bd zs (wrap64 (now - win)) k
      have HU := Lib.hid (bestM_yes (zs := zs) (t := wrap64 (now - win)) (k := k))
      have HV := Lib.hid (bestM_no (zs := zs) (t := wrap64 (now - win)) (k := k))
      have HE := Lib.hid (show entScore zs k = scoreM (fld zs k 1) (fld zs k 2) from rfl)
      have HC := Lib.hid (cons_iff zs (wrap64 (now - win)) k)
      generalize bestM zs (wrap64 (now - win)) k = m at *
      generalize fld zs k 0 = f0 at *
      generalize fld zs k 1 = f1 at *
      generalize fld zs k 2 = f2 at *
      generalize fld zs k 3 = f3 at *
      generalize scoreM f1 f2 = sc at *
      by_cases h1 : sc < 0
      · have HF := Lib.hid (HV.out (fun h => by have := (HC.out.1 h.1).1; omega))
        clear HU HV HC HE
        go_wp2_with fail
        refine (HS.out _).mono ?_
        rintro x w1 ⟨rfl, hb⟩
        replace hbr := stepB hbr hb hbr.size
        clear hb
        go_wp2
        go_roundw
        case rel => exact ⟨k + 1, by omega, by rw [HF.out], by go_num, hbr⟩
        case measure => simp [intOf]; omega
      · by_cases h2 : f3 < wrap64 (now - win)
        · have HF := Lib.hid (HV.out (fun h => by have := (HC.out.1 h.1).2; omega))
          clear HU HV HC HE
          go_wp2_with fail
          refine (HS.out _).mono ?_
          rintro x w1 ⟨rfl, hb⟩
          replace c0 := Mem.lift hb c0; replace c1 := Mem.lift hb c1; replace c2 := Mem.lift hb c2; replace c3 := Mem.lift hb c3
          replace hbr := stepB hbr hb hbr.size
          clear hb
          go_wp2
          go_roundw
          case rel => exact ⟨k + 1, by omega, by rw [HF.out], by go_num, hbr⟩
          case measure => simp [intOf]; omega
        · by_cases h3 : m < 0
          · have HF := Lib.hid (HU.out ⟨HC.out.2 ⟨by omega, by omega⟩, .inl h3⟩)
            clear HU HV HC HE
            go_wp2_with fail
            refine (HS.out _).mono ?_
            rintro x w1 ⟨rfl, hb⟩
            replace c0 := Mem.lift hb c0; replace c1 := Mem.lift hb c1; replace c2 := Mem.lift hb c2; replace c3 := Mem.lift hb c3
            replace hbr := stepB hbr hb hbr.size
            clear hb
            go_wp2
            go_quiet (fail)
            go_wp2
            go_roundw
            case rel => exact ⟨k + 1, by omega, by rw [HF.out], by go_num, below_drewN hbr _⟩
            case measure => simp [intOf]; omega
          · obtain ⟨b, rfl⟩ := Int.eq_ofNat_of_zero_le (show 0 ≤ m by omega)
            obtain ⟨g', o', hgo, _, d0, d1, d2, d3⟩ := ent_at HL.out (k := b) (by omega)
            simp only [Option.some.injEq, Addr.mk.injEq, and_true] at hgo
            obtain ⟨rfl, rfl⟩ := hgo
            have i0 : (0 : Int) ≤ (b : Int) := by omega
            have i1 : (b : Int) < (n : Int) := by omega
            have i2 : (0 : Int) ≤ (k : Int) := by omega
            have i3 : (k : Int) < (n : Int) := by omega
            have HG := Lib.hid (show entScore zs b = scoreM (fld zs b 1) (fld zs b 2) from rfl)
            have HZ := Lib.hid (score_spec (fld zs b 0) (fld zs b 1) (fld zs b 2) (fld zs b 3))
            generalize fld zs b 0 = e0 at *
            generalize fld zs b 1 = e1 at *
            generalize fld zs b 2 = e2 at *
            generalize fld zs b 3 = e3 at *
            generalize scoreM e1 e2 = bs at *
            by_cases h4 : bs < sc
            all_goals
              have HF := Lib.hid (by first
                | exact HU.out ⟨HC.out.2 ⟨by omega, by omega⟩, .inr (by rw [Int.toNat_natCast, HE.out, HG.out]; exact h4)⟩
                | exact HV.out (fun h => by have := h.2; rw [Int.toNat_natCast, HE.out, HG.out] at this; omega))
              clear HU HV HC HE HG
              go_wp2_with fail
              refine (HS.out _).mono ?_
              rintro x w1 ⟨rfl, hb⟩
              replace c0 := Mem.lift hb c0; replace c1 := Mem.lift hb c1; replace c2 := Mem.lift hb c2; replace c3 := Mem.lift hb c3; replace d0 := Mem.lift hb d0; replace d1 := Mem.lift hb d1; replace d2 := Mem.lift hb d2; replace d3 := Mem.lift hb d3
              replace hbr := stepB hbr hb hbr.size
              clear hb
              go_wp2
              go_region_held3 (fun w' => w'.cell? ⟨g, o + k * 4, none⟩ = some (.int .i64 f0) ∧ w'.cell? ⟨g, o + k * 4 + 1, none⟩ = some (.int .i64 f1) ∧ w'.cell? ⟨g, o + k * 4 + 2, none⟩ = some (.int .i64 f2) ∧ w'.cell? ⟨g, o + k * 4 + 3, none⟩ = some (.int .i64 f3) ∧ w'.cell? ⟨g, o + b * 4, none⟩ = some (.int .i64 e0) ∧ w'.cell? ⟨g, o + b * 4 + 1, none⟩ = some (.int .i64 e1) ∧ w'.cell? ⟨g, o + b * 4 + 2, none⟩ = some (.int .i64 e2) ∧ w'.cell? ⟨g, o + b * 4 + 3, none⟩ = some (.int .i64 e3)) (first | exact ⟨c0, c1, c2, c3, d0, d1, d2, d3⟩ | go_keep) (first
                | ((with_reducible (go_at_call 31; refine (HS.out _).mono ?_)); rintro x wn ⟨rfl, hb⟩; replace c0 := Mem.lift hb c0; replace c1 := Mem.lift hb c1; replace c2 := Mem.lift hb c2; replace c3 := Mem.lift hb c3; replace d0 := Mem.lift hb d0; replace d1 := Mem.lift hb d1; replace d2 := Mem.lift hb d2; replace d3 := Mem.lift hb d3; (first | (replace hbr := stepB hbr hb hbr.size) | (replace hbr := stepB (below_drewN hbr _) hb hbr.size) | (replace hbr := stepB hbr.drew hb hbr.size)); clear hb)
                | ((with_reducible (go_at_call 31; refine (HZ.out _).mono ?_)); rintro x wn ⟨rfl, hb⟩; replace c0 := Mem.lift hb c0; replace c1 := Mem.lift hb c1; replace c2 := Mem.lift hb c2; replace c3 := Mem.lift hb c3; replace d0 := Mem.lift hb d0; replace d1 := Mem.lift hb d1; replace d2 := Mem.lift hb d2; replace d3 := Mem.lift hb d3; (first | (replace hbr := stepB hbr hb hbr.size) | (replace hbr := stepB (below_drewN hbr _) hb hbr.size) | (replace hbr := stepB hbr.drew hb hbr.size)); clear hb))
              all_goals
                go_wp2
                go_roundw
                case rel => exact ⟨k + 1, by omega, by rw [HF.out], by go_num, by first | exact hbr | exact hbr.drew | exact below_drewN hbr _⟩
                case measure => simp [intOf]; omega
    · obtain rfl : k = n := by omega
      go_wp2
      go_ret
      exact ⟨rfl, hbr⟩
end Go.Proofs.Ytikolopdkjocgaa.Scn
