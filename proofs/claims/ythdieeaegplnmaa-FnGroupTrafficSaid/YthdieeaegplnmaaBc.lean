/- Beacons: what a valid one is, both sides. -/
import Derived.Test.YthdieeaegplnmaaPbE
namespace Go.Proofs.Ythdieeaegplnmaa.Pb
open Go.RowKit
open Go.Proofs.Ythdieeaegplnmaa.Num Go.Proofs.Ythdieeaegplnmaa.Mem Go.Proofs.Ythdieeaegplnmaa.Hsh Go.Proofs.Ythdieeaegplnmaa.Sls Go.Proofs.Ythdieeaegplnmaa.Own Go.Proofs.Ythdieeaegplnmaa.SS Go.Proofs.Ythdieeaegplnmaa.Gb
set_option linter.unusedSimpArgs false
set_option linter.unusedVariables false
/-- a beacon is valid -/
def validB (fr sl dc dp : Int) (gt : Bool) (ti : Int) : Prop :=
  (0 ≤ fr ∧ fr ≤ 15) ∧ (0 ≤ sl ∧ sl ≤ 1000000000000) ∧ (sl % 10 == 0) = true ∧ (1 ≤ dp ∧ dp ≤ 8) ∧ (0 ≤ dc ∧ dc ≤ dp - 1) ∧ (0 ≤ ti ∧ ti ≤ 65535) ∧ (gt = false ∨ (dc == 0) = true)
theorem beacon_cases (fr sl dc dp : Int) (gt : Bool) (ti : Int) :
    (fr < 0 ∨ 15 < fr) ∨
    ((0 ≤ fr ∧ fr ≤ 15) ∧ (sl < 0 ∨ 1000000000000 < sl)) ∨
    ((0 ≤ fr ∧ fr ≤ 15) ∧ (0 ≤ sl ∧ sl ≤ 1000000000000) ∧ (sl % 10 == 0) = false) ∨
    ((0 ≤ fr ∧ fr ≤ 15) ∧ (0 ≤ sl ∧ sl ≤ 1000000000000) ∧ (sl % 10 == 0) = true ∧ (dp < 1 ∨ 8 < dp)) ∨
    ((0 ≤ fr ∧ fr ≤ 15) ∧ (0 ≤ sl ∧ sl ≤ 1000000000000) ∧ (sl % 10 == 0) = true ∧ (1 ≤ dp ∧ dp ≤ 8) ∧ (dc < 0 ∨ dp - 1 < dc)) ∨
    ((0 ≤ fr ∧ fr ≤ 15) ∧ (0 ≤ sl ∧ sl ≤ 1000000000000) ∧ (sl % 10 == 0) = true ∧ (1 ≤ dp ∧ dp ≤ 8) ∧ (0 ≤ dc ∧ dc ≤ dp - 1) ∧ (ti < 0 ∨ 65535 < ti)) ∨
    ((0 ≤ fr ∧ fr ≤ 15) ∧ (0 ≤ sl ∧ sl ≤ 1000000000000) ∧ (sl % 10 == 0) = true ∧ (1 ≤ dp ∧ dp ≤ 8) ∧ (0 ≤ dc ∧ dc ≤ dp - 1) ∧ (0 ≤ ti ∧ ti ≤ 65535) ∧ (gt = true ∧ (dc == 0) = false)) ∨
    ((0 ≤ fr ∧ fr ≤ 15) ∧ (0 ≤ sl ∧ sl ≤ 1000000000000) ∧ (sl % 10 == 0) = true ∧ (1 ≤ dp ∧ dp ≤ 8) ∧ (0 ≤ dc ∧ dc ≤ dp - 1) ∧ (0 ≤ ti ∧ ti ≤ 65535) ∧ (gt = true ∧ (dc == 0) = true)) ∨
    ((0 ≤ fr ∧ fr ≤ 15) ∧ (0 ≤ sl ∧ sl ≤ 1000000000000) ∧ (sl % 10 == 0) = true ∧ (1 ≤ dp ∧ dp ≤ 8) ∧ (0 ≤ dc ∧ dc ≤ dp - 1) ∧ (0 ≤ ti ∧ ti ≤ 65535) ∧ gt = false) := by
  by_cases h1 : 0 ≤ fr ∧ fr ≤ 15
  · by_cases h2 : 0 ≤ sl ∧ sl ≤ 1000000000000
    · cases h3 : (sl % 10 == 0)
      · exact .inr (.inr (.inl ⟨h1, h2, rfl⟩))
      · by_cases h4 : 1 ≤ dp ∧ dp ≤ 8
        · by_cases h5 : 0 ≤ dc ∧ dc ≤ dp - 1
          · by_cases h6 : 0 ≤ ti ∧ ti ≤ 65535
            · cases h7 : gt
              · exact .inr (.inr (.inr (.inr (.inr (.inr (.inr (.inr ⟨h1, h2, rfl, h4, h5, h6, rfl⟩)))))))
              · cases h8 : (dc == 0)
                · exact .inr (.inr (.inr (.inr (.inr (.inr (.inl ⟨h1, h2, rfl, h4, h5, h6, rfl, rfl⟩))))))
                · exact .inr (.inr (.inr (.inr (.inr (.inr (.inr (.inl ⟨h1, h2, rfl, h4, h5, h6, rfl, rfl⟩)))))))
            · exact .inr (.inr (.inr (.inr (.inr (.inl ⟨h1, h2, rfl, h4, h5, by omega⟩)))))
          · exact .inr (.inr (.inr (.inr (.inl ⟨h1, h2, rfl, h4, by omega⟩))))
        · exact .inr (.inr (.inr (.inl ⟨h1, h2, rfl, by omega⟩)))
    · exact .inr (.inl ⟨h1, by omega⟩)
  · exact .inl (by omega)
set_option maxHeartbeats 4000000 in
theorem validB_impl (fr sl dc dp : Int) (gt : Bool) (ti : Int) (w : World) :
    Calls Try.prog 28 #[.agg #[.int .i64 fr, .int .i64 sl, .int .i64 dc, .int .i64 dp, .bool gt, .int .i64 ti]] w (SaysG (validB fr sl dc dp gt ti) w) := by
  have HV := Lib.hid (show validB fr sl dc dp gt ti ↔ ((0 ≤ fr ∧ fr ≤ 15) ∧ (0 ≤ sl ∧ sl ≤ 1000000000000) ∧ (sl % 10 == 0) = true ∧ (1 ≤ dp ∧ dp ≤ 8) ∧ (0 ≤ dc ∧ dc ≤ dp - 1) ∧ (0 ≤ ti ∧ ti ≤ 65535) ∧ (gt = false ∨ (dc == 0) = true)) from Iff.rfl)
  rcases beacon_cases fr sl dc dp gt ti with h1 | ⟨h1, h2⟩ | ⟨h1, h2, h3⟩ | ⟨h1, h2, h3, h4⟩ | ⟨h1, h2, h3, h4, h5⟩ | ⟨h1, h2, h3, h4, h5, h6⟩ | ⟨h1, h2, h3, h4, h5, h6, rfl, h7⟩ | ⟨h1, h2, h3, h4, h5, h6, rfl, h7⟩ | ⟨h1, h2, h3, h4, h5, h6, rfl⟩
  · have HX := Lib.hid (show ¬ validB fr sl dc dp gt ti from fun h => by have := HV.out.1 h; omega)
    go_enter Try.func28, Try.ntmps28
    go_wp2_with (first
      | (go_at_call 76; (first | (refine (Bcn.station_yes _ _ (by omega) (by omega)).mono ?_) | (refine (Bcn.station_no _ _ (by omega)).mono ?_)); rintro e w' ⟨rfl, rfl⟩)
      | (go_at_call 77; (first | (refine (Bcn.slot_yes _ _ (by omega) (by omega) h3).mono ?_) | (refine (Bcn.slot_off _ _ (by omega) (by omega) h3).mono ?_) | (refine (Bcn.slot_out _ _ h2).mono ?_)); rintro e w' ⟨rfl, rfl⟩)
      | (go_at_call 74; (first | (refine (in_impl_yes _ _ _ _ (by omega) (by omega)).mono ?_) | (refine (in_impl_no _ _ _ _ (by omega)).mono ?_)); rintro e w' ⟨rfl, rfl⟩)
      | (go_at_call 72; (first | (refine (in_spec_yes _ _ _ _ (by omega) (by omega)).mono ?_) | (refine (in_spec_no _ _ _ _ (by omega)).mono ?_)); rintro e w' ⟨rfl, rfl⟩))
    go_ret
    exact saysG_no HX.out (by go_grown)
  · have HX := Lib.hid (show ¬ validB fr sl dc dp gt ti from fun h => by have := HV.out.1 h; omega)
    go_enter Try.func28, Try.ntmps28
    go_wp2_with (first
      | (go_at_call 76; (first | (refine (Bcn.station_yes _ _ (by omega) (by omega)).mono ?_) | (refine (Bcn.station_no _ _ (by omega)).mono ?_)); rintro e w' ⟨rfl, rfl⟩)
      | (go_at_call 77; (first | (refine (Bcn.slot_yes _ _ (by omega) (by omega) h3).mono ?_) | (refine (Bcn.slot_off _ _ (by omega) (by omega) h3).mono ?_) | (refine (Bcn.slot_out _ _ h2).mono ?_)); rintro e w' ⟨rfl, rfl⟩)
      | (go_at_call 74; (first | (refine (in_impl_yes _ _ _ _ (by omega) (by omega)).mono ?_) | (refine (in_impl_no _ _ _ _ (by omega)).mono ?_)); rintro e w' ⟨rfl, rfl⟩)
      | (go_at_call 72; (first | (refine (in_spec_yes _ _ _ _ (by omega) (by omega)).mono ?_) | (refine (in_spec_no _ _ _ _ (by omega)).mono ?_)); rintro e w' ⟨rfl, rfl⟩))
    go_ret
    exact saysG_no HX.out (by go_grown)
  · have HX := Lib.hid (show ¬ validB fr sl dc dp gt ti from fun h => by have h8 := (HV.out.1 h).2.2.1; rw [h3] at h8; cases h8)
    go_enter Try.func28, Try.ntmps28
    go_wp2_with (first
      | (go_at_call 76; (first | (refine (Bcn.station_yes _ _ (by omega) (by omega)).mono ?_) | (refine (Bcn.station_no _ _ (by omega)).mono ?_)); rintro e w' ⟨rfl, rfl⟩)
      | (go_at_call 77; (first | (refine (Bcn.slot_yes _ _ (by omega) (by omega) h3).mono ?_) | (refine (Bcn.slot_off _ _ (by omega) (by omega) h3).mono ?_) | (refine (Bcn.slot_out _ _ h2).mono ?_)); rintro e w' ⟨rfl, rfl⟩)
      | (go_at_call 74; (first | (refine (in_impl_yes _ _ _ _ (by omega) (by omega)).mono ?_) | (refine (in_impl_no _ _ _ _ (by omega)).mono ?_)); rintro e w' ⟨rfl, rfl⟩)
      | (go_at_call 72; (first | (refine (in_spec_yes _ _ _ _ (by omega) (by omega)).mono ?_) | (refine (in_spec_no _ _ _ _ (by omega)).mono ?_)); rintro e w' ⟨rfl, rfl⟩))
    go_ret
    exact saysG_no HX.out (by go_grown)
  · have HX := Lib.hid (show ¬ validB fr sl dc dp gt ti from fun h => by have := HV.out.1 h; omega)
    go_enter Try.func28, Try.ntmps28
    go_wp2_with (first
      | (go_at_call 76; (first | (refine (Bcn.station_yes _ _ (by omega) (by omega)).mono ?_) | (refine (Bcn.station_no _ _ (by omega)).mono ?_)); rintro e w' ⟨rfl, rfl⟩)
      | (go_at_call 77; (first | (refine (Bcn.slot_yes _ _ (by omega) (by omega) h3).mono ?_) | (refine (Bcn.slot_off _ _ (by omega) (by omega) h3).mono ?_) | (refine (Bcn.slot_out _ _ h2).mono ?_)); rintro e w' ⟨rfl, rfl⟩)
      | (go_at_call 74; (first | (refine (in_impl_yes _ _ _ _ (by omega) (by omega)).mono ?_) | (refine (in_impl_no _ _ _ _ (by omega)).mono ?_)); rintro e w' ⟨rfl, rfl⟩)
      | (go_at_call 72; (first | (refine (in_spec_yes _ _ _ _ (by omega) (by omega)).mono ?_) | (refine (in_spec_no _ _ _ _ (by omega)).mono ?_)); rintro e w' ⟨rfl, rfl⟩))
    go_ret
    exact saysG_no HX.out (by go_grown)
  · have HX := Lib.hid (show ¬ validB fr sl dc dp gt ti from fun h => by have := HV.out.1 h; omega)
    go_enter Try.func28, Try.ntmps28
    go_wp2_with (first
      | (go_at_call 76; (first | (refine (Bcn.station_yes _ _ (by omega) (by omega)).mono ?_) | (refine (Bcn.station_no _ _ (by omega)).mono ?_)); rintro e w' ⟨rfl, rfl⟩)
      | (go_at_call 77; (first | (refine (Bcn.slot_yes _ _ (by omega) (by omega) h3).mono ?_) | (refine (Bcn.slot_off _ _ (by omega) (by omega) h3).mono ?_) | (refine (Bcn.slot_out _ _ h2).mono ?_)); rintro e w' ⟨rfl, rfl⟩)
      | (go_at_call 74; (first | (refine (in_impl_yes _ _ _ _ (by omega) (by omega)).mono ?_) | (refine (in_impl_no _ _ _ _ (by omega)).mono ?_)); rintro e w' ⟨rfl, rfl⟩)
      | (go_at_call 72; (first | (refine (in_spec_yes _ _ _ _ (by omega) (by omega)).mono ?_) | (refine (in_spec_no _ _ _ _ (by omega)).mono ?_)); rintro e w' ⟨rfl, rfl⟩))
    go_ret
    exact saysG_no HX.out (by go_grown)
  · have HX := Lib.hid (show ¬ validB fr sl dc dp gt ti from fun h => by have := HV.out.1 h; omega)
    go_enter Try.func28, Try.ntmps28
    go_wp2_with (first
      | (go_at_call 76; (first | (refine (Bcn.station_yes _ _ (by omega) (by omega)).mono ?_) | (refine (Bcn.station_no _ _ (by omega)).mono ?_)); rintro e w' ⟨rfl, rfl⟩)
      | (go_at_call 77; (first | (refine (Bcn.slot_yes _ _ (by omega) (by omega) h3).mono ?_) | (refine (Bcn.slot_off _ _ (by omega) (by omega) h3).mono ?_) | (refine (Bcn.slot_out _ _ h2).mono ?_)); rintro e w' ⟨rfl, rfl⟩)
      | (go_at_call 74; (first | (refine (in_impl_yes _ _ _ _ (by omega) (by omega)).mono ?_) | (refine (in_impl_no _ _ _ _ (by omega)).mono ?_)); rintro e w' ⟨rfl, rfl⟩)
      | (go_at_call 72; (first | (refine (in_spec_yes _ _ _ _ (by omega) (by omega)).mono ?_) | (refine (in_spec_no _ _ _ _ (by omega)).mono ?_)); rintro e w' ⟨rfl, rfl⟩))
    go_ret
    exact saysG_no HX.out (by go_grown)
  · have HX := Lib.hid (show ¬ validB fr sl dc dp true ti from fun h => by have h8 := (HV.out.1 h).2.2.2.2.2.2; rw [h7] at h8; simp at h8)
    go_enter Try.func28, Try.ntmps28
    go_wp2_with (first
      | (go_at_call 76; (first | (refine (Bcn.station_yes _ _ (by omega) (by omega)).mono ?_) | (refine (Bcn.station_no _ _ (by omega)).mono ?_)); rintro e w' ⟨rfl, rfl⟩)
      | (go_at_call 77; (first | (refine (Bcn.slot_yes _ _ (by omega) (by omega) h3).mono ?_) | (refine (Bcn.slot_off _ _ (by omega) (by omega) h3).mono ?_) | (refine (Bcn.slot_out _ _ h2).mono ?_)); rintro e w' ⟨rfl, rfl⟩)
      | (go_at_call 74; (first | (refine (in_impl_yes _ _ _ _ (by omega) (by omega)).mono ?_) | (refine (in_impl_no _ _ _ _ (by omega)).mono ?_)); rintro e w' ⟨rfl, rfl⟩)
      | (go_at_call 72; (first | (refine (in_spec_yes _ _ _ _ (by omega) (by omega)).mono ?_) | (refine (in_spec_no _ _ _ _ (by omega)).mono ?_)); rintro e w' ⟨rfl, rfl⟩))
    go_ret
    exact saysG_no HX.out (by go_grown)
  · have HX := Lib.hid (HV.out.2 ⟨h1, h2, h3, h4, h5, h6, .inr h7⟩)
    go_enter Try.func28, Try.ntmps28
    go_wp2_with (first
      | (go_at_call 76; (first | (refine (Bcn.station_yes _ _ (by omega) (by omega)).mono ?_) | (refine (Bcn.station_no _ _ (by omega)).mono ?_)); rintro e w' ⟨rfl, rfl⟩)
      | (go_at_call 77; (first | (refine (Bcn.slot_yes _ _ (by omega) (by omega) h3).mono ?_) | (refine (Bcn.slot_off _ _ (by omega) (by omega) h3).mono ?_) | (refine (Bcn.slot_out _ _ h2).mono ?_)); rintro e w' ⟨rfl, rfl⟩)
      | (go_at_call 74; (first | (refine (in_impl_yes _ _ _ _ (by omega) (by omega)).mono ?_) | (refine (in_impl_no _ _ _ _ (by omega)).mono ?_)); rintro e w' ⟨rfl, rfl⟩)
      | (go_at_call 72; (first | (refine (in_spec_yes _ _ _ _ (by omega) (by omega)).mono ?_) | (refine (in_spec_no _ _ _ _ (by omega)).mono ?_)); rintro e w' ⟨rfl, rfl⟩))
    go_ret
    exact saysG_yes HX.out (by go_grown)
  · have HX := Lib.hid (HV.out.2 ⟨h1, h2, h3, h4, h5, h6, .inl rfl⟩)
    go_enter Try.func28, Try.ntmps28
    go_wp2_with (first
      | (go_at_call 76; (first | (refine (Bcn.station_yes _ _ (by omega) (by omega)).mono ?_) | (refine (Bcn.station_no _ _ (by omega)).mono ?_)); rintro e w' ⟨rfl, rfl⟩)
      | (go_at_call 77; (first | (refine (Bcn.slot_yes _ _ (by omega) (by omega) h3).mono ?_) | (refine (Bcn.slot_off _ _ (by omega) (by omega) h3).mono ?_) | (refine (Bcn.slot_out _ _ h2).mono ?_)); rintro e w' ⟨rfl, rfl⟩)
      | (go_at_call 74; (first | (refine (in_impl_yes _ _ _ _ (by omega) (by omega)).mono ?_) | (refine (in_impl_no _ _ _ _ (by omega)).mono ?_)); rintro e w' ⟨rfl, rfl⟩)
      | (go_at_call 72; (first | (refine (in_spec_yes _ _ _ _ (by omega) (by omega)).mono ?_) | (refine (in_spec_no _ _ _ _ (by omega)).mono ?_)); rintro e w' ⟨rfl, rfl⟩))
    go_ret
    exact saysG_yes HX.out (by go_grown)
set_option maxHeartbeats 4000000 in
theorem validB_spec (fr sl dc dp : Int) (gt : Bool) (ti : Int) (w : World) :
    Calls Try.prog 71 #[.agg #[.int .i64 fr, .int .i64 sl, .int .i64 dc, .int .i64 dp, .bool gt, .int .i64 ti]] w (SaysG (validB fr sl dc dp gt ti) w) := by
  have HV := Lib.hid (show validB fr sl dc dp gt ti ↔ ((0 ≤ fr ∧ fr ≤ 15) ∧ (0 ≤ sl ∧ sl ≤ 1000000000000) ∧ (sl % 10 == 0) = true ∧ (1 ≤ dp ∧ dp ≤ 8) ∧ (0 ≤ dc ∧ dc ≤ dp - 1) ∧ (0 ≤ ti ∧ ti ≤ 65535) ∧ (gt = false ∨ (dc == 0) = true)) from Iff.rfl)
  rcases beacon_cases fr sl dc dp gt ti with h1 | ⟨h1, h2⟩ | ⟨h1, h2, h3⟩ | ⟨h1, h2, h3, h4⟩ | ⟨h1, h2, h3, h4, h5⟩ | ⟨h1, h2, h3, h4, h5, h6⟩ | ⟨h1, h2, h3, h4, h5, h6, rfl, h7⟩ | ⟨h1, h2, h3, h4, h5, h6, rfl, h7⟩ | ⟨h1, h2, h3, h4, h5, h6, rfl⟩
  · have HX := Lib.hid (show ¬ validB fr sl dc dp gt ti from fun h => by have := HV.out.1 h; omega)
    go_enter Try.func71, Try.ntmps71
    go_wp2_with (first
      | (go_at_call 76; (first | (refine (Bcn.station_yes _ _ (by omega) (by omega)).mono ?_) | (refine (Bcn.station_no _ _ (by omega)).mono ?_)); rintro e w' ⟨rfl, rfl⟩)
      | (go_at_call 77; (first | (refine (Bcn.slot_yes _ _ (by omega) (by omega) h3).mono ?_) | (refine (Bcn.slot_off _ _ (by omega) (by omega) h3).mono ?_) | (refine (Bcn.slot_out _ _ h2).mono ?_)); rintro e w' ⟨rfl, rfl⟩)
      | (go_at_call 74; (first | (refine (in_impl_yes _ _ _ _ (by omega) (by omega)).mono ?_) | (refine (in_impl_no _ _ _ _ (by omega)).mono ?_)); rintro e w' ⟨rfl, rfl⟩)
      | (go_at_call 72; (first | (refine (in_spec_yes _ _ _ _ (by omega) (by omega)).mono ?_) | (refine (in_spec_no _ _ _ _ (by omega)).mono ?_)); rintro e w' ⟨rfl, rfl⟩))
    go_ret
    exact saysG_no HX.out (by go_grown)
  · have HX := Lib.hid (show ¬ validB fr sl dc dp gt ti from fun h => by have := HV.out.1 h; omega)
    go_enter Try.func71, Try.ntmps71
    go_wp2_with (first
      | (go_at_call 76; (first | (refine (Bcn.station_yes _ _ (by omega) (by omega)).mono ?_) | (refine (Bcn.station_no _ _ (by omega)).mono ?_)); rintro e w' ⟨rfl, rfl⟩)
      | (go_at_call 77; (first | (refine (Bcn.slot_yes _ _ (by omega) (by omega) h3).mono ?_) | (refine (Bcn.slot_off _ _ (by omega) (by omega) h3).mono ?_) | (refine (Bcn.slot_out _ _ h2).mono ?_)); rintro e w' ⟨rfl, rfl⟩)
      | (go_at_call 74; (first | (refine (in_impl_yes _ _ _ _ (by omega) (by omega)).mono ?_) | (refine (in_impl_no _ _ _ _ (by omega)).mono ?_)); rintro e w' ⟨rfl, rfl⟩)
      | (go_at_call 72; (first | (refine (in_spec_yes _ _ _ _ (by omega) (by omega)).mono ?_) | (refine (in_spec_no _ _ _ _ (by omega)).mono ?_)); rintro e w' ⟨rfl, rfl⟩))
    go_ret
    exact saysG_no HX.out (by go_grown)
  · have HX := Lib.hid (show ¬ validB fr sl dc dp gt ti from fun h => by have h8 := (HV.out.1 h).2.2.1; rw [h3] at h8; cases h8)
    go_enter Try.func71, Try.ntmps71
    go_wp2_with (first
      | (go_at_call 76; (first | (refine (Bcn.station_yes _ _ (by omega) (by omega)).mono ?_) | (refine (Bcn.station_no _ _ (by omega)).mono ?_)); rintro e w' ⟨rfl, rfl⟩)
      | (go_at_call 77; (first | (refine (Bcn.slot_yes _ _ (by omega) (by omega) h3).mono ?_) | (refine (Bcn.slot_off _ _ (by omega) (by omega) h3).mono ?_) | (refine (Bcn.slot_out _ _ h2).mono ?_)); rintro e w' ⟨rfl, rfl⟩)
      | (go_at_call 74; (first | (refine (in_impl_yes _ _ _ _ (by omega) (by omega)).mono ?_) | (refine (in_impl_no _ _ _ _ (by omega)).mono ?_)); rintro e w' ⟨rfl, rfl⟩)
      | (go_at_call 72; (first | (refine (in_spec_yes _ _ _ _ (by omega) (by omega)).mono ?_) | (refine (in_spec_no _ _ _ _ (by omega)).mono ?_)); rintro e w' ⟨rfl, rfl⟩))
    go_ret
    exact saysG_no HX.out (by go_grown)
  · have HX := Lib.hid (show ¬ validB fr sl dc dp gt ti from fun h => by have := HV.out.1 h; omega)
    go_enter Try.func71, Try.ntmps71
    go_wp2_with (first
      | (go_at_call 76; (first | (refine (Bcn.station_yes _ _ (by omega) (by omega)).mono ?_) | (refine (Bcn.station_no _ _ (by omega)).mono ?_)); rintro e w' ⟨rfl, rfl⟩)
      | (go_at_call 77; (first | (refine (Bcn.slot_yes _ _ (by omega) (by omega) h3).mono ?_) | (refine (Bcn.slot_off _ _ (by omega) (by omega) h3).mono ?_) | (refine (Bcn.slot_out _ _ h2).mono ?_)); rintro e w' ⟨rfl, rfl⟩)
      | (go_at_call 74; (first | (refine (in_impl_yes _ _ _ _ (by omega) (by omega)).mono ?_) | (refine (in_impl_no _ _ _ _ (by omega)).mono ?_)); rintro e w' ⟨rfl, rfl⟩)
      | (go_at_call 72; (first | (refine (in_spec_yes _ _ _ _ (by omega) (by omega)).mono ?_) | (refine (in_spec_no _ _ _ _ (by omega)).mono ?_)); rintro e w' ⟨rfl, rfl⟩))
    go_ret
    exact saysG_no HX.out (by go_grown)
  · have HX := Lib.hid (show ¬ validB fr sl dc dp gt ti from fun h => by have := HV.out.1 h; omega)
    go_enter Try.func71, Try.ntmps71
    go_wp2_with (first
      | (go_at_call 76; (first | (refine (Bcn.station_yes _ _ (by omega) (by omega)).mono ?_) | (refine (Bcn.station_no _ _ (by omega)).mono ?_)); rintro e w' ⟨rfl, rfl⟩)
      | (go_at_call 77; (first | (refine (Bcn.slot_yes _ _ (by omega) (by omega) h3).mono ?_) | (refine (Bcn.slot_off _ _ (by omega) (by omega) h3).mono ?_) | (refine (Bcn.slot_out _ _ h2).mono ?_)); rintro e w' ⟨rfl, rfl⟩)
      | (go_at_call 74; (first | (refine (in_impl_yes _ _ _ _ (by omega) (by omega)).mono ?_) | (refine (in_impl_no _ _ _ _ (by omega)).mono ?_)); rintro e w' ⟨rfl, rfl⟩)
      | (go_at_call 72; (first | (refine (in_spec_yes _ _ _ _ (by omega) (by omega)).mono ?_) | (refine (in_spec_no _ _ _ _ (by omega)).mono ?_)); rintro e w' ⟨rfl, rfl⟩))
    go_ret
    exact saysG_no HX.out (by go_grown)
  · have HX := Lib.hid (show ¬ validB fr sl dc dp gt ti from fun h => by have := HV.out.1 h; omega)
    go_enter Try.func71, Try.ntmps71
    go_wp2_with (first
      | (go_at_call 76; (first | (refine (Bcn.station_yes _ _ (by omega) (by omega)).mono ?_) | (refine (Bcn.station_no _ _ (by omega)).mono ?_)); rintro e w' ⟨rfl, rfl⟩)
      | (go_at_call 77; (first | (refine (Bcn.slot_yes _ _ (by omega) (by omega) h3).mono ?_) | (refine (Bcn.slot_off _ _ (by omega) (by omega) h3).mono ?_) | (refine (Bcn.slot_out _ _ h2).mono ?_)); rintro e w' ⟨rfl, rfl⟩)
      | (go_at_call 74; (first | (refine (in_impl_yes _ _ _ _ (by omega) (by omega)).mono ?_) | (refine (in_impl_no _ _ _ _ (by omega)).mono ?_)); rintro e w' ⟨rfl, rfl⟩)
      | (go_at_call 72; (first | (refine (in_spec_yes _ _ _ _ (by omega) (by omega)).mono ?_) | (refine (in_spec_no _ _ _ _ (by omega)).mono ?_)); rintro e w' ⟨rfl, rfl⟩))
    go_ret
    exact saysG_no HX.out (by go_grown)
  · have HX := Lib.hid (show ¬ validB fr sl dc dp true ti from fun h => by have h8 := (HV.out.1 h).2.2.2.2.2.2; rw [h7] at h8; simp at h8)
    go_enter Try.func71, Try.ntmps71
    go_wp2_with (first
      | (go_at_call 76; (first | (refine (Bcn.station_yes _ _ (by omega) (by omega)).mono ?_) | (refine (Bcn.station_no _ _ (by omega)).mono ?_)); rintro e w' ⟨rfl, rfl⟩)
      | (go_at_call 77; (first | (refine (Bcn.slot_yes _ _ (by omega) (by omega) h3).mono ?_) | (refine (Bcn.slot_off _ _ (by omega) (by omega) h3).mono ?_) | (refine (Bcn.slot_out _ _ h2).mono ?_)); rintro e w' ⟨rfl, rfl⟩)
      | (go_at_call 74; (first | (refine (in_impl_yes _ _ _ _ (by omega) (by omega)).mono ?_) | (refine (in_impl_no _ _ _ _ (by omega)).mono ?_)); rintro e w' ⟨rfl, rfl⟩)
      | (go_at_call 72; (first | (refine (in_spec_yes _ _ _ _ (by omega) (by omega)).mono ?_) | (refine (in_spec_no _ _ _ _ (by omega)).mono ?_)); rintro e w' ⟨rfl, rfl⟩))
    go_ret
    exact saysG_no HX.out (by go_grown)
  · have HX := Lib.hid (HV.out.2 ⟨h1, h2, h3, h4, h5, h6, .inr h7⟩)
    go_enter Try.func71, Try.ntmps71
    go_wp2_with (first
      | (go_at_call 76; (first | (refine (Bcn.station_yes _ _ (by omega) (by omega)).mono ?_) | (refine (Bcn.station_no _ _ (by omega)).mono ?_)); rintro e w' ⟨rfl, rfl⟩)
      | (go_at_call 77; (first | (refine (Bcn.slot_yes _ _ (by omega) (by omega) h3).mono ?_) | (refine (Bcn.slot_off _ _ (by omega) (by omega) h3).mono ?_) | (refine (Bcn.slot_out _ _ h2).mono ?_)); rintro e w' ⟨rfl, rfl⟩)
      | (go_at_call 74; (first | (refine (in_impl_yes _ _ _ _ (by omega) (by omega)).mono ?_) | (refine (in_impl_no _ _ _ _ (by omega)).mono ?_)); rintro e w' ⟨rfl, rfl⟩)
      | (go_at_call 72; (first | (refine (in_spec_yes _ _ _ _ (by omega) (by omega)).mono ?_) | (refine (in_spec_no _ _ _ _ (by omega)).mono ?_)); rintro e w' ⟨rfl, rfl⟩))
    go_ret
    exact saysG_yes HX.out (by go_grown)
  · have HX := Lib.hid (HV.out.2 ⟨h1, h2, h3, h4, h5, h6, .inl rfl⟩)
    go_enter Try.func71, Try.ntmps71
    go_wp2_with (first
      | (go_at_call 76; (first | (refine (Bcn.station_yes _ _ (by omega) (by omega)).mono ?_) | (refine (Bcn.station_no _ _ (by omega)).mono ?_)); rintro e w' ⟨rfl, rfl⟩)
      | (go_at_call 77; (first | (refine (Bcn.slot_yes _ _ (by omega) (by omega) h3).mono ?_) | (refine (Bcn.slot_off _ _ (by omega) (by omega) h3).mono ?_) | (refine (Bcn.slot_out _ _ h2).mono ?_)); rintro e w' ⟨rfl, rfl⟩)
      | (go_at_call 74; (first | (refine (in_impl_yes _ _ _ _ (by omega) (by omega)).mono ?_) | (refine (in_impl_no _ _ _ _ (by omega)).mono ?_)); rintro e w' ⟨rfl, rfl⟩)
      | (go_at_call 72; (first | (refine (in_spec_yes _ _ _ _ (by omega) (by omega)).mono ?_) | (refine (in_spec_no _ _ _ _ (by omega)).mono ?_)); rintro e w' ⟨rfl, rfl⟩))
    go_ret
    exact saysG_yes HX.out (by go_grown)
end Go.Proofs.Ythdieeaegplnmaa.Pb
