/- The reference's copy of frames: two appends in each round; the copy of a group buffer. -/
import Derived.Test.YthdieeaegplnmaaCopyF
import Derived.Test.YthdieeaegplnmaaMark
namespace Go.Proofs.Ythdieeaegplnmaa.Gb
open Go.RowKit
open Go.Proofs.Ythdieeaegplnmaa.Num Go.Proofs.Ythdieeaegplnmaa.Mem Go.Proofs.Ythdieeaegplnmaa.Hsh Go.Proofs.Ythdieeaegplnmaa.Sls Go.Proofs.Ythdieeaegplnmaa.Own Go.Proofs.Ythdieeaegplnmaa.SS Go.Proofs.Ythdieeaegplnmaa.Bcn
set_option linter.unusedSimpArgs false
set_option linter.unusedVariables false
theorem in_only {w w' : World} {lo hi l2 h2 m c : Nat} {A : Option Addr} {ys : List Value} {ss : List Sl} {xss : List (List Int)} {k : Nat} (h : InSS w lo hi ss xss k) (hA : Own w l2 h2 25 1 A m c ys) (hg : w.grownBy w' (blk A)) : InSS w' lo hi ss xss k :=
  ⟨fun i hi' => own_only (h.1 i hi') hg (fun g hg => own_kinds (h.1 i hi') hA (by decide) g hg), h.2⟩
set_option maxHeartbeats 2000000 in
theorem frames_spec (A : Option Addr) (n c : Nat) (xss : List (List Int)) (w : World) (hr : RdSS w A n c xss) (hn : n ≤ 2097152) (hs : AllShort xss) :
    Calls Try.prog 93 #[.slice A n c] w (RetSS w n xss) := by
  obtain ⟨iu, hiu, hu0, hu1, hu2⟩ := info_parts uInfo
  obtain ⟨ip, hip, hp0, hp1, hp2⟩ := info_parts ssInfo
  have hl := Lib.hid hr.1
  have HR := Lib.hid hr
  have HS := Lib.hid hs
  clear hr hs
  go_enter Try.func93, Try.ntmps93
  go_wp2
  go_loopw [3, 4] (fun v3 v4 wr => ∃ (k : Nat) (ss : List Sl) (A3 : Option Addr) (c3 : Nat), k ≤ n ∧ v3 = .slice A3 k c3 ∧ v4 = .int .i64 (k : Int) ∧ ss.length = k ∧ Own wr w.heap.size wr.heap.size 25 1 A3 k c3 (ss.map sl) ∧ InSS wr w.heap.size wr.heap.size ss xss k ∧ Below w.heap.size w wr) (fun _ v4 _ => n - (intOf v4).toNat)
  case atStart => exact ⟨0, [], some ⟨w.heap.size, 0, none⟩, 0, Nat.zero_le _, rfl, rfl, rfl, Own.of (own_empty w w.heap.size w.heap.size _ 1 rfl (Nat.le_refl _)), ⟨fun i h => absurd h (by omega), fun i j _ h => absurd h (by omega)⟩, by go_grown⟩
  case round =>
    obtain ⟨k, ss, A3, c3, hk, rfl, rfl, hls, hown, hin, hbr⟩ := hrel
    by_cases hlt : k < n
    · obtain ⟨g, o, A', n', c', rfl, hg, hc, hrd⟩ := (HR.out.below hbr).at_ hlt
      have hn' : n' ≤ 2097152 := by have h1 := HS.out k; have h2 := len_ints hrd; omega
      have HO := Lib.hid hown
      have HI := Lib.hid hin
      have HL := Lib.hid hls
      have HB := Lib.hid hbr
      have HE := Lib.hid (own_empty wr wr.heap.size wr.heap.size 5 1 rfl (Nat.le_refl _))
      have HRD := Lib.hid (show Rd (wr.alloc (.cells #[] 5)) 1 A' n' c' ((xss.getD k []).map (Value.int .u8)) from hrd.keep fun _ g' _ hlt => Below.heap_alloc wr _ g' hlt)
      clear hown hin hls hbr hrd
      go_wp2_with (first
        | (at_builtin; refine wpl_app _ rfl _ _ 25 rfl wr.heap.size 5 iu (.int .u8 0) 1 1 Try.underlying25 hiu hu0 hu1 hu2 rfl (by decide) _ _ _ _ rfl HE.out A' n' c' _ rfl HRD.out (one_ints .u8 _) (by unfold maxLen; omega) (by omega) (by simp) ?_; intro A1 c1 w1 hown1 hg1 hat1; simp only [Nat.zero_add, List.nil_append] at hown1; have HB1 := Lib.hid (show Below wr.heap.size wr w1 from below_app (Below.alloc (Below.refl _ _) (Nat.le_refl _) _) hg1 (by simp) (fun g hg => (blk_of_own HE.out g hg).1)); have HO1 := Lib.hid hown1; clear hown1 hg1 hat1; have HP := Lib.hid (show (w1.alloc (.cells #[.slice A1 n' c1] 25)).ownsRow w.heap.size 25 1 (.slice A3 k c3) k (ss.map sl) from (own_below HO.out.1 HB1.out).alloc _))
        | (at_builtin; refine wpl_app _ rfl _ _ 22 rfl w.heap.size 25 ip (.slice none 0 0) 1 24 Try.underlying22 hip hp0 hp1 hp2 rfl (by decide) _ _ _ _ rfl HP.out _ 1 1 [.slice A1 n' c1] rfl (Rd.one _ _ _) (fun u hu => by simp at hu; subst hu; rfl) (by unfold maxLen; omega) (by omega) (by have := HB.out.size; have := HB1.out.size; simp; omega) ?_; intro A2 c2 w2 hown2 hg2 hat2))
      have HL2 := Lib.hid (show (ss ++ [(A1, n', c1)]).length = k + 1 by simp [HL.out])
      have HM := Lib.hid (show Own w2 w.heap.size w2.heap.size 25 1 A2 (k + 1) c2 ((ss ++ [(A1, n', c1)]).map sl) from Own.of (by rw [List.map_append]; exact hown2))
      have HN := Lib.hid (show InSS w2 w.heap.size w2.heap.size (ss ++ [(A1, n', c1)]) xss (k + 1) from (in_only (((in_step (s := (A1, n', c1)) (HI.out.keep fun g _ hg => HB1.out.block g hg) HL.out (Own.of HO1.out) HB.out.size HB1.out.size)).keep fun g _ hg => Below.heap_alloc w1 _ g hg) (Own.of HP.out) hg2).wider (Nat.le_refl _) (by have := hg2.size; simp at this; omega))
      have HB2 := Lib.hid (show Below w.heap.size w w2 from below_app ((stepB HB.out HB1.out HB.out.size).alloc (Nat.le_trans HB.out.size HB1.out.size) _) hg2 (by have := HB.out.size; have := HB1.out.size; simp; omega) (fun g hg => (blk_of_own HP.out g hg).1))
      clear hown2 hg2 hat2 hc
      go_wp2
      go_roundw
      case rel => exact ⟨k + 1, ss ++ [(A1, n', c1)], A2, c2, by omega, rfl, by go_num, HL2.out, HM.out, HN.out, HB2.out⟩
      case measure => simp [intOf]; omega
    · obtain rfl : k = n := by omega
      have HW := Lib.hid hown
      have HI := Lib.hid hin
      have HL := Lib.hid hls
      have HB := Lib.hid hbr
      clear hown hin hls hbr
      go_wp2
      go_ret
      exact ⟨_, _, rfl, ⟨hl.out, ss, HL.out, HW.out, HI.out⟩, HB.out⟩
end Go.Proofs.Ythdieeaegplnmaa.Gb
