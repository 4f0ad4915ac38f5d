/- Contracts of BytesToInts: the length, then each byte as a number, in new memory. -/
import Derived.Test.YtgbmbnofnhhblaaDoorKeyed
namespace Go.Proofs.YtgbmbnofnhhblaaDoor.Hsh
open Go.RowKit
open Go.Proofs.YtgbmbnofnhhblaaDoor.Num Go.Proofs.YtgbmbnofnhhblaaDoor.Mem

/-- each number is a byte -/
def AllBytes (bs : List Int) : Prop := ∀ z ∈ bs, 0 ≤ z ∧ z ≤ 255
theorem AllBytes.at_ {bs : List Int} (h : AllBytes bs) {k : Nat} (hk : k < bs.length) : 0 ≤ bs.getD k 0 ∧ bs.getD k 0 ≤ 255 := by
  refine h _ ?_
  rw [List.getD_eq_getElem?_getD, List.getElem?_eq_getElem hk]
  exact List.getElem_mem _
/-- the bytes as numbers, their count ahead -/
def bytesNums (bs : List Int) : List Int := (bs.length : Int) :: bs
theorem nums_snoc (n : Int) (bs : List Int) (k : Nat) (h : k < bs.length) (z : Int) (hz : bs.getD k 0 = z) : (n :: bs.take (k + 1)).map (Value.int .i64) = (n :: bs.take k).map (Value.int .i64) ++ [.int .i64 z] := by
  rw [take_snoc bs k h, hz]; simp

set_option maxHeartbeats 1000000 in
theorem bytesToInts_impl (A : Option Addr) (n c : Nat) (bs : List Int) (w : World) (hr : Rd w 1 A n c (bs.map (Value.int .u8))) (hn : n ≤ 2097152) (hb : AllBytes bs) :
    Calls Tryd.prog 65 #[.slice A n c] w (RetOwn w 3 1 (n + 1) ((bytesNums bs).map (Value.int .i64))) := by
  obtain ⟨i0, hi, hz0, hz1, hz2⟩ := info_parts intInfo
  have hl := Lib.hid (len_ints hr)
  have HB := Lib.hid hb
  have HR := Lib.hid hr
  clear hr hb
  go_enter Tryd.func65, Tryd.ntmps65
  go_wp2_with (at_make; refine wpList_make_own _ rfl _ _ 22 rfl w.heap.size 3 i0 (.int .i64 0) 1 Tryd.underlying22 hi hz0 hz1 _ _ _ (n + 1) rfl rfl (by omega) ?b2 ?b3 (Nat.le_refl _) ?_)
  case b2 => rw [hz2]; omega
  case b3 => unfold maxLen; omega
  intro w0 hown0 hgrow0
  have hb0 : Below w.heap.size w w0 := (Below.refl _ _).grown hgrow0 (Nat.le_refl _) (fun k h => by cases h)
  clear hgrow0
  have hs0 := hb0.size
  go_wp2_with (first
    | (at_builtin; refine wpl_app _ rfl _ _ 22 rfl w.heap.size 3 i0 (.int .i64 0) 1 8 Tryd.underlying22 hi hz0 hz1 hz2 rfl (by decide) _ _ _ _ rfl (hown0.alloc _) _ 1 1 [.int .i64 n] rfl (Rd.one _ _ _) (one_ints .i64 [(n : Int)]) (by unfold maxLen; omega) (by omega) (by simp; omega) ?_; intro A1 c1 w1 hown1 hg1 hat1; have hb1 : Below w.heap.size w w1 := below_app (hb0.alloc hs0 _) hg1 (by simp; omega) (fun g hg => (blk_of_own hown0 g hg).1); clear hown0 hg1 hat1; have hs1 := hb1.size))
  have hown1' := Lib.hid (show w1.ownsRow w.heap.size 3 1 (.slice A1 1 c1) 1 (((n : Int) :: bs.take 0).map (Value.int .i64)) by simpa using hown1)
  clear hown1
  go_loopw [3, 17] (fun v3 v17 wr => ∃ (k : Nat) (A1 : Option Addr) (c1 : Nat), k ≤ n ∧ v17 = .int .i64 (k : Int) ∧ v3 = .slice A1 (k + 1) c1 ∧ wr.ownsRow w.heap.size 3 1 (.slice A1 (k + 1) c1) (k + 1) (((n : Int) :: bs.take k).map (Value.int .i64)) ∧ Below w.heap.size w wr) (fun _ v17 _ => n - (intOf v17).toNat)
  case atStart => exact ⟨0, A1, c1, Nat.zero_le _, rfl, rfl, hown1'.out, hb1⟩
  case round =>
    obtain ⟨k, A2, c2, hk, rfl, rfl, hown, hbr⟩ := hrel
    clear hb1 hs1 hb0 hs0 hown1'
    have hsr := hbr.size
    by_cases hlt : k < n
    · obtain ⟨g, o, rfl, hg, hc⟩ := (HR.out.below hbr).int_at hlt
      have hz := HB.out.at_ (k := k) (by rw [hl.out]; exact hlt)
      have HS := Lib.hid (nums_snoc n bs k (by rw [hl.out]; exact hlt) _ rfl)
      generalize bs.getD k 0 = z at hc hz HS
      obtain ⟨z1, z2⟩ := hz
      go_wp2_with (first
        | (at_builtin; refine wpl_app _ rfl _ _ 22 rfl w.heap.size 3 i0 (.int .i64 0) 1 8 Tryd.underlying22 hi hz0 hz1 hz2 rfl (by decide) _ _ _ _ rfl (hown.alloc _) _ 1 1 [.int .i64 z] rfl (Rd.one _ _ _) (one_ints .i64 [z]) (by unfold maxLen; omega) (by omega) (by simp; omega) ?_; intro A3 c3 w3 hown3 hg3 hat3; have hb3 : Below w.heap.size w w3 := below_app (hbr.alloc hsr _) hg3 (by simp; omega) (fun g hg => (blk_of_own hown g hg).1); clear hown hg3 hat3))
      go_roundw
      case rel => exact ⟨k + 1, A3, c3, by omega, by go_num, rfl, by rw [HS.out]; exact hown3, hb3⟩
      case measure => simp [intOf]; omega
    · obtain rfl : k = n := by omega
      have HA := Lib.hid (show bs.take k = bs by rw [List.take_of_length_le (by rw [hl.out]; exact Nat.le_refl _)])
      have HO := Lib.hid hown
      clear hown
      go_wp2
      go_ret
      exact ⟨A2, c2, rfl, by have h := HO.out; rw [HA.out] at h; unfold bytesNums; rw [hl.out]; exact h, hbr⟩
set_option maxHeartbeats 1000000 in
theorem bytesToInts_spec (A : Option Addr) (n c : Nat) (bs : List Int) (w : World) (hr : Rd w 1 A n c (bs.map (Value.int .u8))) (hn : n ≤ 2097152) (hb : AllBytes bs) :
    Calls Tryd.prog 60 #[.slice A n c] w (RetOwn w 3 1 (n + 1) ((bytesNums bs).map (Value.int .i64))) := by
  obtain ⟨i0, hi, hz0, hz1, hz2⟩ := info_parts intInfo
  have hl := Lib.hid (len_ints hr)
  have HB := Lib.hid hb
  have HR := Lib.hid hr
  clear hr hb
  go_enter Tryd.func60, Tryd.ntmps60
  go_wp2
  have hlit : (w.alloc (.cells #[.int .i64 (n : Int)] 3)).ownsRow w.heap.size 3 1 (.slice (some ⟨w.heap.size, 0, none⟩) 1 1) 1 [.int .i64 (n : Int)] := World.ownsRow_lit w #[.int .i64 (n : Int)] 1 (Nat.le_refl _) (by unfold maxLen; omega) rfl
  go_loopw [3, 4] (fun v3 v4 wr => ∃ (k : Nat) (A1 : Option Addr) (c1 : Nat), k ≤ n ∧ v4 = .int .i64 (k : Int) ∧ v3 = .slice A1 (k + 1) c1 ∧ wr.ownsRow w.heap.size 3 1 (.slice A1 (k + 1) c1) (k + 1) (((n : Int) :: bs.take k).map (Value.int .i64)) ∧ Below w.heap.size w wr) (fun _ v4 _ => n - (intOf v4).toNat)
  case atStart => exact ⟨0, some ⟨w.heap.size, 0, none⟩, 1, Nat.zero_le _, rfl, rfl, hlit, (Below.refl _ _).alloc (Nat.le_refl _) _⟩
  case round =>
    obtain ⟨k, A2, c2, hk, rfl, rfl, hown, hbr⟩ := hrel
    have hsr := hbr.size
    by_cases hlt : k < n
    · obtain ⟨g, o, rfl, hg, hc⟩ := (HR.out.below hbr).int_at hlt
      have hz := HB.out.at_ (k := k) (by rw [hl.out]; exact hlt)
      have HS := Lib.hid (nums_snoc n bs k (by rw [hl.out]; exact hlt) _ rfl)
      generalize bs.getD k 0 = z at hc hz HS
      obtain ⟨z1, z2⟩ := hz
      go_wp2_with (first
        | (at_builtin; refine wpl_app _ rfl _ _ 22 rfl w.heap.size 3 i0 (.int .i64 0) 1 8 Tryd.underlying22 hi hz0 hz1 hz2 rfl (by decide) _ _ _ _ rfl (hown.alloc _) _ 1 1 [.int .i64 z] rfl (Rd.one _ _ _) (one_ints .i64 [z]) (by unfold maxLen; omega) (by omega) (by simp; omega) ?_; intro A3 c3 w3 hown3 hg3 hat3; have hb3 : Below w.heap.size w w3 := below_app (hbr.alloc hsr _) hg3 (by simp; omega) (fun g hg => (blk_of_own hown g hg).1); clear hown hg3 hat3))
      go_roundw
      case rel => exact ⟨k + 1, A3, c3, by omega, by go_num, rfl, by rw [HS.out]; exact hown3, hb3⟩
      case measure => simp [intOf]; omega
    · obtain rfl : k = n := by omega
      have HA := Lib.hid (show bs.take k = bs by rw [List.take_of_length_le (by rw [hl.out]; exact Nat.le_refl _)])
      have HO := Lib.hid hown
      clear hown
      go_wp2
      go_ret
      exact ⟨A2, c2, rfl, by have h := HO.out; rw [HA.out] at h; unfold bytesNums; rw [hl.out]; exact h, hbr⟩
end Go.Proofs.YtgbmbnofnhhblaaDoor.Hsh
