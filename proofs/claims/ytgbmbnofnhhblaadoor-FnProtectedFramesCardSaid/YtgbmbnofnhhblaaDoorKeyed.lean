/- Contracts of the keyed hash, and of bytes as numbers. -/
import Derived.Test.YtgbmbnofnhhblaaDoorHash
namespace Go.Proofs.YtgbmbnofnhhblaaDoor.Hsh
open Go.RowKit
open Go.Proofs.YtgbmbnofnhhblaaDoor.Num Go.Proofs.YtgbmbnofnhhblaaDoor.Mem

theorem intInfo : (Tryd.prog.info? 3).map (fun i => (i.zero, i.size, i.bytes)) = some (some (.int .i64 0), 1, 8) := by kernel_rfl

/-- the numbers that a key's hash takes in -/
def keyed (key : Int) (zs : List Int) : List Int := key :: (zs ++ [key])
theorem keyed_map (key : Int) (zs : List Int) : (keyed key zs).map (Value.int .i64) = .int .i64 key :: (zs.map (Value.int .i64) ++ [.int .i64 key]) := by simp [keyed]
theorem keyed_wf {key : Int} {zs : List Int} (hk : -9223372036854775808 ≤ key ∧ key ≤ 9223372036854775807) (hw : ∀ z ∈ zs, -9223372036854775808 ≤ z ∧ z ≤ 9223372036854775807) :
    ∀ z ∈ keyed key zs, -9223372036854775808 ≤ z ∧ z ≤ 9223372036854775807 := by
  intro z hz
  simp only [keyed, List.mem_cons, List.mem_append, List.not_mem_nil, or_false] at hz
  rcases hz with rfl | h | rfl
  · exact hk
  · exact hw z h
  · exact hk

set_option maxHeartbeats 1000000 in
theorem keyedHash_impl (key : Int) (A : Option Addr) (n c : Nat) (zs : List Int) (w : World) (hr : Rd w 1 A n c (zs.map (Value.int .i64))) (hn : n ≤ 16777216) (hk : -9223372036854775808 ≤ key ∧ key ≤ 9223372036854775807) (hw : ∀ z ∈ zs, -9223372036854775808 ≤ z ∧ z ≤ 9223372036854775807) :
    Calls Tryd.prog 62 #[.int .i64 key, .slice A n c] w fun e w' => e = .returned (.int .i64 (hashL (keyed key zs))) ∧ Below w.heap.size w w' := by
  obtain ⟨i0, hi, hz0, hz1, hz2⟩ := info_parts intInfo
  have HW := Lib.hid (keyed_wf hk hw)
  have HR := Lib.hid hr
  clear hr hw hk
  go_enter Tryd.func62, Tryd.ntmps62
  go_wp2_with (at_make; refine wpList_make_own _ rfl _ _ 22 rfl w.heap.size 3 i0 (.int .i64 0) 1 Tryd.underlying22 hi hz0 hz1 _ _ _ (n + 2) rfl rfl (by omega) ?b2 ?b3 (Nat.le_refl _) ?_)
  case b2 => rw [hz2]; omega
  case b3 => unfold maxLen; omega
  intro w0 hown0 hgrow0
  have hb0 : Below w.heap.size w w0 := (Below.refl _ _).grown hgrow0 (Nat.le_refl _) (fun k h => by cases h)
  have hs0 := hb0.size
  go_wp2_with (first
    | (at_builtin; refine wpl_app _ rfl _ _ 22 rfl w.heap.size 3 i0 (.int .i64 0) 1 8 Tryd.underlying22 hi hz0 hz1 hz2 rfl (by decide) _ _ _ _ rfl (hown0.alloc _) _ 1 1 [.int .i64 key] rfl (Rd.one _ _ _) (one_ints .i64 [key]) (by unfold maxLen; omega) (by omega) (by simp; omega) ?_; intro A1 c1 w1 hown1 hg1 hat1; have hb1 : Below w.heap.size w w1 := below_app (hb0.alloc hs0 _) hg1 (by simp; omega) (fun g hg => (blk_of_own hown0 g hg).1); clear hown0 hg1 hat1; have hs1 := hb1.size)
    | (at_builtin; refine wpl_app _ rfl _ _ 22 rfl w.heap.size 3 i0 (.int .i64 0) 1 8 Tryd.underlying22 hi hz0 hz1 hz2 rfl (by decide) _ _ _ _ rfl hown1 A n c _ rfl (HR.out.below hb1) (one_ints .i64 zs) (by unfold maxLen; omega) (by omega) hs1 ?_; intro A2 c2 w2 hown2 hg2 hat2; have hb2 : Below w.heap.size w w2 := below_app hb1 hg2 hs1 (fun g hg => (blk_of_own hown1 g hg).1); clear hown1 hg2 hat2; have hs2 := hb2.size)
    | (at_builtin; refine wpl_app _ rfl _ _ 22 rfl w.heap.size 3 i0 (.int .i64 0) 1 8 Tryd.underlying22 hi hz0 hz1 hz2 rfl (by decide) _ _ _ _ rfl (hown2.alloc _) _ 1 1 [.int .i64 key] rfl (Rd.one _ _ _) (one_ints .i64 [key]) (by unfold maxLen; omega) (by omega) (by simp; omega) ?_; intro A3 c3 w3 hown3 hg3 hat3; have hb3 : Below w.heap.size w w3 := below_app (hb2.alloc hs2 _) hg3 (by simp; omega) (fun g hg => (blk_of_own hown2 g hg).1); have hr3 := Lib.hid (Rd.of_own hown3); clear hown2 hown3 hg3 hat3)
    | (go_at_call 72; refine (hash_impl _ _ _ (keyed key zs) _ (by rw [keyed_map]; simpa using hr3.out) HW.out).mono ?_; rintro e w' ⟨rfl, rfl⟩))
  go_ret
  exact ⟨rfl, hb3⟩
set_option maxHeartbeats 1000000 in
theorem keyedHash_spec (key : Int) (A : Option Addr) (n c : Nat) (zs : List Int) (w : World) (hr : Rd w 1 A n c (zs.map (Value.int .i64))) (hn : n ≤ 16777216) (hk : -9223372036854775808 ≤ key ∧ key ≤ 9223372036854775807) (hw : ∀ z ∈ zs, -9223372036854775808 ≤ z ∧ z ≤ 9223372036854775807) :
    Calls Tryd.prog 57 #[.int .i64 key, .slice A n c] w fun e w' => e = .returned (.int .i64 (hashL (keyed key zs))) ∧ Below w.heap.size w w' := by
  obtain ⟨i0, hi, hz0, hz1, hz2⟩ := info_parts intInfo
  have HW := Lib.hid (keyed_wf hk hw)
  have HR := Lib.hid hr
  clear hr hw hk
  have hlit : (w.alloc (.cells #[.int .i64 key] 3)).ownsRow w.heap.size 3 1 (.slice (some ⟨w.heap.size, 0, none⟩) 1 1) 1 [.int .i64 key] := World.ownsRow_lit w #[.int .i64 key] 1 (Nat.le_refl _) (by unfold maxLen; omega) rfl
  have hb0 : Below w.heap.size w (w.alloc (.cells #[.int .i64 key] 3)) := (Below.refl _ _).alloc (Nat.le_refl _) _
  go_enter Tryd.func57, Tryd.ntmps57
  go_wp2_with (first
    | (at_builtin; refine wpl_app _ rfl _ _ 22 rfl w.heap.size 3 i0 (.int .i64 0) 1 8 Tryd.underlying22 hi hz0 hz1 hz2 rfl (by decide) _ _ _ _ rfl hlit A n c _ rfl (HR.out.below hb0) (one_ints .i64 zs) (by unfold maxLen; omega) (by omega) (by simp) ?_; intro A2 c2 w2 hown2 hg2 hat2; have hb2 : Below w.heap.size w w2 := below_app hb0 hg2 (by simp) (fun g hg => (blk_of_own hlit g hg).1); clear hg2 hat2; have hs2 := hb2.size)
    | (at_builtin; refine wpl_app _ rfl _ _ 22 rfl w.heap.size 3 i0 (.int .i64 0) 1 8 Tryd.underlying22 hi hz0 hz1 hz2 rfl (by decide) _ _ _ _ rfl (hown2.alloc _) _ 1 1 [.int .i64 key] rfl (Rd.one _ _ _) (one_ints .i64 [key]) (by unfold maxLen; omega) (by omega) (by simp; omega) ?_; intro A3 c3 w3 hown3 hg3 hat3; have hb3 : Below w.heap.size w w3 := below_app (hb2.alloc hs2 _) hg3 (by simp; omega) (fun g hg => (blk_of_own hown2 g hg).1); have hr3 := Lib.hid (Rd.of_own hown3); clear hown2 hown3 hg3 hat3)
    | (go_at_call 70; refine (hash_spec _ _ _ (keyed key zs) _ (by rw [keyed_map]; simpa using hr3.out) HW.out).mono ?_; rintro e w' ⟨rfl, rfl⟩))
  go_ret
  exact ⟨rfl, hb3⟩
end Go.Proofs.YtgbmbnofnhhblaaDoor.Hsh
