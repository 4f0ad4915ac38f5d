/- The walk of the law on NewGroupBuffer. -/
import Derived.Test.YtfjheaobojebhaaGb
namespace Go.Proofs.Ytfjheaobojebhaa.Gb
open Go.RowKit
open Go.Proofs.Ytfjheaobojebhaa.Num Go.Proofs.Ytfjheaobojebhaa.Mem Go.Proofs.Ytfjheaobojebhaa.Hsh Go.Proofs.Ytfjheaobojebhaa.Sls Go.Proofs.Ytfjheaobojebhaa.Own Go.Proofs.Ytfjheaobojebhaa.SS Go.Proofs.Ytfjheaobojebhaa.Bcn
set_option linter.unusedSimpArgs false
def perM (p : Int) : Int := if 1 ≤ p ∧ p ≤ 8 then p else 1
theorem rdNil (w : World) (A : Option Addr) : RdSS w A 0 0 [] := ⟨rfl, Nat.le_refl _, by omega, fun h => absurd h (by omega)⟩
theorem markNil (pe lo k : Int) (A : Option Addr) (w : World) : Calls Try.prog 23 #[.agg #[.int .i64 pe, .slice A 0 0, .int .i64 lo], .int .i64 k] w fun x w' => x = .returned (.int .i64 k) ∧ Below w.heap.size w w' := by
  have HS := Lib.hid (show ∀ w, Calls Try.prog 39 #[.slice A 0 0, .int .i64 k] w fun x w' => x = .returned (.int .i64 k) ∧ w = w' from fun w => by
    go_enter Try.func39, Try.ntmps39
    go_wp2
    go_loop [1, 5] (fun v1 v5 => v1 = .int .i64 k ∧ v5 = .int .i64 0) (fun _ _ => 0)
    case atStart => exact ⟨rfl, rfl⟩
    case round =>
      obtain ⟨rfl, rfl⟩ := hrel
      go_wp2
      go_ret
      exact ⟨rfl, rfl⟩)
  go_enter Try.func23, Try.ntmps23
  go_wp2_with fail
  refine (HS.out _).mono ?_
  rintro x w' ⟨rfl, rfl⟩
  go_wp2
  go_ret
  exact ⟨rfl, by go_grown⟩
theorem heldNil (pe lo k : Int) (A : Option Addr) (w : World) (k0 : 0 ≤ k) : Calls Try.prog 24 #[.agg #[.int .i64 pe, .slice A 0 0, .int .i64 lo], .int .i64 k] w fun x w' => x = .returned (.int .i64 k) ∧ Below w.heap.size w w' := by
  have HS := Lib.hid (show ∀ w, Calls Try.prog 40 #[.slice A 0 0, .int .i64 k] w fun x w' => x = .returned (.int .i64 k) ∧ w = w' from fun w => by
    go_enter Try.func40, Try.ntmps40
    go_wp2
    go_loop [1, 5] (fun v1 v5 => v1 = .int .i64 k ∧ v5 = .int .i64 0) (fun _ _ => 0)
    case atStart => exact ⟨rfl, rfl⟩
    case round =>
      obtain ⟨rfl, rfl⟩ := hrel
      go_wp2
      go_ret
      exact ⟨rfl, rfl⟩)
  go_enter Try.func24, Try.ntmps24
  go_wp2_with fail
  refine (HS.out _).mono ?_
  rintro x w' ⟨rfl, rfl⟩
  go_wp2
  go_ret
  exact ⟨rfl, by go_grown⟩
/-- a new group buffer without frames -/
def NewGb (p : Int) (w : World) (x : Ending) (w' : World) : Prop := ∃ A, x = .returned (.agg #[.int .i64 (perM p), .slice A 0 0, .int .i64 0]) ∧ Below w.heap.size w w'
theorem new_impl (p : Int) (w : World) : Calls Try.prog 21 #[.int .i64 p] w (NewGb p w) := by
  by_cases h : 1 ≤ p ∧ p ≤ 8
  · have HP := Lib.hid (show perM p = p by unfold perM; rw [if_pos h])
    obtain ⟨h1, h2⟩ := h
    go_enter Try.func21, Try.ntmps21
    go_wp2_with (first | (go_at_call 73; refine (in_impl_yes _ _ _ _ (by omega) (by omega)).mono ?_; rintro e w' ⟨rfl, rfl⟩))
    refine bodyPost_ret (v := .agg #[.int .i64 p, .slice (some ⟨w.heap.size + 1, 0, none⟩) 0 0, .int .i64 0]) (by simp [results, Try.results21, go_sem]) rfl ?_
    exact ⟨_, by rw [HP.out], by go_grown⟩
  · have HP := Lib.hid (show perM p = 1 by unfold perM; rw [if_neg h])
    have hE : p < 1 ∨ 8 < p := by omega
    clear h
    go_enter Try.func21, Try.ntmps21
    go_wp2_with (first | (go_at_call 73; refine (in_impl_no _ _ _ _ (by omega)).mono ?_; rintro e w' ⟨rfl, rfl⟩))
    refine bodyPost_ret (v := .agg #[.int .i64 1, .slice (some ⟨w.heap.size + 1, 0, none⟩) 0 0, .int .i64 0]) (by simp [results, Try.results21, go_sem]) rfl ?_
    exact ⟨_, by rw [HP.out], by go_grown⟩
theorem new_spec (p : Int) (w : World) : Calls Try.prog 20 #[.int .i64 p] w (NewGb p w) := by
  by_cases h : 1 ≤ p ∧ p ≤ 8
  · have HP := Lib.hid (show perM p = p by unfold perM; rw [if_pos h])
    obtain ⟨h1, h2⟩ := h
    go_enter Try.func20, Try.ntmps20
    go_wp2_with (first | (go_at_call 75; refine (in_spec_yes _ _ _ _ (by omega) (by omega)).mono ?_; rintro e w' ⟨rfl, rfl⟩))
    refine bodyPost_ret (v := .agg #[.int .i64 p, .slice none 0 0, .int .i64 0]) (by simp [results, Try.results20, go_sem]) rfl ?_
    exact ⟨_, by rw [HP.out], by go_grown⟩
  · have HP := Lib.hid (show perM p = 1 by unfold perM; rw [if_neg h])
    have hE : p < 1 ∨ 8 < p := by omega
    clear h
    go_enter Try.func20, Try.ntmps20
    go_wp2_with (first | (go_at_call 75; refine (in_spec_no _ _ _ _ (by omega)).mono ?_; rintro e w' ⟨rfl, rfl⟩))
    refine bodyPost_ret (v := .agg #[.int .i64 1, .slice none 0 0, .int .i64 0]) (by simp [results, Try.results20, go_sem]) rfl ?_
    exact ⟨_, by rw [HP.out], by go_grown⟩
set_option maxHeartbeats 4000000 in
theorem new_law (p : Int) (w : World) (_h : (Lit.int .i64 p).wf = true) : Calls Try.prog 4 #[.int .i64 p] w fun x w' => x = .returned (.bool true) ∧ Below w.heap.size w w' := by
  clear _h
  have H1 := Lib.hid (new_spec p)
  have H2 := Lib.hid (new_impl p)
  go_enter Try.func4, Try.ntmps4
  go_wp2_with fail
  refine (H1.out _).mono ?_
  rintro x w1 ⟨A1, rfl, B⟩
  have z1 := B.size
  go_wp2_with fail
  refine (H2.out _).mono ?_
  rintro x w2 ⟨A2, rfl, hb⟩
  obtain ⟨hc, hf⟩ := bcells hb
  have s0 := (hc (w1.heap.size) 0 (by simp <;> omega)).trans (show _ = some (.int .i64 (perM p)) from by first | (simp; done) | (simp [World.cell?_alloc_at]; done) | (rw [World.cell?_alloc_old _ _ _ (by simp <;> omega)]; first | (simp; done) | (simp [World.cell?_alloc_at]; done))); have s1 := (hc (w1.heap.size) 1 (by simp <;> omega)).trans (show _ = some (.slice A1 0 0) from by first | (simp; done) | (simp [World.cell?_alloc_at]; done) | (rw [World.cell?_alloc_old _ _ _ (by simp <;> omega)]; first | (simp; done) | (simp [World.cell?_alloc_at]; done))); have s2 := (hc (w1.heap.size) 2 (by simp <;> omega)).trans (show _ = some (.int .i64 0) from by first | (simp; done) | (simp [World.cell?_alloc_at]; done) | (rw [World.cell?_alloc_old _ _ _ (by simp <;> omega)]; first | (simp; done) | (simp [World.cell?_alloc_at]; done)))
  have z2 : w1.heap.size < w2.heap.size := World.block_lt_of_cell? w2 _ s0
  replace B := stepW (B.alloc z1 _) hb
  clear hb hc hf
  go_wp2_with fail
  refine (eqGb_same (perM p) 0 A2 0 0 A1 0 [] _ (rdNil _ _) (rdNil _ _)).mono ?_
  rintro x w3 ⟨rfl, hb⟩
  obtain ⟨hc, hf⟩ := bcells hb
  have g0 := (hc (w2.heap.size) 0 (by simp <;> omega)).trans (show _ = some (.int .i64 (perM p)) from by first | (simp; done) | (simp [World.cell?_alloc_at]; done) | (rw [World.cell?_alloc_old _ _ _ (by simp <;> omega)]; first | (simp; done) | (simp [World.cell?_alloc_at]; done))); have g1 := (hc (w2.heap.size) 1 (by simp <;> omega)).trans (show _ = some (.slice A2 0 0) from by first | (simp; done) | (simp [World.cell?_alloc_at]; done) | (rw [World.cell?_alloc_old _ _ _ (by simp <;> omega)]; first | (simp; done) | (simp [World.cell?_alloc_at]; done))); have g2 := (hc (w2.heap.size) 2 (by simp <;> omega)).trans (show _ = some (.int .i64 0) from by first | (simp; done) | (simp [World.cell?_alloc_at]; done) | (rw [World.cell?_alloc_old _ _ _ (by simp <;> omega)]; first | (simp; done) | (simp [World.cell?_alloc_at]; done)))
  replace s0 := (hc _ _ (by simp <;> omega)).trans ((World.cell?_alloc_old _ _ _ (by simp <;> omega)).trans s0); replace s1 := (hc _ _ (by simp <;> omega)).trans ((World.cell?_alloc_old _ _ _ (by simp <;> omega)).trans s1); replace s2 := (hc _ _ (by simp <;> omega)).trans ((World.cell?_alloc_old _ _ _ (by simp <;> omega)).trans s2)
  have z3 : w2.heap.size < w3.heap.size := World.block_lt_of_cell? w3 _ g0
  replace B := stepW (B.alloc (by omega) _) hb
  clear hb hc hf
  go_wp2_with fail
  refine (markNil (perM p) 0 1 A2 _).mono ?_
  rintro x w4 ⟨rfl, hb⟩
  replace s0 := Mem.lift hb s0; replace s1 := Mem.lift hb s1; replace s2 := Mem.lift hb s2; replace g0 := Mem.lift hb g0; replace g1 := Mem.lift hb g1; replace g2 := Mem.lift hb g2
  replace B := stepW B hb
  clear hb
  go_wp2_with fail
  refine (heldNil (perM p) 0 1 A2 _ (by omega)).mono ?_
  rintro x w5 ⟨rfl, hb⟩
  replace s0 := Mem.lift hb s0; replace s1 := Mem.lift hb s1; replace s2 := Mem.lift hb s2; replace g0 := Mem.lift hb g0; replace g1 := Mem.lift hb g1; replace g2 := Mem.lift hb g2
  replace B := stepW B hb
  clear hb
  go_wp2_with fail
  refine (H2.out _).mono ?_
  rintro x w6 ⟨A3, rfl, hb⟩
  replace s0 := Mem.lift hb s0; replace s1 := Mem.lift hb s1; replace s2 := Mem.lift hb s2; replace g0 := Mem.lift hb g0; replace g1 := Mem.lift hb g1; replace g2 := Mem.lift hb g2
  replace B := stepW B hb
  clear hb
  have z6 : w1.heap.size < w6.heap.size := World.block_lt_of_cell? w6 _ s0
  have z7 : w2.heap.size < w6.heap.size := World.block_lt_of_cell? w6 _ g0
  go_wp2_with fail
  refine (eqGb_same (perM p) 0 A3 0 0 A1 0 [] _ (rdNil _ _) (rdNil _ _)).mono ?_
  rintro x w7 ⟨rfl, hb⟩
  obtain ⟨hc, hf⟩ := bcells hb
  replace g0 := (hc _ _ (by simp <;> omega)).trans ((World.cell?_alloc_old _ _ _ (by simp <;> omega)).trans g0); replace g1 := (hc _ _ (by simp <;> omega)).trans ((World.cell?_alloc_old _ _ _ (by simp <;> omega)).trans g1); replace g2 := (hc _ _ (by simp <;> omega)).trans ((World.cell?_alloc_old _ _ _ (by simp <;> omega)).trans g2)
  replace B := stepW (B.alloc (by omega) _) hb
  clear hb hc hf s0 s1 s2
  go_wp2_with fail
  refine (heldNil (perM p) 0 1 A2 _ (by omega)).mono ?_
  rintro x w8 ⟨rfl, hb⟩
  replace B := stepW B hb
  clear hb
  go_wp2
  go_ret
  exact ⟨rfl, B⟩
end Go.Proofs.Ytfjheaobojebhaa.Gb
