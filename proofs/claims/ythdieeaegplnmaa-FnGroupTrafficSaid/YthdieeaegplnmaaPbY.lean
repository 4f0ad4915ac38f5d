/- Power buffers: AddStation where nothing is added, both sides. -/
import Derived.Test.YthdieeaegplnmaaPbR
import Derived.Test.YthdieeaegplnmaaPbS
import Derived.Test.YthdieeaegplnmaaPbO
namespace Go.Proofs.Ythdieeaegplnmaa.Pb
open Go.RowKit
open Go.Proofs.Ythdieeaegplnmaa.Num Go.Proofs.Ythdieeaegplnmaa.Mem Go.Proofs.Ythdieeaegplnmaa.Hsh Go.Proofs.Ythdieeaegplnmaa.Sls Go.Proofs.Ythdieeaegplnmaa.Own Go.Proofs.Ythdieeaegplnmaa.SS Go.Proofs.Ythdieeaegplnmaa.Gb
set_option linter.unusedSimpArgs false
set_option linter.unusedVariables false
/-- nothing is added -/
def NoAdd (ks : List Kt) (st : Int) (n : Nat) : Prop := ¬ validP ks n ∨ (validP ks n ∧ (st < 0 ∨ 15 < st)) ∨ (validP ks n ∧ (0 ≤ st ∧ st ≤ 15) ∧ ∃ j : Nat, j < n ∧ FindR ks st n (j : Int))
theorem add_cases (ks : List Kt) (st : Int) (n : Nat) : NoAdd ks st n ∨ (validP ks n ∧ (0 ≤ st ∧ st ≤ 15) ∧ FindR ks st n (-1)) := by
  by_cases h1 : validP ks n
  · by_cases h2 : 0 ≤ st ∧ st ≤ 15
    · by_cases h3 : ∃ j : Nat, j < n ∧ FindR ks st n (j : Int)
      · exact .inl (.inr (.inr ⟨h1, h2, h3⟩))
      · refine .inr ⟨h1, h2, .inl ⟨rfl, fun j hj e => h3 ?_⟩⟩
        induction j using Nat.strongRecOn with
        | _ j ih =>
          by_cases h4 : ∃ l, l < j ∧ (nthK ks l).st = st
          · obtain ⟨l, hl, hle⟩ := h4
            exact ih l hl (by omega) hle
          · exact ⟨j, hj, .inr ⟨j, hj, rfl, e, fun l hl he => h4 ⟨l, hl, he⟩⟩⟩
    · exact .inl (.inr (.inl ⟨h1, by omega⟩))
  · exact .inl (.inl h1)
set_option maxRecDepth 100000 in
set_option maxHeartbeats 8000000 in
theorem addI_no (A : Option Addr) (n c : Nat) (ks : List Kt) (st : Int) (w : World) (h : NoAdd ks st n) (hr : RdPB w A n c ks) (hn : n ≤ 1048577) (hs : AllFew ks) :
    Calls Try.prog 38 #[.agg #[.slice A n c], .int .i64 st] w (RetPO w n ks false) := by
  have HR := Lib.hid hr
  have HS := Lib.hid hs
  have B : Below w.heap.size w w := Below.refl _ _
  clear hr hs
  go_enter Try.func38, Try.ntmps38
  go_wp2_with fail
  generalize hW : World.alloc _ _ = w1
  have bp : Bk.Blk w1 (w.heap.size) 39 #[.slice A n c] := (by rw [← hW]; apply Bk.Blk.to; (focus (exact Bk.sv)); rfl)
  have r0 : Bk.Blk w1 (w.heap.size + 1) 39 #[.slice none 0 0] := (by rw [← hW]; apply Bk.Blk.to; (focus (exact Bk.sv)); rfl)
  replace B : Below w.heap.size w w1 := (by rw [← hW]; go_grown)
  have z1 : w1.heap.size = _ := congrArg (fun W : World => W.heap.size) hW.symm
  (try simp only [World.size_alloc, Bk.size_set, World.size_drew, World.drewN] at z1)
  clear hW
  refine (copyPb_any A n c ks _ (HR.out.below B) hn HS.out).mono ?_
  rintro x w2 ⟨A1, c1, rfl, hown, hb0⟩
  have HO := Lib.hid hown
  clear hown
  replace bp : Bk.Blk w2 (w.heap.size) 39 #[.slice A n c] := Bk.Blk.under hb0 (by exact Bk.sv)
  replace r0 : Bk.Blk w2 (w.heap.size + 1) 39 #[.slice none 0 0] := Bk.Blk.under hb0 (by exact Bk.sv)
  replace B : Below w.heap.size w w2 := Below.trans (by go_grown) (hb0.mono (by first | omega | (simp [Bk.size_set]; done) | (simp [Bk.size_set]; omega)))
  have z2 := hb0.size
  (try simp only [World.size_alloc, Bk.size_set, World.size_drew, World.drewN] at z2)
  clear hb0
  have l_bp : w.heap.size < w2.heap.size := Bk.Blk.lt bp
  have c_bp0 : w2.cell? ⟨w.heap.size, 0, none⟩ = some (.slice A n c) := Bk.Blk.cell bp 0
  have f_bp0 : w2.frozen? ⟨w.heap.size, 0, none⟩ = false := Bk.Blk.fro bp 0
  go_wp2_with fail
  clear l_bp c_bp0 f_bp0
  generalize hW : World.alloc _ _ = w3
  replace HO := Lib.hid (HO.out.below (show Below w2.heap.size w2 w3 from by rw [← hW]; go_grown) (Nat.le_refl _))
  have bo : Bk.Blk w3 (w2.heap.size) 39 #[.slice A1 n c1] := (by rw [← hW]; apply Bk.Blk.to; (focus (exact Bk.sv)); rfl)
  replace bp : Bk.Blk w3 (w.heap.size) 39 #[.slice A n c] := (by rw [← hW]; exact Bk.sv)
  replace r0 : Bk.Blk w3 (w.heap.size + 1) 39 #[.slice none 0 0] := (by rw [← hW]; exact Bk.sv)
  replace B : Below w.heap.size w w3 := (by rw [← hW]; go_grown)
  have z3 : w3.heap.size = _ := congrArg (fun W : World => W.heap.size) hW.symm
  (try simp only [World.size_alloc, Bk.size_set, World.size_drew, World.drewN] at z3)
  clear hW
  refine (validPb_impl A n c ks _ (HR.out.below B)).mono ?_
  rintro x w4 hsay
  unfold NoAdd at h
  rcases h with hv | ⟨hv, hst⟩ | ⟨hv, ⟨h0, h15⟩, j, hj, hF⟩
  · obtain ⟨rfl, hb0⟩ := says_false hsay hv
    clear hsay hv
    replace HO := Lib.hid (HO.out.below hb0 (by omega))
    replace bo : Bk.Blk w4 (w2.heap.size) 39 #[.slice A1 n c1] := Bk.Blk.under hb0 (by exact Bk.sv)
    replace r0 : Bk.Blk w4 (w.heap.size + 1) 39 #[.slice none 0 0] := Bk.Blk.under hb0 (by exact Bk.sv)
    replace B : Below w.heap.size w w4 := Below.trans (by go_grown) (hb0.mono (by first | omega | (simp [Bk.size_set]; done) | (simp [Bk.size_set]; omega)))
    have z4 := hb0.size
    (try simp only [World.size_alloc, Bk.size_set, World.size_drew, World.drewN] at z4)
    clear hb0
    have l_bo : w2.heap.size < w4.heap.size := Bk.Blk.lt bo
    have c_bo0 : w4.cell? ⟨w2.heap.size, 0, none⟩ = some (.slice A1 n c1) := Bk.Blk.cell bo 0
    have f_bo0 : w4.frozen? ⟨w2.heap.size, 0, none⟩ = false := Bk.Blk.fro bo 0
    have l_r0 : w.heap.size + 1 < w4.heap.size := Bk.Blk.lt r0
    have c_r00 : w4.cell? ⟨w.heap.size + 1, 0, none⟩ = some (.slice none 0 0) := Bk.Blk.cell r0 0
    have f_r00 : w4.frozen? ⟨w.heap.size + 1, 0, none⟩ = false := Bk.Blk.fro r0 0
    go_wp2_with fail
    clear l_bo c_bo0 f_bo0 l_r0 c_r00 f_r00
    generalize hW : World.setCell _ _ _ = w5
    have HO2 := Lib.hid (show OwnPB w5 w1.heap.size w2.heap.size A1 n c1 ks from by rw [← hW]; exact rd_set_far HO.out (by omega) _)
    replace r0 : Bk.Blk w5 (w.heap.size + 1) 39 #[.slice A1 n c1] := (by rw [← hW]; apply Bk.Blk.to; (focus (exact Bk.sv)); rfl)
    replace B : Below w.heap.size w w5 := (by rw [← hW]; go_grown)
    have z5 : w5.heap.size = _ := congrArg (fun W : World => W.heap.size) hW.symm
    (try simp only [World.size_alloc, Bk.size_set, World.size_drew, World.drewN] at z5)
    clear hW
    have l_r0 : w.heap.size + 1 < w5.heap.size := Bk.Blk.lt r0
    have c_r00 : w5.cell? ⟨w.heap.size + 1, 0, none⟩ = some (.slice A1 n c1) := Bk.Blk.cell r0 0
    go_wp2
    refine bodyPost_ret (v := .tuple #[.agg #[.slice A1 n c1], .bool false]) (by simp [results, Try.results38, go_sem, c_r00]) rfl (⟨_, _, rfl, HO2.out.wider (by omega) (by omega), B⟩)
  · obtain ⟨rfl, hb0⟩ := says_true hsay hv
    clear hsay hv
    replace HO := Lib.hid (HO.out.below hb0 (by omega))
    replace bo : Bk.Blk w4 (w2.heap.size) 39 #[.slice A1 n c1] := Bk.Blk.under hb0 (by exact Bk.sv)
    replace r0 : Bk.Blk w4 (w.heap.size + 1) 39 #[.slice none 0 0] := Bk.Blk.under hb0 (by exact Bk.sv)
    replace B : Below w.heap.size w w4 := Below.trans (by go_grown) (hb0.mono (by first | omega | (simp [Bk.size_set]; done) | (simp [Bk.size_set]; omega)))
    have z4 := hb0.size
    (try simp only [World.size_alloc, Bk.size_set, World.size_drew, World.drewN] at z4)
    clear hb0
    have l_bo : w2.heap.size < w4.heap.size := Bk.Blk.lt bo
    have c_bo0 : w4.cell? ⟨w2.heap.size, 0, none⟩ = some (.slice A1 n c1) := Bk.Blk.cell bo 0
    have f_bo0 : w4.frozen? ⟨w2.heap.size, 0, none⟩ = false := Bk.Blk.fro bo 0
    have l_r0 : w.heap.size + 1 < w4.heap.size := Bk.Blk.lt r0
    have c_r00 : w4.cell? ⟨w.heap.size + 1, 0, none⟩ = some (.slice none 0 0) := Bk.Blk.cell r0 0
    have f_r00 : w4.frozen? ⟨w.heap.size + 1, 0, none⟩ = false := Bk.Blk.fro r0 0
    go_wp2_with (first | (go_at_call 76; refine (Bcn.station_no _ _ hst).mono ?_; rintro e w' ⟨rfl, rfl⟩))
    clear l_bo c_bo0 f_bo0 l_r0 c_r00 f_r00
    generalize hW : World.setCell _ _ _ = w5
    have HO2 := Lib.hid (show OwnPB w5 w1.heap.size w2.heap.size A1 n c1 ks from by rw [← hW]; exact rd_set_far HO.out (by omega) _)
    replace r0 : Bk.Blk w5 (w.heap.size + 1) 39 #[.slice A1 n c1] := (by rw [← hW]; apply Bk.Blk.to; (focus (exact Bk.sv)); rfl)
    replace B : Below w.heap.size w w5 := (by rw [← hW]; go_grown)
    have z5 : w5.heap.size = _ := congrArg (fun W : World => W.heap.size) hW.symm
    (try simp only [World.size_alloc, Bk.size_set, World.size_drew, World.drewN] at z5)
    clear hW
    have l_r0 : w.heap.size + 1 < w5.heap.size := Bk.Blk.lt r0
    have c_r00 : w5.cell? ⟨w.heap.size + 1, 0, none⟩ = some (.slice A1 n c1) := Bk.Blk.cell r0 0
    go_wp2
    refine bodyPost_ret (v := .tuple #[.agg #[.slice A1 n c1], .bool false]) (by simp [results, Try.results38, go_sem, c_r00]) rfl (⟨_, _, rfl, HO2.out.wider (by omega) (by omega), B⟩)
  · obtain ⟨rfl, hb0⟩ := says_true hsay hv
    have HF := Lib.hid hF
    clear hsay hv hF
    replace HO := Lib.hid (HO.out.below hb0 (by omega))
    replace bo : Bk.Blk w4 (w2.heap.size) 39 #[.slice A1 n c1] := Bk.Blk.under hb0 (by exact Bk.sv)
    replace bp : Bk.Blk w4 (w.heap.size) 39 #[.slice A n c] := Bk.Blk.under hb0 (by exact Bk.sv)
    replace r0 : Bk.Blk w4 (w.heap.size + 1) 39 #[.slice none 0 0] := Bk.Blk.under hb0 (by exact Bk.sv)
    replace B : Below w.heap.size w w4 := Below.trans (by go_grown) (hb0.mono (by first | omega | (simp [Bk.size_set]; done) | (simp [Bk.size_set]; omega)))
    have z4 := hb0.size
    (try simp only [World.size_alloc, Bk.size_set, World.size_drew, World.drewN] at z4)
    clear hb0
    have l_bp : w.heap.size < w4.heap.size := Bk.Blk.lt bp
    have c_bp0 : w4.cell? ⟨w.heap.size, 0, none⟩ = some (.slice A n c) := Bk.Blk.cell bp 0
    have f_bp0 : w4.frozen? ⟨w.heap.size, 0, none⟩ = false := Bk.Blk.fro bp 0
    go_wp2_with (first | (go_at_call 76; refine (Bcn.station_yes _ _ h0 h15).mono ?_; rintro e w' ⟨rfl, rfl⟩))
    clear l_bp c_bp0 f_bp0
    refine (find_impl A n c ks st _ (HR.out.below B)).mono ?_
    rintro x w5 ⟨i, hi, rfl, hb0⟩
    obtain rfl := find_one HF.out hi
    replace HO := Lib.hid (HO.out.below hb0 (by omega))
    clear hi
    replace bo : Bk.Blk w5 (w2.heap.size) 39 #[.slice A1 n c1] := Bk.Blk.under hb0 (by exact Bk.sv)
    replace r0 : Bk.Blk w5 (w.heap.size + 1) 39 #[.slice none 0 0] := Bk.Blk.under hb0 (by exact Bk.sv)
    replace B : Below w.heap.size w w5 := Below.trans (by go_grown) (hb0.mono (by first | omega | (simp [Bk.size_set]; done) | (simp [Bk.size_set]; omega)))
    have z5 := hb0.size
    (try simp only [World.size_alloc, Bk.size_set, World.size_drew, World.drewN] at z5)
    clear hb0
    have hj2 : (0 : Int) ≤ (j : Int) := by omega
    have l_bo : w2.heap.size < w5.heap.size := Bk.Blk.lt bo
    have c_bo0 : w5.cell? ⟨w2.heap.size, 0, none⟩ = some (.slice A1 n c1) := Bk.Blk.cell bo 0
    have f_bo0 : w5.frozen? ⟨w2.heap.size, 0, none⟩ = false := Bk.Blk.fro bo 0
    have l_r0 : w.heap.size + 1 < w5.heap.size := Bk.Blk.lt r0
    have c_r00 : w5.cell? ⟨w.heap.size + 1, 0, none⟩ = some (.slice none 0 0) := Bk.Blk.cell r0 0
    have f_r00 : w5.frozen? ⟨w.heap.size + 1, 0, none⟩ = false := Bk.Blk.fro r0 0
    go_wp2_with fail
    clear l_bo c_bo0 f_bo0 l_r0 c_r00 f_r00
    generalize hW : World.setCell _ _ _ = w6
    have HO2 := Lib.hid (show OwnPB w6 w1.heap.size w2.heap.size A1 n c1 ks from by rw [← hW]; exact rd_set_far HO.out (by omega) _)
    replace r0 : Bk.Blk w6 (w.heap.size + 1) 39 #[.slice A1 n c1] := (by rw [← hW]; apply Bk.Blk.to; (focus (exact Bk.sv)); rfl)
    replace B : Below w.heap.size w w6 := (by rw [← hW]; go_grown)
    have z6 : w6.heap.size = _ := congrArg (fun W : World => W.heap.size) hW.symm
    (try simp only [World.size_alloc, Bk.size_set, World.size_drew, World.drewN] at z6)
    clear hW
    have l_r0 : w.heap.size + 1 < w6.heap.size := Bk.Blk.lt r0
    have c_r00 : w6.cell? ⟨w.heap.size + 1, 0, none⟩ = some (.slice A1 n c1) := Bk.Blk.cell r0 0
    go_wp2
    refine bodyPost_ret (v := .tuple #[.agg #[.slice A1 n c1], .bool false]) (by simp [results, Try.results38, go_sem, c_r00]) rfl (⟨_, _, rfl, HO2.out.wider (by omega) (by omega), B⟩)
set_option maxRecDepth 100000 in
set_option maxHeartbeats 8000000 in
theorem addS_no (A : Option Addr) (n c : Nat) (ks : List Kt) (st : Int) (w : World) (h : NoAdd ks st n) (hr : RdPB w A n c ks) (hn : n ≤ 1048577) (hs : AllFew ks) :
    Calls Try.prog 37 #[.agg #[.slice A n c], .int .i64 st] w (RetSN w n ks false) := by
  have HR := Lib.hid hr
  have HS := Lib.hid hs
  have B : Below w.heap.size w w := Below.refl _ _
  clear hr hs
  go_enter Try.func37, Try.ntmps37
  go_wp2_with fail
  generalize hW : World.alloc _ _ = w1
  have bp : Bk.Blk w1 (w.heap.size) 39 #[.slice A n c] := (by rw [← hW]; apply Bk.Blk.to; (focus (exact Bk.sv)); rfl)
  have r0 : Bk.Blk w1 (w.heap.size + 1) 39 #[.slice none 0 0] := (by rw [← hW]; apply Bk.Blk.to; (focus (exact Bk.sv)); rfl)
  replace B : Below w.heap.size w w1 := (by rw [← hW]; go_grown)
  have z1 : w1.heap.size = _ := congrArg (fun W : World => W.heap.size) hW.symm
  (try simp only [World.size_alloc, Bk.size_set, World.size_drew, World.drewN] at z1)
  clear hW
  refine (copyPb_spec A n c ks _ (HR.out.below B) hn HS.out).mono ?_
  rintro x w2 ⟨A1, c1, rfl, hown, hb0⟩
  have HO := Lib.hid hown
  clear hown
  replace bp : Bk.Blk w2 (w.heap.size) 39 #[.slice A n c] := Bk.Blk.under hb0 (by exact Bk.sv)
  replace r0 : Bk.Blk w2 (w.heap.size + 1) 39 #[.slice none 0 0] := Bk.Blk.under hb0 (by exact Bk.sv)
  replace B : Below w.heap.size w w2 := Below.trans (by go_grown) (hb0.mono (by first | omega | (simp [Bk.size_set]; done) | (simp [Bk.size_set]; omega)))
  have z2 := hb0.size
  (try simp only [World.size_alloc, Bk.size_set, World.size_drew, World.drewN] at z2)
  clear hb0
  have l_bp : w.heap.size < w2.heap.size := Bk.Blk.lt bp
  have c_bp0 : w2.cell? ⟨w.heap.size, 0, none⟩ = some (.slice A n c) := Bk.Blk.cell bp 0
  have f_bp0 : w2.frozen? ⟨w.heap.size, 0, none⟩ = false := Bk.Blk.fro bp 0
  go_wp2_with fail
  clear l_bp c_bp0 f_bp0
  generalize hW : World.alloc _ _ = w3
  replace HO := Lib.hid (HO.out.below (show Below w2.heap.size w2 w3 from by rw [← hW]; go_grown) (Nat.le_refl _))
  have bo : Bk.Blk w3 (w2.heap.size) 39 #[.slice A1 n c1] := (by rw [← hW]; apply Bk.Blk.to; (focus (exact Bk.sv)); rfl)
  replace bp : Bk.Blk w3 (w.heap.size) 39 #[.slice A n c] := (by rw [← hW]; exact Bk.sv)
  replace r0 : Bk.Blk w3 (w.heap.size + 1) 39 #[.slice none 0 0] := (by rw [← hW]; exact Bk.sv)
  replace B : Below w.heap.size w w3 := (by rw [← hW]; go_grown)
  have z3 : w3.heap.size = _ := congrArg (fun W : World => W.heap.size) hW.symm
  (try simp only [World.size_alloc, Bk.size_set, World.size_drew, World.drewN] at z3)
  clear hW
  refine (validPb_spec A n c ks _ (HR.out.below B)).mono ?_
  rintro x w4 hsay
  unfold NoAdd at h
  rcases h with hv | ⟨hv, hst⟩ | ⟨hv, ⟨h0, h15⟩, j, hj, hF⟩
  · obtain ⟨rfl, hb0⟩ := says_false hsay hv
    clear hsay hv
    replace HO := Lib.hid (HO.out.below hb0 (by omega))
    replace bo : Bk.Blk w4 (w2.heap.size) 39 #[.slice A1 n c1] := Bk.Blk.under hb0 (by exact Bk.sv)
    replace r0 : Bk.Blk w4 (w.heap.size + 1) 39 #[.slice none 0 0] := Bk.Blk.under hb0 (by exact Bk.sv)
    replace B : Below w.heap.size w w4 := Below.trans (by go_grown) (hb0.mono (by first | omega | (simp [Bk.size_set]; done) | (simp [Bk.size_set]; omega)))
    have z4 := hb0.size
    (try simp only [World.size_alloc, Bk.size_set, World.size_drew, World.drewN] at z4)
    clear hb0
    have l_bo : w2.heap.size < w4.heap.size := Bk.Blk.lt bo
    have c_bo0 : w4.cell? ⟨w2.heap.size, 0, none⟩ = some (.slice A1 n c1) := Bk.Blk.cell bo 0
    have f_bo0 : w4.frozen? ⟨w2.heap.size, 0, none⟩ = false := Bk.Blk.fro bo 0
    have l_r0 : w.heap.size + 1 < w4.heap.size := Bk.Blk.lt r0
    have c_r00 : w4.cell? ⟨w.heap.size + 1, 0, none⟩ = some (.slice none 0 0) := Bk.Blk.cell r0 0
    have f_r00 : w4.frozen? ⟨w.heap.size + 1, 0, none⟩ = false := Bk.Blk.fro r0 0
    go_wp2_with fail
    clear l_bo c_bo0 f_bo0 l_r0 c_r00 f_r00
    generalize hW : World.setCell _ _ _ = w5
    have HO2 := Lib.hid (show OwnPB w5 w1.heap.size w2.heap.size A1 n c1 ks from by rw [← hW]; exact rd_set_far HO.out (by omega) _)
    replace r0 : Bk.Blk w5 (w.heap.size + 1) 39 #[.slice A1 n c1] := (by rw [← hW]; apply Bk.Blk.to; (focus (exact Bk.sv)); rfl)
    replace B : Below w.heap.size w w5 := (by rw [← hW]; go_grown)
    have z5 : w5.heap.size = _ := congrArg (fun W : World => W.heap.size) hW.symm
    (try simp only [World.size_alloc, Bk.size_set, World.size_drew, World.drewN] at z5)
    clear hW
    have l_r0 : w.heap.size + 1 < w5.heap.size := Bk.Blk.lt r0
    have c_r00 : w5.cell? ⟨w.heap.size + 1, 0, none⟩ = some (.slice A1 n c1) := Bk.Blk.cell r0 0
    go_wp2
    refine bodyPost_ret (v := .tuple #[.agg #[.slice A1 n c1], .bool false]) (by simp [results, Try.results37, go_sem, c_r00]) rfl (⟨_, _, rfl, HO2.out.rowO (by omega) (by omega), B⟩)
  · obtain ⟨rfl, hb0⟩ := says_true hsay hv
    clear hsay hv
    replace HO := Lib.hid (HO.out.below hb0 (by omega))
    replace bo : Bk.Blk w4 (w2.heap.size) 39 #[.slice A1 n c1] := Bk.Blk.under hb0 (by exact Bk.sv)
    replace r0 : Bk.Blk w4 (w.heap.size + 1) 39 #[.slice none 0 0] := Bk.Blk.under hb0 (by exact Bk.sv)
    replace B : Below w.heap.size w w4 := Below.trans (by go_grown) (hb0.mono (by first | omega | (simp [Bk.size_set]; done) | (simp [Bk.size_set]; omega)))
    have z4 := hb0.size
    (try simp only [World.size_alloc, Bk.size_set, World.size_drew, World.drewN] at z4)
    clear hb0
    have l_bo : w2.heap.size < w4.heap.size := Bk.Blk.lt bo
    have c_bo0 : w4.cell? ⟨w2.heap.size, 0, none⟩ = some (.slice A1 n c1) := Bk.Blk.cell bo 0
    have f_bo0 : w4.frozen? ⟨w2.heap.size, 0, none⟩ = false := Bk.Blk.fro bo 0
    have l_r0 : w.heap.size + 1 < w4.heap.size := Bk.Blk.lt r0
    have c_r00 : w4.cell? ⟨w.heap.size + 1, 0, none⟩ = some (.slice none 0 0) := Bk.Blk.cell r0 0
    have f_r00 : w4.frozen? ⟨w.heap.size + 1, 0, none⟩ = false := Bk.Blk.fro r0 0
    go_wp2_with (first | (go_at_call 72; refine (in_spec_no _ _ _ _ hst).mono ?_; rintro e w' ⟨rfl, rfl⟩))
    clear l_bo c_bo0 f_bo0 l_r0 c_r00 f_r00
    generalize hW : World.setCell _ _ _ = w5
    have HO2 := Lib.hid (show OwnPB w5 w1.heap.size w2.heap.size A1 n c1 ks from by rw [← hW]; exact rd_set_far HO.out (by omega) _)
    replace r0 : Bk.Blk w5 (w.heap.size + 1) 39 #[.slice A1 n c1] := (by rw [← hW]; apply Bk.Blk.to; (focus (exact Bk.sv)); rfl)
    replace B : Below w.heap.size w w5 := (by rw [← hW]; go_grown)
    have z5 : w5.heap.size = _ := congrArg (fun W : World => W.heap.size) hW.symm
    (try simp only [World.size_alloc, Bk.size_set, World.size_drew, World.drewN] at z5)
    clear hW
    have l_r0 : w.heap.size + 1 < w5.heap.size := Bk.Blk.lt r0
    have c_r00 : w5.cell? ⟨w.heap.size + 1, 0, none⟩ = some (.slice A1 n c1) := Bk.Blk.cell r0 0
    go_wp2
    refine bodyPost_ret (v := .tuple #[.agg #[.slice A1 n c1], .bool false]) (by simp [results, Try.results37, go_sem, c_r00]) rfl (⟨_, _, rfl, HO2.out.rowO (by omega) (by omega), B⟩)
  · obtain ⟨rfl, hb0⟩ := says_true hsay hv
    have HF := Lib.hid hF
    clear hsay hv hF
    replace HO := Lib.hid (HO.out.below hb0 (by omega))
    replace bo : Bk.Blk w4 (w2.heap.size) 39 #[.slice A1 n c1] := Bk.Blk.under hb0 (by exact Bk.sv)
    replace bp : Bk.Blk w4 (w.heap.size) 39 #[.slice A n c] := Bk.Blk.under hb0 (by exact Bk.sv)
    replace r0 : Bk.Blk w4 (w.heap.size + 1) 39 #[.slice none 0 0] := Bk.Blk.under hb0 (by exact Bk.sv)
    replace B : Below w.heap.size w w4 := Below.trans (by go_grown) (hb0.mono (by first | omega | (simp [Bk.size_set]; done) | (simp [Bk.size_set]; omega)))
    have z4 := hb0.size
    (try simp only [World.size_alloc, Bk.size_set, World.size_drew, World.drewN] at z4)
    clear hb0
    have l_bp : w.heap.size < w4.heap.size := Bk.Blk.lt bp
    have c_bp0 : w4.cell? ⟨w.heap.size, 0, none⟩ = some (.slice A n c) := Bk.Blk.cell bp 0
    have f_bp0 : w4.frozen? ⟨w.heap.size, 0, none⟩ = false := Bk.Blk.fro bp 0
    go_wp2_with (first | (go_at_call 72; refine (in_spec_yes _ _ _ _ h0 h15).mono ?_; rintro e w' ⟨rfl, rfl⟩))
    clear l_bp c_bp0 f_bp0
    refine (find_spec A n c ks st _ (HR.out.below B)).mono ?_
    rintro x w5 ⟨i, hi, rfl, hb0⟩
    obtain rfl := find_one HF.out hi
    replace HO := Lib.hid (HO.out.below hb0 (by omega))
    clear hi
    replace bo : Bk.Blk w5 (w2.heap.size) 39 #[.slice A1 n c1] := Bk.Blk.under hb0 (by exact Bk.sv)
    replace r0 : Bk.Blk w5 (w.heap.size + 1) 39 #[.slice none 0 0] := Bk.Blk.under hb0 (by exact Bk.sv)
    replace B : Below w.heap.size w w5 := Below.trans (by go_grown) (hb0.mono (by first | omega | (simp [Bk.size_set]; done) | (simp [Bk.size_set]; omega)))
    have z5 := hb0.size
    (try simp only [World.size_alloc, Bk.size_set, World.size_drew, World.drewN] at z5)
    clear hb0
    have hj2 : (0 : Int) ≤ (j : Int) := by omega
    have l_bo : w2.heap.size < w5.heap.size := Bk.Blk.lt bo
    have c_bo0 : w5.cell? ⟨w2.heap.size, 0, none⟩ = some (.slice A1 n c1) := Bk.Blk.cell bo 0
    have f_bo0 : w5.frozen? ⟨w2.heap.size, 0, none⟩ = false := Bk.Blk.fro bo 0
    have l_r0 : w.heap.size + 1 < w5.heap.size := Bk.Blk.lt r0
    have c_r00 : w5.cell? ⟨w.heap.size + 1, 0, none⟩ = some (.slice none 0 0) := Bk.Blk.cell r0 0
    have f_r00 : w5.frozen? ⟨w.heap.size + 1, 0, none⟩ = false := Bk.Blk.fro r0 0
    go_wp2_with fail
    clear l_bo c_bo0 f_bo0 l_r0 c_r00 f_r00
    generalize hW : World.setCell _ _ _ = w6
    have HO2 := Lib.hid (show OwnPB w6 w1.heap.size w2.heap.size A1 n c1 ks from by rw [← hW]; exact rd_set_far HO.out (by omega) _)
    replace r0 : Bk.Blk w6 (w.heap.size + 1) 39 #[.slice A1 n c1] := (by rw [← hW]; apply Bk.Blk.to; (focus (exact Bk.sv)); rfl)
    replace B : Below w.heap.size w w6 := (by rw [← hW]; go_grown)
    have z6 : w6.heap.size = _ := congrArg (fun W : World => W.heap.size) hW.symm
    (try simp only [World.size_alloc, Bk.size_set, World.size_drew, World.drewN] at z6)
    clear hW
    have l_r0 : w.heap.size + 1 < w6.heap.size := Bk.Blk.lt r0
    have c_r00 : w6.cell? ⟨w.heap.size + 1, 0, none⟩ = some (.slice A1 n c1) := Bk.Blk.cell r0 0
    go_wp2
    refine bodyPost_ret (v := .tuple #[.agg #[.slice A1 n c1], .bool false]) (by simp [results, Try.results37, go_sem, c_r00]) rfl (⟨_, _, rfl, HO2.out.rowO (by omega) (by omega), B⟩)
end Go.Proofs.Ythdieeaegplnmaa.Pb
