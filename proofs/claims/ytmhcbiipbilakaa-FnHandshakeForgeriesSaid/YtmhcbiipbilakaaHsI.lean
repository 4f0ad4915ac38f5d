/- Contracts of the supplicant's side. -/
import Derived.Test.YtmhcbiipbilakaaHsR
namespace Go.Proofs.Ytmhcbiipbilakaa.Hs
open Go.RowKit
open Go.Proofs.Ytmhcbiipbilakaa.Num Go.Proofs.Ytmhcbiipbilakaa.Mem Go.Proofs.Ytmhcbiipbilakaa.Hsh Go.Proofs.Ytmhcbiipbilakaa.Keys Go.Proofs.Ytmhcbiipbilakaa.Hand Go.Proofs.Ytmhcbiipbilakaa.Auth
set_option linter.unusedSimpArgs false
set_option linter.unusedVariables false
theorem modU_impl (k re g : Int) (w : World) : Calls Try.prog 57 #[.int .i64 (IntKind.i64.wrap (g - macM k [47, re])), .int .i64 2147483647] w fun x w' => x = .returned (.int .i64 (unhM k re g)) ∧ w = w' :=
  mod_impl _ 2147483647 _ (iwrapB _).1 (iwrapB _).2
attribute [local irreducible] macM keyM modI hidM unhM
set_option maxHeartbeats 4000000 in
theorem inst_yes (s : Sup) (m : Msg) (k : Int) (w : World) (hs : s.Ok) (hm : m.Ok) (hk : I64 k) (hne : (s.pw != k) = true) :
    Calls Try.prog 50 #[.agg #[.int .i64 s.ms, .int .i64 s.no, .int .i64 s.pn, .int .i64 s.re, .int .i64 s.pw, .int .i64 s.gk, .int .i64 s.ins], .agg #[.int .i64 m.n, .int .i64 m.r, .int .i64 m.c, .int .i64 m.g, .int .i64 m.m], .int .i64 k] w fun x w' => x = .returned (.agg #[.int .i64 s.ms, .int .i64 s.no, .int .i64 s.pn, .int .i64 m.r, .int .i64 k, .int .i64 (unhM k m.r m.g), .int .i64 (wrap64 (s.ins + 1)), .int .i64 4, .int .i64 m.r, .int .i64 0, .int .i64 0, .int .i64 (macM k [43, 4, m.r, 0, 0]), .bool true, .bool true]) ∧ Below w.heap.size w w' := by
  have HS := Lib.hid hs
  have HM := Lib.hid hm
  have HK := Lib.hid hk
  have B : Below w.heap.size w w := Below.refl _ _
  clear hs hm hk
  go_enter Try.func50, Try.ntmps50
  go_wp2_with fail
  generalize hW : World.alloc _ _ = w0
  have s0 : Bk.Blk w0 (w.heap.size) 47 #[.int .i64 s.ms, .int .i64 s.no, .int .i64 s.pn, .int .i64 m.r, .int .i64 k, .int .i64 s.gk, .int .i64 s.ins] := (by rw [← hW]; apply Bk.Blk.to; (focus ((repeat (first | with_reducible assumption | (with_reducible apply Bk.Blk.newAt; focus (first | (simp [Bk.size_set]; done) | (simp [Bk.size_set]; omega))) | with_reducible apply Bk.Blk.drewN | with_reducible apply Bk.Blk.drew | with_reducible apply Bk.Blk.set_ | (with_reducible apply Bk.Blk.far; focus (dsimp only; first | omega | (simp; omega) | (simp; done))) | with_reducible apply Bk.Blk.alloc)))); rfl)
  have m0 : Bk.Blk w0 (w.heap.size + 1) 29 #[.int .i64 m.n, .int .i64 m.r, .int .i64 m.c, .int .i64 m.g, .int .i64 m.m] := (by rw [← hW]; apply Bk.Blk.to; (focus ((repeat (first | with_reducible assumption | (with_reducible apply Bk.Blk.newAt; focus (first | (simp [Bk.size_set]; done) | (simp [Bk.size_set]; omega))) | with_reducible apply Bk.Blk.drewN | with_reducible apply Bk.Blk.drew | with_reducible apply Bk.Blk.set_ | (with_reducible apply Bk.Blk.far; focus (dsimp only; first | omega | (simp; omega) | (simp; done))) | with_reducible apply Bk.Blk.alloc)))); rfl)
  have rr : Bk.Blk w0 (w.heap.size + 1 + 1) 51 #[.int .i64 0, .int .i64 0, .int .i64 0, .int .i64 0, .int .i64 0, .int .i64 0, .int .i64 0, .int .i64 0, .int .i64 0, .int .i64 0, .int .i64 0, .int .i64 0, .bool false, .bool false] := (by rw [← hW]; apply Bk.Blk.to; (focus ((repeat (first | with_reducible assumption | (with_reducible apply Bk.Blk.newAt; focus (first | (simp [Bk.size_set]; done) | (simp [Bk.size_set]; omega))) | with_reducible apply Bk.Blk.drewN | with_reducible apply Bk.Blk.drew | with_reducible apply Bk.Blk.set_ | (with_reducible apply Bk.Blk.far; focus (dsimp only; first | omega | (simp; omega) | (simp; done))) | with_reducible apply Bk.Blk.alloc)))); rfl)
  replace B : Below w.heap.size w w0 := (by rw [← hW]; go_grown)
  have z0 : w0.heap.size = _ := congrArg (fun W : World => W.heap.size) hW.symm
  (try simp only [World.size_alloc, Bk.size_set, World.size_drew, World.drewN] at z0)
  clear hW
  refine wp_region_held_drew (S := (fun w' => Bk.Blk w' (w.heap.size + 1) 29 #[.int .i64 m.n, .int .i64 m.r, .int .i64 m.c, .int .i64 m.g, .int .i64 m.m])) (by kernel_rfl) ?_ (fun hHeld => ?_)
  · (try dsimp only); (repeat (first | with_reducible assumption | (with_reducible apply Bk.Blk.newAt; focus (first | (simp [Bk.size_set]; done) | (simp [Bk.size_set]; omega))) | with_reducible apply Bk.Blk.drewN | with_reducible apply Bk.Blk.drew | with_reducible apply Bk.Blk.set_ | (with_reducible apply Bk.Blk.far; focus (dsimp only; first | omega | (simp; omega) | (simp; done))) | with_reducible apply Bk.Blk.alloc))
  first | (refine wpAnyH_take (i := 0) (v := ?_) (Reg.get rfl) (by kernel_rfl) (by kernel_rfl) (by kernel_rfl) (fun _ _ _ h => h) (Or.inl ⟨by rfl, ?_⟩) hHeld ?_; rotate_left 1; (focus (intro wq hSw; (try dsimp only at hSw); have s_m0 := hSw; have c_m00 : wq.cell? ⟨w.heap.size + 1, 0, none⟩ = some (.int .i64 m.n) := Bk.Blk.cell s_m0 0; have c_m01 : wq.cell? ⟨w.heap.size + 1, 1, none⟩ = some (.int .i64 m.r) := Bk.Blk.cell s_m0 1; have c_m02 : wq.cell? ⟨w.heap.size + 1, 2, none⟩ = some (.int .i64 m.c) := Bk.Blk.cell s_m0 2; have c_m03 : wq.cell? ⟨w.heap.size + 1, 3, none⟩ = some (.int .i64 m.g) := Bk.Blk.cell s_m0 3; have c_m04 : wq.cell? ⟨w.heap.size + 1, 4, none⟩ = some (.int .i64 m.m) := Bk.Blk.cell s_m0 4;  go_simp <;> with_reducible rfl))) | (refine wpAnyH_take (i := 0) (v := undef) (Reg.get rfl) (by kernel_rfl) (by kernel_rfl) (by kernel_rfl) (fun _ _ _ h => h) (Or.inr ⟨by rfl, rfl⟩) hHeld ?_)
  try simp only [Act.put, List.setIfInBounds_toArray, List.set_cons_zero, List.set_cons_succ]
  first | (refine wpAnyH_take (i := 1) (v := ?_) (Reg.get rfl) (by kernel_rfl) (by kernel_rfl) (by kernel_rfl) (fun _ _ _ h => h) (Or.inl ⟨by rfl, ?_⟩) hHeld ?_; rotate_left 1; (focus (intro wq hSw; (try dsimp only at hSw); have s_m0 := hSw; have c_m00 : wq.cell? ⟨w.heap.size + 1, 0, none⟩ = some (.int .i64 m.n) := Bk.Blk.cell s_m0 0; have c_m01 : wq.cell? ⟨w.heap.size + 1, 1, none⟩ = some (.int .i64 m.r) := Bk.Blk.cell s_m0 1; have c_m02 : wq.cell? ⟨w.heap.size + 1, 2, none⟩ = some (.int .i64 m.c) := Bk.Blk.cell s_m0 2; have c_m03 : wq.cell? ⟨w.heap.size + 1, 3, none⟩ = some (.int .i64 m.g) := Bk.Blk.cell s_m0 3; have c_m04 : wq.cell? ⟨w.heap.size + 1, 4, none⟩ = some (.int .i64 m.m) := Bk.Blk.cell s_m0 4;  go_simp <;> with_reducible rfl))) | (refine wpAnyH_take (i := 1) (v := undef) (Reg.get rfl) (by kernel_rfl) (by kernel_rfl) (by kernel_rfl) (fun _ _ _ h => h) (Or.inr ⟨by rfl, rfl⟩) hHeld ?_)
  try simp only [Act.put, List.setIfInBounds_toArray, List.set_cons_zero, List.set_cons_succ]
  first | (refine wpAnyH_take (i := 2) (v := ?_) (Reg.get rfl) (by kernel_rfl) (by kernel_rfl) (by kernel_rfl) (fun _ _ _ h => h) (Or.inl ⟨by rfl, ?_⟩) hHeld ?_; rotate_left 1; (focus (intro wq hSw; (try dsimp only at hSw); have s_m0 := hSw; have c_m00 : wq.cell? ⟨w.heap.size + 1, 0, none⟩ = some (.int .i64 m.n) := Bk.Blk.cell s_m0 0; have c_m01 : wq.cell? ⟨w.heap.size + 1, 1, none⟩ = some (.int .i64 m.r) := Bk.Blk.cell s_m0 1; have c_m02 : wq.cell? ⟨w.heap.size + 1, 2, none⟩ = some (.int .i64 m.c) := Bk.Blk.cell s_m0 2; have c_m03 : wq.cell? ⟨w.heap.size + 1, 3, none⟩ = some (.int .i64 m.g) := Bk.Blk.cell s_m0 3; have c_m04 : wq.cell? ⟨w.heap.size + 1, 4, none⟩ = some (.int .i64 m.m) := Bk.Blk.cell s_m0 4;  go_simp <;> with_reducible rfl))) | (refine wpAnyH_take (i := 2) (v := undef) (Reg.get rfl) (by kernel_rfl) (by kernel_rfl) (by kernel_rfl) (fun _ _ _ h => h) (Or.inr ⟨by rfl, rfl⟩) hHeld ?_)
  try simp only [Act.put, List.setIfInBounds_toArray, List.set_cons_zero, List.set_cons_succ]
  first | (refine wpAnyH_take (i := 3) (v := ?_) (Reg.get rfl) (by kernel_rfl) (by kernel_rfl) (by kernel_rfl) (fun _ _ _ h => h) (Or.inl ⟨by rfl, ?_⟩) hHeld ?_; rotate_left 1; (focus (intro wq hSw; (try dsimp only at hSw); have s_m0 := hSw; have c_m00 : wq.cell? ⟨w.heap.size + 1, 0, none⟩ = some (.int .i64 m.n) := Bk.Blk.cell s_m0 0; have c_m01 : wq.cell? ⟨w.heap.size + 1, 1, none⟩ = some (.int .i64 m.r) := Bk.Blk.cell s_m0 1; have c_m02 : wq.cell? ⟨w.heap.size + 1, 2, none⟩ = some (.int .i64 m.c) := Bk.Blk.cell s_m0 2; have c_m03 : wq.cell? ⟨w.heap.size + 1, 3, none⟩ = some (.int .i64 m.g) := Bk.Blk.cell s_m0 3; have c_m04 : wq.cell? ⟨w.heap.size + 1, 4, none⟩ = some (.int .i64 m.m) := Bk.Blk.cell s_m0 4;  go_simp <;> with_reducible rfl))) | (refine wpAnyH_take (i := 3) (v := undef) (Reg.get rfl) (by kernel_rfl) (by kernel_rfl) (by kernel_rfl) (fun _ _ _ h => h) (Or.inr ⟨by rfl, rfl⟩) hHeld ?_)
  try simp only [Act.put, List.setIfInBounds_toArray, List.set_cons_zero, List.set_cons_succ]
  first | (refine wpAnyH_take (i := 4) (v := ?_) (Reg.get rfl) (by kernel_rfl) (by kernel_rfl) (by kernel_rfl) (fun _ _ _ h => h) (Or.inl ⟨by rfl, ?_⟩) hHeld ?_; rotate_left 1; (focus (intro wq hSw; (try dsimp only at hSw); have s_m0 := hSw; have c_m00 : wq.cell? ⟨w.heap.size + 1, 0, none⟩ = some (.int .i64 m.n) := Bk.Blk.cell s_m0 0; have c_m01 : wq.cell? ⟨w.heap.size + 1, 1, none⟩ = some (.int .i64 m.r) := Bk.Blk.cell s_m0 1; have c_m02 : wq.cell? ⟨w.heap.size + 1, 2, none⟩ = some (.int .i64 m.c) := Bk.Blk.cell s_m0 2; have c_m03 : wq.cell? ⟨w.heap.size + 1, 3, none⟩ = some (.int .i64 m.g) := Bk.Blk.cell s_m0 3; have c_m04 : wq.cell? ⟨w.heap.size + 1, 4, none⟩ = some (.int .i64 m.m) := Bk.Blk.cell s_m0 4;  go_simp <;> with_reducible rfl))) | (refine wpAnyH_take (i := 4) (v := undef) (Reg.get rfl) (by kernel_rfl) (by kernel_rfl) (by kernel_rfl) (fun _ _ _ h => h) (Or.inr ⟨by rfl, rfl⟩) hHeld ?_)
  try simp only [Act.put, List.setIfInBounds_toArray, List.set_cons_zero, List.set_cons_succ]
  first | ((refine wpAnyH_take (i := 5) (v := undef) (Reg.get rfl) (by kernel_rfl) (by kernel_rfl) (by kernel_rfl) (fun _ _ _ h => h) (Or.inr ⟨by rfl, rfl⟩) hHeld ?_)) | (refine wpAnyH_ready (rs := [5]) (by kernel_rfl) (by simp) ?_; refine AllReadyH.cons (Reg.get rfl) (fun K hK => ?_) AllReadyH.nil; clear hHeld; go_simp; ((go_at_call 58; refine (mask_any k m.r _ HK.out HM.out.2.1).mono ?_; rintro x w1 ⟨rfl, hb0⟩; replace s0 : Bk.Blk w1 (w.heap.size) 47 #[.int .i64 s.ms, .int .i64 s.no, .int .i64 s.pn, .int .i64 m.r, .int .i64 k, .int .i64 s.gk, .int .i64 s.ins] := Bk.Blk.under hb0 (by (repeat (first | with_reducible assumption | (with_reducible apply Bk.Blk.newAt; focus (first | (simp [Bk.size_set]; done) | (simp [Bk.size_set]; omega))) | with_reducible apply Bk.Blk.drewN | with_reducible apply Bk.Blk.drew | with_reducible apply Bk.Blk.set_ | (with_reducible apply Bk.Blk.far; focus (dsimp only; first | omega | (simp; omega) | (simp; done))) | with_reducible apply Bk.Blk.alloc))); replace m0 : Bk.Blk w1 (w.heap.size + 1) 29 #[.int .i64 m.n, .int .i64 m.r, .int .i64 m.c, .int .i64 m.g, .int .i64 m.m] := Bk.Blk.under hb0 (by (repeat (first | with_reducible assumption | (with_reducible apply Bk.Blk.newAt; focus (first | (simp [Bk.size_set]; done) | (simp [Bk.size_set]; omega))) | with_reducible apply Bk.Blk.drewN | with_reducible apply Bk.Blk.drew | with_reducible apply Bk.Blk.set_ | (with_reducible apply Bk.Blk.far; focus (dsimp only; first | omega | (simp; omega) | (simp; done))) | with_reducible apply Bk.Blk.alloc))); replace rr : Bk.Blk w1 (w.heap.size + 1 + 1) 51 #[.int .i64 0, .int .i64 0, .int .i64 0, .int .i64 0, .int .i64 0, .int .i64 0, .int .i64 0, .int .i64 0, .int .i64 0, .int .i64 0, .int .i64 0, .int .i64 0, .bool false, .bool false] := Bk.Blk.under hb0 (by (repeat (first | with_reducible assumption | (with_reducible apply Bk.Blk.newAt; focus (first | (simp [Bk.size_set]; done) | (simp [Bk.size_set]; omega))) | with_reducible apply Bk.Blk.drewN | with_reducible apply Bk.Blk.drew | with_reducible apply Bk.Blk.set_ | (with_reducible apply Bk.Blk.far; focus (dsimp only; first | omega | (simp; omega) | (simp; done))) | with_reducible apply Bk.Blk.alloc))); replace B : Below w.heap.size w w1 := Below.trans (by go_grown) (hb0.mono (by first | omega | (simp [Bk.size_set]; done) | (simp [Bk.size_set]; omega))); have z1 := hb0.size; (try simp only [World.size_alloc, Bk.size_set, World.size_drew, World.drewN] at z1); clear hb0; have l_s0 : w.heap.size < w1.heap.size := Bk.Blk.lt s0; have c_s00 : w1.cell? ⟨w.heap.size, 0, none⟩ = some (.int .i64 s.ms) := Bk.Blk.cell s0 0; have f_s00 : w1.frozen? ⟨w.heap.size, 0, none⟩ = false := Bk.Blk.fro s0 0; have c_s01 : w1.cell? ⟨w.heap.size, 1, none⟩ = some (.int .i64 s.no) := Bk.Blk.cell s0 1; have f_s01 : w1.frozen? ⟨w.heap.size, 1, none⟩ = false := Bk.Blk.fro s0 1; have c_s02 : w1.cell? ⟨w.heap.size, 2, none⟩ = some (.int .i64 s.pn) := Bk.Blk.cell s0 2; have f_s02 : w1.frozen? ⟨w.heap.size, 2, none⟩ = false := Bk.Blk.fro s0 2; have c_s03 : w1.cell? ⟨w.heap.size, 3, none⟩ = some (.int .i64 m.r) := Bk.Blk.cell s0 3; have f_s03 : w1.frozen? ⟨w.heap.size, 3, none⟩ = false := Bk.Blk.fro s0 3; have c_s04 : w1.cell? ⟨w.heap.size, 4, none⟩ = some (.int .i64 k) := Bk.Blk.cell s0 4; have f_s04 : w1.frozen? ⟨w.heap.size, 4, none⟩ = false := Bk.Blk.fro s0 4; have c_s05 : w1.cell? ⟨w.heap.size, 5, none⟩ = some (.int .i64 s.gk) := Bk.Blk.cell s0 5; have f_s05 : w1.frozen? ⟨w.heap.size, 5, none⟩ = false := Bk.Blk.fro s0 5; have c_s06 : w1.cell? ⟨w.heap.size, 6, none⟩ = some (.int .i64 s.ins) := Bk.Blk.cell s0 6; have f_s06 : w1.frozen? ⟨w.heap.size, 6, none⟩ = false := Bk.Blk.fro s0 6)); refine hK.out _ _ ?_ (fun hHeld => ?_); ((try dsimp only); (repeat (first | with_reducible assumption | (with_reducible apply Bk.Blk.newAt; focus (first | (simp [Bk.size_set]; done) | (simp [Bk.size_set]; omega))) | with_reducible apply Bk.Blk.drewN | with_reducible apply Bk.Blk.drew | with_reducible apply Bk.Blk.set_ | (with_reducible apply Bk.Blk.far; focus (dsimp only; first | omega | (simp; omega) | (simp; done))) | with_reducible apply Bk.Blk.alloc))); clear hK K)
  try simp only [Act.put, List.setIfInBounds_toArray, List.set_cons_zero, List.set_cons_succ]
  first | (refine wpAnyH_take (i := 6) (v := ?_) (Reg.get rfl) (by kernel_rfl) (by kernel_rfl) (by kernel_rfl) (fun _ _ _ h => h) (Or.inl ⟨by rfl, ?_⟩) hHeld ?_; rotate_left 1; (focus (intro wq hSw; (try dsimp only at hSw); have s_m0 := hSw; have c_m00 : wq.cell? ⟨w.heap.size + 1, 0, none⟩ = some (.int .i64 m.n) := Bk.Blk.cell s_m0 0; have c_m01 : wq.cell? ⟨w.heap.size + 1, 1, none⟩ = some (.int .i64 m.r) := Bk.Blk.cell s_m0 1; have c_m02 : wq.cell? ⟨w.heap.size + 1, 2, none⟩ = some (.int .i64 m.c) := Bk.Blk.cell s_m0 2; have c_m03 : wq.cell? ⟨w.heap.size + 1, 3, none⟩ = some (.int .i64 m.g) := Bk.Blk.cell s_m0 3; have c_m04 : wq.cell? ⟨w.heap.size + 1, 4, none⟩ = some (.int .i64 m.m) := Bk.Blk.cell s_m0 4;  go_simp <;> with_reducible rfl))) | (refine wpAnyH_take (i := 6) (v := undef) (Reg.get rfl) (by kernel_rfl) (by kernel_rfl) (by kernel_rfl) (fun _ _ _ h => h) (Or.inr ⟨by rfl, rfl⟩) hHeld ?_)
  try simp only [Act.put, List.setIfInBounds_toArray, List.set_cons_zero, List.set_cons_succ]
  first | ((refine wpAnyH_take (i := 7) (v := undef) (Reg.get rfl) (by kernel_rfl) (by kernel_rfl) (by kernel_rfl) (fun _ _ _ h => h) (Or.inr ⟨by rfl, rfl⟩) hHeld ?_)) | (refine wpAnyH_ready (rs := [7]) (by kernel_rfl) (by simp) ?_; refine AllReadyH.cons (Reg.get rfl) (fun K hK => ?_) AllReadyH.nil; clear hHeld; go_simp; ((go_at_call 57; refine (modU_impl k m.r m.g _).mono ?_; rintro x w' ⟨rfl, rfl⟩)); refine hK.out _ _ ?_ (fun hHeld => ?_); ((try dsimp only); (repeat (first | with_reducible assumption | (with_reducible apply Bk.Blk.newAt; focus (first | (simp [Bk.size_set]; done) | (simp [Bk.size_set]; omega))) | with_reducible apply Bk.Blk.drewN | with_reducible apply Bk.Blk.drew | with_reducible apply Bk.Blk.set_ | (with_reducible apply Bk.Blk.far; focus (dsimp only; first | omega | (simp; omega) | (simp; done))) | with_reducible apply Bk.Blk.alloc))); clear hK K)
  try simp only [Act.put, List.setIfInBounds_toArray, List.set_cons_zero, List.set_cons_succ]
  first | (refine wpAnyH_take (i := 8) (v := ?_) (Reg.get rfl) (by kernel_rfl) (by kernel_rfl) (by kernel_rfl) (fun _ _ _ h => h) (Or.inl ⟨by rfl, ?_⟩) hHeld ?_; rotate_left 1; (focus (intro wq hSw; (try dsimp only at hSw); have s_m0 := hSw; have c_m00 : wq.cell? ⟨w.heap.size + 1, 0, none⟩ = some (.int .i64 m.n) := Bk.Blk.cell s_m0 0; have c_m01 : wq.cell? ⟨w.heap.size + 1, 1, none⟩ = some (.int .i64 m.r) := Bk.Blk.cell s_m0 1; have c_m02 : wq.cell? ⟨w.heap.size + 1, 2, none⟩ = some (.int .i64 m.c) := Bk.Blk.cell s_m0 2; have c_m03 : wq.cell? ⟨w.heap.size + 1, 3, none⟩ = some (.int .i64 m.g) := Bk.Blk.cell s_m0 3; have c_m04 : wq.cell? ⟨w.heap.size + 1, 4, none⟩ = some (.int .i64 m.m) := Bk.Blk.cell s_m0 4;  go_simp <;> with_reducible rfl))) | (refine wpAnyH_take (i := 8) (v := undef) (Reg.get rfl) (by kernel_rfl) (by kernel_rfl) (by kernel_rfl) (fun _ _ _ h => h) (Or.inr ⟨by rfl, rfl⟩) hHeld ?_)
  try simp only [Act.put, List.setIfInBounds_toArray, List.set_cons_zero, List.set_cons_succ]
  first | ((refine wpAnyH_take (i := 9) (v := undef) (Reg.get rfl) (by kernel_rfl) (by kernel_rfl) (by kernel_rfl) (fun _ _ _ h => h) (Or.inr ⟨by rfl, rfl⟩) hHeld ?_)) | (refine wpAnyH_ready (rs := [9]) (by kernel_rfl) (by simp) ?_; refine AllReadyH.cons (Reg.get rfl) (fun K hK => ?_) AllReadyH.nil; clear hHeld; go_simp; (skip); refine hK.out _ _ ?_ (fun hHeld => ?_); ((try dsimp only); (repeat (first | with_reducible assumption | (with_reducible apply Bk.Blk.newAt; focus (first | (simp [Bk.size_set]; done) | (simp [Bk.size_set]; omega))) | with_reducible apply Bk.Blk.drewN | with_reducible apply Bk.Blk.drew | with_reducible apply Bk.Blk.set_ | (with_reducible apply Bk.Blk.far; focus (dsimp only; first | omega | (simp; omega) | (simp; done))) | with_reducible apply Bk.Blk.alloc))); clear hK K)
  try simp only [Act.put, List.setIfInBounds_toArray, List.set_cons_zero, List.set_cons_succ]
  refine wpAnyH_done (by kernel_rfl) ?_ _
  clear l_s0 c_s00 f_s00 c_s01 f_s01 c_s02 f_s02 c_s03 f_s03 c_s04 f_s04 c_s05 f_s05 c_s06 f_s06
  generalize hW : World.setCell _ _ _ = w2
  replace s0 : Bk.Blk w2 (w.heap.size) 47 #[.int .i64 s.ms, .int .i64 s.no, .int .i64 s.pn, .int .i64 m.r, .int .i64 k, .int .i64 (unhM k m.r m.g), .int .i64 s.ins] := (by rw [← hW]; apply Bk.Blk.to; (focus ((repeat (first | with_reducible assumption | (with_reducible apply Bk.Blk.newAt; focus (first | (simp [Bk.size_set]; done) | (simp [Bk.size_set]; omega))) | with_reducible apply Bk.Blk.drewN | with_reducible apply Bk.Blk.drew | with_reducible apply Bk.Blk.set_ | (with_reducible apply Bk.Blk.far; focus (dsimp only; first | omega | (simp; omega) | (simp; done))) | with_reducible apply Bk.Blk.alloc)))); rfl)
  replace m0 : Bk.Blk w2 (w.heap.size + 1) 29 #[.int .i64 m.n, .int .i64 m.r, .int .i64 m.c, .int .i64 m.g, .int .i64 m.m] := (by rw [← hW]; (repeat (first | with_reducible assumption | (with_reducible apply Bk.Blk.newAt; focus (first | (simp [Bk.size_set]; done) | (simp [Bk.size_set]; omega))) | with_reducible apply Bk.Blk.drewN | with_reducible apply Bk.Blk.drew | with_reducible apply Bk.Blk.set_ | (with_reducible apply Bk.Blk.far; focus (dsimp only; first | omega | (simp; omega) | (simp; done))) | with_reducible apply Bk.Blk.alloc)))
  replace rr : Bk.Blk w2 (w.heap.size + 1 + 1) 51 #[.int .i64 0, .int .i64 0, .int .i64 0, .int .i64 0, .int .i64 0, .int .i64 0, .int .i64 0, .int .i64 0, .int .i64 0, .int .i64 0, .int .i64 0, .int .i64 0, .bool false, .bool false] := (by rw [← hW]; (repeat (first | with_reducible assumption | (with_reducible apply Bk.Blk.newAt; focus (first | (simp [Bk.size_set]; done) | (simp [Bk.size_set]; omega))) | with_reducible apply Bk.Blk.drewN | with_reducible apply Bk.Blk.drew | with_reducible apply Bk.Blk.set_ | (with_reducible apply Bk.Blk.far; focus (dsimp only; first | omega | (simp; omega) | (simp; done))) | with_reducible apply Bk.Blk.alloc)))
  replace B : Below w.heap.size w w2 := (by rw [← hW]; go_grown)
  have z2 : w2.heap.size = _ := congrArg (fun W : World => W.heap.size) hW.symm
  (try simp only [World.size_alloc, Bk.size_set, World.size_drew, World.drewN] at z2)
  clear hW
  have l_s0 : w.heap.size < w2.heap.size := Bk.Blk.lt s0
  have c_s00 : w2.cell? ⟨w.heap.size, 0, none⟩ = some (.int .i64 s.ms) := Bk.Blk.cell s0 0
  have f_s00 : w2.frozen? ⟨w.heap.size, 0, none⟩ = false := Bk.Blk.fro s0 0
  have c_s01 : w2.cell? ⟨w.heap.size, 1, none⟩ = some (.int .i64 s.no) := Bk.Blk.cell s0 1
  have f_s01 : w2.frozen? ⟨w.heap.size, 1, none⟩ = false := Bk.Blk.fro s0 1
  have c_s02 : w2.cell? ⟨w.heap.size, 2, none⟩ = some (.int .i64 s.pn) := Bk.Blk.cell s0 2
  have f_s02 : w2.frozen? ⟨w.heap.size, 2, none⟩ = false := Bk.Blk.fro s0 2
  have c_s03 : w2.cell? ⟨w.heap.size, 3, none⟩ = some (.int .i64 m.r) := Bk.Blk.cell s0 3
  have f_s03 : w2.frozen? ⟨w.heap.size, 3, none⟩ = false := Bk.Blk.fro s0 3
  have c_s04 : w2.cell? ⟨w.heap.size, 4, none⟩ = some (.int .i64 k) := Bk.Blk.cell s0 4
  have f_s04 : w2.frozen? ⟨w.heap.size, 4, none⟩ = false := Bk.Blk.fro s0 4
  have c_s05 : w2.cell? ⟨w.heap.size, 5, none⟩ = some (.int .i64 (unhM k m.r m.g)) := Bk.Blk.cell s0 5
  have f_s05 : w2.frozen? ⟨w.heap.size, 5, none⟩ = false := Bk.Blk.fro s0 5
  have c_s06 : w2.cell? ⟨w.heap.size, 6, none⟩ = some (.int .i64 s.ins) := Bk.Blk.cell s0 6
  have f_s06 : w2.frozen? ⟨w.heap.size, 6, none⟩ = false := Bk.Blk.fro s0 6
  have l_m0 : w.heap.size + 1 < w2.heap.size := Bk.Blk.lt m0
  have c_m00 : w2.cell? ⟨w.heap.size + 1, 0, none⟩ = some (.int .i64 m.n) := Bk.Blk.cell m0 0
  have f_m00 : w2.frozen? ⟨w.heap.size + 1, 0, none⟩ = false := Bk.Blk.fro m0 0
  have c_m01 : w2.cell? ⟨w.heap.size + 1, 1, none⟩ = some (.int .i64 m.r) := Bk.Blk.cell m0 1
  have f_m01 : w2.frozen? ⟨w.heap.size + 1, 1, none⟩ = false := Bk.Blk.fro m0 1
  have c_m02 : w2.cell? ⟨w.heap.size + 1, 2, none⟩ = some (.int .i64 m.c) := Bk.Blk.cell m0 2
  have f_m02 : w2.frozen? ⟨w.heap.size + 1, 2, none⟩ = false := Bk.Blk.fro m0 2
  have c_m03 : w2.cell? ⟨w.heap.size + 1, 3, none⟩ = some (.int .i64 m.g) := Bk.Blk.cell m0 3
  have f_m03 : w2.frozen? ⟨w.heap.size + 1, 3, none⟩ = false := Bk.Blk.fro m0 3
  have c_m04 : w2.cell? ⟨w.heap.size + 1, 4, none⟩ = some (.int .i64 m.m) := Bk.Blk.cell m0 4
  have f_m04 : w2.frozen? ⟨w.heap.size + 1, 4, none⟩ = false := Bk.Blk.fro m0 4
  go_wp2_with fail
  clear l_s0 c_s00 f_s00 c_s01 f_s01 c_s02 f_s02 c_s03 f_s03 c_s04 f_s04 c_s05 f_s05 c_s06 f_s06 l_m0 c_m00 f_m00 c_m01 f_m01 c_m02 f_m02 c_m03 f_m03 c_m04 f_m04
  refine (sign_impl k 4 m.r 0 0 0 _ HK.out (c64 4 (by omega)) HM.out.2.1 (c64 0 (by omega)) (c64 0 (by omega))).mono ?_
  rintro x w3 ⟨rfl, hb0⟩
  replace s0 : Bk.Blk w3 (w.heap.size) 47 #[.int .i64 s.ms, .int .i64 s.no, .int .i64 s.pn, .int .i64 m.r, .int .i64 k, .int .i64 (unhM k m.r m.g), .int .i64 (wrap64 (s.ins + 1))] := (by apply Bk.Blk.to; (focus (apply Bk.Blk.under hb0; (repeat (first | with_reducible assumption | (with_reducible apply Bk.Blk.newAt; focus (first | (simp [Bk.size_set]; done) | (simp [Bk.size_set]; omega))) | with_reducible apply Bk.Blk.drewN | with_reducible apply Bk.Blk.drew | with_reducible apply Bk.Blk.set_ | (with_reducible apply Bk.Blk.far; focus (dsimp only; first | omega | (simp; omega) | (simp; done))) | with_reducible apply Bk.Blk.alloc)))); rfl)
  replace m0 : Bk.Blk w3 (w.heap.size + 1) 29 #[.int .i64 m.n, .int .i64 m.r, .int .i64 m.c, .int .i64 m.g, .int .i64 m.m] := Bk.Blk.under hb0 (by (repeat (first | with_reducible assumption | (with_reducible apply Bk.Blk.newAt; focus (first | (simp [Bk.size_set]; done) | (simp [Bk.size_set]; omega))) | with_reducible apply Bk.Blk.drewN | with_reducible apply Bk.Blk.drew | with_reducible apply Bk.Blk.set_ | (with_reducible apply Bk.Blk.far; focus (dsimp only; first | omega | (simp; omega) | (simp; done))) | with_reducible apply Bk.Blk.alloc)))
  replace rr : Bk.Blk w3 (w.heap.size + 1 + 1) 51 #[.int .i64 0, .int .i64 0, .int .i64 0, .int .i64 0, .int .i64 0, .int .i64 0, .int .i64 0, .int .i64 0, .int .i64 0, .int .i64 0, .int .i64 0, .int .i64 0, .bool false, .bool false] := Bk.Blk.under hb0 (by (repeat (first | with_reducible assumption | (with_reducible apply Bk.Blk.newAt; focus (first | (simp [Bk.size_set]; done) | (simp [Bk.size_set]; omega))) | with_reducible apply Bk.Blk.drewN | with_reducible apply Bk.Blk.drew | with_reducible apply Bk.Blk.set_ | (with_reducible apply Bk.Blk.far; focus (dsimp only; first | omega | (simp; omega) | (simp; done))) | with_reducible apply Bk.Blk.alloc)))
  replace B : Below w.heap.size w w3 := Below.trans (by go_grown) (hb0.mono (by first | omega | (simp [Bk.size_set]; done) | (simp [Bk.size_set]; omega)))
  have z3 := hb0.size
  (try simp only [World.size_alloc, Bk.size_set, World.size_drew, World.drewN] at z3)
  clear hb0
  have l_s0 : w.heap.size < w3.heap.size := Bk.Blk.lt s0
  have c_s00 : w3.cell? ⟨w.heap.size, 0, none⟩ = some (.int .i64 s.ms) := Bk.Blk.cell s0 0
  have f_s00 : w3.frozen? ⟨w.heap.size, 0, none⟩ = false := Bk.Blk.fro s0 0
  have c_s01 : w3.cell? ⟨w.heap.size, 1, none⟩ = some (.int .i64 s.no) := Bk.Blk.cell s0 1
  have f_s01 : w3.frozen? ⟨w.heap.size, 1, none⟩ = false := Bk.Blk.fro s0 1
  have c_s02 : w3.cell? ⟨w.heap.size, 2, none⟩ = some (.int .i64 s.pn) := Bk.Blk.cell s0 2
  have f_s02 : w3.frozen? ⟨w.heap.size, 2, none⟩ = false := Bk.Blk.fro s0 2
  have c_s03 : w3.cell? ⟨w.heap.size, 3, none⟩ = some (.int .i64 m.r) := Bk.Blk.cell s0 3
  have f_s03 : w3.frozen? ⟨w.heap.size, 3, none⟩ = false := Bk.Blk.fro s0 3
  have c_s04 : w3.cell? ⟨w.heap.size, 4, none⟩ = some (.int .i64 k) := Bk.Blk.cell s0 4
  have f_s04 : w3.frozen? ⟨w.heap.size, 4, none⟩ = false := Bk.Blk.fro s0 4
  have c_s05 : w3.cell? ⟨w.heap.size, 5, none⟩ = some (.int .i64 (unhM k m.r m.g)) := Bk.Blk.cell s0 5
  have f_s05 : w3.frozen? ⟨w.heap.size, 5, none⟩ = false := Bk.Blk.fro s0 5
  have c_s06 : w3.cell? ⟨w.heap.size, 6, none⟩ = some (.int .i64 (wrap64 (s.ins + 1))) := Bk.Blk.cell s0 6
  have f_s06 : w3.frozen? ⟨w.heap.size, 6, none⟩ = false := Bk.Blk.fro s0 6
  go_wp2_with ((with_reducible refine Bk.atOp (o := ⟨none, .store 51 (.tmp 6) (.tmp 40), _, _, _, _⟩) ?_); refine Bk.wpl_store (by rfl) 51 (.tmp 6) (.tmp 40) (by rfl) (w.heap.size + 1 + 1) 51 #[.int .i64 0, .int .i64 0, .int .i64 0, .int .i64 0, .int .i64 0, .int .i64 0, .int .i64 0, .int .i64 0, .int .i64 0, .int .i64 0, .int .i64 0, .int .i64 0, .bool false, .bool false] [.int .i64 s.ms, .int .i64 s.no, .int .i64 s.pn, .int .i64 m.r, .int .i64 k, .int .i64 (unhM k m.r m.g), .int .i64 (wrap64 (s.ins + 1)), .int .i64 4, .int .i64 m.r, .int .i64 0, .int .i64 0, .int .i64 (macM k [43, 4, m.r, 0, 0]), .bool true, .bool true] (by rfl) (by rfl) (by (repeat (first | with_reducible assumption | (with_reducible apply Bk.Blk.newAt; focus (first | (simp [Bk.size_set]; done) | (simp [Bk.size_set]; omega))) | with_reducible apply Bk.Blk.drewN | with_reducible apply Bk.Blk.drew | with_reducible apply Bk.Blk.set_ | (with_reducible apply Bk.Blk.far; focus (dsimp only; first | omega | (simp; omega) | (simp; done))) | with_reducible apply Bk.Blk.alloc))) (by rfl) (by kernel_rfl) (by rfl) ?_)
  clear l_s0 c_s00 f_s00 c_s01 f_s01 c_s02 f_s02 c_s03 f_s03 c_s04 f_s04 c_s05 f_s05 c_s06 f_s06
  intro w4 hb0 hg0 hs0
  replace rr : Bk.Blk w4 (w.heap.size + 1 + 1) 51 #[.int .i64 s.ms, .int .i64 s.no, .int .i64 s.pn, .int .i64 m.r, .int .i64 k, .int .i64 (unhM k m.r m.g), .int .i64 (wrap64 (s.ins + 1)), .int .i64 4, .int .i64 m.r, .int .i64 0, .int .i64 0, .int .i64 (macM k [43, 4, m.r, 0, 0]), .bool true, .bool true] := hb0
  replace B : Below w.heap.size w w4 := Bk.below_grown (by go_grown) hg0 (by omega) (by first | omega | (simp [Bk.size_set]; done) | (simp [Bk.size_set]; omega))
  have z4 := hs0
  (try simp only [World.size_alloc, Bk.size_set, World.size_drew, World.drewN] at z4)
  clear hb0 hg0 hs0
  have l_rr : w.heap.size + 1 + 1 < w4.heap.size := Bk.Blk.lt rr
  have c_rr0 : w4.cell? ⟨w.heap.size + 1 + 1, 0, none⟩ = some (.int .i64 s.ms) := Bk.Blk.cell rr 0
  have c_rr1 : w4.cell? ⟨w.heap.size + 1 + 1, 1, none⟩ = some (.int .i64 s.no) := Bk.Blk.cell rr 1
  have c_rr2 : w4.cell? ⟨w.heap.size + 1 + 1, 2, none⟩ = some (.int .i64 s.pn) := Bk.Blk.cell rr 2
  have c_rr3 : w4.cell? ⟨w.heap.size + 1 + 1, 3, none⟩ = some (.int .i64 m.r) := Bk.Blk.cell rr 3
  have c_rr4 : w4.cell? ⟨w.heap.size + 1 + 1, 4, none⟩ = some (.int .i64 k) := Bk.Blk.cell rr 4
  have c_rr5 : w4.cell? ⟨w.heap.size + 1 + 1, 5, none⟩ = some (.int .i64 (unhM k m.r m.g)) := Bk.Blk.cell rr 5
  have c_rr6 : w4.cell? ⟨w.heap.size + 1 + 1, 6, none⟩ = some (.int .i64 (wrap64 (s.ins + 1))) := Bk.Blk.cell rr 6
  have c_rr7 : w4.cell? ⟨w.heap.size + 1 + 1, 7, none⟩ = some (.int .i64 4) := Bk.Blk.cell rr 7
  have c_rr8 : w4.cell? ⟨w.heap.size + 1 + 1, 8, none⟩ = some (.int .i64 m.r) := Bk.Blk.cell rr 8
  have c_rr9 : w4.cell? ⟨w.heap.size + 1 + 1, 9, none⟩ = some (.int .i64 0) := Bk.Blk.cell rr 9
  have c_rr10 : w4.cell? ⟨w.heap.size + 1 + 1, 10, none⟩ = some (.int .i64 0) := Bk.Blk.cell rr 10
  have c_rr11 : w4.cell? ⟨w.heap.size + 1 + 1, 11, none⟩ = some (.int .i64 (macM k [43, 4, m.r, 0, 0])) := Bk.Blk.cell rr 11
  have c_rr12 : w4.cell? ⟨w.heap.size + 1 + 1, 12, none⟩ = some (.bool true) := Bk.Blk.cell rr 12
  have c_rr13 : w4.cell? ⟨w.heap.size + 1 + 1, 13, none⟩ = some (.bool true) := Bk.Blk.cell rr 13
  go_wp2
  refine bodyPost_ret (v := .agg #[.int .i64 s.ms, .int .i64 s.no, .int .i64 s.pn, .int .i64 m.r, .int .i64 k, .int .i64 (unhM k m.r m.g), .int .i64 (wrap64 (s.ins + 1)), .int .i64 4, .int .i64 m.r, .int .i64 0, .int .i64 0, .int .i64 (macM k [43, 4, m.r, 0, 0]), .bool true, .bool true]) (by simp [results, Try.results50, go_sem, c_rr0, c_rr1, c_rr2, c_rr3, c_rr4, c_rr5, c_rr6, c_rr7, c_rr8, c_rr9, c_rr10, c_rr11, c_rr12, c_rr13]) rfl (⟨rfl, B⟩)
set_option maxHeartbeats 4000000 in
theorem inst_no (s : Sup) (m : Msg) (k : Int) (w : World) (hs : s.Ok) (hm : m.Ok) (hk : I64 k) (hne : (s.pw != k) = false) :
    Calls Try.prog 50 #[.agg #[.int .i64 s.ms, .int .i64 s.no, .int .i64 s.pn, .int .i64 s.re, .int .i64 s.pw, .int .i64 s.gk, .int .i64 s.ins], .agg #[.int .i64 m.n, .int .i64 m.r, .int .i64 m.c, .int .i64 m.g, .int .i64 m.m], .int .i64 k] w fun x w' => x = .returned (.agg #[.int .i64 s.ms, .int .i64 s.no, .int .i64 s.pn, .int .i64 m.r, .int .i64 s.pw, .int .i64 s.gk, .int .i64 s.ins, .int .i64 4, .int .i64 m.r, .int .i64 0, .int .i64 0, .int .i64 (macM k [43, 4, m.r, 0, 0]), .bool true, .bool false]) ∧ Below w.heap.size w w' := by
  have HS := Lib.hid hs
  have HM := Lib.hid hm
  have HK := Lib.hid hk
  have B : Below w.heap.size w w := Below.refl _ _
  clear hs hm hk
  go_enter Try.func50, Try.ntmps50
  go_wp2_with fail
  refine (sign_impl k 4 m.r 0 0 0 _ HK.out (c64 4 (by omega)) HM.out.2.1 (c64 0 (by omega)) (c64 0 (by omega))).mono ?_
  rintro x w1 ⟨rfl, hb0⟩
  have s0 : Bk.Blk w1 (w.heap.size) 47 #[.int .i64 s.ms, .int .i64 s.no, .int .i64 s.pn, .int .i64 m.r, .int .i64 s.pw, .int .i64 s.gk, .int .i64 s.ins] := (by apply Bk.Blk.to; (focus (apply Bk.Blk.under hb0; (repeat (first | with_reducible assumption | (with_reducible apply Bk.Blk.newAt; focus (first | (simp [Bk.size_set]; done) | (simp [Bk.size_set]; omega))) | with_reducible apply Bk.Blk.drewN | with_reducible apply Bk.Blk.drew | with_reducible apply Bk.Blk.set_ | (with_reducible apply Bk.Blk.far; focus (dsimp only; first | omega | (simp; omega) | (simp; done))) | with_reducible apply Bk.Blk.alloc)))); rfl)
  have rr : Bk.Blk w1 (w.heap.size + 1 + 1) 51 #[.int .i64 0, .int .i64 0, .int .i64 0, .int .i64 0, .int .i64 0, .int .i64 0, .int .i64 0, .int .i64 0, .int .i64 0, .int .i64 0, .int .i64 0, .int .i64 0, .bool false, .bool false] := (by apply Bk.Blk.to; (focus (apply Bk.Blk.under hb0; (repeat (first | with_reducible assumption | (with_reducible apply Bk.Blk.newAt; focus (first | (simp [Bk.size_set]; done) | (simp [Bk.size_set]; omega))) | with_reducible apply Bk.Blk.drewN | with_reducible apply Bk.Blk.drew | with_reducible apply Bk.Blk.set_ | (with_reducible apply Bk.Blk.far; focus (dsimp only; first | omega | (simp; omega) | (simp; done))) | with_reducible apply Bk.Blk.alloc)))); rfl)
  replace B : Below w.heap.size w w1 := Below.trans (by go_grown) (hb0.mono (by first | omega | (simp [Bk.size_set]; done) | (simp [Bk.size_set]; omega)))
  have z1 := hb0.size
  (try simp only [World.size_alloc, Bk.size_set, World.size_drew, World.drewN] at z1)
  clear hb0
  have l_s0 : w.heap.size < w1.heap.size := Bk.Blk.lt s0
  have c_s00 : w1.cell? ⟨w.heap.size, 0, none⟩ = some (.int .i64 s.ms) := Bk.Blk.cell s0 0
  have f_s00 : w1.frozen? ⟨w.heap.size, 0, none⟩ = false := Bk.Blk.fro s0 0
  have c_s01 : w1.cell? ⟨w.heap.size, 1, none⟩ = some (.int .i64 s.no) := Bk.Blk.cell s0 1
  have f_s01 : w1.frozen? ⟨w.heap.size, 1, none⟩ = false := Bk.Blk.fro s0 1
  have c_s02 : w1.cell? ⟨w.heap.size, 2, none⟩ = some (.int .i64 s.pn) := Bk.Blk.cell s0 2
  have f_s02 : w1.frozen? ⟨w.heap.size, 2, none⟩ = false := Bk.Blk.fro s0 2
  have c_s03 : w1.cell? ⟨w.heap.size, 3, none⟩ = some (.int .i64 m.r) := Bk.Blk.cell s0 3
  have f_s03 : w1.frozen? ⟨w.heap.size, 3, none⟩ = false := Bk.Blk.fro s0 3
  have c_s04 : w1.cell? ⟨w.heap.size, 4, none⟩ = some (.int .i64 s.pw) := Bk.Blk.cell s0 4
  have f_s04 : w1.frozen? ⟨w.heap.size, 4, none⟩ = false := Bk.Blk.fro s0 4
  have c_s05 : w1.cell? ⟨w.heap.size, 5, none⟩ = some (.int .i64 s.gk) := Bk.Blk.cell s0 5
  have f_s05 : w1.frozen? ⟨w.heap.size, 5, none⟩ = false := Bk.Blk.fro s0 5
  have c_s06 : w1.cell? ⟨w.heap.size, 6, none⟩ = some (.int .i64 s.ins) := Bk.Blk.cell s0 6
  have f_s06 : w1.frozen? ⟨w.heap.size, 6, none⟩ = false := Bk.Blk.fro s0 6
  go_wp2_with ((with_reducible refine Bk.atOp (o := ⟨none, .store 51 (.tmp 6) (.tmp 40), _, _, _, _⟩) ?_); refine Bk.wpl_store (by rfl) 51 (.tmp 6) (.tmp 40) (by rfl) (w.heap.size + 1 + 1) 51 #[.int .i64 0, .int .i64 0, .int .i64 0, .int .i64 0, .int .i64 0, .int .i64 0, .int .i64 0, .int .i64 0, .int .i64 0, .int .i64 0, .int .i64 0, .int .i64 0, .bool false, .bool false] [.int .i64 s.ms, .int .i64 s.no, .int .i64 s.pn, .int .i64 m.r, .int .i64 s.pw, .int .i64 s.gk, .int .i64 s.ins, .int .i64 4, .int .i64 m.r, .int .i64 0, .int .i64 0, .int .i64 (macM k [43, 4, m.r, 0, 0]), .bool true, .bool false] (by rfl) (by rfl) (by (repeat (first | with_reducible assumption | (with_reducible apply Bk.Blk.newAt; focus (first | (simp [Bk.size_set]; done) | (simp [Bk.size_set]; omega))) | with_reducible apply Bk.Blk.drewN | with_reducible apply Bk.Blk.drew | with_reducible apply Bk.Blk.set_ | (with_reducible apply Bk.Blk.far; focus (dsimp only; first | omega | (simp; omega) | (simp; done))) | with_reducible apply Bk.Blk.alloc))) (by rfl) (by kernel_rfl) (by rfl) ?_)
  clear l_s0 c_s00 f_s00 c_s01 f_s01 c_s02 f_s02 c_s03 f_s03 c_s04 f_s04 c_s05 f_s05 c_s06 f_s06
  intro w2 hb0 hg0 hs0
  replace rr : Bk.Blk w2 (w.heap.size + 1 + 1) 51 #[.int .i64 s.ms, .int .i64 s.no, .int .i64 s.pn, .int .i64 m.r, .int .i64 s.pw, .int .i64 s.gk, .int .i64 s.ins, .int .i64 4, .int .i64 m.r, .int .i64 0, .int .i64 0, .int .i64 (macM k [43, 4, m.r, 0, 0]), .bool true, .bool false] := hb0
  replace B : Below w.heap.size w w2 := Bk.below_grown (by go_grown) hg0 (by omega) (by first | omega | (simp [Bk.size_set]; done) | (simp [Bk.size_set]; omega))
  have z2 := hs0
  (try simp only [World.size_alloc, Bk.size_set, World.size_drew, World.drewN] at z2)
  clear hb0 hg0 hs0
  have l_rr : w.heap.size + 1 + 1 < w2.heap.size := Bk.Blk.lt rr
  have c_rr0 : w2.cell? ⟨w.heap.size + 1 + 1, 0, none⟩ = some (.int .i64 s.ms) := Bk.Blk.cell rr 0
  have c_rr1 : w2.cell? ⟨w.heap.size + 1 + 1, 1, none⟩ = some (.int .i64 s.no) := Bk.Blk.cell rr 1
  have c_rr2 : w2.cell? ⟨w.heap.size + 1 + 1, 2, none⟩ = some (.int .i64 s.pn) := Bk.Blk.cell rr 2
  have c_rr3 : w2.cell? ⟨w.heap.size + 1 + 1, 3, none⟩ = some (.int .i64 m.r) := Bk.Blk.cell rr 3
  have c_rr4 : w2.cell? ⟨w.heap.size + 1 + 1, 4, none⟩ = some (.int .i64 s.pw) := Bk.Blk.cell rr 4
  have c_rr5 : w2.cell? ⟨w.heap.size + 1 + 1, 5, none⟩ = some (.int .i64 s.gk) := Bk.Blk.cell rr 5
  have c_rr6 : w2.cell? ⟨w.heap.size + 1 + 1, 6, none⟩ = some (.int .i64 s.ins) := Bk.Blk.cell rr 6
  have c_rr7 : w2.cell? ⟨w.heap.size + 1 + 1, 7, none⟩ = some (.int .i64 4) := Bk.Blk.cell rr 7
  have c_rr8 : w2.cell? ⟨w.heap.size + 1 + 1, 8, none⟩ = some (.int .i64 m.r) := Bk.Blk.cell rr 8
  have c_rr9 : w2.cell? ⟨w.heap.size + 1 + 1, 9, none⟩ = some (.int .i64 0) := Bk.Blk.cell rr 9
  have c_rr10 : w2.cell? ⟨w.heap.size + 1 + 1, 10, none⟩ = some (.int .i64 0) := Bk.Blk.cell rr 10
  have c_rr11 : w2.cell? ⟨w.heap.size + 1 + 1, 11, none⟩ = some (.int .i64 (macM k [43, 4, m.r, 0, 0])) := Bk.Blk.cell rr 11
  have c_rr12 : w2.cell? ⟨w.heap.size + 1 + 1, 12, none⟩ = some (.bool true) := Bk.Blk.cell rr 12
  have c_rr13 : w2.cell? ⟨w.heap.size + 1 + 1, 13, none⟩ = some (.bool false) := Bk.Blk.cell rr 13
  go_wp2
  refine bodyPost_ret (v := .agg #[.int .i64 s.ms, .int .i64 s.no, .int .i64 s.pn, .int .i64 m.r, .int .i64 s.pw, .int .i64 s.gk, .int .i64 s.ins, .int .i64 4, .int .i64 m.r, .int .i64 0, .int .i64 0, .int .i64 (macM k [43, 4, m.r, 0, 0]), .bool true, .bool false]) (by simp [results, Try.results50, go_sem, c_rr0, c_rr1, c_rr2, c_rr3, c_rr4, c_rr5, c_rr6, c_rr7, c_rr8, c_rr9, c_rr10, c_rr11, c_rr12, c_rr13]) rfl (⟨rfl, B⟩)
end Go.Proofs.Ytmhcbiipbilakaa.Hs
