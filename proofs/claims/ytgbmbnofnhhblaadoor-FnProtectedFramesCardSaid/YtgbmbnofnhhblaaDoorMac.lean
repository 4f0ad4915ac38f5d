/- The MAC of a protected frame, both sides. -/
import Derived.Test.YtgbmbnofnhhblaaDoorEnc
namespace Go.Proofs.YtgbmbnofnhhblaaDoor.Seal
open Go.RowKit
open Go.Proofs.YtgbmbnofnhhblaaDoor.Num Go.Proofs.YtgbmbnofnhhblaaDoor.Mem Go.Proofs.YtgbmbnofnhhblaaDoor.Hsh Go.Proofs.YtgbmbnofnhhblaaDoor.Itoa Go.Proofs.YtgbmbnofnhhblaaDoor.Pass Go.Proofs.YtgbmbnofnhhblaaDoor.Sls Go.Proofs.YtgbmbnofnhhblaaDoor.Own
set_option linter.unusedSimpArgs false
set_option linter.unusedVariables false
def macF (key cn : Int) (bs : List Int) : Int := hashL (keyed key (cn :: bytesNums bs))
theorem mac_wf {cn : Int} {bs : List Int} (h : -9223372036854775808 ≤ cn ∧ cn ≤ 9223372036854775807) (hb : AllBytes bs) (hl : bs.length ≤ 2097152) : ∀ z ∈ cn :: bytesNums bs, -9223372036854775808 ≤ z ∧ z ≤ 9223372036854775807 := by
  intro z hz
  unfold bytesNums at hz
  rcases List.mem_cons.1 hz with rfl | h1
  · exact h
  · rcases List.mem_cons.1 h1 with rfl | h2
    · omega
    · have := hb z h2; omega
theorem rd_toM {W w' : World} {o : Obj} {sz n c : Nat} {A : Option Addr} {xs : List Value} (h : Rd W sz A n c xs) (hW : W.alloc o = w') : Rd w' sz A n c xs := hW ▸ h.alloc o
theorem own_litM {W w' : World} {u : Value} {e : TypeId} {lo : Nat} (hW : W.alloc (.cells #[u] e) = w') (h : lo ≤ W.heap.size) : w'.ownsRow lo e 1 (.slice (some ⟨W.heap.size, 0, none⟩) 1 1) 1 [u] := hW ▸ World.ownsRow_lit W #[u] 1 h (by unfold maxLen; omega) rfl
theorem blk_grownM {w w' : World} {g : Nat} {t : TypeId} {cs : Array Value} {row : Option Nat} (hb : w.grownBy w' row) (hr : some g ≠ row) (h : Bk.Blk w g t cs) : Bk.Blk w' g t cs := (hb.block g h.lt (fun e => hr e)).trans h
set_option maxHeartbeats 4000000 in
theorem mac_spec (key cn mc : Int) (A : Option Addr) (n c : Nat) (bs : List Int) (w : World) (hk : -9223372036854775808 ≤ key ∧ key ≤ 9223372036854775807) (hcn : -9223372036854775808 ≤ cn ∧ cn ≤ 9223372036854775807) (hr : Rd w 1 A n c (bs.map (Value.int .u8))) (hb : AllBytes bs) (hn : n ≤ 2097151) :
    Calls Tryd.prog 35 #[.int .i64 key, .agg #[.int .i64 cn, .slice A n c, .int .i64 mc]] w fun e w' => e = .returned (.int .i64 (macF key cn bs)) ∧ Below w.heap.size w w' := by
  obtain ⟨i0, hi, hz0, hz1, hz2⟩ := info_parts intInfo
  have hl := len_ints hr
  have HW := Lib.hid (mac_wf hcn hb (by omega))
  have HR := Lib.hid hr
  have HB := Lib.hid hb
  have HK := Lib.hid hk
  have HM := Lib.hid (show macF key cn bs = hashL (keyed key (cn :: bytesNums bs)) from rfl)
  have B : Below w.heap.size w w := Below.refl _ _
  clear hr hb hk hcn hl
  go_enter Tryd.func35, Tryd.ntmps35
  go_wp2_with fail
  generalize hW : World.alloc _ _ = w0
  have bp : Bk.Blk w0 (w.heap.size) 29 #[.int .i64 cn, .slice A n c, .int .i64 mc] := (by rw [← hW]; apply Bk.Blk.to; (focus ((repeat (first | with_reducible assumption | (with_reducible apply Bk.Blk.newAt; focus (first | (simp [Bk.size_set]; done) | (simp [Bk.size_set]; omega))) | with_reducible apply Bk.Blk.drewN | with_reducible apply Bk.Blk.drew | with_reducible apply Bk.Blk.set_ | (with_reducible apply Bk.Blk.far; focus (dsimp only; first | omega | (simp; omega) | (simp; done))) | with_reducible apply Bk.Blk.alloc)))); rfl)
  replace B : Below w.heap.size w w0 := (by rw [← hW]; go_grown)
  have z0 : w0.heap.size = _ := congrArg (fun W : World => W.heap.size) hW.symm
  (try simp only [World.size_alloc, Bk.size_set, World.size_drew, World.drewN] at z0)
  clear hW
  have z00 : w.heap.size + 1 ≤ w0.heap.size := by omega
  clear z0
  have L_bp := Lay.f3 bp
  refine wp_region_held_drew (S := (fun w' => Bk.Blk w' (w.heap.size) 29 #[.int .i64 cn, .slice A n c, .int .i64 mc])) (by kernel_rfl) ?_ (fun hHeld => ?_)
  · (try dsimp only); (repeat (first | with_reducible assumption | (with_reducible apply Bk.Blk.newAt; focus (first | (simp [Bk.size_set]; done) | (simp [Bk.size_set]; omega))) | with_reducible apply Bk.Blk.drewN | with_reducible apply Bk.Blk.drew | with_reducible apply Bk.Blk.set_ | (with_reducible apply Bk.Blk.far; focus (dsimp only; first | omega | (simp; omega) | (simp; done))) | with_reducible apply Bk.Blk.alloc))
  first | (refine wpAnyH_take (i := 0) (v := ?_) (Reg.get rfl) (by kernel_rfl) (by kernel_rfl) (by kernel_rfl) (fun _ _ _ h => h) (Or.inl ⟨by rfl, ?_⟩) hHeld ?_; rotate_left 1; (focus (intro wq hSw; (try dsimp only at hSw); have s_bp := hSw; have L_bp := Lay.c3 s_bp;  go_simp <;> with_reducible rfl))) | (refine wpAnyH_take (i := 0) (v := undef) (Reg.get rfl) (by kernel_rfl) (by kernel_rfl) (by kernel_rfl) (fun _ _ _ h => h) (Or.inr ⟨by rfl, rfl⟩) hHeld ?_)
  try simp only [Act.put, List.setIfInBounds_toArray, List.set_cons_zero, List.set_cons_succ]
  first | (refine wpAnyH_take (i := 1) (v := ?_) (Reg.get rfl) (by kernel_rfl) (by kernel_rfl) (by kernel_rfl) (fun _ _ _ h => h) (Or.inl ⟨by rfl, ?_⟩) hHeld ?_; rotate_left 1; (focus (intro wq hSw; (try dsimp only at hSw); have s_bp := hSw; have L_bp := Lay.c3 s_bp;  go_simp <;> with_reducible rfl))) | (refine wpAnyH_take (i := 1) (v := undef) (Reg.get rfl) (by kernel_rfl) (by kernel_rfl) (by kernel_rfl) (fun _ _ _ h => h) (Or.inr ⟨by rfl, rfl⟩) hHeld ?_)
  try simp only [Act.put, List.setIfInBounds_toArray, List.set_cons_zero, List.set_cons_succ]
  first | (refine wpAnyH_take (i := 2) (v := ?_) (Reg.get rfl) (by kernel_rfl) (by kernel_rfl) (by kernel_rfl) (fun _ _ _ h => h) (Or.inl ⟨by rfl, ?_⟩) hHeld ?_; rotate_left 1; (focus (intro wq hSw; (try dsimp only at hSw); have s_bp := hSw; have L_bp := Lay.c3 s_bp;  go_simp <;> with_reducible rfl))) | (refine wpAnyH_take (i := 2) (v := undef) (Reg.get rfl) (by kernel_rfl) (by kernel_rfl) (by kernel_rfl) (fun _ _ _ h => h) (Or.inr ⟨by rfl, rfl⟩) hHeld ?_)
  try simp only [Act.put, List.setIfInBounds_toArray, List.set_cons_zero, List.set_cons_succ]
  first | (refine wpAnyH_take (i := 4) (v := ?_) (Reg.get rfl) (by kernel_rfl) (by kernel_rfl) (by kernel_rfl) (fun _ _ _ h => h) (Or.inl ⟨by rfl, ?_⟩) hHeld ?_; rotate_left 1; (focus (intro wq hSw; (try dsimp only at hSw); have s_bp := hSw; have L_bp := Lay.c3 s_bp;  go_simp <;> with_reducible rfl))) | (refine wpAnyH_take (i := 4) (v := undef) (Reg.get rfl) (by kernel_rfl) (by kernel_rfl) (by kernel_rfl) (fun _ _ _ h => h) (Or.inr ⟨by rfl, rfl⟩) hHeld ?_)
  try simp only [Act.put, List.setIfInBounds_toArray, List.set_cons_zero, List.set_cons_succ]
  first | (refine wpAnyH_take (i := 5) (v := ?_) (Reg.get rfl) (by kernel_rfl) (by kernel_rfl) (by kernel_rfl) (fun _ _ _ h => h) (Or.inl ⟨by rfl, ?_⟩) hHeld ?_; rotate_left 1; (focus (intro wq hSw; (try dsimp only at hSw); have s_bp := hSw; have L_bp := Lay.c3 s_bp;  go_simp <;> with_reducible rfl))) | (refine wpAnyH_take (i := 5) (v := undef) (Reg.get rfl) (by kernel_rfl) (by kernel_rfl) (by kernel_rfl) (fun _ _ _ h => h) (Or.inr ⟨by rfl, rfl⟩) hHeld ?_)
  try simp only [Act.put, List.setIfInBounds_toArray, List.set_cons_zero, List.set_cons_succ]
  refine wpAnyH_ready (rs := [3, 6]) (by kernel_rfl) (by simp) ?_
  refine (AllReadyH.cons (Reg.get rfl) (fun K hK => ?_) (AllReadyH.cons (Reg.get rfl) (fun K hK => ?_) AllReadyH.nil))
  
  · skip
    clear hHeld; go_simp; ((generalize hW : World.alloc _ _ = w1; replace bp : Bk.Blk w1 w.heap.size 29 #[.int .i64 cn, .slice A n c, .int .i64 mc] := (by rw [← hW]; (repeat (first | with_reducible assumption | (with_reducible apply Bk.Blk.newAt; focus (first | (simp [Bk.size_set]; done) | (simp [Bk.size_set]; omega))) | with_reducible apply Bk.Blk.drewN | with_reducible apply Bk.Blk.drew | with_reducible apply Bk.Blk.set_ | (with_reducible apply Bk.Blk.far; focus (dsimp only; first | omega | (simp; omega) | (simp; done))) | with_reducible apply Bk.Blk.alloc))); replace B : Below w.heap.size w w1 := (by rw [← hW]; go_grown); (try (first | replace H6 := rd_toM H6 hW | replace H6 := rd_toM H6.drew hW)); have HP := own_litM (u := .int .i64 cn) (lo := w.heap.size + 1) hW (by first | omega | (simp; done) | (simp; omega)); have z1 := size_toE hW; (try simp only [World.size_drew] at z1); clear hW L_bp; have L_bp := Lay.f3 bp)); refine hK.out _ _ ?_ (fun hHeld => ?_); ((try dsimp only); (repeat (first | with_reducible assumption | (with_reducible apply Bk.Blk.newAt; focus (first | (simp [Bk.size_set]; done) | (simp [Bk.size_set]; omega))) | with_reducible apply Bk.Blk.drewN | with_reducible apply Bk.Blk.drew | with_reducible apply Bk.Blk.set_ | (with_reducible apply Bk.Blk.far; focus (dsimp only; first | omega | (simp; omega) | (simp; done))) | with_reducible apply Bk.Blk.alloc))); clear hK K
    try simp only [Act.put, List.setIfInBounds_toArray, List.set_cons_zero, List.set_cons_succ]
    first | ((refine wpAnyH_take (i := 6) (v := undef) (Reg.get rfl) (by kernel_rfl) (by kernel_rfl) (by kernel_rfl) (fun _ _ _ h => h) (Or.inr ⟨by rfl, rfl⟩) hHeld ?_)) | (refine wpAnyH_ready (rs := [6]) (by kernel_rfl) (by simp) ?_; refine AllReadyH.cons (Reg.get rfl) (fun K hK => ?_) AllReadyH.nil; clear hHeld; go_simp; ((go_at_call 60; refine (bytesToInts_spec A n c bs _ (by first | exact HR.out.below B | exact (HR.out.below B).drew) (by omega) HB.out).mono ?_; rintro x w2 ⟨A6, c6, rfl, hown, hb0⟩; (try (first | replace HP := own_belowE HP hb0 | replace HP := own_belowE (own_drewE HP) hb0)); have H6 := Rd.of_own hown; clear L_bp; replace bp : Bk.Blk w2 (w.heap.size) 29 #[.int .i64 cn, .slice A n c, .int .i64 mc] := Bk.Blk.under hb0 (by (repeat (first | with_reducible assumption | (with_reducible apply Bk.Blk.newAt; focus (first | (simp [Bk.size_set]; done) | (simp [Bk.size_set]; omega))) | with_reducible apply Bk.Blk.drewN | with_reducible apply Bk.Blk.drew | with_reducible apply Bk.Blk.set_ | (with_reducible apply Bk.Blk.far; focus (dsimp only; first | omega | (simp; omega) | (simp; done))) | with_reducible apply Bk.Blk.alloc))); replace B : Below w.heap.size w w2 := Below.trans (by go_grown) (hb0.mono (by first | omega | (simp [Bk.size_set]; done) | (simp [Bk.size_set]; omega))); have z2 := hb0.size; (try simp only [World.size_alloc, Bk.size_set, World.size_drew, World.drewN] at z2); clear hb0; have L_bp := Lay.f3 bp)); refine hK.out _ _ ?_ (fun hHeld => ?_); ((try dsimp only); (repeat (first | with_reducible assumption | (with_reducible apply Bk.Blk.newAt; focus (first | (simp [Bk.size_set]; done) | (simp [Bk.size_set]; omega))) | with_reducible apply Bk.Blk.drewN | with_reducible apply Bk.Blk.drew | with_reducible apply Bk.Blk.set_ | (with_reducible apply Bk.Blk.far; focus (dsimp only; first | omega | (simp; omega) | (simp; done))) | with_reducible apply Bk.Blk.alloc))); clear hK K)
    try simp only [Act.put, List.setIfInBounds_toArray, List.set_cons_zero, List.set_cons_succ]
    first | ((refine wpAnyH_take (i := 7) (v := undef) (Reg.get rfl) (by kernel_rfl) (by kernel_rfl) (by kernel_rfl) (fun _ _ _ h => h) (Or.inr ⟨by rfl, rfl⟩) hHeld ?_)) | (refine wpAnyH_ready (rs := [7]) (by kernel_rfl) (by simp) ?_; refine AllReadyH.cons (Reg.get rfl) (fun K hK => ?_) AllReadyH.nil; clear hHeld; ((refine App.wp_app _ _ _ 22 rfl (w.heap.size + 1) 3 i0 (.int .i64 0) 1 8 Tryd.underlying22 hi hz0 hz1 hz2 rfl (by decide) _ _ _ _ rfl (by first | exact HP | exact own_drewE HP) _ _ _ _ rfl (by first | exact H6 | exact H6.drew) (one_ints .i64 _) (by unfold maxLen; omega) (by omega) (by first | omega | (simp; done) | (simp; omega)) ?_; intro A7 c7 w7 own7 hg0 _; have hP := own_loE HP; replace bp : Bk.Blk w7 w.heap.size 29 #[.int .i64 cn, .slice A n c, .int .i64 mc] := blk_grownM hg0 (by intro h; have := hP _ h.symm; omega) (by (repeat (first | with_reducible assumption | (with_reducible apply Bk.Blk.newAt; focus (first | (simp [Bk.size_set]; done) | (simp [Bk.size_set]; omega))) | with_reducible apply Bk.Blk.drewN | with_reducible apply Bk.Blk.drew | with_reducible apply Bk.Blk.set_ | (with_reducible apply Bk.Blk.far; focus (dsimp only; first | omega | (simp; omega) | (simp; done))) | with_reducible apply Bk.Blk.alloc))); replace B : Below w.heap.size w w7 := Mem.below_app (by go_grown) hg0 (by first | omega | (simp; done) | (simp; omega)) (by intro q h; have := hP _ h; omega); have z7 := hg0.size; (try simp only [World.size_drew] at z7); clear hg0 hP HP H6 L_bp; have L_bp := Lay.f3 bp)); refine hK.out _ _ ?_ (fun hHeld => ?_); ((try dsimp only); (repeat (first | with_reducible assumption | (with_reducible apply Bk.Blk.newAt; focus (first | (simp [Bk.size_set]; done) | (simp [Bk.size_set]; omega))) | with_reducible apply Bk.Blk.drewN | with_reducible apply Bk.Blk.drew | with_reducible apply Bk.Blk.set_ | (with_reducible apply Bk.Blk.far; focus (dsimp only; first | omega | (simp; omega) | (simp; done))) | with_reducible apply Bk.Blk.alloc))); clear hK K)
    try simp only [Act.put, List.setIfInBounds_toArray, List.set_cons_zero, List.set_cons_succ]
    first | ((refine wpAnyH_take (i := 8) (v := undef) (Reg.get rfl) (by kernel_rfl) (by kernel_rfl) (by kernel_rfl) (fun _ _ _ h => h) (Or.inr ⟨by rfl, rfl⟩) hHeld ?_)) | (refine wpAnyH_ready (rs := [8]) (by kernel_rfl) (by simp) ?_; refine AllReadyH.cons (Reg.get rfl) (fun K hK => ?_) AllReadyH.nil; clear hHeld; go_simp; ((go_at_call 57; refine (keyedHash_spec key A7 _ c7 (cn :: bytesNums bs) _ (by first | (have h := Rd.of_own own7; simpa [Nat.add_comm] using h) | (have h := (Rd.of_own own7).drew; simpa [Nat.add_comm] using h)) (by omega) HK.out HW.out).mono ?_; rintro x w8 ⟨rfl, hb0⟩; have hb1 : Below w7.heap.size w7 w8 := ⟨hb0.os, hb0.tape, hb0.output, hb0.size, hb0.block⟩; replace bp : Bk.Blk w8 w.heap.size 29 #[.int .i64 cn, .slice A n c, .int .i64 mc] := Bk.Blk.under hb1 bp; replace B := stepB B hb1 B.size; clear hb0 hb1 own7 L_bp; have L_bp := Lay.f3 bp)); refine hK.out _ _ ?_ (fun hHeld => ?_); ((try dsimp only); (repeat (first | with_reducible assumption | (with_reducible apply Bk.Blk.newAt; focus (first | (simp [Bk.size_set]; done) | (simp [Bk.size_set]; omega))) | with_reducible apply Bk.Blk.drewN | with_reducible apply Bk.Blk.drew | with_reducible apply Bk.Blk.set_ | (with_reducible apply Bk.Blk.far; focus (dsimp only; first | omega | (simp; omega) | (simp; done))) | with_reducible apply Bk.Blk.alloc))); clear hK K)
    try simp only [Act.put, List.setIfInBounds_toArray, List.set_cons_zero, List.set_cons_succ]
    first | (refine wpAnyH_take (i := 9) (v := ?_) (Reg.get rfl) (by kernel_rfl) (by kernel_rfl) (by kernel_rfl) (fun _ _ _ h => h) (Or.inl ⟨by rfl, ?_⟩) hHeld ?_; rotate_left 1; (focus (intro wq hSw; (try dsimp only at hSw); have s_bp := hSw; have L_bp := Lay.c3 s_bp;  go_simp <;> with_reducible rfl))) | (refine wpAnyH_take (i := 9) (v := undef) (Reg.get rfl) (by kernel_rfl) (by kernel_rfl) (by kernel_rfl) (fun _ _ _ h => h) (Or.inr ⟨by rfl, rfl⟩) hHeld ?_)
    try simp only [Act.put, List.setIfInBounds_toArray, List.set_cons_zero, List.set_cons_succ]
    refine wpAnyH_done (by kernel_rfl) ?_ _
    go_wp2
    go_ret
    exact ⟨by rw [HM.out]; rfl, by first | exact B | exact B.drew⟩
  
  · skip
    clear hHeld; go_simp; ((go_at_call 60; refine (bytesToInts_spec A n c bs _ (by first | exact HR.out.below B | exact (HR.out.below B).drew) (by omega) HB.out).mono ?_; rintro x w2 ⟨A6, c6, rfl, hown, hb0⟩; (try (first | replace HP := own_belowE HP hb0 | replace HP := own_belowE (own_drewE HP) hb0)); have H6 := Rd.of_own hown; clear L_bp; replace bp : Bk.Blk w2 (w.heap.size) 29 #[.int .i64 cn, .slice A n c, .int .i64 mc] := Bk.Blk.under hb0 (by (repeat (first | with_reducible assumption | (with_reducible apply Bk.Blk.newAt; focus (first | (simp [Bk.size_set]; done) | (simp [Bk.size_set]; omega))) | with_reducible apply Bk.Blk.drewN | with_reducible apply Bk.Blk.drew | with_reducible apply Bk.Blk.set_ | (with_reducible apply Bk.Blk.far; focus (dsimp only; first | omega | (simp; omega) | (simp; done))) | with_reducible apply Bk.Blk.alloc))); replace B : Below w.heap.size w w2 := Below.trans (by go_grown) (hb0.mono (by first | omega | (simp [Bk.size_set]; done) | (simp [Bk.size_set]; omega))); have z2 := hb0.size; (try simp only [World.size_alloc, Bk.size_set, World.size_drew, World.drewN] at z2); clear hb0; have L_bp := Lay.f3 bp)); refine hK.out _ _ ?_ (fun hHeld => ?_); ((try dsimp only); (repeat (first | with_reducible assumption | (with_reducible apply Bk.Blk.newAt; focus (first | (simp [Bk.size_set]; done) | (simp [Bk.size_set]; omega))) | with_reducible apply Bk.Blk.drewN | with_reducible apply Bk.Blk.drew | with_reducible apply Bk.Blk.set_ | (with_reducible apply Bk.Blk.far; focus (dsimp only; first | omega | (simp; omega) | (simp; done))) | with_reducible apply Bk.Blk.alloc))); clear hK K
    try simp only [Act.put, List.setIfInBounds_toArray, List.set_cons_zero, List.set_cons_succ]
    first | ((refine wpAnyH_take (i := 3) (v := undef) (Reg.get rfl) (by kernel_rfl) (by kernel_rfl) (by kernel_rfl) (fun _ _ _ h => h) (Or.inr ⟨by rfl, rfl⟩) hHeld ?_)) | (refine wpAnyH_ready (rs := [3]) (by kernel_rfl) (by simp) ?_; refine AllReadyH.cons (Reg.get rfl) (fun K hK => ?_) AllReadyH.nil; clear hHeld; go_simp; ((generalize hW : World.alloc _ _ = w1; replace bp : Bk.Blk w1 w.heap.size 29 #[.int .i64 cn, .slice A n c, .int .i64 mc] := (by rw [← hW]; (repeat (first | with_reducible assumption | (with_reducible apply Bk.Blk.newAt; focus (first | (simp [Bk.size_set]; done) | (simp [Bk.size_set]; omega))) | with_reducible apply Bk.Blk.drewN | with_reducible apply Bk.Blk.drew | with_reducible apply Bk.Blk.set_ | (with_reducible apply Bk.Blk.far; focus (dsimp only; first | omega | (simp; omega) | (simp; done))) | with_reducible apply Bk.Blk.alloc))); replace B : Below w.heap.size w w1 := (by rw [← hW]; go_grown); (try (first | replace H6 := rd_toM H6 hW | replace H6 := rd_toM H6.drew hW)); have HP := own_litM (u := .int .i64 cn) (lo := w.heap.size + 1) hW (by first | omega | (simp; done) | (simp; omega)); have z1 := size_toE hW; (try simp only [World.size_drew] at z1); clear hW L_bp; have L_bp := Lay.f3 bp)); refine hK.out _ _ ?_ (fun hHeld => ?_); ((try dsimp only); (repeat (first | with_reducible assumption | (with_reducible apply Bk.Blk.newAt; focus (first | (simp [Bk.size_set]; done) | (simp [Bk.size_set]; omega))) | with_reducible apply Bk.Blk.drewN | with_reducible apply Bk.Blk.drew | with_reducible apply Bk.Blk.set_ | (with_reducible apply Bk.Blk.far; focus (dsimp only; first | omega | (simp; omega) | (simp; done))) | with_reducible apply Bk.Blk.alloc))); clear hK K)
    try simp only [Act.put, List.setIfInBounds_toArray, List.set_cons_zero, List.set_cons_succ]
    first | ((refine wpAnyH_take (i := 7) (v := undef) (Reg.get rfl) (by kernel_rfl) (by kernel_rfl) (by kernel_rfl) (fun _ _ _ h => h) (Or.inr ⟨by rfl, rfl⟩) hHeld ?_)) | (refine wpAnyH_ready (rs := [7]) (by kernel_rfl) (by simp) ?_; refine AllReadyH.cons (Reg.get rfl) (fun K hK => ?_) AllReadyH.nil; clear hHeld; ((refine App.wp_app _ _ _ 22 rfl (w.heap.size + 1) 3 i0 (.int .i64 0) 1 8 Tryd.underlying22 hi hz0 hz1 hz2 rfl (by decide) _ _ _ _ rfl (by first | exact HP | exact own_drewE HP) _ _ _ _ rfl (by first | exact H6 | exact H6.drew) (one_ints .i64 _) (by unfold maxLen; omega) (by omega) (by first | omega | (simp; done) | (simp; omega)) ?_; intro A7 c7 w7 own7 hg0 _; have hP := own_loE HP; replace bp : Bk.Blk w7 w.heap.size 29 #[.int .i64 cn, .slice A n c, .int .i64 mc] := blk_grownM hg0 (by intro h; have := hP _ h.symm; omega) (by (repeat (first | with_reducible assumption | (with_reducible apply Bk.Blk.newAt; focus (first | (simp [Bk.size_set]; done) | (simp [Bk.size_set]; omega))) | with_reducible apply Bk.Blk.drewN | with_reducible apply Bk.Blk.drew | with_reducible apply Bk.Blk.set_ | (with_reducible apply Bk.Blk.far; focus (dsimp only; first | omega | (simp; omega) | (simp; done))) | with_reducible apply Bk.Blk.alloc))); replace B : Below w.heap.size w w7 := Mem.below_app (by go_grown) hg0 (by first | omega | (simp; done) | (simp; omega)) (by intro q h; have := hP _ h; omega); have z7 := hg0.size; (try simp only [World.size_drew] at z7); clear hg0 hP HP H6 L_bp; have L_bp := Lay.f3 bp)); refine hK.out _ _ ?_ (fun hHeld => ?_); ((try dsimp only); (repeat (first | with_reducible assumption | (with_reducible apply Bk.Blk.newAt; focus (first | (simp [Bk.size_set]; done) | (simp [Bk.size_set]; omega))) | with_reducible apply Bk.Blk.drewN | with_reducible apply Bk.Blk.drew | with_reducible apply Bk.Blk.set_ | (with_reducible apply Bk.Blk.far; focus (dsimp only; first | omega | (simp; omega) | (simp; done))) | with_reducible apply Bk.Blk.alloc))); clear hK K)
    try simp only [Act.put, List.setIfInBounds_toArray, List.set_cons_zero, List.set_cons_succ]
    first | ((refine wpAnyH_take (i := 8) (v := undef) (Reg.get rfl) (by kernel_rfl) (by kernel_rfl) (by kernel_rfl) (fun _ _ _ h => h) (Or.inr ⟨by rfl, rfl⟩) hHeld ?_)) | (refine wpAnyH_ready (rs := [8]) (by kernel_rfl) (by simp) ?_; refine AllReadyH.cons (Reg.get rfl) (fun K hK => ?_) AllReadyH.nil; clear hHeld; go_simp; ((go_at_call 57; refine (keyedHash_spec key A7 _ c7 (cn :: bytesNums bs) _ (by first | (have h := Rd.of_own own7; simpa [Nat.add_comm] using h) | (have h := (Rd.of_own own7).drew; simpa [Nat.add_comm] using h)) (by omega) HK.out HW.out).mono ?_; rintro x w8 ⟨rfl, hb0⟩; have hb1 : Below w7.heap.size w7 w8 := ⟨hb0.os, hb0.tape, hb0.output, hb0.size, hb0.block⟩; replace bp : Bk.Blk w8 w.heap.size 29 #[.int .i64 cn, .slice A n c, .int .i64 mc] := Bk.Blk.under hb1 bp; replace B := stepB B hb1 B.size; clear hb0 hb1 own7 L_bp; have L_bp := Lay.f3 bp)); refine hK.out _ _ ?_ (fun hHeld => ?_); ((try dsimp only); (repeat (first | with_reducible assumption | (with_reducible apply Bk.Blk.newAt; focus (first | (simp [Bk.size_set]; done) | (simp [Bk.size_set]; omega))) | with_reducible apply Bk.Blk.drewN | with_reducible apply Bk.Blk.drew | with_reducible apply Bk.Blk.set_ | (with_reducible apply Bk.Blk.far; focus (dsimp only; first | omega | (simp; omega) | (simp; done))) | with_reducible apply Bk.Blk.alloc))); clear hK K)
    try simp only [Act.put, List.setIfInBounds_toArray, List.set_cons_zero, List.set_cons_succ]
    first | (refine wpAnyH_take (i := 9) (v := ?_) (Reg.get rfl) (by kernel_rfl) (by kernel_rfl) (by kernel_rfl) (fun _ _ _ h => h) (Or.inl ⟨by rfl, ?_⟩) hHeld ?_; rotate_left 1; (focus (intro wq hSw; (try dsimp only at hSw); have s_bp := hSw; have L_bp := Lay.c3 s_bp;  go_simp <;> with_reducible rfl))) | (refine wpAnyH_take (i := 9) (v := undef) (Reg.get rfl) (by kernel_rfl) (by kernel_rfl) (by kernel_rfl) (fun _ _ _ h => h) (Or.inr ⟨by rfl, rfl⟩) hHeld ?_)
    try simp only [Act.put, List.setIfInBounds_toArray, List.set_cons_zero, List.set_cons_succ]
    refine wpAnyH_done (by kernel_rfl) ?_ _
    go_wp2
    go_ret
    exact ⟨by rw [HM.out]; rfl, by first | exact B | exact B.drew⟩
set_option maxHeartbeats 4000000 in
theorem mac_impl (key cn mc : Int) (A : Option Addr) (n c : Nat) (bs : List Int) (w : World) (hk : -9223372036854775808 ≤ key ∧ key ≤ 9223372036854775807) (hcn : -9223372036854775808 ≤ cn ∧ cn ≤ 9223372036854775807) (hr : Rd w 1 A n c (bs.map (Value.int .u8))) (hb : AllBytes bs) (hn : n ≤ 2097151) :
    Calls Tryd.prog 40 #[.int .i64 key, .agg #[.int .i64 cn, .slice A n c, .int .i64 mc]] w fun e w' => e = .returned (.int .i64 (macF key cn bs)) ∧ Below w.heap.size w w' := by
  obtain ⟨i0, hi, hz0, hz1, hz2⟩ := info_parts intInfo
  have hl := len_ints hr
  have HW := Lib.hid (mac_wf hcn hb (by omega))
  have HR := Lib.hid hr
  have HB := Lib.hid hb
  have HK := Lib.hid hk
  have HM := Lib.hid (show macF key cn bs = hashL (keyed key (cn :: bytesNums bs)) from rfl)
  have B : Below w.heap.size w w := Below.refl _ _
  clear hr hb hk hcn hl
  go_enter Tryd.func40, Tryd.ntmps40
  go_wp2_with fail
  generalize hW : World.alloc (w.alloc _) _ = w1
  have HP := own_litM (u := .int .i64 cn) (lo := w.heap.size + 1) hW (by simp)
  replace B : Below w.heap.size w w1 := (by rw [← hW]; go_grown)
  have z1 := size_toE hW
  simp only [World.size_alloc] at z1 HP
  clear hW
  refine (bytesToInts_impl A n c bs _ (HR.out.below B) (by omega) HB.out).mono ?_
  rintro x w2 ⟨A6, c6, rfl, hown, hb0⟩
  have HP2 := Lib.hid (own_belowE HP hb0)
  have H6 := Lib.hid (Rd.of_own hown)
  replace B := stepB B hb0 B.size
  have z2 := hb0.size
  clear hb0 hown HP
  go_wp2_with (at_builtin; refine wpl_app _ rfl _ _ 22 rfl (w.heap.size + 1) 3 i0 (.int .i64 0) 1 8 Tryd.underlying22 hi hz0 hz1 hz2 rfl (by decide) _ _ _ _ rfl HP2.out _ _ _ _ rfl H6.out (one_ints .i64 _) (by unfold maxLen; omega) (by omega) (by omega) ?_)
  intro A7 c7 w7 own7 hg0 _
  have hP := own_loE HP2.out
  replace B : Below w.heap.size w w7 := Mem.below_app B hg0 B.size (by intro q h; have := hP _ h; omega)
  have H7 := Lib.hid own7
  clear hg0 hP own7
  go_wp2_with fail
  refine (keyedHash_impl key A7 _ c7 (cn :: bytesNums bs) _ (by have h := Rd.of_own H7.out; simpa [Nat.add_comm] using h) (by omega) HK.out HW.out).mono ?_
  rintro x w8 ⟨rfl, hb0⟩
  replace B := stepB B hb0 B.size
  go_wp2
  go_ret
  exact ⟨by rw [HM.out]; rfl, B⟩
end Go.Proofs.YtgbmbnofnhhblaaDoor.Seal
