/- IsAuthentic and OpenFrame, both sides. -/
import Derived.Test.YtgbmbnofnhhblaaDoorProtS
import Derived.Test.YtgbmbnofnhhblaaDoorDec
namespace Go.Proofs.YtgbmbnofnhhblaaDoor.Seal
open Go.RowKit
open Go.Proofs.YtgbmbnofnhhblaaDoor.Num Go.Proofs.YtgbmbnofnhhblaaDoor.Mem Go.Proofs.YtgbmbnofnhhblaaDoor.Hsh Go.Proofs.YtgbmbnofnhhblaaDoor.Itoa Go.Proofs.YtgbmbnofnhhblaaDoor.Pass Go.Proofs.YtgbmbnofnhhblaaDoor.Sls Go.Proofs.YtgbmbnofnhhblaaDoor.Own Go.Proofs.YtgbmbnofnhhblaaDoor.Ks
set_option linter.unusedSimpArgs false
set_option linter.unusedVariables false
/-- a frame is opened -/
def openP (ke se re cn mc : Int) (zs : List Int) (n : Nat) (bs : List Int) : Prop := validK ke se re zs n ∧ ke ≠ 0 ∧ mc = macF ke cn bs ∧ re < cn ∧ cn ≤ 1000000
/-- what OpenFrame hands back: a state and bytes, both in new memory -/
def RetOf (w : World) (ke se re : Int) (n : Nat) (zs : List Int) (m : Nat) (ds : List Int) (ok : Bool) (x : Ending) (w' : World) : Prop :=
  ∃ A c D e, x = .returned (.tuple #[.agg #[.int .i64 ke, .int .i64 se, .int .i64 re, .slice A n c], .slice D m e, .bool ok]) ∧ w'.ownsRow w.heap.size 3 1 (.slice A n c) n (zs.map (Value.int .i64)) ∧ w'.ownsRow w.heap.size 5 1 (.slice D m e) m (ds.map (Value.int .u8)) ∧ Below w.heap.size w w'
theorem cipT_impl (key n : Int) (h0 : 0 < n) (h1 : n ≤ 1000000) (w : World) (hk : -9223372036854775808 ≤ key ∧ key ≤ 9223372036854775807) (ht : Tab w) :
    Calls Tryd.prog 39 #[.int .i64 key, .int .i64 n] w fun e w' => e = .returned (.int .i64 (cipM key n)) ∧ Below w.heap.size w w' := cipher_impl key n h0 h1 w hk ht
set_option maxHeartbeats 4000000 in
theorem auth_impl (key cn mc : Int) (A : Option Addr) (n c : Nat) (bs : List Int) (b : Bool) (w : World) (hk : -9223372036854775808 ≤ key ∧ key ≤ 9223372036854775807) (hcn : -9223372036854775808 ≤ cn ∧ cn ≤ 9223372036854775807) (hr : Rd w 1 A n c (bs.map (Value.int .u8))) (hb : AllBytes bs) (hn : n ≤ 2097151) (hm : (mc == macF key cn bs) = b) :
    Calls Tryd.prog 27 #[.int .i64 key, .agg #[.int .i64 cn, .slice A n c, .int .i64 mc]] w fun e w' => e = .returned (.bool b) ∧ Below w.heap.size w w' := by
  have HR := Lib.hid hr
  have HB := Lib.hid hb
  have HK := Lib.hid hk
  have HC := Lib.hid hcn
  have B : Below w.heap.size w w := Below.refl _ _
  have HCALL := Lib.hid (fun w h => mac_impl key cn mc A n c bs w HK.out HC.out h HB.out (by omega))
  have HMM := Lib.hid hm
  clear hm
  generalize macF key cn bs = g at *
  clear hr hb hk hcn
  go_enter Tryd.func27, Tryd.ntmps27
  go_wp2_with fail
  generalize hW : World.alloc _ _ = w0
  have bp : Bk.Blk w0 (w.heap.size) 29 #[.int .i64 cn, .slice A n c, .int .i64 mc] := (by rw [← hW]; apply Bk.Blk.to; (focus ((repeat (first | with_reducible assumption | (with_reducible apply Bk.Blk.newAt; focus (first | (simp [Bk.size_set]; done) | (simp [Bk.size_set]; omega))) | with_reducible apply Bk.Blk.drewN | with_reducible apply Bk.Blk.drew | with_reducible apply Bk.Blk.set_ | (with_reducible apply Bk.Blk.far; focus (dsimp only; first | omega | (simp; omega) | (simp; done))) | with_reducible apply Bk.Blk.alloc)))); rfl)
  replace B : Below w.heap.size w w0 := (by rw [← hW]; go_grown)
  have z0 : w0.heap.size = _ := congrArg (fun W : World => W.heap.size) hW.symm
  (try simp only [World.size_alloc, Bk.size_set, World.size_drew, World.drewN] at z0)
  clear hW
  have L_bp := Lay.f3 bp
  refine wp_region_held_drew (S := (fun w' => Bk.Blk w' (w.heap.size) 29 #[.int .i64 cn, .slice A n c, .int .i64 mc])) (by kernel_rfl) ?_ (fun hHeld => ?_)
  · (try dsimp only); (repeat (first | with_reducible assumption | (with_reducible apply Bk.Blk.newAt; focus (first | (simp [Bk.size_set]; done) | (simp [Bk.size_set]; omega))) | with_reducible apply Bk.Blk.drewN | with_reducible apply Bk.Blk.drew | with_reducible apply Bk.Blk.set_ | (with_reducible apply Bk.Blk.far; focus (dsimp only; first | omega | (simp; omega) | (simp; done))) | with_reducible apply Bk.Blk.alloc))
  first | (refine wpAnyH_take (i := 0) (v := ?_) (Reg.get rfl) (by kernel_rfl) (by kernel_rfl) (by kernel_rfl) (fun _ _ _ h => h) (Or.inl ⟨by rfl, ?_⟩) hHeld ?_; rotate_left 1; (focus (intro wq hSw; (try dsimp only at hSw); have s_bp := hSw; have L_bp := Lay.c3 s_bp;  go_simp <;> with_reducible rfl))) | (refine wpAnyH_take (i := 0) (v := undef) (Reg.get rfl) (by kernel_rfl) (by kernel_rfl) (by kernel_rfl) (fun _ _ _ h => h) (Or.inr ⟨by rfl, rfl⟩) hHeld ?_)
  try simp only [Act.put, List.setIfInBounds_toArray, List.set_cons_zero, List.set_cons_succ]
  first | (refine wpAnyH_take (i := 1) (v := ?_) (Reg.get rfl) (by kernel_rfl) (by kernel_rfl) (by kernel_rfl) (fun _ _ _ h => h) (Or.inl ⟨by rfl, ?_⟩) hHeld ?_; rotate_left 1; (focus (intro wq hSw; (try dsimp only at hSw); have s_bp := hSw; have L_bp := Lay.c3 s_bp;  go_simp <;> with_reducible rfl))) | (refine wpAnyH_take (i := 1) (v := undef) (Reg.get rfl) (by kernel_rfl) (by kernel_rfl) (by kernel_rfl) (fun _ _ _ h => h) (Or.inr ⟨by rfl, rfl⟩) hHeld ?_)
  try simp only [Act.put, List.setIfInBounds_toArray, List.set_cons_zero, List.set_cons_succ]
  first | (refine wpAnyH_take (i := 2) (v := ?_) (Reg.get rfl) (by kernel_rfl) (by kernel_rfl) (by kernel_rfl) (fun _ _ _ h => h) (Or.inl ⟨by rfl, ?_⟩) hHeld ?_; rotate_left 1; (focus (intro wq hSw; (try dsimp only at hSw); have s_bp := hSw; have L_bp := Lay.c3 s_bp;  go_simp <;> with_reducible rfl))) | (refine wpAnyH_take (i := 2) (v := undef) (Reg.get rfl) (by kernel_rfl) (by kernel_rfl) (by kernel_rfl) (fun _ _ _ h => h) (Or.inr ⟨by rfl, rfl⟩) hHeld ?_)
  try simp only [Act.put, List.setIfInBounds_toArray, List.set_cons_zero, List.set_cons_succ]
  first | (refine wpAnyH_take (i := 3) (v := ?_) (Reg.get rfl) (by kernel_rfl) (by kernel_rfl) (by kernel_rfl) (fun _ _ _ h => h) (Or.inl ⟨by rfl, ?_⟩) hHeld ?_; rotate_left 1; (focus (intro wq hSw; (try dsimp only at hSw); have s_bp := hSw; have L_bp := Lay.c3 s_bp;  go_simp <;> with_reducible rfl))) | (refine wpAnyH_take (i := 3) (v := undef) (Reg.get rfl) (by kernel_rfl) (by kernel_rfl) (by kernel_rfl) (fun _ _ _ h => h) (Or.inr ⟨by rfl, rfl⟩) hHeld ?_)
  try simp only [Act.put, List.setIfInBounds_toArray, List.set_cons_zero, List.set_cons_succ]
  first | ((refine wpAnyH_take (i := 4) (v := undef) (Reg.get rfl) (by kernel_rfl) (by kernel_rfl) (by kernel_rfl) (fun _ _ _ h => h) (Or.inr ⟨by rfl, rfl⟩) hHeld ?_)) | (refine wpAnyH_ready (rs := [4]) (by kernel_rfl) (by simp) ?_; refine AllReadyH.cons (Reg.get rfl) (fun K hK => ?_) AllReadyH.nil; clear hHeld; go_simp; ((go_at_call 40; refine (HCALL.out _ (by first | exact HR.out.below B | exact (HR.out.below B).drew)).mono ?_; rintro x w1 ⟨rfl, hb0⟩; clear L_bp; replace bp : Bk.Blk w1 (w.heap.size) 29 #[.int .i64 cn, .slice A n c, .int .i64 mc] := Bk.Blk.under hb0 (by (repeat (first | with_reducible assumption | (with_reducible apply Bk.Blk.newAt; focus (first | (simp [Bk.size_set]; done) | (simp [Bk.size_set]; omega))) | with_reducible apply Bk.Blk.drewN | with_reducible apply Bk.Blk.drew | with_reducible apply Bk.Blk.set_ | (with_reducible apply Bk.Blk.far; focus (dsimp only; first | omega | (simp; omega) | (simp; done))) | with_reducible apply Bk.Blk.alloc))); replace B : Below w.heap.size w w1 := Below.trans (by go_grown) (hb0.mono (by first | omega | (simp [Bk.size_set]; done) | (simp [Bk.size_set]; omega))); have z1 := hb0.size; (try simp only [World.size_alloc, Bk.size_set, World.size_drew, World.drewN] at z1); clear hb0; have L_bp := Lay.f3 bp)); refine hK.out _ _ ?_ (fun hHeld => ?_); ((try dsimp only); (repeat (first | with_reducible assumption | (with_reducible apply Bk.Blk.newAt; focus (first | (simp [Bk.size_set]; done) | (simp [Bk.size_set]; omega))) | with_reducible apply Bk.Blk.drewN | with_reducible apply Bk.Blk.drew | with_reducible apply Bk.Blk.set_ | (with_reducible apply Bk.Blk.far; focus (dsimp only; first | omega | (simp; omega) | (simp; done))) | with_reducible apply Bk.Blk.alloc))); clear hK K)
  try simp only [Act.put, List.setIfInBounds_toArray, List.set_cons_zero, List.set_cons_succ]
  first | (refine wpAnyH_take (i := 5) (v := ?_) (Reg.get rfl) (by kernel_rfl) (by kernel_rfl) (by kernel_rfl) (fun _ _ _ h => h) (Or.inl ⟨by rfl, ?_⟩) hHeld ?_; rotate_left 1; (focus (intro wq hSw; (try dsimp only at hSw); have s_bp := hSw; have L_bp := Lay.c3 s_bp;  go_simp <;> with_reducible rfl))) | (refine wpAnyH_take (i := 5) (v := undef) (Reg.get rfl) (by kernel_rfl) (by kernel_rfl) (by kernel_rfl) (fun _ _ _ h => h) (Or.inr ⟨by rfl, rfl⟩) hHeld ?_)
  try simp only [Act.put, List.setIfInBounds_toArray, List.set_cons_zero, List.set_cons_succ]
  first | (refine wpAnyH_take (i := 6) (v := ?_) (Reg.get rfl) (by kernel_rfl) (by kernel_rfl) (by kernel_rfl) (fun _ _ _ h => h) (Or.inl ⟨by rfl, ?_⟩) hHeld ?_; rotate_left 1; (focus (intro wq hSw; (try dsimp only at hSw); have s_bp := hSw; have L_bp := Lay.c3 s_bp;  go_simp <;> with_reducible rfl))) | (refine wpAnyH_take (i := 6) (v := undef) (Reg.get rfl) (by kernel_rfl) (by kernel_rfl) (by kernel_rfl) (fun _ _ _ h => h) (Or.inr ⟨by rfl, rfl⟩) hHeld ?_)
  try simp only [Act.put, List.setIfInBounds_toArray, List.set_cons_zero, List.set_cons_succ]
  refine wpAnyH_done (by kernel_rfl) ?_ _
  go_wp2
  go_ret
  exact ⟨by rw [HMM.out]; rfl, by first | exact B | exact B.drew⟩
set_option maxRecDepth 100000 in
set_option maxHeartbeats 8000000 in
theorem open_impl_yes (ke se re cn mc : Int) (A : Option Addr) (n c : Nat) (zs : List Int) (D : Option Addr) (m e : Nat) (bs : List Int) (w : World) (hp : openP ke se re cn mc zs n bs) (ht : Tab w) (hr : Rd w 1 A n c (zs.map (Value.int .i64))) (hn : n ≤ 2097152) (hbd : Rd w 1 D m e (bs.map (Value.int .u8))) (hb : AllBytes bs) (hm : m ≤ 2097151) :
    Calls Tryd.prog 24 #[.agg #[.int .i64 ke, .int .i64 se, .int .i64 re, .slice A n c], .agg #[.int .i64 cn, .slice D m e, .int .i64 mc]] w (RetOf w ke se cn n zs m (decL (cipM ke cn) bs) true) := by
  obtain ⟨hv, hk0, hmc, hc0, hc1⟩ := hp
  have hvk := hv.1
  have hk1 : -9223372036854775808 ≤ ke ∧ ke ≤ 9223372036854775807 := by have := hvk.1; omega
  have hre := hvk.2.2.1
  have HK := Lib.hid hk1
  have HV := Lib.hid hv
  have HR := Lib.hid hr
  have HBD := Lib.hid hbd
  have HB := Lib.hid hb
  have HT := Lib.hid ht
  have e1 : (ke == 0) = false := by simpa using hk0
  have hau : (mc == macF ke cn bs) = true := by simpa using hmc
  have HAU := Lib.hid hau
  have B : Below w.heap.size w w := Below.refl _ _
  obtain ⟨r0, r9⟩ := hre
  have hbl : bs.length = m := by have := hbd.1; simpa using this
  have HDL := Lib.hid (show (decL (cipM ke cn) bs).length = m by rw [decL_len]; exact hbl)
  clear hr hbd hb ht hv hvk hk0 hk1 hmc hau hbl
  go_enter Tryd.func24, Tryd.ntmps24
  go_wp2_with fail
  generalize hW : World.alloc _ _ = w1
  have bk : Bk.Blk w1 (w.heap.size) 27 #[.int .i64 ke, .int .i64 se, .int .i64 re, .slice A n c] := (by rw [← hW]; apply Bk.Blk.to; (focus ((repeat (first | with_reducible assumption | (with_reducible apply Bk.Blk.newAt; focus (first | (simp [Bk.size_set]; done) | (simp [Bk.size_set]; omega))) | with_reducible apply Bk.Blk.drewN | with_reducible apply Bk.Blk.drew | with_reducible apply Bk.Blk.set_ | (with_reducible apply Bk.Blk.far; focus (dsimp only; first | omega | (simp; omega) | (simp; done))) | with_reducible apply Bk.Blk.alloc)))); rfl)
  have bp : Bk.Blk w1 (w.heap.size + 1) 29 #[.int .i64 cn, .slice D m e, .int .i64 mc] := (by rw [← hW]; apply Bk.Blk.to; (focus ((repeat (first | with_reducible assumption | (with_reducible apply Bk.Blk.newAt; focus (first | (simp [Bk.size_set]; done) | (simp [Bk.size_set]; omega))) | with_reducible apply Bk.Blk.drewN | with_reducible apply Bk.Blk.drew | with_reducible apply Bk.Blk.set_ | (with_reducible apply Bk.Blk.far; focus (dsimp only; first | omega | (simp; omega) | (simp; done))) | with_reducible apply Bk.Blk.alloc)))); rfl)
  have r1 : Bk.Blk w1 (w.heap.size + 1 + 1) 27 #[.int .i64 0, .int .i64 0, .int .i64 0, .slice none 0 0] := (by rw [← hW]; apply Bk.Blk.to; (focus ((repeat (first | with_reducible assumption | (with_reducible apply Bk.Blk.newAt; focus (first | (simp [Bk.size_set]; done) | (simp [Bk.size_set]; omega))) | with_reducible apply Bk.Blk.drewN | with_reducible apply Bk.Blk.drew | with_reducible apply Bk.Blk.set_ | (with_reducible apply Bk.Blk.far; focus (dsimp only; first | omega | (simp; omega) | (simp; done))) | with_reducible apply Bk.Blk.alloc)))); rfl)
  replace B : Below w.heap.size w w1 := (by rw [← hW]; go_grown)
  have z1 : w1.heap.size = _ := congrArg (fun W : World => W.heap.size) hW.symm
  (try simp only [World.size_alloc, Bk.size_set, World.size_drew, World.drewN] at z1)
  clear hW
  refine (copyKs_any ke se re A n c zs _ (HR.out.below B) (by omega)).mono ?_
  rintro x w2 ⟨A1, c1, rfl, hown, hb0⟩
  have HO := hown
  replace bk : Bk.Blk w2 (w.heap.size) 27 #[.int .i64 ke, .int .i64 se, .int .i64 re, .slice A n c] := Bk.Blk.under hb0 (by (repeat (first | with_reducible assumption | (with_reducible apply Bk.Blk.newAt; focus (first | (simp [Bk.size_set]; done) | (simp [Bk.size_set]; omega))) | with_reducible apply Bk.Blk.drewN | with_reducible apply Bk.Blk.drew | with_reducible apply Bk.Blk.set_ | (with_reducible apply Bk.Blk.far; focus (dsimp only; first | omega | (simp; omega) | (simp; done))) | with_reducible apply Bk.Blk.alloc)))
  replace bp : Bk.Blk w2 (w.heap.size + 1) 29 #[.int .i64 cn, .slice D m e, .int .i64 mc] := Bk.Blk.under hb0 (by (repeat (first | with_reducible assumption | (with_reducible apply Bk.Blk.newAt; focus (first | (simp [Bk.size_set]; done) | (simp [Bk.size_set]; omega))) | with_reducible apply Bk.Blk.drewN | with_reducible apply Bk.Blk.drew | with_reducible apply Bk.Blk.set_ | (with_reducible apply Bk.Blk.far; focus (dsimp only; first | omega | (simp; omega) | (simp; done))) | with_reducible apply Bk.Blk.alloc)))
  replace r1 : Bk.Blk w2 (w.heap.size + 1 + 1) 27 #[.int .i64 0, .int .i64 0, .int .i64 0, .slice none 0 0] := Bk.Blk.under hb0 (by (repeat (first | with_reducible assumption | (with_reducible apply Bk.Blk.newAt; focus (first | (simp [Bk.size_set]; done) | (simp [Bk.size_set]; omega))) | with_reducible apply Bk.Blk.drewN | with_reducible apply Bk.Blk.drew | with_reducible apply Bk.Blk.set_ | (with_reducible apply Bk.Blk.far; focus (dsimp only; first | omega | (simp; omega) | (simp; done))) | with_reducible apply Bk.Blk.alloc)))
  replace B : Below w.heap.size w w2 := Below.trans (by go_grown) (hb0.mono (by first | omega | (simp [Bk.size_set]; done) | (simp [Bk.size_set]; omega)))
  have z2 := hb0.size
  (try simp only [World.size_alloc, Bk.size_set, World.size_drew, World.drewN] at z2)
  clear hb0
  clear hown
  have L_bk := Lay.f4 bk
  have L_bp := Lay.f3 bp
  have L_r1 := Lay.f4 r1
  go_wp2_with fail
  clear L_bk L_bp L_r1
  refine (vY_impl ke se re A n c zs _ ((HR.out.below B).alloc _) HV.out).mono ?_
  rintro x w3 ⟨rfl, hb0⟩
  have bo : Bk.Blk w3 (w2.heap.size) 27 #[.int .i64 ke, .int .i64 se, .int .i64 re, .slice A1 n c1] := (by apply Bk.Blk.to; (focus (apply Bk.Blk.under hb0; (repeat (first | with_reducible assumption | (with_reducible apply Bk.Blk.newAt; focus (first | (simp [Bk.size_set]; done) | (simp [Bk.size_set]; omega))) | with_reducible apply Bk.Blk.drewN | with_reducible apply Bk.Blk.drew | with_reducible apply Bk.Blk.set_ | (with_reducible apply Bk.Blk.far; focus (dsimp only; first | omega | (simp; omega) | (simp; done))) | with_reducible apply Bk.Blk.alloc)))); rfl)
  replace HO := own_belowE (own_toE HO rfl) hb0
  replace bk : Bk.Blk w3 (w.heap.size) 27 #[.int .i64 ke, .int .i64 se, .int .i64 re, .slice A n c] := Bk.Blk.under hb0 (by (repeat (first | with_reducible assumption | (with_reducible apply Bk.Blk.newAt; focus (first | (simp [Bk.size_set]; done) | (simp [Bk.size_set]; omega))) | with_reducible apply Bk.Blk.drewN | with_reducible apply Bk.Blk.drew | with_reducible apply Bk.Blk.set_ | (with_reducible apply Bk.Blk.far; focus (dsimp only; first | omega | (simp; omega) | (simp; done))) | with_reducible apply Bk.Blk.alloc)))
  replace bp : Bk.Blk w3 (w.heap.size + 1) 29 #[.int .i64 cn, .slice D m e, .int .i64 mc] := Bk.Blk.under hb0 (by (repeat (first | with_reducible assumption | (with_reducible apply Bk.Blk.newAt; focus (first | (simp [Bk.size_set]; done) | (simp [Bk.size_set]; omega))) | with_reducible apply Bk.Blk.drewN | with_reducible apply Bk.Blk.drew | with_reducible apply Bk.Blk.set_ | (with_reducible apply Bk.Blk.far; focus (dsimp only; first | omega | (simp; omega) | (simp; done))) | with_reducible apply Bk.Blk.alloc)))
  replace r1 : Bk.Blk w3 (w.heap.size + 1 + 1) 27 #[.int .i64 0, .int .i64 0, .int .i64 0, .slice none 0 0] := Bk.Blk.under hb0 (by (repeat (first | with_reducible assumption | (with_reducible apply Bk.Blk.newAt; focus (first | (simp [Bk.size_set]; done) | (simp [Bk.size_set]; omega))) | with_reducible apply Bk.Blk.drewN | with_reducible apply Bk.Blk.drew | with_reducible apply Bk.Blk.set_ | (with_reducible apply Bk.Blk.far; focus (dsimp only; first | omega | (simp; omega) | (simp; done))) | with_reducible apply Bk.Blk.alloc)))
  replace B : Below w.heap.size w w3 := Below.trans (by go_grown) (hb0.mono (by first | omega | (simp [Bk.size_set]; done) | (simp [Bk.size_set]; omega)))
  have z3 := hb0.size
  (try simp only [World.size_alloc, Bk.size_set, World.size_drew, World.drewN] at z3)
  clear hb0
  have L_bk := Lay.f4 bk
  have L_bp := Lay.f3 bp
  have L_r1 := Lay.f4 r1
  have L_bo := Lay.f4 bo
  go_wp2_with fail
  clear L_bk L_bp L_r1 L_bo
  refine (auth_impl ke cn mc D m e bs true _ HK.out (by omega) (HBD.out.below B) HB.out (by omega) HAU.out).mono ?_
  rintro x w4 ⟨rfl, hb0⟩
  replace HO := own_belowE HO hb0
  replace bk : Bk.Blk w4 (w.heap.size) 27 #[.int .i64 ke, .int .i64 se, .int .i64 re, .slice A n c] := Bk.Blk.under hb0 (by (repeat (first | with_reducible assumption | (with_reducible apply Bk.Blk.newAt; focus (first | (simp [Bk.size_set]; done) | (simp [Bk.size_set]; omega))) | with_reducible apply Bk.Blk.drewN | with_reducible apply Bk.Blk.drew | with_reducible apply Bk.Blk.set_ | (with_reducible apply Bk.Blk.far; focus (dsimp only; first | omega | (simp; omega) | (simp; done))) | with_reducible apply Bk.Blk.alloc)))
  replace bp : Bk.Blk w4 (w.heap.size + 1) 29 #[.int .i64 cn, .slice D m e, .int .i64 mc] := Bk.Blk.under hb0 (by (repeat (first | with_reducible assumption | (with_reducible apply Bk.Blk.newAt; focus (first | (simp [Bk.size_set]; done) | (simp [Bk.size_set]; omega))) | with_reducible apply Bk.Blk.drewN | with_reducible apply Bk.Blk.drew | with_reducible apply Bk.Blk.set_ | (with_reducible apply Bk.Blk.far; focus (dsimp only; first | omega | (simp; omega) | (simp; done))) | with_reducible apply Bk.Blk.alloc)))
  replace r1 : Bk.Blk w4 (w.heap.size + 1 + 1) 27 #[.int .i64 0, .int .i64 0, .int .i64 0, .slice none 0 0] := Bk.Blk.under hb0 (by (repeat (first | with_reducible assumption | (with_reducible apply Bk.Blk.newAt; focus (first | (simp [Bk.size_set]; done) | (simp [Bk.size_set]; omega))) | with_reducible apply Bk.Blk.drewN | with_reducible apply Bk.Blk.drew | with_reducible apply Bk.Blk.set_ | (with_reducible apply Bk.Blk.far; focus (dsimp only; first | omega | (simp; omega) | (simp; done))) | with_reducible apply Bk.Blk.alloc)))
  replace bo : Bk.Blk w4 (w2.heap.size) 27 #[.int .i64 ke, .int .i64 se, .int .i64 re, .slice A1 n c1] := Bk.Blk.under hb0 (by (repeat (first | with_reducible assumption | (with_reducible apply Bk.Blk.newAt; focus (first | (simp [Bk.size_set]; done) | (simp [Bk.size_set]; omega))) | with_reducible apply Bk.Blk.drewN | with_reducible apply Bk.Blk.drew | with_reducible apply Bk.Blk.set_ | (with_reducible apply Bk.Blk.far; focus (dsimp only; first | omega | (simp; omega) | (simp; done))) | with_reducible apply Bk.Blk.alloc)))
  replace B : Below w.heap.size w w4 := Below.trans (by go_grown) (hb0.mono (by first | omega | (simp [Bk.size_set]; done) | (simp [Bk.size_set]; omega)))
  have z4 := hb0.size
  (try simp only [World.size_alloc, Bk.size_set, World.size_drew, World.drewN] at z4)
  clear hb0
  have L_bk := Lay.f4 bk
  have L_bp := Lay.f3 bp
  have L_r1 := Lay.f4 r1
  have L_bo := Lay.f4 bo
  go_wp2_with fail
  clear L_bk L_bp L_r1 L_bo
  generalize hW : World.setCell _ _ _ = w6
  replace HO := hW ▸ own_farK (o := 2) HO bo (by decide) (.int .i64 cn)
  replace bo : Bk.Blk w6 (w2.heap.size) 27 #[.int .i64 ke, .int .i64 se, .int .i64 cn, .slice A1 n c1] := (by rw [← hW]; apply Bk.Blk.to; (focus ((repeat (first | with_reducible assumption | (with_reducible apply Bk.Blk.newAt; focus (first | (simp [Bk.size_set]; done) | (simp [Bk.size_set]; omega))) | with_reducible apply Bk.Blk.drewN | with_reducible apply Bk.Blk.drew | with_reducible apply Bk.Blk.set_ | (with_reducible apply Bk.Blk.far; focus (dsimp only; first | omega | (simp; omega) | (simp; done))) | with_reducible apply Bk.Blk.alloc)))); rfl)
  replace bk : Bk.Blk w6 (w.heap.size) 27 #[.int .i64 ke, .int .i64 se, .int .i64 re, .slice A n c] := (by rw [← hW]; (repeat (first | with_reducible assumption | (with_reducible apply Bk.Blk.newAt; focus (first | (simp [Bk.size_set]; done) | (simp [Bk.size_set]; omega))) | with_reducible apply Bk.Blk.drewN | with_reducible apply Bk.Blk.drew | with_reducible apply Bk.Blk.set_ | (with_reducible apply Bk.Blk.far; focus (dsimp only; first | omega | (simp; omega) | (simp; done))) | with_reducible apply Bk.Blk.alloc)))
  replace bp : Bk.Blk w6 (w.heap.size + 1) 29 #[.int .i64 cn, .slice D m e, .int .i64 mc] := (by rw [← hW]; (repeat (first | with_reducible assumption | (with_reducible apply Bk.Blk.newAt; focus (first | (simp [Bk.size_set]; done) | (simp [Bk.size_set]; omega))) | with_reducible apply Bk.Blk.drewN | with_reducible apply Bk.Blk.drew | with_reducible apply Bk.Blk.set_ | (with_reducible apply Bk.Blk.far; focus (dsimp only; first | omega | (simp; omega) | (simp; done))) | with_reducible apply Bk.Blk.alloc)))
  replace r1 : Bk.Blk w6 (w.heap.size + 1 + 1) 27 #[.int .i64 0, .int .i64 0, .int .i64 0, .slice none 0 0] := (by rw [← hW]; (repeat (first | with_reducible assumption | (with_reducible apply Bk.Blk.newAt; focus (first | (simp [Bk.size_set]; done) | (simp [Bk.size_set]; omega))) | with_reducible apply Bk.Blk.drewN | with_reducible apply Bk.Blk.drew | with_reducible apply Bk.Blk.set_ | (with_reducible apply Bk.Blk.far; focus (dsimp only; first | omega | (simp; omega) | (simp; done))) | with_reducible apply Bk.Blk.alloc)))
  replace B : Below w.heap.size w w6 := (by rw [← hW]; go_grown)
  have z6 : w6.heap.size = _ := congrArg (fun W : World => W.heap.size) hW.symm
  (try simp only [World.size_alloc, Bk.size_set, World.size_drew, World.drewN] at z6)
  clear hW
  have HCB := Lib.hid (cip_bd ke cn)
  generalize hck : cipM ke cn = ck at *
  have HCK := Lib.hid hck
  clear hck
  have L_bk := Lay.f4 bk
  have L_bp := Lay.f3 bp
  have L_r1 := Lay.f4 r1
  have L_bo := Lay.f4 bo
  refine wp_region_held_drew (S := (fun w' => Bk.Blk w' (w.heap.size) 27 #[.int .i64 ke, .int .i64 se, .int .i64 re, .slice A n c] ∧ Bk.Blk w' (w.heap.size + 1) 29 #[.int .i64 cn, .slice D m e, .int .i64 mc] ∧ Bk.Blk w' (w2.heap.size) 27 #[.int .i64 ke, .int .i64 se, .int .i64 cn, .slice A1 n c1])) (by kernel_rfl) ?_ (fun hHeld => ?_)
  · (try dsimp only); (refine ⟨?_, ?_, ?_⟩ <;> (repeat (first | with_reducible assumption | (with_reducible apply Bk.Blk.newAt; focus (first | (simp [Bk.size_set]; done) | (simp [Bk.size_set]; omega))) | with_reducible apply Bk.Blk.drewN | with_reducible apply Bk.Blk.drew | with_reducible apply Bk.Blk.set_ | (with_reducible apply Bk.Blk.far; focus (dsimp only; first | omega | (simp; omega) | (simp; done))) | with_reducible apply Bk.Blk.alloc)))
  first | (refine wpAnyH_take (i := 0) (v := ?_) (Reg.get rfl) (by kernel_rfl) (by kernel_rfl) (by kernel_rfl) (fun _ _ _ h => h) (Or.inl ⟨by rfl, ?_⟩) hHeld ?_; rotate_left 1; (focus (intro wq hSw; (try dsimp only at hSw); obtain ⟨s_bk, s_bp, s_bo⟩ := hSw; have L_bk := Lay.c4 s_bk; have L_bp := Lay.c3 s_bp; have L_bo := Lay.c4 s_bo;  go_simp <;> with_reducible rfl))) | (refine wpAnyH_take (i := 0) (v := undef) (Reg.get rfl) (by kernel_rfl) (by kernel_rfl) (by kernel_rfl) (fun _ _ _ h => h) (Or.inr ⟨by rfl, rfl⟩) hHeld ?_)
  try simp only [Act.put, List.setIfInBounds_toArray, List.set_cons_zero, List.set_cons_succ]
  first | (refine wpAnyH_take (i := 1) (v := ?_) (Reg.get rfl) (by kernel_rfl) (by kernel_rfl) (by kernel_rfl) (fun _ _ _ h => h) (Or.inl ⟨by rfl, ?_⟩) hHeld ?_; rotate_left 1; (focus (intro wq hSw; (try dsimp only at hSw); obtain ⟨s_bk, s_bp, s_bo⟩ := hSw; have L_bk := Lay.c4 s_bk; have L_bp := Lay.c3 s_bp; have L_bo := Lay.c4 s_bo;  go_simp <;> with_reducible rfl))) | (refine wpAnyH_take (i := 1) (v := undef) (Reg.get rfl) (by kernel_rfl) (by kernel_rfl) (by kernel_rfl) (fun _ _ _ h => h) (Or.inr ⟨by rfl, rfl⟩) hHeld ?_)
  try simp only [Act.put, List.setIfInBounds_toArray, List.set_cons_zero, List.set_cons_succ]
  first | (refine wpAnyH_take (i := 2) (v := ?_) (Reg.get rfl) (by kernel_rfl) (by kernel_rfl) (by kernel_rfl) (fun _ _ _ h => h) (Or.inl ⟨by rfl, ?_⟩) hHeld ?_; rotate_left 1; (focus (intro wq hSw; (try dsimp only at hSw); obtain ⟨s_bk, s_bp, s_bo⟩ := hSw; have L_bk := Lay.c4 s_bk; have L_bp := Lay.c3 s_bp; have L_bo := Lay.c4 s_bo;  go_simp <;> with_reducible rfl))) | (refine wpAnyH_take (i := 2) (v := undef) (Reg.get rfl) (by kernel_rfl) (by kernel_rfl) (by kernel_rfl) (fun _ _ _ h => h) (Or.inr ⟨by rfl, rfl⟩) hHeld ?_)
  try simp only [Act.put, List.setIfInBounds_toArray, List.set_cons_zero, List.set_cons_succ]
  first | (refine wpAnyH_take (i := 3) (v := ?_) (Reg.get rfl) (by kernel_rfl) (by kernel_rfl) (by kernel_rfl) (fun _ _ _ h => h) (Or.inl ⟨by rfl, ?_⟩) hHeld ?_; rotate_left 1; (focus (intro wq hSw; (try dsimp only at hSw); obtain ⟨s_bk, s_bp, s_bo⟩ := hSw; have L_bk := Lay.c4 s_bk; have L_bp := Lay.c3 s_bp; have L_bo := Lay.c4 s_bo;  go_simp <;> with_reducible rfl))) | (refine wpAnyH_take (i := 3) (v := undef) (Reg.get rfl) (by kernel_rfl) (by kernel_rfl) (by kernel_rfl) (fun _ _ _ h => h) (Or.inr ⟨by rfl, rfl⟩) hHeld ?_)
  try simp only [Act.put, List.setIfInBounds_toArray, List.set_cons_zero, List.set_cons_succ]
  first | (refine wpAnyH_take (i := 4) (v := ?_) (Reg.get rfl) (by kernel_rfl) (by kernel_rfl) (by kernel_rfl) (fun _ _ _ h => h) (Or.inl ⟨by rfl, ?_⟩) hHeld ?_; rotate_left 1; (focus (intro wq hSw; (try dsimp only at hSw); obtain ⟨s_bk, s_bp, s_bo⟩ := hSw; have L_bk := Lay.c4 s_bk; have L_bp := Lay.c3 s_bp; have L_bo := Lay.c4 s_bo;  go_simp <;> with_reducible rfl))) | (refine wpAnyH_take (i := 4) (v := undef) (Reg.get rfl) (by kernel_rfl) (by kernel_rfl) (by kernel_rfl) (fun _ _ _ h => h) (Or.inr ⟨by rfl, rfl⟩) hHeld ?_)
  try simp only [Act.put, List.setIfInBounds_toArray, List.set_cons_zero, List.set_cons_succ]
  first | (refine wpAnyH_take (i := 6) (v := ?_) (Reg.get rfl) (by kernel_rfl) (by kernel_rfl) (by kernel_rfl) (fun _ _ _ h => h) (Or.inl ⟨by rfl, ?_⟩) hHeld ?_; rotate_left 1; (focus (intro wq hSw; (try dsimp only at hSw); obtain ⟨s_bk, s_bp, s_bo⟩ := hSw; have L_bk := Lay.c4 s_bk; have L_bp := Lay.c3 s_bp; have L_bo := Lay.c4 s_bo;  go_simp <;> with_reducible rfl))) | (refine wpAnyH_take (i := 6) (v := undef) (Reg.get rfl) (by kernel_rfl) (by kernel_rfl) (by kernel_rfl) (fun _ _ _ h => h) (Or.inr ⟨by rfl, rfl⟩) hHeld ?_)
  try simp only [Act.put, List.setIfInBounds_toArray, List.set_cons_zero, List.set_cons_succ]
  first | (refine wpAnyH_take (i := 7) (v := ?_) (Reg.get rfl) (by kernel_rfl) (by kernel_rfl) (by kernel_rfl) (fun _ _ _ h => h) (Or.inl ⟨by rfl, ?_⟩) hHeld ?_; rotate_left 1; (focus (intro wq hSw; (try dsimp only at hSw); obtain ⟨s_bk, s_bp, s_bo⟩ := hSw; have L_bk := Lay.c4 s_bk; have L_bp := Lay.c3 s_bp; have L_bo := Lay.c4 s_bo;  go_simp <;> with_reducible rfl))) | (refine wpAnyH_take (i := 7) (v := undef) (Reg.get rfl) (by kernel_rfl) (by kernel_rfl) (by kernel_rfl) (fun _ _ _ h => h) (Or.inr ⟨by rfl, rfl⟩) hHeld ?_)
  try simp only [Act.put, List.setIfInBounds_toArray, List.set_cons_zero, List.set_cons_succ]
  first | ((refine wpAnyH_take (i := 5) (v := undef) (Reg.get rfl) (by kernel_rfl) (by kernel_rfl) (by kernel_rfl) (fun _ _ _ h => h) (Or.inr ⟨by rfl, rfl⟩) hHeld ?_)) | (refine wpAnyH_ready (rs := [5]) (by kernel_rfl) (by simp) ?_; refine AllReadyH.cons (Reg.get rfl) (fun K hK => ?_) AllReadyH.nil; clear hHeld; go_simp; ((go_at_call 39; refine (cipT_impl ke cn (by omega) (by omega) _ HK.out (by first | exact HT.out.below B | exact (HT.out.below B.drew))).mono ?_; rintro x w7 ⟨rfl, hb0⟩; rw [HCK.out]; (first | replace HO := own_belowE HO hb0 | replace HO := own_belowE (own_drewE HO) hb0); clear L_bk L_bp L_r1 L_bo; replace bk : Bk.Blk w7 (w.heap.size) 27 #[.int .i64 ke, .int .i64 se, .int .i64 re, .slice A n c] := Bk.Blk.under hb0 (by (repeat (first | with_reducible assumption | (with_reducible apply Bk.Blk.newAt; focus (first | (simp [Bk.size_set]; done) | (simp [Bk.size_set]; omega))) | with_reducible apply Bk.Blk.drewN | with_reducible apply Bk.Blk.drew | with_reducible apply Bk.Blk.set_ | (with_reducible apply Bk.Blk.far; focus (dsimp only; first | omega | (simp; omega) | (simp; done))) | with_reducible apply Bk.Blk.alloc))); replace bp : Bk.Blk w7 (w.heap.size + 1) 29 #[.int .i64 cn, .slice D m e, .int .i64 mc] := Bk.Blk.under hb0 (by (repeat (first | with_reducible assumption | (with_reducible apply Bk.Blk.newAt; focus (first | (simp [Bk.size_set]; done) | (simp [Bk.size_set]; omega))) | with_reducible apply Bk.Blk.drewN | with_reducible apply Bk.Blk.drew | with_reducible apply Bk.Blk.set_ | (with_reducible apply Bk.Blk.far; focus (dsimp only; first | omega | (simp; omega) | (simp; done))) | with_reducible apply Bk.Blk.alloc))); replace r1 : Bk.Blk w7 (w.heap.size + 1 + 1) 27 #[.int .i64 0, .int .i64 0, .int .i64 0, .slice none 0 0] := Bk.Blk.under hb0 (by (repeat (first | with_reducible assumption | (with_reducible apply Bk.Blk.newAt; focus (first | (simp [Bk.size_set]; done) | (simp [Bk.size_set]; omega))) | with_reducible apply Bk.Blk.drewN | with_reducible apply Bk.Blk.drew | with_reducible apply Bk.Blk.set_ | (with_reducible apply Bk.Blk.far; focus (dsimp only; first | omega | (simp; omega) | (simp; done))) | with_reducible apply Bk.Blk.alloc))); replace bo : Bk.Blk w7 (w2.heap.size) 27 #[.int .i64 ke, .int .i64 se, .int .i64 cn, .slice A1 n c1] := Bk.Blk.under hb0 (by (repeat (first | with_reducible assumption | (with_reducible apply Bk.Blk.newAt; focus (first | (simp [Bk.size_set]; done) | (simp [Bk.size_set]; omega))) | with_reducible apply Bk.Blk.drewN | with_reducible apply Bk.Blk.drew | with_reducible apply Bk.Blk.set_ | (with_reducible apply Bk.Blk.far; focus (dsimp only; first | omega | (simp; omega) | (simp; done))) | with_reducible apply Bk.Blk.alloc))); replace B : Below w.heap.size w w7 := Below.trans (by go_grown) (hb0.mono (by first | omega | (simp [Bk.size_set]; done) | (simp [Bk.size_set]; omega))); have z7 := hb0.size; (try simp only [World.size_alloc, Bk.size_set, World.size_drew, World.drewN] at z7); clear hb0; have L_bk := Lay.f4 bk; have L_bp := Lay.f3 bp; have L_r1 := Lay.f4 r1; have L_bo := Lay.f4 bo)); refine hK.out _ _ ?_ (fun hHeld => ?_); ((try dsimp only); (refine ⟨?_, ?_, ?_⟩ <;> (repeat (first | with_reducible assumption | (with_reducible apply Bk.Blk.newAt; focus (first | (simp [Bk.size_set]; done) | (simp [Bk.size_set]; omega))) | with_reducible apply Bk.Blk.drewN | with_reducible apply Bk.Blk.drew | with_reducible apply Bk.Blk.set_ | (with_reducible apply Bk.Blk.far; focus (dsimp only; first | omega | (simp; omega) | (simp; done))) | with_reducible apply Bk.Blk.alloc)))); clear hK K)
  try simp only [Act.put, List.setIfInBounds_toArray, List.set_cons_zero, List.set_cons_succ]
  first | ((refine wpAnyH_take (i := 8) (v := undef) (Reg.get rfl) (by kernel_rfl) (by kernel_rfl) (by kernel_rfl) (fun _ _ _ h => h) (Or.inr ⟨by rfl, rfl⟩) hHeld ?_)) | (refine wpAnyH_ready (rs := [8]) (by kernel_rfl) (by simp) ?_; refine AllReadyH.cons (Reg.get rfl) (fun K hK => ?_) AllReadyH.nil; clear hHeld; go_simp; ((go_at_call 56; refine (decrypt_impl ck D m e bs _ HCB.out (by first | exact HBD.out.below B | exact (HBD.out.below B).drew) HB.out (by omega)).mono ?_; rintro x w8 ⟨E, f, rfl, hown, hb0⟩; have hz7 : w.heap.size + 1 + 1 < w7.heap.size := r1.lt; have HD := own_monoK hown (show w7.heap.size ≤ _ from (by first | omega | (simp; done) | (simp; omega))); (first | replace HO := own_belowE HO hb0 | replace HO := own_belowE (own_drewE HO) hb0); clear hown; clear L_bk L_bp L_r1 L_bo; replace bk : Bk.Blk w8 (w.heap.size) 27 #[.int .i64 ke, .int .i64 se, .int .i64 re, .slice A n c] := Bk.Blk.under hb0 (by (repeat (first | with_reducible assumption | (with_reducible apply Bk.Blk.newAt; focus (first | (simp [Bk.size_set]; done) | (simp [Bk.size_set]; omega))) | with_reducible apply Bk.Blk.drewN | with_reducible apply Bk.Blk.drew | with_reducible apply Bk.Blk.set_ | (with_reducible apply Bk.Blk.far; focus (dsimp only; first | omega | (simp; omega) | (simp; done))) | with_reducible apply Bk.Blk.alloc))); replace bp : Bk.Blk w8 (w.heap.size + 1) 29 #[.int .i64 cn, .slice D m e, .int .i64 mc] := Bk.Blk.under hb0 (by (repeat (first | with_reducible assumption | (with_reducible apply Bk.Blk.newAt; focus (first | (simp [Bk.size_set]; done) | (simp [Bk.size_set]; omega))) | with_reducible apply Bk.Blk.drewN | with_reducible apply Bk.Blk.drew | with_reducible apply Bk.Blk.set_ | (with_reducible apply Bk.Blk.far; focus (dsimp only; first | omega | (simp; omega) | (simp; done))) | with_reducible apply Bk.Blk.alloc))); replace r1 : Bk.Blk w8 (w.heap.size + 1 + 1) 27 #[.int .i64 0, .int .i64 0, .int .i64 0, .slice none 0 0] := Bk.Blk.under hb0 (by (repeat (first | with_reducible assumption | (with_reducible apply Bk.Blk.newAt; focus (first | (simp [Bk.size_set]; done) | (simp [Bk.size_set]; omega))) | with_reducible apply Bk.Blk.drewN | with_reducible apply Bk.Blk.drew | with_reducible apply Bk.Blk.set_ | (with_reducible apply Bk.Blk.far; focus (dsimp only; first | omega | (simp; omega) | (simp; done))) | with_reducible apply Bk.Blk.alloc))); replace bo : Bk.Blk w8 (w2.heap.size) 27 #[.int .i64 ke, .int .i64 se, .int .i64 cn, .slice A1 n c1] := Bk.Blk.under hb0 (by (repeat (first | with_reducible assumption | (with_reducible apply Bk.Blk.newAt; focus (first | (simp [Bk.size_set]; done) | (simp [Bk.size_set]; omega))) | with_reducible apply Bk.Blk.drewN | with_reducible apply Bk.Blk.drew | with_reducible apply Bk.Blk.set_ | (with_reducible apply Bk.Blk.far; focus (dsimp only; first | omega | (simp; omega) | (simp; done))) | with_reducible apply Bk.Blk.alloc))); replace B : Below w.heap.size w w8 := Below.trans (by go_grown) (hb0.mono (by first | omega | (simp [Bk.size_set]; done) | (simp [Bk.size_set]; omega))); have z8 := hb0.size; (try simp only [World.size_alloc, Bk.size_set, World.size_drew, World.drewN] at z8); clear hb0; have L_bk := Lay.f4 bk; have L_bp := Lay.f3 bp; have L_r1 := Lay.f4 r1; have L_bo := Lay.f4 bo)); refine hK.out _ _ ?_ (fun hHeld => ?_); ((try dsimp only); (refine ⟨?_, ?_, ?_⟩ <;> (repeat (first | with_reducible assumption | (with_reducible apply Bk.Blk.newAt; focus (first | (simp [Bk.size_set]; done) | (simp [Bk.size_set]; omega))) | with_reducible apply Bk.Blk.drewN | with_reducible apply Bk.Blk.drew | with_reducible apply Bk.Blk.set_ | (with_reducible apply Bk.Blk.far; focus (dsimp only; first | omega | (simp; omega) | (simp; done))) | with_reducible apply Bk.Blk.alloc)))); clear hK K)
  try simp only [Act.put, List.setIfInBounds_toArray, List.set_cons_zero, List.set_cons_succ]
  first | ((refine wpAnyH_take (i := 9) (v := undef) (Reg.get rfl) (by kernel_rfl) (by kernel_rfl) (by kernel_rfl) (fun _ _ _ h => h) (Or.inr ⟨by rfl, rfl⟩) hHeld ?_)) | (refine wpAnyH_ready (rs := [9]) (by kernel_rfl) (by simp) ?_; refine AllReadyH.cons (Reg.get rfl) (fun K hK => ?_) AllReadyH.nil; clear hHeld; go_simp; (skip); refine hK.out _ _ ?_ (fun hHeld => ?_); ((try dsimp only); (refine ⟨?_, ?_, ?_⟩ <;> (repeat (first | with_reducible assumption | (with_reducible apply Bk.Blk.newAt; focus (first | (simp [Bk.size_set]; done) | (simp [Bk.size_set]; omega))) | with_reducible apply Bk.Blk.drewN | with_reducible apply Bk.Blk.drew | with_reducible apply Bk.Blk.set_ | (with_reducible apply Bk.Blk.far; focus (dsimp only; first | omega | (simp; omega) | (simp; done))) | with_reducible apply Bk.Blk.alloc)))); clear hK K)
  try simp only [Act.put, List.setIfInBounds_toArray, List.set_cons_zero, List.set_cons_succ]
  first | (refine wpAnyH_take (i := 10) (v := ?_) (Reg.get rfl) (by kernel_rfl) (by kernel_rfl) (by kernel_rfl) (fun _ _ _ h => h) (Or.inl ⟨by rfl, ?_⟩) hHeld ?_; rotate_left 1; (focus (intro wq hSw; (try dsimp only at hSw); obtain ⟨s_bk, s_bp, s_bo⟩ := hSw; have L_bk := Lay.c4 s_bk; have L_bp := Lay.c3 s_bp; have L_bo := Lay.c4 s_bo;  go_simp <;> with_reducible rfl))) | (refine wpAnyH_take (i := 10) (v := undef) (Reg.get rfl) (by kernel_rfl) (by kernel_rfl) (by kernel_rfl) (fun _ _ _ h => h) (Or.inr ⟨by rfl, rfl⟩) hHeld ?_)
  try simp only [Act.put, List.setIfInBounds_toArray, List.set_cons_zero, List.set_cons_succ]
  first | (refine wpAnyH_take (i := 11) (v := ?_) (Reg.get rfl) (by kernel_rfl) (by kernel_rfl) (by kernel_rfl) (fun _ _ _ h => h) (Or.inl ⟨by rfl, ?_⟩) hHeld ?_; rotate_left 1; (focus (intro wq hSw; (try dsimp only at hSw); obtain ⟨s_bk, s_bp, s_bo⟩ := hSw; have L_bk := Lay.c4 s_bk; have L_bp := Lay.c3 s_bp; have L_bo := Lay.c4 s_bo;  go_simp <;> with_reducible rfl))) | (refine wpAnyH_take (i := 11) (v := undef) (Reg.get rfl) (by kernel_rfl) (by kernel_rfl) (by kernel_rfl) (fun _ _ _ h => h) (Or.inr ⟨by rfl, rfl⟩) hHeld ?_)
  try simp only [Act.put, List.setIfInBounds_toArray, List.set_cons_zero, List.set_cons_succ]
  refine wpAnyH_done (by kernel_rfl) ?_ _
  clear L_bk L_bp L_r1 L_bo
  generalize hW : World.setCell _ _ _ = w9
  have HO2 := Lib.hid (show w9.ownsRow w.heap.size 3 1 (.slice A1 n c1) n (zs.map (Value.int .i64)) from by rw [← hW]; exact (own_low HO (by omega) (by repeat (first | with_reducible exact HO | (with_reducible refine own_set ?_ (by dsimp only; omega) _) | with_reducible refine own_drewE ?_))))
  have HD2 := Lib.hid (show w9.ownsRow w.heap.size 5 1 (.slice E m f) m ((decL ck bs).map (Value.int .u8)) from by rw [← hW]; exact (own_low HD (by omega) (by repeat (first | with_reducible exact HD | (with_reducible refine own_set ?_ (by dsimp only; omega) _) | with_reducible refine own_drewE ?_))))
  replace r1 : Bk.Blk w9 (w.heap.size + 1 + 1) 27 #[.int .i64 ke, .int .i64 se, .int .i64 cn, .slice A1 n c1] := (by rw [← hW]; apply Bk.Blk.to; (focus ((repeat (first | with_reducible assumption | (with_reducible apply Bk.Blk.newAt; focus (first | (simp [Bk.size_set]; done) | (simp [Bk.size_set]; omega))) | with_reducible apply Bk.Blk.drewN | with_reducible apply Bk.Blk.drew | with_reducible apply Bk.Blk.set_ | (with_reducible apply Bk.Blk.far; focus (dsimp only; first | omega | (simp; omega) | (simp; done))) | with_reducible apply Bk.Blk.alloc)))); rfl)
  replace B : Below w.heap.size w w9 := (by rw [← hW]; go_grown)
  have z9 : w9.heap.size = _ := congrArg (fun W : World => W.heap.size) hW.symm
  (try simp only [World.size_alloc, Bk.size_set, World.size_drew, World.drewN] at z9)
  clear hW
  have L_r1 := Lay.c4 r1
  go_wp2
  refine bodyPost_ret (v := .tuple #[.agg #[.int .i64 ke, .int .i64 se, .int .i64 cn, .slice A1 n c1], .slice E m f, .bool true]) (by simp [results, Tryd.results24, go_sem, L_r1]) rfl (⟨A1, c1, E, f, rfl, HO2.out, HD2.out, (by first | exact B | exact B.drew)⟩)
set_option maxRecDepth 100000 in
set_option maxHeartbeats 8000000 in
theorem open_impl_no (ke se re cn mc : Int) (A : Option Addr) (n c : Nat) (zs : List Int) (D : Option Addr) (m e : Nat) (bs : List Int) (w : World) (hp : ¬ openP ke se re cn mc zs n bs) (hcn : -9223372036854775808 ≤ cn ∧ cn ≤ 9223372036854775807) (hr : Rd w 1 A n c (zs.map (Value.int .i64))) (hn : n ≤ 2097152) (hbd : Rd w 1 D m e (bs.map (Value.int .u8))) (hb : AllBytes bs) (hm : m ≤ 2097151) :
    Calls Tryd.prog 24 #[.agg #[.int .i64 ke, .int .i64 se, .int .i64 re, .slice A n c], .agg #[.int .i64 cn, .slice D m e, .int .i64 mc]] w (RetOf w ke se re n zs 0 [] false) := by
  have hcase : (¬ validK ke se re zs n) ∨ (validK ke se re zs n ∧ (ke == 0) = true) ∨ (validK ke se re zs n ∧ (ke == 0) = false ∧ (mc == macF ke cn bs) = false) ∨ (validK ke se re zs n ∧ (ke == 0) = false ∧ (mc == macF ke cn bs) = true ∧ (cn ≤ re ∨ (re < cn ∧ 1000000 < cn))) := by
    by_cases h1 : validK ke se re zs n
    · right
      by_cases h2 : ke = 0
      · exact .inl ⟨h1, by simpa using h2⟩
      · right
        by_cases h3 : mc = macF ke cn bs
        · right
          refine ⟨h1, by simpa using h2, by simpa using h3, ?_⟩
          by_cases h4 : cn ≤ re
          · exact .inl h4
          · by_cases h5 : cn ≤ 1000000
            · exact absurd ⟨h1, h2, h3, by omega, h5⟩ hp
            · exact .inr ⟨by omega, by omega⟩
        · exact .inl ⟨h1, by simpa using h2, by simpa using h3⟩
    · exact .inl h1
  have HR := Lib.hid hr
  have HBD := Lib.hid hbd
  have HB := Lib.hid hb
  have B : Below w.heap.size w w := Below.refl _ _
  have HKB := Lib.hid (show validK ke se re zs n → (-9223372036854775808 ≤ ke ∧ ke ≤ 9223372036854775807) from fun h => by have := h.1.1; omega)
  have HRB := Lib.hid (show validK ke se re zs n → (0 ≤ re ∧ re ≤ 1000000) from fun h => h.1.2.2.1)
  clear hr hp hbd hb
  go_enter Tryd.func24, Tryd.ntmps24
  go_wp2_with fail
  generalize hW : World.alloc _ _ = w1
  have bk : Bk.Blk w1 (w.heap.size) 27 #[.int .i64 ke, .int .i64 se, .int .i64 re, .slice A n c] := (by rw [← hW]; apply Bk.Blk.to; (focus ((repeat (first | with_reducible assumption | (with_reducible apply Bk.Blk.newAt; focus (first | (simp [Bk.size_set]; done) | (simp [Bk.size_set]; omega))) | with_reducible apply Bk.Blk.drewN | with_reducible apply Bk.Blk.drew | with_reducible apply Bk.Blk.set_ | (with_reducible apply Bk.Blk.far; focus (dsimp only; first | omega | (simp; omega) | (simp; done))) | with_reducible apply Bk.Blk.alloc)))); rfl)
  have bp : Bk.Blk w1 (w.heap.size + 1) 29 #[.int .i64 cn, .slice D m e, .int .i64 mc] := (by rw [← hW]; apply Bk.Blk.to; (focus ((repeat (first | with_reducible assumption | (with_reducible apply Bk.Blk.newAt; focus (first | (simp [Bk.size_set]; done) | (simp [Bk.size_set]; omega))) | with_reducible apply Bk.Blk.drewN | with_reducible apply Bk.Blk.drew | with_reducible apply Bk.Blk.set_ | (with_reducible apply Bk.Blk.far; focus (dsimp only; first | omega | (simp; omega) | (simp; done))) | with_reducible apply Bk.Blk.alloc)))); rfl)
  have r1 : Bk.Blk w1 (w.heap.size + 1 + 1) 27 #[.int .i64 0, .int .i64 0, .int .i64 0, .slice none 0 0] := (by rw [← hW]; apply Bk.Blk.to; (focus ((repeat (first | with_reducible assumption | (with_reducible apply Bk.Blk.newAt; focus (first | (simp [Bk.size_set]; done) | (simp [Bk.size_set]; omega))) | with_reducible apply Bk.Blk.drewN | with_reducible apply Bk.Blk.drew | with_reducible apply Bk.Blk.set_ | (with_reducible apply Bk.Blk.far; focus (dsimp only; first | omega | (simp; omega) | (simp; done))) | with_reducible apply Bk.Blk.alloc)))); rfl)
  replace B : Below w.heap.size w w1 := (by rw [← hW]; go_grown)
  have z1 : w1.heap.size = _ := congrArg (fun W : World => W.heap.size) hW.symm
  (try simp only [World.size_alloc, Bk.size_set, World.size_drew, World.drewN] at z1)
  clear hW
  refine (copyKs_any ke se re A n c zs _ (HR.out.below B) (by omega)).mono ?_
  rintro x w2 ⟨A1, c1, rfl, hown, hb0⟩
  have HO := hown
  replace bk : Bk.Blk w2 (w.heap.size) 27 #[.int .i64 ke, .int .i64 se, .int .i64 re, .slice A n c] := Bk.Blk.under hb0 (by (repeat (first | with_reducible assumption | (with_reducible apply Bk.Blk.newAt; focus (first | (simp [Bk.size_set]; done) | (simp [Bk.size_set]; omega))) | with_reducible apply Bk.Blk.drewN | with_reducible apply Bk.Blk.drew | with_reducible apply Bk.Blk.set_ | (with_reducible apply Bk.Blk.far; focus (dsimp only; first | omega | (simp; omega) | (simp; done))) | with_reducible apply Bk.Blk.alloc)))
  replace bp : Bk.Blk w2 (w.heap.size + 1) 29 #[.int .i64 cn, .slice D m e, .int .i64 mc] := Bk.Blk.under hb0 (by (repeat (first | with_reducible assumption | (with_reducible apply Bk.Blk.newAt; focus (first | (simp [Bk.size_set]; done) | (simp [Bk.size_set]; omega))) | with_reducible apply Bk.Blk.drewN | with_reducible apply Bk.Blk.drew | with_reducible apply Bk.Blk.set_ | (with_reducible apply Bk.Blk.far; focus (dsimp only; first | omega | (simp; omega) | (simp; done))) | with_reducible apply Bk.Blk.alloc)))
  replace r1 : Bk.Blk w2 (w.heap.size + 1 + 1) 27 #[.int .i64 0, .int .i64 0, .int .i64 0, .slice none 0 0] := Bk.Blk.under hb0 (by (repeat (first | with_reducible assumption | (with_reducible apply Bk.Blk.newAt; focus (first | (simp [Bk.size_set]; done) | (simp [Bk.size_set]; omega))) | with_reducible apply Bk.Blk.drewN | with_reducible apply Bk.Blk.drew | with_reducible apply Bk.Blk.set_ | (with_reducible apply Bk.Blk.far; focus (dsimp only; first | omega | (simp; omega) | (simp; done))) | with_reducible apply Bk.Blk.alloc)))
  replace B : Below w.heap.size w w2 := Below.trans (by go_grown) (hb0.mono (by first | omega | (simp [Bk.size_set]; done) | (simp [Bk.size_set]; omega)))
  have z2 := hb0.size
  (try simp only [World.size_alloc, Bk.size_set, World.size_drew, World.drewN] at z2)
  clear hb0
  clear hown
  have L_bk := Lay.f4 bk
  have L_bp := Lay.f3 bp
  have L_r1 := Lay.f4 r1
  go_wp2_with fail
  clear L_bk L_bp L_r1
  rcases hcase with hv | ⟨hv, e1⟩ | ⟨hv, e1, hau⟩ | ⟨hv, e1, hau, hcc⟩
  all_goals
    first
      | refine (vN_impl ke se re A n c zs _ ((HR.out.below B).alloc _) hv).mono ?_
      | refine (vY_impl ke se re A n c zs _ ((HR.out.below B).alloc _) hv).mono ?_
    rintro x w3 ⟨rfl, hb0⟩
    have HV := Lib.hid hv
    clear hv
    have bo : Bk.Blk w3 (w2.heap.size) 27 #[.int .i64 ke, .int .i64 se, .int .i64 re, .slice A1 n c1] := (by apply Bk.Blk.to; (focus (apply Bk.Blk.under hb0; (repeat (first | with_reducible assumption | (with_reducible apply Bk.Blk.newAt; focus (first | (simp [Bk.size_set]; done) | (simp [Bk.size_set]; omega))) | with_reducible apply Bk.Blk.drewN | with_reducible apply Bk.Blk.drew | with_reducible apply Bk.Blk.set_ | (with_reducible apply Bk.Blk.far; focus (dsimp only; first | omega | (simp; omega) | (simp; done))) | with_reducible apply Bk.Blk.alloc)))); rfl)
    have HO3 := own_belowE (own_toE HO rfl) hb0
    clear HO
    have HO := HO3
    clear HO3
    replace bk : Bk.Blk w3 (w.heap.size) 27 #[.int .i64 ke, .int .i64 se, .int .i64 re, .slice A n c] := Bk.Blk.under hb0 (by (repeat (first | with_reducible assumption | (with_reducible apply Bk.Blk.newAt; focus (first | (simp [Bk.size_set]; done) | (simp [Bk.size_set]; omega))) | with_reducible apply Bk.Blk.drewN | with_reducible apply Bk.Blk.drew | with_reducible apply Bk.Blk.set_ | (with_reducible apply Bk.Blk.far; focus (dsimp only; first | omega | (simp; omega) | (simp; done))) | with_reducible apply Bk.Blk.alloc)))
    replace bp : Bk.Blk w3 (w.heap.size + 1) 29 #[.int .i64 cn, .slice D m e, .int .i64 mc] := Bk.Blk.under hb0 (by (repeat (first | with_reducible assumption | (with_reducible apply Bk.Blk.newAt; focus (first | (simp [Bk.size_set]; done) | (simp [Bk.size_set]; omega))) | with_reducible apply Bk.Blk.drewN | with_reducible apply Bk.Blk.drew | with_reducible apply Bk.Blk.set_ | (with_reducible apply Bk.Blk.far; focus (dsimp only; first | omega | (simp; omega) | (simp; done))) | with_reducible apply Bk.Blk.alloc)))
    replace r1 : Bk.Blk w3 (w.heap.size + 1 + 1) 27 #[.int .i64 0, .int .i64 0, .int .i64 0, .slice none 0 0] := Bk.Blk.under hb0 (by (repeat (first | with_reducible assumption | (with_reducible apply Bk.Blk.newAt; focus (first | (simp [Bk.size_set]; done) | (simp [Bk.size_set]; omega))) | with_reducible apply Bk.Blk.drewN | with_reducible apply Bk.Blk.drew | with_reducible apply Bk.Blk.set_ | (with_reducible apply Bk.Blk.far; focus (dsimp only; first | omega | (simp; omega) | (simp; done))) | with_reducible apply Bk.Blk.alloc)))
    replace B : Below w.heap.size w w3 := Below.trans (by go_grown) (hb0.mono (by first | omega | (simp [Bk.size_set]; done) | (simp [Bk.size_set]; omega)))
    have z3 := hb0.size
    (try simp only [World.size_alloc, Bk.size_set, World.size_drew, World.drewN] at z3)
    clear hb0
    have L_bk := Lay.f4 bk
    have L_bp := Lay.f3 bp
    have L_r1 := Lay.f4 r1
    have L_bo := Lay.f4 bo
  · skip
    go_wp2
    have zB := B.size
    clear L_bk L_bp L_r1 L_bo
    generalize hW : World.alloc _ _ = w10
    have HO2 := Lib.hid (show w10.ownsRow w.heap.size 3 1 (.slice A1 n c1) n (zs.map (Value.int .i64)) from by rw [← hW]; exact (own_low HO (by omega) (by repeat (first | with_reducible exact HO | (with_reducible refine own_set ?_ (by dsimp only; omega) _) | with_reducible refine own_drewE ?_ | with_reducible refine own_toE ?_ rfl))))
    have HD2 := Lib.hid (show w10.ownsRow w.heap.size 5 1 (.slice (some ⟨w3.heap.size, 0, none⟩) 0 0) 0 (([] : List Int).map (Value.int .u8)) from by rw [← hW]; exact own_empty _ _ _ _ _ (by simp [Bk.size_set]) (by omega))
    replace r1 : Bk.Blk w10 (w.heap.size + 1 + 1) 27 #[.int .i64 ke, .int .i64 se, .int .i64 re, .slice A1 n c1] := (by rw [← hW]; apply Bk.Blk.to; (focus ((repeat (first | with_reducible assumption | (with_reducible apply Bk.Blk.newAt; focus (first | (simp [Bk.size_set]; done) | (simp [Bk.size_set]; omega))) | with_reducible apply Bk.Blk.drewN | with_reducible apply Bk.Blk.drew | with_reducible apply Bk.Blk.set_ | (with_reducible apply Bk.Blk.far; focus (dsimp only; first | omega | (simp; omega) | (simp; done))) | with_reducible apply Bk.Blk.alloc)))); rfl)
    replace B : Below w.heap.size w w10 := (by rw [← hW]; go_grown)
    have z10 : w10.heap.size = _ := congrArg (fun W : World => W.heap.size) hW.symm
    (try simp only [World.size_alloc, Bk.size_set, World.size_drew, World.drewN] at z10)
    clear hW
    have L_r1 := Lay.c4 r1
    go_wp2
    refine bodyPost_ret (v := .tuple #[.agg #[.int .i64 ke, .int .i64 se, .int .i64 re, .slice A1 n c1], .slice (some ⟨w3.heap.size, 0, none⟩) 0 0, .bool false]) (by simp [results, Tryd.results24, go_sem, L_r1]) rfl (⟨A1, c1, _, 0, rfl, HO2.out, HD2.out, (by first | exact B | exact B.drew)⟩)
  · skip
    go_wp2
    have zB := B.size
    clear L_bk L_bp L_r1 L_bo
    generalize hW : World.alloc _ _ = w10
    have HO2 := Lib.hid (show w10.ownsRow w.heap.size 3 1 (.slice A1 n c1) n (zs.map (Value.int .i64)) from by rw [← hW]; exact (own_low HO (by omega) (by repeat (first | with_reducible exact HO | (with_reducible refine own_set ?_ (by dsimp only; omega) _) | with_reducible refine own_drewE ?_ | with_reducible refine own_toE ?_ rfl))))
    have HD2 := Lib.hid (show w10.ownsRow w.heap.size 5 1 (.slice (some ⟨w3.heap.size, 0, none⟩) 0 0) 0 (([] : List Int).map (Value.int .u8)) from by rw [← hW]; exact own_empty _ _ _ _ _ (by simp [Bk.size_set]) (by omega))
    replace r1 : Bk.Blk w10 (w.heap.size + 1 + 1) 27 #[.int .i64 ke, .int .i64 se, .int .i64 re, .slice A1 n c1] := (by rw [← hW]; apply Bk.Blk.to; (focus ((repeat (first | with_reducible assumption | (with_reducible apply Bk.Blk.newAt; focus (first | (simp [Bk.size_set]; done) | (simp [Bk.size_set]; omega))) | with_reducible apply Bk.Blk.drewN | with_reducible apply Bk.Blk.drew | with_reducible apply Bk.Blk.set_ | (with_reducible apply Bk.Blk.far; focus (dsimp only; first | omega | (simp; omega) | (simp; done))) | with_reducible apply Bk.Blk.alloc)))); rfl)
    replace B : Below w.heap.size w w10 := (by rw [← hW]; go_grown)
    have z10 : w10.heap.size = _ := congrArg (fun W : World => W.heap.size) hW.symm
    (try simp only [World.size_alloc, Bk.size_set, World.size_drew, World.drewN] at z10)
    clear hW
    have L_r1 := Lay.c4 r1
    go_wp2
    refine bodyPost_ret (v := .tuple #[.agg #[.int .i64 ke, .int .i64 se, .int .i64 re, .slice A1 n c1], .slice (some ⟨w3.heap.size, 0, none⟩) 0 0, .bool false]) (by simp [results, Tryd.results24, go_sem, L_r1]) rfl (⟨A1, c1, _, 0, rfl, HO2.out, HD2.out, (by first | exact B | exact B.drew)⟩)
  · skip
    have HAU := Lib.hid hau
    clear hau
    go_wp2_with fail
    clear L_bk L_bp L_r1 L_bo
    refine (auth_impl ke cn mc D m e bs false _ (HKB.out HV.out) (by omega) (HBD.out.below B) HB.out (by omega) HAU.out).mono ?_
    rintro x w4 ⟨rfl, hb0⟩
    replace HO := own_belowE HO hb0
    replace bk : Bk.Blk w4 (w.heap.size) 27 #[.int .i64 ke, .int .i64 se, .int .i64 re, .slice A n c] := Bk.Blk.under hb0 (by (repeat (first | with_reducible assumption | (with_reducible apply Bk.Blk.newAt; focus (first | (simp [Bk.size_set]; done) | (simp [Bk.size_set]; omega))) | with_reducible apply Bk.Blk.drewN | with_reducible apply Bk.Blk.drew | with_reducible apply Bk.Blk.set_ | (with_reducible apply Bk.Blk.far; focus (dsimp only; first | omega | (simp; omega) | (simp; done))) | with_reducible apply Bk.Blk.alloc)))
    replace bp : Bk.Blk w4 (w.heap.size + 1) 29 #[.int .i64 cn, .slice D m e, .int .i64 mc] := Bk.Blk.under hb0 (by (repeat (first | with_reducible assumption | (with_reducible apply Bk.Blk.newAt; focus (first | (simp [Bk.size_set]; done) | (simp [Bk.size_set]; omega))) | with_reducible apply Bk.Blk.drewN | with_reducible apply Bk.Blk.drew | with_reducible apply Bk.Blk.set_ | (with_reducible apply Bk.Blk.far; focus (dsimp only; first | omega | (simp; omega) | (simp; done))) | with_reducible apply Bk.Blk.alloc)))
    replace r1 : Bk.Blk w4 (w.heap.size + 1 + 1) 27 #[.int .i64 0, .int .i64 0, .int .i64 0, .slice none 0 0] := Bk.Blk.under hb0 (by (repeat (first | with_reducible assumption | (with_reducible apply Bk.Blk.newAt; focus (first | (simp [Bk.size_set]; done) | (simp [Bk.size_set]; omega))) | with_reducible apply Bk.Blk.drewN | with_reducible apply Bk.Blk.drew | with_reducible apply Bk.Blk.set_ | (with_reducible apply Bk.Blk.far; focus (dsimp only; first | omega | (simp; omega) | (simp; done))) | with_reducible apply Bk.Blk.alloc)))
    replace bo : Bk.Blk w4 (w2.heap.size) 27 #[.int .i64 ke, .int .i64 se, .int .i64 re, .slice A1 n c1] := Bk.Blk.under hb0 (by (repeat (first | with_reducible assumption | (with_reducible apply Bk.Blk.newAt; focus (first | (simp [Bk.size_set]; done) | (simp [Bk.size_set]; omega))) | with_reducible apply Bk.Blk.drewN | with_reducible apply Bk.Blk.drew | with_reducible apply Bk.Blk.set_ | (with_reducible apply Bk.Blk.far; focus (dsimp only; first | omega | (simp; omega) | (simp; done))) | with_reducible apply Bk.Blk.alloc)))
    replace B : Below w.heap.size w w4 := Below.trans (by go_grown) (hb0.mono (by first | omega | (simp [Bk.size_set]; done) | (simp [Bk.size_set]; omega)))
    have z4 := hb0.size
    (try simp only [World.size_alloc, Bk.size_set, World.size_drew, World.drewN] at z4)
    clear hb0
    have L_bk := Lay.f4 bk
    have L_bp := Lay.f3 bp
    have L_r1 := Lay.f4 r1
    have L_bo := Lay.f4 bo
    go_wp2
    have zB := B.size
    clear L_bk L_bp L_r1 L_bo
    generalize hW : World.alloc _ _ = w10
    have HO2 := Lib.hid (show w10.ownsRow w.heap.size 3 1 (.slice A1 n c1) n (zs.map (Value.int .i64)) from by rw [← hW]; exact (own_low HO (by omega) (by repeat (first | with_reducible exact HO | (with_reducible refine own_set ?_ (by dsimp only; omega) _) | with_reducible refine own_drewE ?_ | with_reducible refine own_toE ?_ rfl))))
    have HD2 := Lib.hid (show w10.ownsRow w.heap.size 5 1 (.slice (some ⟨w4.heap.size, 0, none⟩) 0 0) 0 (([] : List Int).map (Value.int .u8)) from by rw [← hW]; exact own_empty _ _ _ _ _ (by simp [Bk.size_set]) (by omega))
    replace r1 : Bk.Blk w10 (w.heap.size + 1 + 1) 27 #[.int .i64 ke, .int .i64 se, .int .i64 re, .slice A1 n c1] := (by rw [← hW]; apply Bk.Blk.to; (focus ((repeat (first | with_reducible assumption | (with_reducible apply Bk.Blk.newAt; focus (first | (simp [Bk.size_set]; done) | (simp [Bk.size_set]; omega))) | with_reducible apply Bk.Blk.drewN | with_reducible apply Bk.Blk.drew | with_reducible apply Bk.Blk.set_ | (with_reducible apply Bk.Blk.far; focus (dsimp only; first | omega | (simp; omega) | (simp; done))) | with_reducible apply Bk.Blk.alloc)))); rfl)
    replace B : Below w.heap.size w w10 := (by rw [← hW]; go_grown)
    have z10 : w10.heap.size = _ := congrArg (fun W : World => W.heap.size) hW.symm
    (try simp only [World.size_alloc, Bk.size_set, World.size_drew, World.drewN] at z10)
    clear hW
    have L_r1 := Lay.c4 r1
    go_wp2
    refine bodyPost_ret (v := .tuple #[.agg #[.int .i64 ke, .int .i64 se, .int .i64 re, .slice A1 n c1], .slice (some ⟨w4.heap.size, 0, none⟩) 0 0, .bool false]) (by simp [results, Tryd.results24, go_sem, L_r1]) rfl (⟨A1, c1, _, 0, rfl, HO2.out, HD2.out, (by first | exact B | exact B.drew)⟩)
  · skip
    have HAU := Lib.hid hau
    clear hau
    have hrb := HRB.out HV.out
    go_wp2_with fail
    clear L_bk L_bp L_r1 L_bo
    refine (auth_impl ke cn mc D m e bs true _ (HKB.out HV.out) (by omega) (HBD.out.below B) HB.out (by omega) HAU.out).mono ?_
    rintro x w4 ⟨rfl, hb0⟩
    replace HO := own_belowE HO hb0
    replace bk : Bk.Blk w4 (w.heap.size) 27 #[.int .i64 ke, .int .i64 se, .int .i64 re, .slice A n c] := Bk.Blk.under hb0 (by (repeat (first | with_reducible assumption | (with_reducible apply Bk.Blk.newAt; focus (first | (simp [Bk.size_set]; done) | (simp [Bk.size_set]; omega))) | with_reducible apply Bk.Blk.drewN | with_reducible apply Bk.Blk.drew | with_reducible apply Bk.Blk.set_ | (with_reducible apply Bk.Blk.far; focus (dsimp only; first | omega | (simp; omega) | (simp; done))) | with_reducible apply Bk.Blk.alloc)))
    replace bp : Bk.Blk w4 (w.heap.size + 1) 29 #[.int .i64 cn, .slice D m e, .int .i64 mc] := Bk.Blk.under hb0 (by (repeat (first | with_reducible assumption | (with_reducible apply Bk.Blk.newAt; focus (first | (simp [Bk.size_set]; done) | (simp [Bk.size_set]; omega))) | with_reducible apply Bk.Blk.drewN | with_reducible apply Bk.Blk.drew | with_reducible apply Bk.Blk.set_ | (with_reducible apply Bk.Blk.far; focus (dsimp only; first | omega | (simp; omega) | (simp; done))) | with_reducible apply Bk.Blk.alloc)))
    replace r1 : Bk.Blk w4 (w.heap.size + 1 + 1) 27 #[.int .i64 0, .int .i64 0, .int .i64 0, .slice none 0 0] := Bk.Blk.under hb0 (by (repeat (first | with_reducible assumption | (with_reducible apply Bk.Blk.newAt; focus (first | (simp [Bk.size_set]; done) | (simp [Bk.size_set]; omega))) | with_reducible apply Bk.Blk.drewN | with_reducible apply Bk.Blk.drew | with_reducible apply Bk.Blk.set_ | (with_reducible apply Bk.Blk.far; focus (dsimp only; first | omega | (simp; omega) | (simp; done))) | with_reducible apply Bk.Blk.alloc)))
    replace bo : Bk.Blk w4 (w2.heap.size) 27 #[.int .i64 ke, .int .i64 se, .int .i64 re, .slice A1 n c1] := Bk.Blk.under hb0 (by (repeat (first | with_reducible assumption | (with_reducible apply Bk.Blk.newAt; focus (first | (simp [Bk.size_set]; done) | (simp [Bk.size_set]; omega))) | with_reducible apply Bk.Blk.drewN | with_reducible apply Bk.Blk.drew | with_reducible apply Bk.Blk.set_ | (with_reducible apply Bk.Blk.far; focus (dsimp only; first | omega | (simp; omega) | (simp; done))) | with_reducible apply Bk.Blk.alloc)))
    replace B : Below w.heap.size w w4 := Below.trans (by go_grown) (hb0.mono (by first | omega | (simp [Bk.size_set]; done) | (simp [Bk.size_set]; omega)))
    have z4 := hb0.size
    (try simp only [World.size_alloc, Bk.size_set, World.size_drew, World.drewN] at z4)
    clear hb0
    have L_bk := Lay.f4 bk
    have L_bp := Lay.f3 bp
    have L_r1 := Lay.f4 r1
    have L_bo := Lay.f4 bo
    rcases hcc with hcc | ⟨hc1, hc2⟩
    · skip
      go_wp2
      have zB := B.size
      clear L_bk L_bp L_r1 L_bo
      generalize hW : World.alloc _ _ = w10
      have HO2 := Lib.hid (show w10.ownsRow w.heap.size 3 1 (.slice A1 n c1) n (zs.map (Value.int .i64)) from by rw [← hW]; exact (own_low HO (by omega) (by repeat (first | with_reducible exact HO | (with_reducible refine own_set ?_ (by dsimp only; omega) _) | with_reducible refine own_drewE ?_ | with_reducible refine own_toE ?_ rfl))))
      have HD2 := Lib.hid (show w10.ownsRow w.heap.size 5 1 (.slice (some ⟨w4.heap.size, 0, none⟩) 0 0) 0 (([] : List Int).map (Value.int .u8)) from by rw [← hW]; exact own_empty _ _ _ _ _ (by simp [Bk.size_set]) (by omega))
      replace r1 : Bk.Blk w10 (w.heap.size + 1 + 1) 27 #[.int .i64 ke, .int .i64 se, .int .i64 re, .slice A1 n c1] := (by rw [← hW]; apply Bk.Blk.to; (focus ((repeat (first | with_reducible assumption | (with_reducible apply Bk.Blk.newAt; focus (first | (simp [Bk.size_set]; done) | (simp [Bk.size_set]; omega))) | with_reducible apply Bk.Blk.drewN | with_reducible apply Bk.Blk.drew | with_reducible apply Bk.Blk.set_ | (with_reducible apply Bk.Blk.far; focus (dsimp only; first | omega | (simp; omega) | (simp; done))) | with_reducible apply Bk.Blk.alloc)))); rfl)
      replace B : Below w.heap.size w w10 := (by rw [← hW]; go_grown)
      have z10 : w10.heap.size = _ := congrArg (fun W : World => W.heap.size) hW.symm
      (try simp only [World.size_alloc, Bk.size_set, World.size_drew, World.drewN] at z10)
      clear hW
      have L_r1 := Lay.c4 r1
      go_wp2
      refine bodyPost_ret (v := .tuple #[.agg #[.int .i64 ke, .int .i64 se, .int .i64 re, .slice A1 n c1], .slice (some ⟨w4.heap.size, 0, none⟩) 0 0, .bool false]) (by simp [results, Tryd.results24, go_sem, L_r1]) rfl (⟨A1, c1, _, 0, rfl, HO2.out, HD2.out, (by first | exact B | exact B.drew)⟩)
    · skip
      go_wp2
      have zB := B.size
      clear L_bk L_bp L_r1 L_bo
      generalize hW : World.alloc _ _ = w10
      have HO2 := Lib.hid (show w10.ownsRow w.heap.size 3 1 (.slice A1 n c1) n (zs.map (Value.int .i64)) from by rw [← hW]; exact (own_low HO (by omega) (by repeat (first | with_reducible exact HO | (with_reducible refine own_set ?_ (by dsimp only; omega) _) | with_reducible refine own_drewE ?_ | with_reducible refine own_toE ?_ rfl))))
      have HD2 := Lib.hid (show w10.ownsRow w.heap.size 5 1 (.slice (some ⟨w4.heap.size, 0, none⟩) 0 0) 0 (([] : List Int).map (Value.int .u8)) from by rw [← hW]; exact own_empty _ _ _ _ _ (by simp [Bk.size_set]) (by omega))
      replace r1 : Bk.Blk w10 (w.heap.size + 1 + 1) 27 #[.int .i64 ke, .int .i64 se, .int .i64 re, .slice A1 n c1] := (by rw [← hW]; apply Bk.Blk.to; (focus ((repeat (first | with_reducible assumption | (with_reducible apply Bk.Blk.newAt; focus (first | (simp [Bk.size_set]; done) | (simp [Bk.size_set]; omega))) | with_reducible apply Bk.Blk.drewN | with_reducible apply Bk.Blk.drew | with_reducible apply Bk.Blk.set_ | (with_reducible apply Bk.Blk.far; focus (dsimp only; first | omega | (simp; omega) | (simp; done))) | with_reducible apply Bk.Blk.alloc)))); rfl)
      replace B : Below w.heap.size w w10 := (by rw [← hW]; go_grown)
      have z10 : w10.heap.size = _ := congrArg (fun W : World => W.heap.size) hW.symm
      (try simp only [World.size_alloc, Bk.size_set, World.size_drew, World.drewN] at z10)
      clear hW
      have L_r1 := Lay.c4 r1
      go_wp2
      refine bodyPost_ret (v := .tuple #[.agg #[.int .i64 ke, .int .i64 se, .int .i64 re, .slice A1 n c1], .slice (some ⟨w4.heap.size, 0, none⟩) 0 0, .bool false]) (by simp [results, Tryd.results24, go_sem, L_r1]) rfl (⟨A1, c1, _, 0, rfl, HO2.out, HD2.out, (by first | exact B | exact B.drew)⟩)
set_option maxHeartbeats 4000000 in
theorem auth_spec (key cn mc : Int) (A : Option Addr) (n c : Nat) (bs : List Int) (b : Bool) (w : World) (hk : -9223372036854775808 ≤ key ∧ key ≤ 9223372036854775807) (hcn : -9223372036854775808 ≤ cn ∧ cn ≤ 9223372036854775807) (hr : Rd w 1 A n c (bs.map (Value.int .u8))) (hb : AllBytes bs) (hn : n ≤ 2097151) (hm : (mc == macF key cn bs) = b) :
    Calls Tryd.prog 80 #[.int .i64 key, .agg #[.int .i64 cn, .slice A n c, .int .i64 mc]] w fun e w' => e = .returned (.bool b) ∧ Below w.heap.size w w' := by
  have HR := Lib.hid hr
  have HB := Lib.hid hb
  have HK := Lib.hid hk
  have HC := Lib.hid hcn
  have B : Below w.heap.size w w := Below.refl _ _
  have HCALL := Lib.hid (fun w h => mac_spec key cn mc A n c bs w HK.out HC.out h HB.out (by omega))
  have HMM := Lib.hid hm
  clear hm
  generalize macF key cn bs = g at *
  clear hr hb hk hcn
  go_enter Tryd.func80, Tryd.ntmps80
  go_wp2_with fail
  generalize hW : World.alloc _ _ = w0
  have bp : Bk.Blk w0 (w.heap.size) 29 #[.int .i64 cn, .slice A n c, .int .i64 mc] := (by rw [← hW]; apply Bk.Blk.to; (focus ((repeat (first | with_reducible assumption | (with_reducible apply Bk.Blk.newAt; focus (first | (simp [Bk.size_set]; done) | (simp [Bk.size_set]; omega))) | with_reducible apply Bk.Blk.drewN | with_reducible apply Bk.Blk.drew | with_reducible apply Bk.Blk.set_ | (with_reducible apply Bk.Blk.far; focus (dsimp only; first | omega | (simp; omega) | (simp; done))) | with_reducible apply Bk.Blk.alloc)))); rfl)
  replace B : Below w.heap.size w w0 := (by rw [← hW]; go_grown)
  have z0 : w0.heap.size = _ := congrArg (fun W : World => W.heap.size) hW.symm
  (try simp only [World.size_alloc, Bk.size_set, World.size_drew, World.drewN] at z0)
  clear hW
  have L_bp := Lay.f3 bp
  refine wp_region_held_drew (S := (fun w' => Bk.Blk w' (w.heap.size) 29 #[.int .i64 cn, .slice A n c, .int .i64 mc])) (by kernel_rfl) ?_ (fun hHeld => ?_)
  · (try dsimp only); (repeat (first | with_reducible assumption | (with_reducible apply Bk.Blk.newAt; focus (first | (simp [Bk.size_set]; done) | (simp [Bk.size_set]; omega))) | with_reducible apply Bk.Blk.drewN | with_reducible apply Bk.Blk.drew | with_reducible apply Bk.Blk.set_ | (with_reducible apply Bk.Blk.far; focus (dsimp only; first | omega | (simp; omega) | (simp; done))) | with_reducible apply Bk.Blk.alloc))
  first | (refine wpAnyH_take (i := 0) (v := ?_) (Reg.get rfl) (by kernel_rfl) (by kernel_rfl) (by kernel_rfl) (fun _ _ _ h => h) (Or.inl ⟨by rfl, ?_⟩) hHeld ?_; rotate_left 1; (focus (intro wq hSw; (try dsimp only at hSw); have s_bp := hSw; have L_bp := Lay.c3 s_bp;  go_simp <;> with_reducible rfl))) | (refine wpAnyH_take (i := 0) (v := undef) (Reg.get rfl) (by kernel_rfl) (by kernel_rfl) (by kernel_rfl) (fun _ _ _ h => h) (Or.inr ⟨by rfl, rfl⟩) hHeld ?_)
  try simp only [Act.put, List.setIfInBounds_toArray, List.set_cons_zero, List.set_cons_succ]
  first | (refine wpAnyH_take (i := 1) (v := ?_) (Reg.get rfl) (by kernel_rfl) (by kernel_rfl) (by kernel_rfl) (fun _ _ _ h => h) (Or.inl ⟨by rfl, ?_⟩) hHeld ?_; rotate_left 1; (focus (intro wq hSw; (try dsimp only at hSw); have s_bp := hSw; have L_bp := Lay.c3 s_bp;  go_simp <;> with_reducible rfl))) | (refine wpAnyH_take (i := 1) (v := undef) (Reg.get rfl) (by kernel_rfl) (by kernel_rfl) (by kernel_rfl) (fun _ _ _ h => h) (Or.inr ⟨by rfl, rfl⟩) hHeld ?_)
  try simp only [Act.put, List.setIfInBounds_toArray, List.set_cons_zero, List.set_cons_succ]
  first | (refine wpAnyH_take (i := 2) (v := ?_) (Reg.get rfl) (by kernel_rfl) (by kernel_rfl) (by kernel_rfl) (fun _ _ _ h => h) (Or.inl ⟨by rfl, ?_⟩) hHeld ?_; rotate_left 1; (focus (intro wq hSw; (try dsimp only at hSw); have s_bp := hSw; have L_bp := Lay.c3 s_bp;  go_simp <;> with_reducible rfl))) | (refine wpAnyH_take (i := 2) (v := undef) (Reg.get rfl) (by kernel_rfl) (by kernel_rfl) (by kernel_rfl) (fun _ _ _ h => h) (Or.inr ⟨by rfl, rfl⟩) hHeld ?_)
  try simp only [Act.put, List.setIfInBounds_toArray, List.set_cons_zero, List.set_cons_succ]
  first | (refine wpAnyH_take (i := 3) (v := ?_) (Reg.get rfl) (by kernel_rfl) (by kernel_rfl) (by kernel_rfl) (fun _ _ _ h => h) (Or.inl ⟨by rfl, ?_⟩) hHeld ?_; rotate_left 1; (focus (intro wq hSw; (try dsimp only at hSw); have s_bp := hSw; have L_bp := Lay.c3 s_bp;  go_simp <;> with_reducible rfl))) | (refine wpAnyH_take (i := 3) (v := undef) (Reg.get rfl) (by kernel_rfl) (by kernel_rfl) (by kernel_rfl) (fun _ _ _ h => h) (Or.inr ⟨by rfl, rfl⟩) hHeld ?_)
  try simp only [Act.put, List.setIfInBounds_toArray, List.set_cons_zero, List.set_cons_succ]
  first | ((refine wpAnyH_take (i := 4) (v := undef) (Reg.get rfl) (by kernel_rfl) (by kernel_rfl) (by kernel_rfl) (fun _ _ _ h => h) (Or.inr ⟨by rfl, rfl⟩) hHeld ?_)) | (refine wpAnyH_ready (rs := [4]) (by kernel_rfl) (by simp) ?_; refine AllReadyH.cons (Reg.get rfl) (fun K hK => ?_) AllReadyH.nil; clear hHeld; go_simp; ((go_at_call 35; refine (HCALL.out _ (by first | exact HR.out.below B | exact (HR.out.below B).drew)).mono ?_; rintro x w1 ⟨rfl, hb0⟩; clear L_bp; replace bp : Bk.Blk w1 (w.heap.size) 29 #[.int .i64 cn, .slice A n c, .int .i64 mc] := Bk.Blk.under hb0 (by (repeat (first | with_reducible assumption | (with_reducible apply Bk.Blk.newAt; focus (first | (simp [Bk.size_set]; done) | (simp [Bk.size_set]; omega))) | with_reducible apply Bk.Blk.drewN | with_reducible apply Bk.Blk.drew | with_reducible apply Bk.Blk.set_ | (with_reducible apply Bk.Blk.far; focus (dsimp only; first | omega | (simp; omega) | (simp; done))) | with_reducible apply Bk.Blk.alloc))); replace B : Below w.heap.size w w1 := Below.trans (by go_grown) (hb0.mono (by first | omega | (simp [Bk.size_set]; done) | (simp [Bk.size_set]; omega))); have z1 := hb0.size; (try simp only [World.size_alloc, Bk.size_set, World.size_drew, World.drewN] at z1); clear hb0; have L_bp := Lay.f3 bp)); refine hK.out _ _ ?_ (fun hHeld => ?_); ((try dsimp only); (repeat (first | with_reducible assumption | (with_reducible apply Bk.Blk.newAt; focus (first | (simp [Bk.size_set]; done) | (simp [Bk.size_set]; omega))) | with_reducible apply Bk.Blk.drewN | with_reducible apply Bk.Blk.drew | with_reducible apply Bk.Blk.set_ | (with_reducible apply Bk.Blk.far; focus (dsimp only; first | omega | (simp; omega) | (simp; done))) | with_reducible apply Bk.Blk.alloc))); clear hK K)
  try simp only [Act.put, List.setIfInBounds_toArray, List.set_cons_zero, List.set_cons_succ]
  first | (refine wpAnyH_take (i := 5) (v := ?_) (Reg.get rfl) (by kernel_rfl) (by kernel_rfl) (by kernel_rfl) (fun _ _ _ h => h) (Or.inl ⟨by rfl, ?_⟩) hHeld ?_; rotate_left 1; (focus (intro wq hSw; (try dsimp only at hSw); have s_bp := hSw; have L_bp := Lay.c3 s_bp;  go_simp <;> with_reducible rfl))) | (refine wpAnyH_take (i := 5) (v := undef) (Reg.get rfl) (by kernel_rfl) (by kernel_rfl) (by kernel_rfl) (fun _ _ _ h => h) (Or.inr ⟨by rfl, rfl⟩) hHeld ?_)
  try simp only [Act.put, List.setIfInBounds_toArray, List.set_cons_zero, List.set_cons_succ]
  first | (refine wpAnyH_take (i := 6) (v := ?_) (Reg.get rfl) (by kernel_rfl) (by kernel_rfl) (by kernel_rfl) (fun _ _ _ h => h) (Or.inl ⟨by rfl, ?_⟩) hHeld ?_; rotate_left 1; (focus (intro wq hSw; (try dsimp only at hSw); have s_bp := hSw; have L_bp := Lay.c3 s_bp;  go_simp <;> with_reducible rfl))) | (refine wpAnyH_take (i := 6) (v := undef) (Reg.get rfl) (by kernel_rfl) (by kernel_rfl) (by kernel_rfl) (fun _ _ _ h => h) (Or.inr ⟨by rfl, rfl⟩) hHeld ?_)
  try simp only [Act.put, List.setIfInBounds_toArray, List.set_cons_zero, List.set_cons_succ]
  refine wpAnyH_done (by kernel_rfl) ?_ _
  go_wp2
  go_ret
  exact ⟨by rw [HMM.out]; rfl, by first | exact B | exact B.drew⟩
set_option maxRecDepth 100000 in
set_option maxHeartbeats 8000000 in
theorem open_spec_yes (ke se re cn mc : Int) (A : Option Addr) (n c : Nat) (zs : List Int) (D : Option Addr) (m e : Nat) (bs : List Int) (w : World) (hp : openP ke se re cn mc zs n bs) (hr : Rd w 1 A n c (zs.map (Value.int .i64))) (hn : n ≤ 2097152) (hbd : Rd w 1 D m e (bs.map (Value.int .u8))) (hb : AllBytes bs) (hm : m ≤ 2097151) :
    Calls Tryd.prog 77 #[.agg #[.int .i64 ke, .int .i64 se, .int .i64 re, .slice A n c], .agg #[.int .i64 cn, .slice D m e, .int .i64 mc]] w (RetOf w ke se cn n zs m (decL (cipM ke cn) bs) true) := by
  obtain ⟨hv, hk0, hmc, hc0, hc1⟩ := hp
  have hvk := hv.1
  have hk1 : -9223372036854775808 ≤ ke ∧ ke ≤ 9223372036854775807 := by have := hvk.1; omega
  have hre := hvk.2.2.1
  have HK := Lib.hid hk1
  have HV := Lib.hid hv
  have HR := Lib.hid hr
  have HBD := Lib.hid hbd
  have HB := Lib.hid hb
  have e1 : (ke == 0) = false := by simpa using hk0
  have hau : (mc == macF ke cn bs) = true := by simpa using hmc
  have HAU := Lib.hid hau
  have B : Below w.heap.size w w := Below.refl _ _
  obtain ⟨r0, r9⟩ := hre
  have hbl : bs.length = m := by have := hbd.1; simpa using this
  have HDL := Lib.hid (show (decL (cipM ke cn) bs).length = m by rw [decL_len]; exact hbl)
  clear hr hbd hb hv hvk hk0 hk1 hmc hau hbl
  go_enter Tryd.func77, Tryd.ntmps77
  go_wp2_with fail
  generalize hW : World.alloc _ _ = w1
  have bk : Bk.Blk w1 (w.heap.size) 27 #[.int .i64 ke, .int .i64 se, .int .i64 re, .slice A n c] := (by rw [← hW]; apply Bk.Blk.to; (focus ((repeat (first | with_reducible assumption | (with_reducible apply Bk.Blk.newAt; focus (first | (simp [Bk.size_set]; done) | (simp [Bk.size_set]; omega))) | with_reducible apply Bk.Blk.drewN | with_reducible apply Bk.Blk.drew | with_reducible apply Bk.Blk.set_ | (with_reducible apply Bk.Blk.far; focus (dsimp only; first | omega | (simp; omega) | (simp; done))) | with_reducible apply Bk.Blk.alloc)))); rfl)
  have bp : Bk.Blk w1 (w.heap.size + 1) 29 #[.int .i64 cn, .slice D m e, .int .i64 mc] := (by rw [← hW]; apply Bk.Blk.to; (focus ((repeat (first | with_reducible assumption | (with_reducible apply Bk.Blk.newAt; focus (first | (simp [Bk.size_set]; done) | (simp [Bk.size_set]; omega))) | with_reducible apply Bk.Blk.drewN | with_reducible apply Bk.Blk.drew | with_reducible apply Bk.Blk.set_ | (with_reducible apply Bk.Blk.far; focus (dsimp only; first | omega | (simp; omega) | (simp; done))) | with_reducible apply Bk.Blk.alloc)))); rfl)
  have r1 : Bk.Blk w1 (w.heap.size + 1 + 1) 27 #[.int .i64 0, .int .i64 0, .int .i64 0, .slice none 0 0] := (by rw [← hW]; apply Bk.Blk.to; (focus ((repeat (first | with_reducible assumption | (with_reducible apply Bk.Blk.newAt; focus (first | (simp [Bk.size_set]; done) | (simp [Bk.size_set]; omega))) | with_reducible apply Bk.Blk.drewN | with_reducible apply Bk.Blk.drew | with_reducible apply Bk.Blk.set_ | (with_reducible apply Bk.Blk.far; focus (dsimp only; first | omega | (simp; omega) | (simp; done))) | with_reducible apply Bk.Blk.alloc)))); rfl)
  replace B : Below w.heap.size w w1 := (by rw [← hW]; go_grown)
  have z1 : w1.heap.size = _ := congrArg (fun W : World => W.heap.size) hW.symm
  (try simp only [World.size_alloc, Bk.size_set, World.size_drew, World.drewN] at z1)
  clear hW
  refine (copy_spec ke se re A n c zs _ (HR.out.below B) (by omega)).mono ?_
  rintro x w2 ⟨A1, c1, rfl, hown, hb0⟩
  have HO := hown
  replace bk : Bk.Blk w2 (w.heap.size) 27 #[.int .i64 ke, .int .i64 se, .int .i64 re, .slice A n c] := Bk.Blk.under hb0 (by (repeat (first | with_reducible assumption | (with_reducible apply Bk.Blk.newAt; focus (first | (simp [Bk.size_set]; done) | (simp [Bk.size_set]; omega))) | with_reducible apply Bk.Blk.drewN | with_reducible apply Bk.Blk.drew | with_reducible apply Bk.Blk.set_ | (with_reducible apply Bk.Blk.far; focus (dsimp only; first | omega | (simp; omega) | (simp; done))) | with_reducible apply Bk.Blk.alloc)))
  replace bp : Bk.Blk w2 (w.heap.size + 1) 29 #[.int .i64 cn, .slice D m e, .int .i64 mc] := Bk.Blk.under hb0 (by (repeat (first | with_reducible assumption | (with_reducible apply Bk.Blk.newAt; focus (first | (simp [Bk.size_set]; done) | (simp [Bk.size_set]; omega))) | with_reducible apply Bk.Blk.drewN | with_reducible apply Bk.Blk.drew | with_reducible apply Bk.Blk.set_ | (with_reducible apply Bk.Blk.far; focus (dsimp only; first | omega | (simp; omega) | (simp; done))) | with_reducible apply Bk.Blk.alloc)))
  replace r1 : Bk.Blk w2 (w.heap.size + 1 + 1) 27 #[.int .i64 0, .int .i64 0, .int .i64 0, .slice none 0 0] := Bk.Blk.under hb0 (by (repeat (first | with_reducible assumption | (with_reducible apply Bk.Blk.newAt; focus (first | (simp [Bk.size_set]; done) | (simp [Bk.size_set]; omega))) | with_reducible apply Bk.Blk.drewN | with_reducible apply Bk.Blk.drew | with_reducible apply Bk.Blk.set_ | (with_reducible apply Bk.Blk.far; focus (dsimp only; first | omega | (simp; omega) | (simp; done))) | with_reducible apply Bk.Blk.alloc)))
  replace B : Below w.heap.size w w2 := Below.trans (by go_grown) (hb0.mono (by first | omega | (simp [Bk.size_set]; done) | (simp [Bk.size_set]; omega)))
  have z2 := hb0.size
  (try simp only [World.size_alloc, Bk.size_set, World.size_drew, World.drewN] at z2)
  clear hb0
  clear hown
  have L_bk := Lay.f4 bk
  have L_bp := Lay.f3 bp
  have L_r1 := Lay.f4 r1
  go_wp2_with fail
  clear L_bk L_bp L_r1
  refine (vY_spec ke se re A n c zs _ ((HR.out.below B).alloc _) HV.out).mono ?_
  rintro x w3 ⟨rfl, hb0⟩
  have bo : Bk.Blk w3 (w2.heap.size) 27 #[.int .i64 ke, .int .i64 se, .int .i64 re, .slice A1 n c1] := (by apply Bk.Blk.to; (focus (apply Bk.Blk.under hb0; (repeat (first | with_reducible assumption | (with_reducible apply Bk.Blk.newAt; focus (first | (simp [Bk.size_set]; done) | (simp [Bk.size_set]; omega))) | with_reducible apply Bk.Blk.drewN | with_reducible apply Bk.Blk.drew | with_reducible apply Bk.Blk.set_ | (with_reducible apply Bk.Blk.far; focus (dsimp only; first | omega | (simp; omega) | (simp; done))) | with_reducible apply Bk.Blk.alloc)))); rfl)
  replace HO := own_belowE (own_toE HO rfl) hb0
  replace bk : Bk.Blk w3 (w.heap.size) 27 #[.int .i64 ke, .int .i64 se, .int .i64 re, .slice A n c] := Bk.Blk.under hb0 (by (repeat (first | with_reducible assumption | (with_reducible apply Bk.Blk.newAt; focus (first | (simp [Bk.size_set]; done) | (simp [Bk.size_set]; omega))) | with_reducible apply Bk.Blk.drewN | with_reducible apply Bk.Blk.drew | with_reducible apply Bk.Blk.set_ | (with_reducible apply Bk.Blk.far; focus (dsimp only; first | omega | (simp; omega) | (simp; done))) | with_reducible apply Bk.Blk.alloc)))
  replace bp : Bk.Blk w3 (w.heap.size + 1) 29 #[.int .i64 cn, .slice D m e, .int .i64 mc] := Bk.Blk.under hb0 (by (repeat (first | with_reducible assumption | (with_reducible apply Bk.Blk.newAt; focus (first | (simp [Bk.size_set]; done) | (simp [Bk.size_set]; omega))) | with_reducible apply Bk.Blk.drewN | with_reducible apply Bk.Blk.drew | with_reducible apply Bk.Blk.set_ | (with_reducible apply Bk.Blk.far; focus (dsimp only; first | omega | (simp; omega) | (simp; done))) | with_reducible apply Bk.Blk.alloc)))
  replace r1 : Bk.Blk w3 (w.heap.size + 1 + 1) 27 #[.int .i64 0, .int .i64 0, .int .i64 0, .slice none 0 0] := Bk.Blk.under hb0 (by (repeat (first | with_reducible assumption | (with_reducible apply Bk.Blk.newAt; focus (first | (simp [Bk.size_set]; done) | (simp [Bk.size_set]; omega))) | with_reducible apply Bk.Blk.drewN | with_reducible apply Bk.Blk.drew | with_reducible apply Bk.Blk.set_ | (with_reducible apply Bk.Blk.far; focus (dsimp only; first | omega | (simp; omega) | (simp; done))) | with_reducible apply Bk.Blk.alloc)))
  replace B : Below w.heap.size w w3 := Below.trans (by go_grown) (hb0.mono (by first | omega | (simp [Bk.size_set]; done) | (simp [Bk.size_set]; omega)))
  have z3 := hb0.size
  (try simp only [World.size_alloc, Bk.size_set, World.size_drew, World.drewN] at z3)
  clear hb0
  have L_bk := Lay.f4 bk
  have L_bp := Lay.f3 bp
  have L_r1 := Lay.f4 r1
  have L_bo := Lay.f4 bo
  go_wp2_with fail
  clear L_bk L_bp L_r1 L_bo
  refine (auth_spec ke cn mc D m e bs true _ HK.out (by omega) (HBD.out.below B) HB.out (by omega) HAU.out).mono ?_
  rintro x w4 ⟨rfl, hb0⟩
  replace HO := own_belowE HO hb0
  replace bk : Bk.Blk w4 (w.heap.size) 27 #[.int .i64 ke, .int .i64 se, .int .i64 re, .slice A n c] := Bk.Blk.under hb0 (by (repeat (first | with_reducible assumption | (with_reducible apply Bk.Blk.newAt; focus (first | (simp [Bk.size_set]; done) | (simp [Bk.size_set]; omega))) | with_reducible apply Bk.Blk.drewN | with_reducible apply Bk.Blk.drew | with_reducible apply Bk.Blk.set_ | (with_reducible apply Bk.Blk.far; focus (dsimp only; first | omega | (simp; omega) | (simp; done))) | with_reducible apply Bk.Blk.alloc)))
  replace bp : Bk.Blk w4 (w.heap.size + 1) 29 #[.int .i64 cn, .slice D m e, .int .i64 mc] := Bk.Blk.under hb0 (by (repeat (first | with_reducible assumption | (with_reducible apply Bk.Blk.newAt; focus (first | (simp [Bk.size_set]; done) | (simp [Bk.size_set]; omega))) | with_reducible apply Bk.Blk.drewN | with_reducible apply Bk.Blk.drew | with_reducible apply Bk.Blk.set_ | (with_reducible apply Bk.Blk.far; focus (dsimp only; first | omega | (simp; omega) | (simp; done))) | with_reducible apply Bk.Blk.alloc)))
  replace r1 : Bk.Blk w4 (w.heap.size + 1 + 1) 27 #[.int .i64 0, .int .i64 0, .int .i64 0, .slice none 0 0] := Bk.Blk.under hb0 (by (repeat (first | with_reducible assumption | (with_reducible apply Bk.Blk.newAt; focus (first | (simp [Bk.size_set]; done) | (simp [Bk.size_set]; omega))) | with_reducible apply Bk.Blk.drewN | with_reducible apply Bk.Blk.drew | with_reducible apply Bk.Blk.set_ | (with_reducible apply Bk.Blk.far; focus (dsimp only; first | omega | (simp; omega) | (simp; done))) | with_reducible apply Bk.Blk.alloc)))
  replace bo : Bk.Blk w4 (w2.heap.size) 27 #[.int .i64 ke, .int .i64 se, .int .i64 re, .slice A1 n c1] := Bk.Blk.under hb0 (by (repeat (first | with_reducible assumption | (with_reducible apply Bk.Blk.newAt; focus (first | (simp [Bk.size_set]; done) | (simp [Bk.size_set]; omega))) | with_reducible apply Bk.Blk.drewN | with_reducible apply Bk.Blk.drew | with_reducible apply Bk.Blk.set_ | (with_reducible apply Bk.Blk.far; focus (dsimp only; first | omega | (simp; omega) | (simp; done))) | with_reducible apply Bk.Blk.alloc)))
  replace B : Below w.heap.size w w4 := Below.trans (by go_grown) (hb0.mono (by first | omega | (simp [Bk.size_set]; done) | (simp [Bk.size_set]; omega)))
  have z4 := hb0.size
  (try simp only [World.size_alloc, Bk.size_set, World.size_drew, World.drewN] at z4)
  clear hb0
  have L_bk := Lay.f4 bk
  have L_bp := Lay.f3 bp
  have L_r1 := Lay.f4 r1
  have L_bo := Lay.f4 bo
  go_wp2_with (first | (go_at_call 51; refine (in_spec_yes _ _ _ _ (by omega) (by omega)).mono ?_; rintro e w' ⟨rfl, rfl⟩))
  clear L_bk L_bp L_r1 L_bo
  generalize hW : World.setCell _ _ _ = w6
  replace HO := hW ▸ own_farK (o := 2) HO bo (by decide) (.int .i64 cn)
  replace bo : Bk.Blk w6 (w2.heap.size) 27 #[.int .i64 ke, .int .i64 se, .int .i64 cn, .slice A1 n c1] := (by rw [← hW]; apply Bk.Blk.to; (focus ((repeat (first | with_reducible assumption | (with_reducible apply Bk.Blk.newAt; focus (first | (simp [Bk.size_set]; done) | (simp [Bk.size_set]; omega))) | with_reducible apply Bk.Blk.drewN | with_reducible apply Bk.Blk.drew | with_reducible apply Bk.Blk.set_ | (with_reducible apply Bk.Blk.far; focus (dsimp only; first | omega | (simp; omega) | (simp; done))) | with_reducible apply Bk.Blk.alloc)))); rfl)
  replace bk : Bk.Blk w6 (w.heap.size) 27 #[.int .i64 ke, .int .i64 se, .int .i64 re, .slice A n c] := (by rw [← hW]; (repeat (first | with_reducible assumption | (with_reducible apply Bk.Blk.newAt; focus (first | (simp [Bk.size_set]; done) | (simp [Bk.size_set]; omega))) | with_reducible apply Bk.Blk.drewN | with_reducible apply Bk.Blk.drew | with_reducible apply Bk.Blk.set_ | (with_reducible apply Bk.Blk.far; focus (dsimp only; first | omega | (simp; omega) | (simp; done))) | with_reducible apply Bk.Blk.alloc)))
  replace bp : Bk.Blk w6 (w.heap.size + 1) 29 #[.int .i64 cn, .slice D m e, .int .i64 mc] := (by rw [← hW]; (repeat (first | with_reducible assumption | (with_reducible apply Bk.Blk.newAt; focus (first | (simp [Bk.size_set]; done) | (simp [Bk.size_set]; omega))) | with_reducible apply Bk.Blk.drewN | with_reducible apply Bk.Blk.drew | with_reducible apply Bk.Blk.set_ | (with_reducible apply Bk.Blk.far; focus (dsimp only; first | omega | (simp; omega) | (simp; done))) | with_reducible apply Bk.Blk.alloc)))
  replace r1 : Bk.Blk w6 (w.heap.size + 1 + 1) 27 #[.int .i64 0, .int .i64 0, .int .i64 0, .slice none 0 0] := (by rw [← hW]; (repeat (first | with_reducible assumption | (with_reducible apply Bk.Blk.newAt; focus (first | (simp [Bk.size_set]; done) | (simp [Bk.size_set]; omega))) | with_reducible apply Bk.Blk.drewN | with_reducible apply Bk.Blk.drew | with_reducible apply Bk.Blk.set_ | (with_reducible apply Bk.Blk.far; focus (dsimp only; first | omega | (simp; omega) | (simp; done))) | with_reducible apply Bk.Blk.alloc)))
  replace B : Below w.heap.size w w6 := (by rw [← hW]; go_grown)
  have z6 : w6.heap.size = _ := congrArg (fun W : World => W.heap.size) hW.symm
  (try simp only [World.size_alloc, Bk.size_set, World.size_drew, World.drewN] at z6)
  clear hW
  have HCB := Lib.hid (cip_bd ke cn)
  generalize hck : cipM ke cn = ck at *
  have HCK := Lib.hid hck
  clear hck
  have L_bk := Lay.f4 bk
  have L_bp := Lay.f3 bp
  have L_r1 := Lay.f4 r1
  have L_bo := Lay.f4 bo
  refine wp_region_held_drew (S := (fun w' => Bk.Blk w' (w.heap.size) 27 #[.int .i64 ke, .int .i64 se, .int .i64 re, .slice A n c] ∧ Bk.Blk w' (w.heap.size + 1) 29 #[.int .i64 cn, .slice D m e, .int .i64 mc] ∧ Bk.Blk w' (w2.heap.size) 27 #[.int .i64 ke, .int .i64 se, .int .i64 cn, .slice A1 n c1])) (by kernel_rfl) ?_ (fun hHeld => ?_)
  · (try dsimp only); (refine ⟨?_, ?_, ?_⟩ <;> (repeat (first | with_reducible assumption | (with_reducible apply Bk.Blk.newAt; focus (first | (simp [Bk.size_set]; done) | (simp [Bk.size_set]; omega))) | with_reducible apply Bk.Blk.drewN | with_reducible apply Bk.Blk.drew | with_reducible apply Bk.Blk.set_ | (with_reducible apply Bk.Blk.far; focus (dsimp only; first | omega | (simp; omega) | (simp; done))) | with_reducible apply Bk.Blk.alloc)))
  first | (refine wpAnyH_take (i := 0) (v := ?_) (Reg.get rfl) (by kernel_rfl) (by kernel_rfl) (by kernel_rfl) (fun _ _ _ h => h) (Or.inl ⟨by rfl, ?_⟩) hHeld ?_; rotate_left 1; (focus (intro wq hSw; (try dsimp only at hSw); obtain ⟨s_bk, s_bp, s_bo⟩ := hSw; have L_bk := Lay.c4 s_bk; have L_bp := Lay.c3 s_bp; have L_bo := Lay.c4 s_bo;  go_simp <;> with_reducible rfl))) | (refine wpAnyH_take (i := 0) (v := undef) (Reg.get rfl) (by kernel_rfl) (by kernel_rfl) (by kernel_rfl) (fun _ _ _ h => h) (Or.inr ⟨by rfl, rfl⟩) hHeld ?_)
  try simp only [Act.put, List.setIfInBounds_toArray, List.set_cons_zero, List.set_cons_succ]
  first | (refine wpAnyH_take (i := 1) (v := ?_) (Reg.get rfl) (by kernel_rfl) (by kernel_rfl) (by kernel_rfl) (fun _ _ _ h => h) (Or.inl ⟨by rfl, ?_⟩) hHeld ?_; rotate_left 1; (focus (intro wq hSw; (try dsimp only at hSw); obtain ⟨s_bk, s_bp, s_bo⟩ := hSw; have L_bk := Lay.c4 s_bk; have L_bp := Lay.c3 s_bp; have L_bo := Lay.c4 s_bo;  go_simp <;> with_reducible rfl))) | (refine wpAnyH_take (i := 1) (v := undef) (Reg.get rfl) (by kernel_rfl) (by kernel_rfl) (by kernel_rfl) (fun _ _ _ h => h) (Or.inr ⟨by rfl, rfl⟩) hHeld ?_)
  try simp only [Act.put, List.setIfInBounds_toArray, List.set_cons_zero, List.set_cons_succ]
  first | (refine wpAnyH_take (i := 2) (v := ?_) (Reg.get rfl) (by kernel_rfl) (by kernel_rfl) (by kernel_rfl) (fun _ _ _ h => h) (Or.inl ⟨by rfl, ?_⟩) hHeld ?_; rotate_left 1; (focus (intro wq hSw; (try dsimp only at hSw); obtain ⟨s_bk, s_bp, s_bo⟩ := hSw; have L_bk := Lay.c4 s_bk; have L_bp := Lay.c3 s_bp; have L_bo := Lay.c4 s_bo;  go_simp <;> with_reducible rfl))) | (refine wpAnyH_take (i := 2) (v := undef) (Reg.get rfl) (by kernel_rfl) (by kernel_rfl) (by kernel_rfl) (fun _ _ _ h => h) (Or.inr ⟨by rfl, rfl⟩) hHeld ?_)
  try simp only [Act.put, List.setIfInBounds_toArray, List.set_cons_zero, List.set_cons_succ]
  first | (refine wpAnyH_take (i := 3) (v := ?_) (Reg.get rfl) (by kernel_rfl) (by kernel_rfl) (by kernel_rfl) (fun _ _ _ h => h) (Or.inl ⟨by rfl, ?_⟩) hHeld ?_; rotate_left 1; (focus (intro wq hSw; (try dsimp only at hSw); obtain ⟨s_bk, s_bp, s_bo⟩ := hSw; have L_bk := Lay.c4 s_bk; have L_bp := Lay.c3 s_bp; have L_bo := Lay.c4 s_bo;  go_simp <;> with_reducible rfl))) | (refine wpAnyH_take (i := 3) (v := undef) (Reg.get rfl) (by kernel_rfl) (by kernel_rfl) (by kernel_rfl) (fun _ _ _ h => h) (Or.inr ⟨by rfl, rfl⟩) hHeld ?_)
  try simp only [Act.put, List.setIfInBounds_toArray, List.set_cons_zero, List.set_cons_succ]
  first | (refine wpAnyH_take (i := 4) (v := ?_) (Reg.get rfl) (by kernel_rfl) (by kernel_rfl) (by kernel_rfl) (fun _ _ _ h => h) (Or.inl ⟨by rfl, ?_⟩) hHeld ?_; rotate_left 1; (focus (intro wq hSw; (try dsimp only at hSw); obtain ⟨s_bk, s_bp, s_bo⟩ := hSw; have L_bk := Lay.c4 s_bk; have L_bp := Lay.c3 s_bp; have L_bo := Lay.c4 s_bo;  go_simp <;> with_reducible rfl))) | (refine wpAnyH_take (i := 4) (v := undef) (Reg.get rfl) (by kernel_rfl) (by kernel_rfl) (by kernel_rfl) (fun _ _ _ h => h) (Or.inr ⟨by rfl, rfl⟩) hHeld ?_)
  try simp only [Act.put, List.setIfInBounds_toArray, List.set_cons_zero, List.set_cons_succ]
  first | (refine wpAnyH_take (i := 6) (v := ?_) (Reg.get rfl) (by kernel_rfl) (by kernel_rfl) (by kernel_rfl) (fun _ _ _ h => h) (Or.inl ⟨by rfl, ?_⟩) hHeld ?_; rotate_left 1; (focus (intro wq hSw; (try dsimp only at hSw); obtain ⟨s_bk, s_bp, s_bo⟩ := hSw; have L_bk := Lay.c4 s_bk; have L_bp := Lay.c3 s_bp; have L_bo := Lay.c4 s_bo;  go_simp <;> with_reducible rfl))) | (refine wpAnyH_take (i := 6) (v := undef) (Reg.get rfl) (by kernel_rfl) (by kernel_rfl) (by kernel_rfl) (fun _ _ _ h => h) (Or.inr ⟨by rfl, rfl⟩) hHeld ?_)
  try simp only [Act.put, List.setIfInBounds_toArray, List.set_cons_zero, List.set_cons_succ]
  first | (refine wpAnyH_take (i := 7) (v := ?_) (Reg.get rfl) (by kernel_rfl) (by kernel_rfl) (by kernel_rfl) (fun _ _ _ h => h) (Or.inl ⟨by rfl, ?_⟩) hHeld ?_; rotate_left 1; (focus (intro wq hSw; (try dsimp only at hSw); obtain ⟨s_bk, s_bp, s_bo⟩ := hSw; have L_bk := Lay.c4 s_bk; have L_bp := Lay.c3 s_bp; have L_bo := Lay.c4 s_bo;  go_simp <;> with_reducible rfl))) | (refine wpAnyH_take (i := 7) (v := undef) (Reg.get rfl) (by kernel_rfl) (by kernel_rfl) (by kernel_rfl) (fun _ _ _ h => h) (Or.inr ⟨by rfl, rfl⟩) hHeld ?_)
  try simp only [Act.put, List.setIfInBounds_toArray, List.set_cons_zero, List.set_cons_succ]
  first | ((refine wpAnyH_take (i := 5) (v := undef) (Reg.get rfl) (by kernel_rfl) (by kernel_rfl) (by kernel_rfl) (fun _ _ _ h => h) (Or.inr ⟨by rfl, rfl⟩) hHeld ?_)) | (refine wpAnyH_ready (rs := [5]) (by kernel_rfl) (by simp) ?_; refine AllReadyH.cons (Reg.get rfl) (fun K hK => ?_) AllReadyH.nil; clear hHeld; go_simp; ((go_at_call 34; refine (cipher_spec ke cn (by omega) (by omega) _ HK.out).mono ?_; rintro x w7 ⟨rfl, hb0⟩; rw [HCK.out]; (first | replace HO := own_belowE HO hb0 | replace HO := own_belowE (own_drewE HO) hb0); clear L_bk L_bp L_r1 L_bo; replace bk : Bk.Blk w7 (w.heap.size) 27 #[.int .i64 ke, .int .i64 se, .int .i64 re, .slice A n c] := Bk.Blk.under hb0 (by (repeat (first | with_reducible assumption | (with_reducible apply Bk.Blk.newAt; focus (first | (simp [Bk.size_set]; done) | (simp [Bk.size_set]; omega))) | with_reducible apply Bk.Blk.drewN | with_reducible apply Bk.Blk.drew | with_reducible apply Bk.Blk.set_ | (with_reducible apply Bk.Blk.far; focus (dsimp only; first | omega | (simp; omega) | (simp; done))) | with_reducible apply Bk.Blk.alloc))); replace bp : Bk.Blk w7 (w.heap.size + 1) 29 #[.int .i64 cn, .slice D m e, .int .i64 mc] := Bk.Blk.under hb0 (by (repeat (first | with_reducible assumption | (with_reducible apply Bk.Blk.newAt; focus (first | (simp [Bk.size_set]; done) | (simp [Bk.size_set]; omega))) | with_reducible apply Bk.Blk.drewN | with_reducible apply Bk.Blk.drew | with_reducible apply Bk.Blk.set_ | (with_reducible apply Bk.Blk.far; focus (dsimp only; first | omega | (simp; omega) | (simp; done))) | with_reducible apply Bk.Blk.alloc))); replace r1 : Bk.Blk w7 (w.heap.size + 1 + 1) 27 #[.int .i64 0, .int .i64 0, .int .i64 0, .slice none 0 0] := Bk.Blk.under hb0 (by (repeat (first | with_reducible assumption | (with_reducible apply Bk.Blk.newAt; focus (first | (simp [Bk.size_set]; done) | (simp [Bk.size_set]; omega))) | with_reducible apply Bk.Blk.drewN | with_reducible apply Bk.Blk.drew | with_reducible apply Bk.Blk.set_ | (with_reducible apply Bk.Blk.far; focus (dsimp only; first | omega | (simp; omega) | (simp; done))) | with_reducible apply Bk.Blk.alloc))); replace bo : Bk.Blk w7 (w2.heap.size) 27 #[.int .i64 ke, .int .i64 se, .int .i64 cn, .slice A1 n c1] := Bk.Blk.under hb0 (by (repeat (first | with_reducible assumption | (with_reducible apply Bk.Blk.newAt; focus (first | (simp [Bk.size_set]; done) | (simp [Bk.size_set]; omega))) | with_reducible apply Bk.Blk.drewN | with_reducible apply Bk.Blk.drew | with_reducible apply Bk.Blk.set_ | (with_reducible apply Bk.Blk.far; focus (dsimp only; first | omega | (simp; omega) | (simp; done))) | with_reducible apply Bk.Blk.alloc))); replace B : Below w.heap.size w w7 := Below.trans (by go_grown) (hb0.mono (by first | omega | (simp [Bk.size_set]; done) | (simp [Bk.size_set]; omega))); have z7 := hb0.size; (try simp only [World.size_alloc, Bk.size_set, World.size_drew, World.drewN] at z7); clear hb0; have L_bk := Lay.f4 bk; have L_bp := Lay.f3 bp; have L_r1 := Lay.f4 r1; have L_bo := Lay.f4 bo)); refine hK.out _ _ ?_ (fun hHeld => ?_); ((try dsimp only); (refine ⟨?_, ?_, ?_⟩ <;> (repeat (first | with_reducible assumption | (with_reducible apply Bk.Blk.newAt; focus (first | (simp [Bk.size_set]; done) | (simp [Bk.size_set]; omega))) | with_reducible apply Bk.Blk.drewN | with_reducible apply Bk.Blk.drew | with_reducible apply Bk.Blk.set_ | (with_reducible apply Bk.Blk.far; focus (dsimp only; first | omega | (simp; omega) | (simp; done))) | with_reducible apply Bk.Blk.alloc)))); clear hK K)
  try simp only [Act.put, List.setIfInBounds_toArray, List.set_cons_zero, List.set_cons_succ]
  first | ((refine wpAnyH_take (i := 8) (v := undef) (Reg.get rfl) (by kernel_rfl) (by kernel_rfl) (by kernel_rfl) (fun _ _ _ h => h) (Or.inr ⟨by rfl, rfl⟩) hHeld ?_)) | (refine wpAnyH_ready (rs := [8]) (by kernel_rfl) (by simp) ?_; refine AllReadyH.cons (Reg.get rfl) (fun K hK => ?_) AllReadyH.nil; clear hHeld; go_simp; ((go_at_call 81; refine (decrypt_spec ck D m e bs _ HCB.out (by first | exact HBD.out.below B | exact (HBD.out.below B).drew) HB.out (by omega)).mono ?_; rintro x w8 ⟨E, f, rfl, hown, hb0⟩; have hz7 : w.heap.size + 1 + 1 < w7.heap.size := r1.lt; have HD := own_monoK hown (show w7.heap.size ≤ _ from (by first | omega | (simp; done) | (simp; omega))); (first | replace HO := own_belowE HO hb0 | replace HO := own_belowE (own_drewE HO) hb0); clear hown; clear L_bk L_bp L_r1 L_bo; replace bk : Bk.Blk w8 (w.heap.size) 27 #[.int .i64 ke, .int .i64 se, .int .i64 re, .slice A n c] := Bk.Blk.under hb0 (by (repeat (first | with_reducible assumption | (with_reducible apply Bk.Blk.newAt; focus (first | (simp [Bk.size_set]; done) | (simp [Bk.size_set]; omega))) | with_reducible apply Bk.Blk.drewN | with_reducible apply Bk.Blk.drew | with_reducible apply Bk.Blk.set_ | (with_reducible apply Bk.Blk.far; focus (dsimp only; first | omega | (simp; omega) | (simp; done))) | with_reducible apply Bk.Blk.alloc))); replace bp : Bk.Blk w8 (w.heap.size + 1) 29 #[.int .i64 cn, .slice D m e, .int .i64 mc] := Bk.Blk.under hb0 (by (repeat (first | with_reducible assumption | (with_reducible apply Bk.Blk.newAt; focus (first | (simp [Bk.size_set]; done) | (simp [Bk.size_set]; omega))) | with_reducible apply Bk.Blk.drewN | with_reducible apply Bk.Blk.drew | with_reducible apply Bk.Blk.set_ | (with_reducible apply Bk.Blk.far; focus (dsimp only; first | omega | (simp; omega) | (simp; done))) | with_reducible apply Bk.Blk.alloc))); replace r1 : Bk.Blk w8 (w.heap.size + 1 + 1) 27 #[.int .i64 0, .int .i64 0, .int .i64 0, .slice none 0 0] := Bk.Blk.under hb0 (by (repeat (first | with_reducible assumption | (with_reducible apply Bk.Blk.newAt; focus (first | (simp [Bk.size_set]; done) | (simp [Bk.size_set]; omega))) | with_reducible apply Bk.Blk.drewN | with_reducible apply Bk.Blk.drew | with_reducible apply Bk.Blk.set_ | (with_reducible apply Bk.Blk.far; focus (dsimp only; first | omega | (simp; omega) | (simp; done))) | with_reducible apply Bk.Blk.alloc))); replace bo : Bk.Blk w8 (w2.heap.size) 27 #[.int .i64 ke, .int .i64 se, .int .i64 cn, .slice A1 n c1] := Bk.Blk.under hb0 (by (repeat (first | with_reducible assumption | (with_reducible apply Bk.Blk.newAt; focus (first | (simp [Bk.size_set]; done) | (simp [Bk.size_set]; omega))) | with_reducible apply Bk.Blk.drewN | with_reducible apply Bk.Blk.drew | with_reducible apply Bk.Blk.set_ | (with_reducible apply Bk.Blk.far; focus (dsimp only; first | omega | (simp; omega) | (simp; done))) | with_reducible apply Bk.Blk.alloc))); replace B : Below w.heap.size w w8 := Below.trans (by go_grown) (hb0.mono (by first | omega | (simp [Bk.size_set]; done) | (simp [Bk.size_set]; omega))); have z8 := hb0.size; (try simp only [World.size_alloc, Bk.size_set, World.size_drew, World.drewN] at z8); clear hb0; have L_bk := Lay.f4 bk; have L_bp := Lay.f3 bp; have L_r1 := Lay.f4 r1; have L_bo := Lay.f4 bo)); refine hK.out _ _ ?_ (fun hHeld => ?_); ((try dsimp only); (refine ⟨?_, ?_, ?_⟩ <;> (repeat (first | with_reducible assumption | (with_reducible apply Bk.Blk.newAt; focus (first | (simp [Bk.size_set]; done) | (simp [Bk.size_set]; omega))) | with_reducible apply Bk.Blk.drewN | with_reducible apply Bk.Blk.drew | with_reducible apply Bk.Blk.set_ | (with_reducible apply Bk.Blk.far; focus (dsimp only; first | omega | (simp; omega) | (simp; done))) | with_reducible apply Bk.Blk.alloc)))); clear hK K)
  try simp only [Act.put, List.setIfInBounds_toArray, List.set_cons_zero, List.set_cons_succ]
  first | ((refine wpAnyH_take (i := 9) (v := undef) (Reg.get rfl) (by kernel_rfl) (by kernel_rfl) (by kernel_rfl) (fun _ _ _ h => h) (Or.inr ⟨by rfl, rfl⟩) hHeld ?_)) | (refine wpAnyH_ready (rs := [9]) (by kernel_rfl) (by simp) ?_; refine AllReadyH.cons (Reg.get rfl) (fun K hK => ?_) AllReadyH.nil; clear hHeld; go_simp; (skip); refine hK.out _ _ ?_ (fun hHeld => ?_); ((try dsimp only); (refine ⟨?_, ?_, ?_⟩ <;> (repeat (first | with_reducible assumption | (with_reducible apply Bk.Blk.newAt; focus (first | (simp [Bk.size_set]; done) | (simp [Bk.size_set]; omega))) | with_reducible apply Bk.Blk.drewN | with_reducible apply Bk.Blk.drew | with_reducible apply Bk.Blk.set_ | (with_reducible apply Bk.Blk.far; focus (dsimp only; first | omega | (simp; omega) | (simp; done))) | with_reducible apply Bk.Blk.alloc)))); clear hK K)
  try simp only [Act.put, List.setIfInBounds_toArray, List.set_cons_zero, List.set_cons_succ]
  first | (refine wpAnyH_take (i := 10) (v := ?_) (Reg.get rfl) (by kernel_rfl) (by kernel_rfl) (by kernel_rfl) (fun _ _ _ h => h) (Or.inl ⟨by rfl, ?_⟩) hHeld ?_; rotate_left 1; (focus (intro wq hSw; (try dsimp only at hSw); obtain ⟨s_bk, s_bp, s_bo⟩ := hSw; have L_bk := Lay.c4 s_bk; have L_bp := Lay.c3 s_bp; have L_bo := Lay.c4 s_bo;  go_simp <;> with_reducible rfl))) | (refine wpAnyH_take (i := 10) (v := undef) (Reg.get rfl) (by kernel_rfl) (by kernel_rfl) (by kernel_rfl) (fun _ _ _ h => h) (Or.inr ⟨by rfl, rfl⟩) hHeld ?_)
  try simp only [Act.put, List.setIfInBounds_toArray, List.set_cons_zero, List.set_cons_succ]
  first | (refine wpAnyH_take (i := 11) (v := ?_) (Reg.get rfl) (by kernel_rfl) (by kernel_rfl) (by kernel_rfl) (fun _ _ _ h => h) (Or.inl ⟨by rfl, ?_⟩) hHeld ?_; rotate_left 1; (focus (intro wq hSw; (try dsimp only at hSw); obtain ⟨s_bk, s_bp, s_bo⟩ := hSw; have L_bk := Lay.c4 s_bk; have L_bp := Lay.c3 s_bp; have L_bo := Lay.c4 s_bo;  go_simp <;> with_reducible rfl))) | (refine wpAnyH_take (i := 11) (v := undef) (Reg.get rfl) (by kernel_rfl) (by kernel_rfl) (by kernel_rfl) (fun _ _ _ h => h) (Or.inr ⟨by rfl, rfl⟩) hHeld ?_)
  try simp only [Act.put, List.setIfInBounds_toArray, List.set_cons_zero, List.set_cons_succ]
  refine wpAnyH_done (by kernel_rfl) ?_ _
  clear L_bk L_bp L_r1 L_bo
  generalize hW : World.setCell _ _ _ = w9
  have HO2 := Lib.hid (show w9.ownsRow w.heap.size 3 1 (.slice A1 n c1) n (zs.map (Value.int .i64)) from by rw [← hW]; exact (own_low HO (by omega) (by repeat (first | with_reducible exact HO | (with_reducible refine own_set ?_ (by dsimp only; omega) _) | with_reducible refine own_drewE ?_))))
  have HD2 := Lib.hid (show w9.ownsRow w.heap.size 5 1 (.slice E m f) m ((decL ck bs).map (Value.int .u8)) from by rw [← hW]; exact (own_low HD (by omega) (by repeat (first | with_reducible exact HD | (with_reducible refine own_set ?_ (by dsimp only; omega) _) | with_reducible refine own_drewE ?_))))
  replace r1 : Bk.Blk w9 (w.heap.size + 1 + 1) 27 #[.int .i64 ke, .int .i64 se, .int .i64 cn, .slice A1 n c1] := (by rw [← hW]; apply Bk.Blk.to; (focus ((repeat (first | with_reducible assumption | (with_reducible apply Bk.Blk.newAt; focus (first | (simp [Bk.size_set]; done) | (simp [Bk.size_set]; omega))) | with_reducible apply Bk.Blk.drewN | with_reducible apply Bk.Blk.drew | with_reducible apply Bk.Blk.set_ | (with_reducible apply Bk.Blk.far; focus (dsimp only; first | omega | (simp; omega) | (simp; done))) | with_reducible apply Bk.Blk.alloc)))); rfl)
  replace B : Below w.heap.size w w9 := (by rw [← hW]; go_grown)
  have z9 : w9.heap.size = _ := congrArg (fun W : World => W.heap.size) hW.symm
  (try simp only [World.size_alloc, Bk.size_set, World.size_drew, World.drewN] at z9)
  clear hW
  have L_r1 := Lay.c4 r1
  go_wp2
  refine bodyPost_ret (v := .tuple #[.agg #[.int .i64 ke, .int .i64 se, .int .i64 cn, .slice A1 n c1], .slice E m f, .bool true]) (by simp [results, Tryd.results77, go_sem, L_r1]) rfl (⟨A1, c1, E, f, rfl, HO2.out, HD2.out, (by first | exact B | exact B.drew)⟩)
set_option maxRecDepth 100000 in
set_option maxHeartbeats 8000000 in
theorem open_spec_no (ke se re cn mc : Int) (A : Option Addr) (n c : Nat) (zs : List Int) (D : Option Addr) (m e : Nat) (bs : List Int) (w : World) (hp : ¬ openP ke se re cn mc zs n bs) (hcn : -9223372036854775808 ≤ cn ∧ cn ≤ 9223372036854775807) (hr : Rd w 1 A n c (zs.map (Value.int .i64))) (hn : n ≤ 2097152) (hbd : Rd w 1 D m e (bs.map (Value.int .u8))) (hb : AllBytes bs) (hm : m ≤ 2097151) :
    Calls Tryd.prog 77 #[.agg #[.int .i64 ke, .int .i64 se, .int .i64 re, .slice A n c], .agg #[.int .i64 cn, .slice D m e, .int .i64 mc]] w (RetOf w ke se re n zs 0 [] false) := by
  have hcase : (¬ validK ke se re zs n) ∨ (validK ke se re zs n ∧ (ke == 0) = true) ∨ (validK ke se re zs n ∧ (ke == 0) = false ∧ (mc == macF ke cn bs) = false) ∨ (validK ke se re zs n ∧ (ke == 0) = false ∧ (mc == macF ke cn bs) = true ∧ (cn ≤ re ∨ (re < cn ∧ 1000000 < cn))) := by
    by_cases h1 : validK ke se re zs n
    · right
      by_cases h2 : ke = 0
      · exact .inl ⟨h1, by simpa using h2⟩
      · right
        by_cases h3 : mc = macF ke cn bs
        · right
          refine ⟨h1, by simpa using h2, by simpa using h3, ?_⟩
          by_cases h4 : cn ≤ re
          · exact .inl h4
          · by_cases h5 : cn ≤ 1000000
            · exact absurd ⟨h1, h2, h3, by omega, h5⟩ hp
            · exact .inr ⟨by omega, by omega⟩
        · exact .inl ⟨h1, by simpa using h2, by simpa using h3⟩
    · exact .inl h1
  have HR := Lib.hid hr
  have HBD := Lib.hid hbd
  have HB := Lib.hid hb
  have B : Below w.heap.size w w := Below.refl _ _
  have HKB := Lib.hid (show validK ke se re zs n → (-9223372036854775808 ≤ ke ∧ ke ≤ 9223372036854775807) from fun h => by have := h.1.1; omega)
  have HRB := Lib.hid (show validK ke se re zs n → (0 ≤ re ∧ re ≤ 1000000) from fun h => h.1.2.2.1)
  clear hr hp hbd hb
  go_enter Tryd.func77, Tryd.ntmps77
  go_wp2_with fail
  generalize hW : World.alloc _ _ = w1
  have bk : Bk.Blk w1 (w.heap.size) 27 #[.int .i64 ke, .int .i64 se, .int .i64 re, .slice A n c] := (by rw [← hW]; apply Bk.Blk.to; (focus ((repeat (first | with_reducible assumption | (with_reducible apply Bk.Blk.newAt; focus (first | (simp [Bk.size_set]; done) | (simp [Bk.size_set]; omega))) | with_reducible apply Bk.Blk.drewN | with_reducible apply Bk.Blk.drew | with_reducible apply Bk.Blk.set_ | (with_reducible apply Bk.Blk.far; focus (dsimp only; first | omega | (simp; omega) | (simp; done))) | with_reducible apply Bk.Blk.alloc)))); rfl)
  have bp : Bk.Blk w1 (w.heap.size + 1) 29 #[.int .i64 cn, .slice D m e, .int .i64 mc] := (by rw [← hW]; apply Bk.Blk.to; (focus ((repeat (first | with_reducible assumption | (with_reducible apply Bk.Blk.newAt; focus (first | (simp [Bk.size_set]; done) | (simp [Bk.size_set]; omega))) | with_reducible apply Bk.Blk.drewN | with_reducible apply Bk.Blk.drew | with_reducible apply Bk.Blk.set_ | (with_reducible apply Bk.Blk.far; focus (dsimp only; first | omega | (simp; omega) | (simp; done))) | with_reducible apply Bk.Blk.alloc)))); rfl)
  have r1 : Bk.Blk w1 (w.heap.size + 1 + 1) 27 #[.int .i64 0, .int .i64 0, .int .i64 0, .slice none 0 0] := (by rw [← hW]; apply Bk.Blk.to; (focus ((repeat (first | with_reducible assumption | (with_reducible apply Bk.Blk.newAt; focus (first | (simp [Bk.size_set]; done) | (simp [Bk.size_set]; omega))) | with_reducible apply Bk.Blk.drewN | with_reducible apply Bk.Blk.drew | with_reducible apply Bk.Blk.set_ | (with_reducible apply Bk.Blk.far; focus (dsimp only; first | omega | (simp; omega) | (simp; done))) | with_reducible apply Bk.Blk.alloc)))); rfl)
  replace B : Below w.heap.size w w1 := (by rw [← hW]; go_grown)
  have z1 : w1.heap.size = _ := congrArg (fun W : World => W.heap.size) hW.symm
  (try simp only [World.size_alloc, Bk.size_set, World.size_drew, World.drewN] at z1)
  clear hW
  refine (copy_spec ke se re A n c zs _ (HR.out.below B) (by omega)).mono ?_
  rintro x w2 ⟨A1, c1, rfl, hown, hb0⟩
  have HO := hown
  replace bk : Bk.Blk w2 (w.heap.size) 27 #[.int .i64 ke, .int .i64 se, .int .i64 re, .slice A n c] := Bk.Blk.under hb0 (by (repeat (first | with_reducible assumption | (with_reducible apply Bk.Blk.newAt; focus (first | (simp [Bk.size_set]; done) | (simp [Bk.size_set]; omega))) | with_reducible apply Bk.Blk.drewN | with_reducible apply Bk.Blk.drew | with_reducible apply Bk.Blk.set_ | (with_reducible apply Bk.Blk.far; focus (dsimp only; first | omega | (simp; omega) | (simp; done))) | with_reducible apply Bk.Blk.alloc)))
  replace bp : Bk.Blk w2 (w.heap.size + 1) 29 #[.int .i64 cn, .slice D m e, .int .i64 mc] := Bk.Blk.under hb0 (by (repeat (first | with_reducible assumption | (with_reducible apply Bk.Blk.newAt; focus (first | (simp [Bk.size_set]; done) | (simp [Bk.size_set]; omega))) | with_reducible apply Bk.Blk.drewN | with_reducible apply Bk.Blk.drew | with_reducible apply Bk.Blk.set_ | (with_reducible apply Bk.Blk.far; focus (dsimp only; first | omega | (simp; omega) | (simp; done))) | with_reducible apply Bk.Blk.alloc)))
  replace r1 : Bk.Blk w2 (w.heap.size + 1 + 1) 27 #[.int .i64 0, .int .i64 0, .int .i64 0, .slice none 0 0] := Bk.Blk.under hb0 (by (repeat (first | with_reducible assumption | (with_reducible apply Bk.Blk.newAt; focus (first | (simp [Bk.size_set]; done) | (simp [Bk.size_set]; omega))) | with_reducible apply Bk.Blk.drewN | with_reducible apply Bk.Blk.drew | with_reducible apply Bk.Blk.set_ | (with_reducible apply Bk.Blk.far; focus (dsimp only; first | omega | (simp; omega) | (simp; done))) | with_reducible apply Bk.Blk.alloc)))
  replace B : Below w.heap.size w w2 := Below.trans (by go_grown) (hb0.mono (by first | omega | (simp [Bk.size_set]; done) | (simp [Bk.size_set]; omega)))
  have z2 := hb0.size
  (try simp only [World.size_alloc, Bk.size_set, World.size_drew, World.drewN] at z2)
  clear hb0
  clear hown
  have L_bk := Lay.f4 bk
  have L_bp := Lay.f3 bp
  have L_r1 := Lay.f4 r1
  go_wp2_with fail
  clear L_bk L_bp L_r1
  rcases hcase with hv | ⟨hv, e1⟩ | ⟨hv, e1, hau⟩ | ⟨hv, e1, hau, hcc⟩
  all_goals
    first
      | refine (vN_spec ke se re A n c zs _ ((HR.out.below B).alloc _) hv).mono ?_
      | refine (vY_spec ke se re A n c zs _ ((HR.out.below B).alloc _) hv).mono ?_
    rintro x w3 ⟨rfl, hb0⟩
    have HV := Lib.hid hv
    clear hv
    have bo : Bk.Blk w3 (w2.heap.size) 27 #[.int .i64 ke, .int .i64 se, .int .i64 re, .slice A1 n c1] := (by apply Bk.Blk.to; (focus (apply Bk.Blk.under hb0; (repeat (first | with_reducible assumption | (with_reducible apply Bk.Blk.newAt; focus (first | (simp [Bk.size_set]; done) | (simp [Bk.size_set]; omega))) | with_reducible apply Bk.Blk.drewN | with_reducible apply Bk.Blk.drew | with_reducible apply Bk.Blk.set_ | (with_reducible apply Bk.Blk.far; focus (dsimp only; first | omega | (simp; omega) | (simp; done))) | with_reducible apply Bk.Blk.alloc)))); rfl)
    have HO3 := own_belowE (own_toE HO rfl) hb0
    clear HO
    have HO := HO3
    clear HO3
    replace bk : Bk.Blk w3 (w.heap.size) 27 #[.int .i64 ke, .int .i64 se, .int .i64 re, .slice A n c] := Bk.Blk.under hb0 (by (repeat (first | with_reducible assumption | (with_reducible apply Bk.Blk.newAt; focus (first | (simp [Bk.size_set]; done) | (simp [Bk.size_set]; omega))) | with_reducible apply Bk.Blk.drewN | with_reducible apply Bk.Blk.drew | with_reducible apply Bk.Blk.set_ | (with_reducible apply Bk.Blk.far; focus (dsimp only; first | omega | (simp; omega) | (simp; done))) | with_reducible apply Bk.Blk.alloc)))
    replace bp : Bk.Blk w3 (w.heap.size + 1) 29 #[.int .i64 cn, .slice D m e, .int .i64 mc] := Bk.Blk.under hb0 (by (repeat (first | with_reducible assumption | (with_reducible apply Bk.Blk.newAt; focus (first | (simp [Bk.size_set]; done) | (simp [Bk.size_set]; omega))) | with_reducible apply Bk.Blk.drewN | with_reducible apply Bk.Blk.drew | with_reducible apply Bk.Blk.set_ | (with_reducible apply Bk.Blk.far; focus (dsimp only; first | omega | (simp; omega) | (simp; done))) | with_reducible apply Bk.Blk.alloc)))
    replace r1 : Bk.Blk w3 (w.heap.size + 1 + 1) 27 #[.int .i64 0, .int .i64 0, .int .i64 0, .slice none 0 0] := Bk.Blk.under hb0 (by (repeat (first | with_reducible assumption | (with_reducible apply Bk.Blk.newAt; focus (first | (simp [Bk.size_set]; done) | (simp [Bk.size_set]; omega))) | with_reducible apply Bk.Blk.drewN | with_reducible apply Bk.Blk.drew | with_reducible apply Bk.Blk.set_ | (with_reducible apply Bk.Blk.far; focus (dsimp only; first | omega | (simp; omega) | (simp; done))) | with_reducible apply Bk.Blk.alloc)))
    replace B : Below w.heap.size w w3 := Below.trans (by go_grown) (hb0.mono (by first | omega | (simp [Bk.size_set]; done) | (simp [Bk.size_set]; omega)))
    have z3 := hb0.size
    (try simp only [World.size_alloc, Bk.size_set, World.size_drew, World.drewN] at z3)
    clear hb0
    have L_bk := Lay.f4 bk
    have L_bp := Lay.f3 bp
    have L_r1 := Lay.f4 r1
    have L_bo := Lay.f4 bo
  · skip
    go_wp2
    have zB := B.size
    clear L_bk L_bp L_r1 L_bo
    generalize hW : World.alloc _ _ = w10
    have HO2 := Lib.hid (show w10.ownsRow w.heap.size 3 1 (.slice A1 n c1) n (zs.map (Value.int .i64)) from by rw [← hW]; exact (own_low HO (by omega) (by repeat (first | with_reducible exact HO | (with_reducible refine own_set ?_ (by dsimp only; omega) _) | with_reducible refine own_drewE ?_ | with_reducible refine own_toE ?_ rfl))))
    have HD2 := Lib.hid (show w10.ownsRow w.heap.size 5 1 (.slice (some ⟨w3.heap.size, 0, none⟩) 0 0) 0 (([] : List Int).map (Value.int .u8)) from by rw [← hW]; exact own_empty _ _ _ _ _ (by simp [Bk.size_set]) (by omega))
    replace r1 : Bk.Blk w10 (w.heap.size + 1 + 1) 27 #[.int .i64 ke, .int .i64 se, .int .i64 re, .slice A1 n c1] := (by rw [← hW]; apply Bk.Blk.to; (focus ((repeat (first | with_reducible assumption | (with_reducible apply Bk.Blk.newAt; focus (first | (simp [Bk.size_set]; done) | (simp [Bk.size_set]; omega))) | with_reducible apply Bk.Blk.drewN | with_reducible apply Bk.Blk.drew | with_reducible apply Bk.Blk.set_ | (with_reducible apply Bk.Blk.far; focus (dsimp only; first | omega | (simp; omega) | (simp; done))) | with_reducible apply Bk.Blk.alloc)))); rfl)
    replace B : Below w.heap.size w w10 := (by rw [← hW]; go_grown)
    have z10 : w10.heap.size = _ := congrArg (fun W : World => W.heap.size) hW.symm
    (try simp only [World.size_alloc, Bk.size_set, World.size_drew, World.drewN] at z10)
    clear hW
    have L_r1 := Lay.c4 r1
    go_wp2
    refine bodyPost_ret (v := .tuple #[.agg #[.int .i64 ke, .int .i64 se, .int .i64 re, .slice A1 n c1], .slice (some ⟨w3.heap.size, 0, none⟩) 0 0, .bool false]) (by simp [results, Tryd.results77, go_sem, L_r1]) rfl (⟨A1, c1, _, 0, rfl, HO2.out, HD2.out, (by first | exact B | exact B.drew)⟩)
  · skip
    go_wp2
    have zB := B.size
    clear L_bk L_bp L_r1 L_bo
    generalize hW : World.alloc _ _ = w10
    have HO2 := Lib.hid (show w10.ownsRow w.heap.size 3 1 (.slice A1 n c1) n (zs.map (Value.int .i64)) from by rw [← hW]; exact (own_low HO (by omega) (by repeat (first | with_reducible exact HO | (with_reducible refine own_set ?_ (by dsimp only; omega) _) | with_reducible refine own_drewE ?_ | with_reducible refine own_toE ?_ rfl))))
    have HD2 := Lib.hid (show w10.ownsRow w.heap.size 5 1 (.slice (some ⟨w3.heap.size, 0, none⟩) 0 0) 0 (([] : List Int).map (Value.int .u8)) from by rw [← hW]; exact own_empty _ _ _ _ _ (by simp [Bk.size_set]) (by omega))
    replace r1 : Bk.Blk w10 (w.heap.size + 1 + 1) 27 #[.int .i64 ke, .int .i64 se, .int .i64 re, .slice A1 n c1] := (by rw [← hW]; apply Bk.Blk.to; (focus ((repeat (first | with_reducible assumption | (with_reducible apply Bk.Blk.newAt; focus (first | (simp [Bk.size_set]; done) | (simp [Bk.size_set]; omega))) | with_reducible apply Bk.Blk.drewN | with_reducible apply Bk.Blk.drew | with_reducible apply Bk.Blk.set_ | (with_reducible apply Bk.Blk.far; focus (dsimp only; first | omega | (simp; omega) | (simp; done))) | with_reducible apply Bk.Blk.alloc)))); rfl)
    replace B : Below w.heap.size w w10 := (by rw [← hW]; go_grown)
    have z10 : w10.heap.size = _ := congrArg (fun W : World => W.heap.size) hW.symm
    (try simp only [World.size_alloc, Bk.size_set, World.size_drew, World.drewN] at z10)
    clear hW
    have L_r1 := Lay.c4 r1
    go_wp2
    refine bodyPost_ret (v := .tuple #[.agg #[.int .i64 ke, .int .i64 se, .int .i64 re, .slice A1 n c1], .slice (some ⟨w3.heap.size, 0, none⟩) 0 0, .bool false]) (by simp [results, Tryd.results77, go_sem, L_r1]) rfl (⟨A1, c1, _, 0, rfl, HO2.out, HD2.out, (by first | exact B | exact B.drew)⟩)
  · skip
    have HAU := Lib.hid hau
    clear hau
    go_wp2_with fail
    clear L_bk L_bp L_r1 L_bo
    refine (auth_spec ke cn mc D m e bs false _ (HKB.out HV.out) (by omega) (HBD.out.below B) HB.out (by omega) HAU.out).mono ?_
    rintro x w4 ⟨rfl, hb0⟩
    replace HO := own_belowE HO hb0
    replace bk : Bk.Blk w4 (w.heap.size) 27 #[.int .i64 ke, .int .i64 se, .int .i64 re, .slice A n c] := Bk.Blk.under hb0 (by (repeat (first | with_reducible assumption | (with_reducible apply Bk.Blk.newAt; focus (first | (simp [Bk.size_set]; done) | (simp [Bk.size_set]; omega))) | with_reducible apply Bk.Blk.drewN | with_reducible apply Bk.Blk.drew | with_reducible apply Bk.Blk.set_ | (with_reducible apply Bk.Blk.far; focus (dsimp only; first | omega | (simp; omega) | (simp; done))) | with_reducible apply Bk.Blk.alloc)))
    replace bp : Bk.Blk w4 (w.heap.size + 1) 29 #[.int .i64 cn, .slice D m e, .int .i64 mc] := Bk.Blk.under hb0 (by (repeat (first | with_reducible assumption | (with_reducible apply Bk.Blk.newAt; focus (first | (simp [Bk.size_set]; done) | (simp [Bk.size_set]; omega))) | with_reducible apply Bk.Blk.drewN | with_reducible apply Bk.Blk.drew | with_reducible apply Bk.Blk.set_ | (with_reducible apply Bk.Blk.far; focus (dsimp only; first | omega | (simp; omega) | (simp; done))) | with_reducible apply Bk.Blk.alloc)))
    replace r1 : Bk.Blk w4 (w.heap.size + 1 + 1) 27 #[.int .i64 0, .int .i64 0, .int .i64 0, .slice none 0 0] := Bk.Blk.under hb0 (by (repeat (first | with_reducible assumption | (with_reducible apply Bk.Blk.newAt; focus (first | (simp [Bk.size_set]; done) | (simp [Bk.size_set]; omega))) | with_reducible apply Bk.Blk.drewN | with_reducible apply Bk.Blk.drew | with_reducible apply Bk.Blk.set_ | (with_reducible apply Bk.Blk.far; focus (dsimp only; first | omega | (simp; omega) | (simp; done))) | with_reducible apply Bk.Blk.alloc)))
    replace bo : Bk.Blk w4 (w2.heap.size) 27 #[.int .i64 ke, .int .i64 se, .int .i64 re, .slice A1 n c1] := Bk.Blk.under hb0 (by (repeat (first | with_reducible assumption | (with_reducible apply Bk.Blk.newAt; focus (first | (simp [Bk.size_set]; done) | (simp [Bk.size_set]; omega))) | with_reducible apply Bk.Blk.drewN | with_reducible apply Bk.Blk.drew | with_reducible apply Bk.Blk.set_ | (with_reducible apply Bk.Blk.far; focus (dsimp only; first | omega | (simp; omega) | (simp; done))) | with_reducible apply Bk.Blk.alloc)))
    replace B : Below w.heap.size w w4 := Below.trans (by go_grown) (hb0.mono (by first | omega | (simp [Bk.size_set]; done) | (simp [Bk.size_set]; omega)))
    have z4 := hb0.size
    (try simp only [World.size_alloc, Bk.size_set, World.size_drew, World.drewN] at z4)
    clear hb0
    have L_bk := Lay.f4 bk
    have L_bp := Lay.f3 bp
    have L_r1 := Lay.f4 r1
    have L_bo := Lay.f4 bo
    go_wp2
    have zB := B.size
    clear L_bk L_bp L_r1 L_bo
    generalize hW : World.alloc _ _ = w10
    have HO2 := Lib.hid (show w10.ownsRow w.heap.size 3 1 (.slice A1 n c1) n (zs.map (Value.int .i64)) from by rw [← hW]; exact (own_low HO (by omega) (by repeat (first | with_reducible exact HO | (with_reducible refine own_set ?_ (by dsimp only; omega) _) | with_reducible refine own_drewE ?_ | with_reducible refine own_toE ?_ rfl))))
    have HD2 := Lib.hid (show w10.ownsRow w.heap.size 5 1 (.slice (some ⟨w4.heap.size, 0, none⟩) 0 0) 0 (([] : List Int).map (Value.int .u8)) from by rw [← hW]; exact own_empty _ _ _ _ _ (by simp [Bk.size_set]) (by omega))
    replace r1 : Bk.Blk w10 (w.heap.size + 1 + 1) 27 #[.int .i64 ke, .int .i64 se, .int .i64 re, .slice A1 n c1] := (by rw [← hW]; apply Bk.Blk.to; (focus ((repeat (first | with_reducible assumption | (with_reducible apply Bk.Blk.newAt; focus (first | (simp [Bk.size_set]; done) | (simp [Bk.size_set]; omega))) | with_reducible apply Bk.Blk.drewN | with_reducible apply Bk.Blk.drew | with_reducible apply Bk.Blk.set_ | (with_reducible apply Bk.Blk.far; focus (dsimp only; first | omega | (simp; omega) | (simp; done))) | with_reducible apply Bk.Blk.alloc)))); rfl)
    replace B : Below w.heap.size w w10 := (by rw [← hW]; go_grown)
    have z10 : w10.heap.size = _ := congrArg (fun W : World => W.heap.size) hW.symm
    (try simp only [World.size_alloc, Bk.size_set, World.size_drew, World.drewN] at z10)
    clear hW
    have L_r1 := Lay.c4 r1
    go_wp2
    refine bodyPost_ret (v := .tuple #[.agg #[.int .i64 ke, .int .i64 se, .int .i64 re, .slice A1 n c1], .slice (some ⟨w4.heap.size, 0, none⟩) 0 0, .bool false]) (by simp [results, Tryd.results77, go_sem, L_r1]) rfl (⟨A1, c1, _, 0, rfl, HO2.out, HD2.out, (by first | exact B | exact B.drew)⟩)
  · skip
    have HAU := Lib.hid hau
    clear hau
    have hrb := HRB.out HV.out
    go_wp2_with fail
    clear L_bk L_bp L_r1 L_bo
    refine (auth_spec ke cn mc D m e bs true _ (HKB.out HV.out) (by omega) (HBD.out.below B) HB.out (by omega) HAU.out).mono ?_
    rintro x w4 ⟨rfl, hb0⟩
    replace HO := own_belowE HO hb0
    replace bk : Bk.Blk w4 (w.heap.size) 27 #[.int .i64 ke, .int .i64 se, .int .i64 re, .slice A n c] := Bk.Blk.under hb0 (by (repeat (first | with_reducible assumption | (with_reducible apply Bk.Blk.newAt; focus (first | (simp [Bk.size_set]; done) | (simp [Bk.size_set]; omega))) | with_reducible apply Bk.Blk.drewN | with_reducible apply Bk.Blk.drew | with_reducible apply Bk.Blk.set_ | (with_reducible apply Bk.Blk.far; focus (dsimp only; first | omega | (simp; omega) | (simp; done))) | with_reducible apply Bk.Blk.alloc)))
    replace bp : Bk.Blk w4 (w.heap.size + 1) 29 #[.int .i64 cn, .slice D m e, .int .i64 mc] := Bk.Blk.under hb0 (by (repeat (first | with_reducible assumption | (with_reducible apply Bk.Blk.newAt; focus (first | (simp [Bk.size_set]; done) | (simp [Bk.size_set]; omega))) | with_reducible apply Bk.Blk.drewN | with_reducible apply Bk.Blk.drew | with_reducible apply Bk.Blk.set_ | (with_reducible apply Bk.Blk.far; focus (dsimp only; first | omega | (simp; omega) | (simp; done))) | with_reducible apply Bk.Blk.alloc)))
    replace r1 : Bk.Blk w4 (w.heap.size + 1 + 1) 27 #[.int .i64 0, .int .i64 0, .int .i64 0, .slice none 0 0] := Bk.Blk.under hb0 (by (repeat (first | with_reducible assumption | (with_reducible apply Bk.Blk.newAt; focus (first | (simp [Bk.size_set]; done) | (simp [Bk.size_set]; omega))) | with_reducible apply Bk.Blk.drewN | with_reducible apply Bk.Blk.drew | with_reducible apply Bk.Blk.set_ | (with_reducible apply Bk.Blk.far; focus (dsimp only; first | omega | (simp; omega) | (simp; done))) | with_reducible apply Bk.Blk.alloc)))
    replace bo : Bk.Blk w4 (w2.heap.size) 27 #[.int .i64 ke, .int .i64 se, .int .i64 re, .slice A1 n c1] := Bk.Blk.under hb0 (by (repeat (first | with_reducible assumption | (with_reducible apply Bk.Blk.newAt; focus (first | (simp [Bk.size_set]; done) | (simp [Bk.size_set]; omega))) | with_reducible apply Bk.Blk.drewN | with_reducible apply Bk.Blk.drew | with_reducible apply Bk.Blk.set_ | (with_reducible apply Bk.Blk.far; focus (dsimp only; first | omega | (simp; omega) | (simp; done))) | with_reducible apply Bk.Blk.alloc)))
    replace B : Below w.heap.size w w4 := Below.trans (by go_grown) (hb0.mono (by first | omega | (simp [Bk.size_set]; done) | (simp [Bk.size_set]; omega)))
    have z4 := hb0.size
    (try simp only [World.size_alloc, Bk.size_set, World.size_drew, World.drewN] at z4)
    clear hb0
    have L_bk := Lay.f4 bk
    have L_bp := Lay.f3 bp
    have L_r1 := Lay.f4 r1
    have L_bo := Lay.f4 bo
    have hcd : cn < re + 1 ∨ 1000000 < cn := by omega
    clear hcc
    go_wp2_with (first | (go_at_call 51; refine (in_spec_no _ _ _ _ (by omega)).mono ?_; rintro e w' ⟨rfl, rfl⟩))
    have zB := B.size
    clear L_bk L_bp L_r1 L_bo
    generalize hW : World.alloc _ _ = w10
    have HO2 := Lib.hid (show w10.ownsRow w.heap.size 3 1 (.slice A1 n c1) n (zs.map (Value.int .i64)) from by rw [← hW]; exact (own_low HO (by omega) (by repeat (first | with_reducible exact HO | (with_reducible refine own_set ?_ (by dsimp only; omega) _) | with_reducible refine own_drewE ?_ | with_reducible refine own_toE ?_ rfl))))
    have HD2 := Lib.hid (show w10.ownsRow w.heap.size 5 1 (.slice (some ⟨w4.heap.size, 0, none⟩) 0 0) 0 (([] : List Int).map (Value.int .u8)) from by rw [← hW]; exact own_empty _ _ _ _ _ (by simp [Bk.size_set]) (by omega))
    replace r1 : Bk.Blk w10 (w.heap.size + 1 + 1) 27 #[.int .i64 ke, .int .i64 se, .int .i64 re, .slice A1 n c1] := (by rw [← hW]; apply Bk.Blk.to; (focus ((repeat (first | with_reducible assumption | (with_reducible apply Bk.Blk.newAt; focus (first | (simp [Bk.size_set]; done) | (simp [Bk.size_set]; omega))) | with_reducible apply Bk.Blk.drewN | with_reducible apply Bk.Blk.drew | with_reducible apply Bk.Blk.set_ | (with_reducible apply Bk.Blk.far; focus (dsimp only; first | omega | (simp; omega) | (simp; done))) | with_reducible apply Bk.Blk.alloc)))); rfl)
    replace B : Below w.heap.size w w10 := (by rw [← hW]; go_grown)
    have z10 : w10.heap.size = _ := congrArg (fun W : World => W.heap.size) hW.symm
    (try simp only [World.size_alloc, Bk.size_set, World.size_drew, World.drewN] at z10)
    clear hW
    have L_r1 := Lay.c4 r1
    go_wp2
    refine bodyPost_ret (v := .tuple #[.agg #[.int .i64 ke, .int .i64 se, .int .i64 re, .slice A1 n c1], .slice (some ⟨w4.heap.size, 0, none⟩) 0 0, .bool false]) (by simp [results, Tryd.results77, go_sem, L_r1]) rfl (⟨A1, c1, _, 0, rfl, HO2.out, HD2.out, (by first | exact B | exact B.drew)⟩)
end Go.Proofs.YtgbmbnofnhhblaaDoor.Seal
